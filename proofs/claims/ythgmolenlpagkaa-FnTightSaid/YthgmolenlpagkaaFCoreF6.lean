-- Written for this claim by a program of this session.
import Derived.Test.YthgmolenlpagkaaFCoreF2
import Derived.Test.YthgmolenlpagkaaFCoreF5
/- What the search for a falling ring finds, and that it finds one where there is one. -/
namespace Go.Proofs.Ythgmolenlpagkaa.Pure
open Go.RowKit Go.Proofs.Ythgmolenlpagkaa.Pa Go.Proofs.YthgmolenlpagkaaW.PrintWords Go.Proofs.YthgmolenlpagkaaW.PrintLast Go.Proofs.YthgmolenlpagkaaW.PrintMore
set_option linter.unusedVariables false
set_option linter.unusedSimpArgs false

/-- The bound with a number. -/
def bdAt (l : List S36) (i : Int) : S36 := rd_T36 l i
/-- Numbers of bounds, one leading to the next. -/
def Chn (l : List S36) : List Int → Prop
 | [] => True
 | [_] => True
 | i :: j :: r => (bdAt l i).f1 = (bdAt l j).f0 ∧ Chn l (j :: r)
/-- A way along bounds whose events are all different. -/
def PathOk (l : List S36) (ls : List Int) : Prop := (∀ i ∈ ls, 0 ≤ i ∧ i < (l.length : Int)) ∧ (ls.map fun i => (bdAt l i).f0).Nodup ∧ Chn l ls
theorem endOf_snoc (l : List S36) (ls : List Int) (i : Int) : endOf l (ls ++ [i]) = (bdAt l i).f1 := by
 unfold endOf bdAt
 rw [rd_snoc]
theorem Chn_snoc (l : List S36) (i : Int) : ∀ ls, Chn l (ls ++ [i]) ↔ Chn l ls ∧ (ls = [] ∨ endOf l ls = (bdAt l i).f0)
 | [] => by simp [Chn]
 | [a] => by
  simp only [List.cons_append, List.nil_append, Chn, and_true, true_and, List.cons_ne_self, reduceCtorEq, false_or]
  rfl
 | a :: b :: r => by
  have ih := Chn_snoc l i (b :: r)
  have he : endOf l (a :: b :: r) = endOf l (b :: r) := by
   unfold endOf rd
   congr 2
   simp only [List.length_cons, List.getD_eq_getElem?_getD]
   rw [show (((r.length + 1 + 1 : Nat) : Int) - 1).toNat = r.length + 1 by omega, show (((r.length + 1 : Nat) : Int) - 1).toNat = r.length by omega]
   simp
  simp only [List.cons_append, Chn, reduceCtorEq, false_or] at ih ⊢
  rw [he, ih]
  exact and_assoc.symm
theorem used_iff (l : List S36) (ls : List Int) (x : Int) : usedIn l ls x = true ↔ x ∈ ls.map fun i => (bdAt l i).f0 := by
 unfold usedIn bdAt
 rw [List.any_eq_true, List.mem_map]
 constructor
 ·rintro ⟨i, hi, h⟩; exact ⟨i, hi, beq_iff_eq.1 h⟩
 ·rintro ⟨i, hi, h⟩; exact ⟨i, hi, beq_iff_eq.2 h⟩
theorem skip_iff (l : List S36) (ls : List Int) (i : Int) (h : PathOk l ls) (h0 : 0 ≤ i) (h1 : i < (l.length : Int)) : skipB l ls i = false ↔ PathOk l (ls ++ [i]) := by
 unfold skipB
 rw [Bool.or_eq_false_iff, Bool.and_eq_false_iff]
 have hu : usedIn l ls (rd_T36 l i).f0 = false ↔ (bdAt l i).f0 ∉ ls.map fun i => (bdAt l i).f0 := by
  rw [← used_iff, Bool.not_eq_true]
  rfl
 have hc : ((!ls.isEmpty) = false ∨ (endOf l ls != (rd_T36 l i).f0) = false) ↔ (ls = [] ∨ endOf l ls = (bdAt l i).f0) := by
  rw [Bool.not_eq_false', List.isEmpty_iff, bne_eq_false_iff_eq]
  rfl
 rw [hu, hc]
 obtain ⟨p1, p2, p3⟩ := h
 constructor
 ·rintro ⟨a, b⟩
  refine ⟨fun j hj => ?_, ?_, (Chn_snoc l i ls).2 ⟨p3, b⟩⟩
  ·rcases List.mem_append.1 hj with hj | hj
   ·exact p1 j hj
   ·obtain rfl := List.mem_singleton.1 hj; exact ⟨h0, h1⟩
  ·rw [List.map_append, List.nodup_append]
   refine ⟨p2, by simp, fun x hx y hy e => ?_⟩
   simp only [List.map_cons, List.map_nil, List.mem_singleton] at hy
   subst hy
   subst e
   exact a hx
 ·rintro ⟨_, q2, q3⟩
  refine ⟨fun hm => ?_, ((Chn_snoc l i ls).1 q3).2⟩
  rw [List.map_append, List.nodup_append] at q2
  exact q2.2.2 _ hm _ (by simp) rfl
/-- What the bounds' limits sum to. -/
def sumB (l : List S36) (ls : List Int) : Int := (ls.map fun i => (bdAt l i).f2).sum
theorem sumB_snoc (l : List S36) (ls : List Int) (i : Int) : sumB l (ls ++ [i]) = sumB l ls + (bdAt l i).f2 := by
 unfold sumB
 simp [List.sum_append]
theorem bdAt_mem {l : List S36} {i : Int} (h0 : 0 ≤ i) (h1 : i < (l.length : Int)) : bdAt l i ∈ l := by
 unfold bdAt rd_T36
 rw [List.getD_eq_getElem?_getD, List.getElem?_eq_getElem (by omega)]
 exact List.getElem_mem _
theorem sumB_lim {l : List S36} (hl : ∀ b ∈ l, Lim b) : ∀ ls : List Int, (∀ i ∈ ls, 0 ≤ i ∧ i < (l.length : Int)) → -1000 * (ls.length : Int) ≤ sumB l ls ∧ sumB l ls ≤ 1000 * (ls.length : Int)
 | [], _ => by simp [sumB]
 | a :: r, h => by
  have ih := sumB_lim hl r (fun i hi => h i (List.mem_cons_of_mem _ hi))
  have ha := h a (List.mem_cons_self ..)
  have := hl _ (bdAt_mem ha.1 ha.2)
  unfold Lim at this
  have e : sumB l (a :: r) = (bdAt l a).f2 + sumB l r := by simp [sumB]
  rw [e, List.length_cons]
  push_cast
  omega
/-- A falling ring. -/
def Closed (l : List S36) (x : List Int) : Prop := PathOk l x ∧ endOf l x = (bdAt l (rd x 0)).f0 ∧ sumB l x < 0
theorem ringL_sound (l : List S36) (rec : List Int → Int → Option (Option (List Int))) (P : List Int → Prop) (ls : List Int) (hp : PathOk l ls) (s : Int) (x : List Int)
  (hrec : ∀ i : Int, PathOk l (ls ++ [i]) → rec (ls ++ [i]) (wrap64 (s + (bdAt l i).f2)) = some (some x) → P x) : ∀ d i, i + d ≤ l.length → ringL l rec d i ls s = some (some x) → P x := by
 intro d
 induction d with
 | zero => intro i _ h; cases h
 | succ d ih =>
  intro i hi h
  unfold ringL at h
  by_cases c : skipB l ls (i : Int) = true
  ·rw [if_pos c] at h
   exact ih (i + 1) (by omega) h
  ·rw [if_neg c] at h
   have hp2 := (skip_iff l ls (i : Int) hp (by omega) (by omega)).1 (by simpa using c)
   have hr := hrec (i : Int) hp2
   unfold bdAt at hr
   cases hq : rec (ls ++ [(i : Int)]) (wrap64 (s + (rd_T36 l (i : Int)).f2)) with
   | none => rw [hq] at h; cases h
   | some q =>
    rw [hq] at h hr
    cases q with
    | some y =>
     obtain rfl := Option.some.inj (Option.some.inj h)
     exact hr rfl
    | none => exact ih (i + 1) (by omega) h
theorem sum_next {l : List S36} (hl : ∀ b ∈ l, Lim b) {ls : List Int} {i : Int} (hp : PathOk l (ls ++ [i])) (hn : ls.length ≤ 100) : wrap64 (sumB l ls + (bdAt l i).f2) = sumB l (ls ++ [i]) := by
 have := sumB_lim hl _ hp.1
 rw [sumB_snoc] at this ⊢
 rw [List.length_append, List.length_singleton] at this
 rw [wrap_id (by omega) (by omega)]
theorem ringP_sound {l : List S36} (hl : ∀ b ∈ l, Lim b) (m : Nat) (hm : m ≤ 20) : ∀ r ls x, ls.length ≤ m → PathOk l ls → ringP l m r ls (sumB l ls) = some (some x) → Closed l x ∧ x.length = m := by
 intro r
 induction r with
 | zero => intro ls x _ _ h; cases h
 | succ r ih =>
  intro ls x hlen hp h
  unfold ringP at h
  by_cases c : ls.length = m
  ·rw [if_pos c] at h
   have h := Option.some.inj h
   split at h
   ·rename_i hc
    obtain rfl := Option.some.inj h
    rw [Bool.and_eq_true, decide_eq_true_eq, beq_iff_eq] at hc
    exact ⟨⟨hp, hc.2, hc.1⟩, c⟩
   ·cases h
  ·rw [if_neg c] at h
   refine ringL_sound l _ (fun x => Closed l x ∧ x.length = m) ls hp _ x (fun i hp2 hr => ?_) _ _ (by omega) h
   rw [sum_next hl hp2 (by omega)] at hr
   exact ih (ls ++ [i]) x (by simp; omega) hp2 hr
theorem ringL_none (l : List S36) (rec : List Int → Int → Option (Option (List Int))) (ls : List Int) (s : Int) : ∀ d i, ringL l rec d i ls s = some none → ∀ j, i ≤ j → j < i + d → skipB l ls (j : Int) = true ∨ rec (ls ++ [(j : Int)]) (wrap64 (s + (bdAt l (j : Int)).f2)) = some none := by
 intro d
 induction d with
 | zero => intro i _ j h1 h2; omega
 | succ d ih =>
  intro i h j h1 h2
  unfold ringL at h
  by_cases c : skipB l ls (i : Int) = true
  ·rw [if_pos c] at h
   by_cases e : j = i
   ·subst e; exact Or.inl c
   ·exact ih (i + 1) h j (by omega) (by omega)
  ·rw [if_neg c] at h
   cases hq : rec (ls ++ [(i : Int)]) (wrap64 (s + (rd_T36 l (i : Int)).f2)) with
   | none => rw [hq] at h; cases h
   | some q =>
    rw [hq] at h
    cases q with
    | some y => cases h
    | none =>
     by_cases e : j = i
     ·subst e; exact Or.inr hq
     ·exact ih (i + 1) h j (by omega) (by omega)
theorem Path_front {l : List S36} : ∀ (t ls : List Int), PathOk l (ls ++ t) → PathOk l ls
 | [], ls, h => by simpa using h
 | a :: t, ls, h => by
  have h1 : PathOk l (ls ++ [a]) := Path_front t (ls ++ [a]) (by simpa using h)
  refine ⟨fun i hi => h1.1 i (by simp [hi]), ?_, ((Chn_snoc l a ls).1 h1.2.2).1⟩
  have := h1.2.1
  rw [List.map_append, List.nodup_append] at this
  exact this.1
theorem ringP_finds {l : List S36} (hl : ∀ b ∈ l, Lim b) (m : Nat) (hm : m ≤ 20) : ∀ r t ls, (ls ++ t).length = m → Closed l (ls ++ t) → ringP l m r ls (sumB l ls) = some none → False := by
 intro r
 induction r with
 | zero => intro t ls _ _ h; cases h
 | succ r ih =>
  intro t ls hlen hc h
  unfold ringP at h
  cases t with
  | nil =>
   rw [List.append_nil] at hlen hc
   rw [if_pos hlen] at h
   have h := Option.some.inj h
   rw [if_pos] at h
   ·cases h
   ·rw [Bool.and_eq_true, decide_eq_true_eq, beq_iff_eq]
    exact ⟨hc.2.2, hc.2.1⟩
  | cons a t =>
   have hlen2 := hlen
   rw [List.length_append, List.length_cons] at hlen2
   rw [if_neg (by omega)] at h
   have e : ls ++ a :: t = (ls ++ [a]) ++ t := by simp
   rw [e] at hlen hc
   have p1 : PathOk l (ls ++ [a]) := Path_front t _ hc.1
   have p0 : PathOk l ls := Path_front [a] _ p1
   have ha := p1.1 a (by simp)
   obtain ⟨j, rfl⟩ : ∃ j : Nat, a = j := ⟨a.toNat, by omega⟩
   rcases ringL_none l _ ls _ _ _ h j (by omega) (by omega) with q | q
   ·have := (skip_iff l ls (j : Int) p0 ha.1 ha.2).2 p1
    rw [this] at q
    cases q
   ·rw [sum_next hl p1 (by omega)] at q
    exact ih t (ls ++ [(j : Int)]) hlen hc q
theorem frLoop_tells {l : List S36} (hl : ∀ b ∈ l, Lim b) : ∀ d m r b, m + d ≤ 20 → frLoop l d m = some (r, b) → (b = true → Closed l r ∧ m ≤ r.length ∧ r.length < m + d) ∧ (b = false → ∀ x, Closed l x → m ≤ x.length → x.length < m + d → False)
 | 0, m, r, b, _, h => by
  obtain ⟨rfl, rfl⟩ := Prod.mk.inj (Option.some.inj h)
  exact ⟨fun h => (by cases h), fun _ x _ h1 h2 => (by omega)⟩
 | d + 1, m, r, b, hm, h => by
  unfold frLoop at h
  have e0 : sumB l [] = 0 := rfl
  have p0 : PathOk l [] := ⟨by simp, by simp, trivial⟩
  cases hq : ringP l m (m + 1) [] 0 with
  | none => rw [hq] at h; cases h
  | some q =>
   rw [hq] at h
   rw [← e0] at hq
   cases q with
   | some x =>
    obtain ⟨rfl, rfl⟩ := Prod.mk.inj (Option.some.inj h)
    have := ringP_sound hl m (by omega) _ _ _ (by simp) p0 hq
    exact ⟨fun _ => ⟨this.1, by omega, by omega⟩, fun h => by cases h⟩
   | none =>
    have ih := frLoop_tells hl d (m + 1) r b (by omega) h
    refine ⟨fun hb => ?_, fun hb x hx h1 h2 => ?_⟩
    ·have := ih.1 hb
     exact ⟨this.1, by omega, by omega⟩
    ·by_cases c : x.length = m
     ·exact ringP_finds hl m (by omega) _ x [] (by simpa using c) (by simpa using hx) hq
     ·exact ih.2 hb x hx (by omega) (by omega)
end Go.Proofs.Ythgmolenlpagkaa.Pure

/- A diagram has a falling ring just where no times keep its bounds. -/
namespace Go.Proofs.Ythgmolenlpagkaa.Pure
open Go.RowKit Go.Proofs.Ythgmolenlpagkaa.Pa Go.Proofs.YthgmolenlpagkaaW.PrintWords Go.Proofs.YthgmolenlpagkaaW.PrintLast Go.Proofs.YthgmolenlpagkaaW.PrintMore
set_option linter.unusedVariables false
set_option linter.unusedSimpArgs false

section
variable {n : Nat} {bs : List S36}
theorem bdAt_get {p : Nat} (hp : p < bs.length) : bdAt bs (p : Int) = bs[p] := by
 unfold bdAt rd_T36
 rw [List.getD_eq_getElem?_getD, Int.toNat_natCast, List.getElem?_eq_getElem hp]
 rfl
/-- A step is no heavier than its bound. -/
theorem step_at (hb : ∀ b ∈ bs, Bd n b) (hl : ∀ b ∈ bs, Lim b) {i : Int} (h0 : 0 ≤ i) (h1 : i < (bs.length : Int)) : wM n (first n bs []) (bdAt bs i).f0.toNat (bdAt bs i).f1.toNat ≤ (bdAt bs i).f2 ∧ wM n (first n bs []) (bdAt bs i).f0.toNat (bdAt bs i).f1.toNat < 1000000 := by
 obtain ⟨p, rfl⟩ : ∃ p : Nat, i = p := ⟨i.toNat, by omega⟩
 have hp : p < bs.length := by omega
 rw [bdAt_get hp]
 have hB := hb _ (List.getElem_mem hp)
 have hL := hl _ (List.getElem_mem hp)
 unfold Bd at hB
 unfold Lim at hL
 have h3 := bputs_has [] bs 0 _ (irows_Sq n) hb p hp (by simp)
 unfold wM
 rw [if_pos (by omega)]
 unfold first
 omega
theorem ring_walk (hb : ∀ b ∈ bs, Bd n b) (hl : ∀ b ∈ bs, Lim b) : ∀ (r : List Int) (i : Int), (∀ j ∈ i :: r, 0 ≤ j ∧ j < (bs.length : Int)) → Chn bs (i :: r) →
  okW (wM n (first n bs [])) (bdAt bs i).f0.toNat ((i :: r).map fun j => (bdAt bs j).f1.toNat) ∧ wt (wM n (first n bs [])) (bdAt bs i).f0.toNat ((i :: r).map fun j => (bdAt bs j).f1.toNat) ≤ sumB bs (i :: r)
 | [], i, h, _ => by
  have hi := h i (List.mem_cons_self ..)
  have := step_at hb hl hi.1 hi.2
  simp only [List.map_cons, List.map_nil, okW, wt, sumB, List.sum_cons, List.sum_nil, and_true]
  omega
 | j :: r, i, h, hc => by
  have hi := h i (List.mem_cons_self ..)
  have hs := step_at hb hl hi.1 hi.2
  obtain ⟨e, hc⟩ := hc
  have ih := ring_walk hb hl r j (fun k hk => h k (List.mem_cons_of_mem _ hk)) hc
  rw [← e] at ih
  have es : sumB bs (i :: j :: r) = (bdAt bs i).f2 + sumB bs (j :: r) := by simp [sumB]
  rw [es, List.map_cons]
  simp only [okW, wt]
  exact ⟨⟨hs.2, ih.1⟩, by omega⟩
/-- Where there is a falling ring, no times keep the bounds. -/
theorem ring_not (hn : n ≤ 10) (hb : ∀ b ∈ bs, Bd n b) (hl : ∀ b ∈ bs, Lim b) {x : List Int} (hx : Closed bs x) (h0 : x ≠ []) : feasible n bs [] = false := by
 cases hf : feasible n bs [] with
 | false => rfl
 | true =>
  exfalso
  obtain ⟨⟨p1, p2, p3⟩, hc, hs⟩ := hx
  cases x with
  | nil => exact h0 rfl
  | cons i r =>
   have hi := p1 i (List.mem_cons_self ..)
   have hB := hb _ (bdAt_mem hi.1 hi.2)
   have hw := ring_walk hb hl r i p1 p3
   have hv : (bdAt bs i).f0.toNat < n := by unfold Bd at hB; omega
   have ht := tight_walk hn hb hl hf hv _ hw.1
   have he : endW (bdAt bs i).f0.toNat ((i :: r).map fun j => (bdAt bs j).f1.toNat) = (bdAt bs i).f0.toNat := by
    have e0 : rd (i :: r) 0 = i := rfl
    rw [e0] at hc
    rcases List.eq_nil_or_concat (i :: r) with q | ⟨a, z, q⟩
    ·cases q
    ·rw [List.concat_eq_append] at q
     rw [q, endOf_snoc] at hc
     rw [q, List.map_append, List.map_cons, List.map_nil, end_last, hc]
   rw [he, tight_self hn hb hl hf hv] at ht
   omega
/-- Where an entry comes to be below 0 on the diagonal, a closed walk falls. -/
theorem falls {w : Nat → Nat → Int} (hn : n ≤ 10) (d : Nat) : ∀ (M : List (List Int)) (x : Nat), x + d = n → Sq n M → Att w n M → Rg n (bnd x) M → (∃ v, v < n ∧ V (foldX n d M x) v v < 0) →
  ∃ v l, v < n ∧ okW w v l ∧ endW v l = v ∧ wt w v l < 0 := by
 induction d with
 | zero =>
  intro M x hx hS hA hR ⟨v, hv, h⟩
  obtain ⟨l, _, ho, he, hw⟩ := hA v v hv hv (by simp only [foldX] at h; omega)
  simp only [foldX] at h
  exact ⟨v, l, hv, ho, he, by omega⟩
 | succ d ih =>
  intro M x hx hS hA hR h
  have hb := bnd_in x (by omega)
  have hxn : x < n := by omega
  by_cases hdx : 0 ≤ V M x x
  ·have hr : ∀ i j, i < n → j < n → V (foldI n x n M 0) i j = nw M x i j := fun i j hi hj => round_tells hb.2 hR hS hxn hdx hi hj
   exact ih (foldI n x n M 0) (x + 1) (by omega) (Sq_foldI _ _ _ hS (by omega)) (Att_step hxn hA hr) (Rg_step hxn hb.1 hR hr) h
  ·obtain ⟨l, _, ho, he, hw⟩ := hA x x hxn hxn (by omega)
   exact ⟨x, l, hxn, ho, he, by omega⟩
/-- A falling closed walk holds a falling cycle. -/
theorem cycle_of {w : Nat → Nat → Int} {v : Nat} {l : List Nat} (ho : okW w v l) (he : endW v l = v) (hw : wt w v l < 0) : ∃ u s, (u :: s).Nodup ∧ okW w u (s ++ [u]) ∧ wt w u (s ++ [u]) < 0 := by
 apply Classical.byContradiction
 intro hno
 obtain ⟨p, pn, po, pe, pw, _⟩ := cut_down w (fun u s hs hus hok => by
  apply Classical.byContradiction
  intro hneg
  exact hno ⟨u, s, List.nodup_cons.mpr ⟨hus, hs⟩, hok, by omega⟩) l v ho
 rcases List.eq_nil_or_concat p with rfl | ⟨s, j, rfl⟩
 ·have : wt w v [] = 0 := rfl
  omega
 ·rw [List.concat_eq_append] at *
  rw [end_last, he] at pe
  subst pe
  exact (List.nodup_cons.mp pn).1 (by simp)
/-- Each entry of the first rows is a bound's limit, or 0 on the diagonal, or no bound. -/
theorem bputs_from (all : List S36) (bs : List S36) : ∀ (q : Nat) (M : List (List Int)), Sq n M → (∀ b ∈ bs, Bd n b) → (∀ b ∈ bs, b ∈ all) → (∀ i j, i < n → j < n → V M i j = (if j = i then 0 else 1000000) ∨ ∃ b ∈ all, b.f0 = (i : Int) ∧ b.f1 = (j : Int) ∧ V M i j = b.f2) →
  ∀ i j, i < n → j < n → V (bputs [] bs q M) i j = (if j = i then 0 else 1000000) ∨ ∃ b ∈ all, b.f0 = (i : Int) ∧ b.f1 = (j : Int) ∧ V (bputs [] bs q M) i j = b.f2 := by
 induction bs with
 | nil => intro q M _ _ _ h; exact h
 | cons b bs ih =>
  intro q M hS hb ha h
  have hb0 := hb b (List.mem_cons_self ..)
  rw [bputs_nil_cons]
  refine ih (q + 1) (bput M b) (Sq_bput hS hb0) (fun x hx => hb x (List.mem_cons_of_mem _ hx)) (fun x hx => ha x (List.mem_cons_of_mem _ hx)) (fun i j hi hj => ?_)
  rw [bput_V hS hb0 hi]
  by_cases e : i = b.f0.toNat ∧ j = b.f1.toNat
  ·rw [if_pos e]
   unfold mn
   split
   ·unfold Bd at hb0
    exact Or.inr ⟨b, ha b (List.mem_cons_self ..), by omega, by omega, rfl⟩
   ·exact h i j hi hj
  ·rw [if_neg e]
   exact h i j hi hj
theorem first_from (hb : ∀ b ∈ bs, Bd n b) (hne : ∀ b ∈ bs, b.f0 ≠ b.f1) {i j : Nat} (hw : wM n (first n bs []) i j < 1000000) : (i = j ∧ wM n (first n bs []) i j = 0) ∨ (i ≠ j ∧ ∃ k : Int, 0 ≤ k ∧ k < (bs.length : Int) ∧ (bdAt bs k).f0 = (i : Int) ∧ (bdAt bs k).f1 = (j : Int) ∧ (bdAt bs k).f2 = wM n (first n bs []) i j) := by
 unfold wM at hw ⊢
 split at hw
 ·rename_i c
  rw [if_pos c]
  have := bputs_from bs bs 0 (irows n n 0) (irows_Sq n) hb (fun b h => h) (fun i j hi hj => Or.inl (irows_V n i j hi hj)) i j c.1 c.2
  unfold first at hw ⊢
  rcases this with h | ⟨b, hm, h0, h1, h2⟩
  ·split at h
   ·rename_i e; exact Or.inl ⟨e.symm, h⟩
   ·omega
  ·right
   refine ⟨fun e => hne b hm (by omega), ?_⟩
   obtain ⟨p, hp, rfl⟩ := List.getElem_of_mem hm
   refine ⟨(p : Int), by omega, by omega, ?_⟩
   rw [bdAt_get hp]
   exact ⟨h0, h1, h2.symm⟩
 ·omega
/-- Each step leads elsewhere. -/
def Dst : Nat → List Nat → Prop
 | _, [] => True
 | i, j :: l => i ≠ j ∧ Dst j l
theorem Dst_snoc (e : Nat) : ∀ (s : List Nat) (i : Nat), (i :: s).Nodup → (s = [] → i ≠ e) → e ∉ s → Dst i (s ++ [e])
 | [], i, _, h, _ => ⟨h rfl, trivial⟩
 | j :: s, i, hn, _, he => by
  have hn2 := List.nodup_cons.mp hn
  refine ⟨fun q => hn2.1 (by rw [q]; exact List.mem_cons_self ..), Dst_snoc e s j hn2.2 (fun _ q => he (by rw [q]; exact List.mem_cons_self ..)) (fun h => he (List.mem_cons_of_mem _ h))⟩
theorem walk_bounds (hb : ∀ b ∈ bs, Bd n b) (hne : ∀ b ∈ bs, b.f0 ≠ b.f1) : ∀ (l : List Nat) (i : Nat), okW (wM n (first n bs [])) i l → Dst i l →
  ∃ ls : List Int, ls.length = l.length ∧ (∀ k ∈ ls, 0 ≤ k ∧ k < (bs.length : Int)) ∧ Chn bs ls ∧ (ls.map fun k => (bdAt bs k).f0) = (i :: l).dropLast.map (fun v : Nat => (v : Int)) ∧ (ls.map fun k => (bdAt bs k).f1) = l.map (fun v : Nat => (v : Int)) ∧ sumB bs ls = wt (wM n (first n bs [])) i l
 | [], i, _, _ => ⟨[], rfl, by simp, trivial, rfl, rfl, rfl⟩
 | j :: l, i, ho, hd => by
  obtain ⟨ls, h1, h2, h3, h4, h5, h6⟩ := walk_bounds hb hne l j ho.2 hd.2
  rcases first_from hb hne ho.1 with ⟨e, _⟩ | ⟨_, k, k0, k1, e0, e1, e2⟩
  ·exact absurd e hd.1
  ·refine ⟨k :: ls, by simp [h1], fun x hx => ?_, ?_, ?_, ?_, ?_⟩
   ·rcases List.mem_cons.mp hx with rfl | hx
    ·exact ⟨k0, k1⟩
    ·exact h2 x hx
   ·cases ls with
    | nil => trivial
    | cons y r =>
     refine ⟨?_, h3⟩
     cases l with
     | nil => simp at h1
     | cons z l =>
      have := (List.cons.inj h4).1
      exact e1.trans this.symm
   ·rw [List.map_cons, h4, e0]
    rfl
   ·rw [List.map_cons, h5, e1]
    rfl
   ·have e : sumB bs (k :: ls) = (bdAt bs k).f2 + sumB bs ls := by simp [sumB]
    rw [e, h6, e2]
    rfl
/-- Where no times keep the bounds, there is a falling ring. -/
theorem ring_is (hn : n ≤ 10) (hb : ∀ b ∈ bs, Bd n b) (hl : ∀ b ∈ bs, Lim b) (hne : ∀ b ∈ bs, b.f0 ≠ b.f1) (hf : feasible n bs [] = false) : ∃ x, Closed bs x ∧ 2 ≤ x.length ∧ x.length ≤ n := by
 have hd : ∃ v, v < n ∧ V (tight n bs []) v v < 0 := by
  apply Classical.byContradiction
  intro h
  have : feasible n bs [] = true := (diag_all n _ 0).2 (fun v _ h2 => by
   apply Classical.byContradiction
   intro h3
   exact h ⟨v, by omega, by omega⟩)
  rw [hf] at this
  cases this
 have hE := first_Ent (w := []) hb hl
 have hA : Att (wM n (first n bs [])) n (first n bs []) := by
  intro i j hi hj hv
  have e : wM n (first n bs []) i j = V (first n bs []) i j := by unfold wM; rw [if_pos ⟨hi, hj⟩]
  refine ⟨[j], by simp, ⟨by rw [e]; exact hv, trivial⟩, rfl, ?_⟩
  simp only [wt, e]
  omega
 have hR : Rg n (bnd 0) (first n bs []) := by
  intro i j hi hj
  have := hE i j hi hj
  unfold bnd
  omega
 obtain ⟨v, l, hv, ho, he, hw⟩ := falls hn n (first n bs []) 0 (by omega) (first_Sq hb) hA hR hd
 obtain ⟨u, s, hn2, ho2, hw2⟩ := cycle_of ho he hw
 have hin := ok_in n _ _ _ ho2
 have hs : s ≠ [] := by
  rintro rfl
  simp only [List.nil_append, okW, wt] at ho2 hw2
  rcases first_from hb hne ho2.1 with ⟨_, q⟩ | ⟨q, _⟩
  ·omega
  ·exact q rfl
 have hus := (List.nodup_cons.mp hn2).1
 obtain ⟨ls, h1, h2, h3, h4, h5, h6⟩ := walk_bounds hb hne (s ++ [u]) u ho2 (Dst_snoc u s u hn2 (fun q => absurd q hs) hus)
 have hlen : ls.length = s.length + 1 := by rw [h1]; simp
 have hsl : 1 ≤ s.length := List.length_pos_iff.2 hs
 have hnb := nodup_below n (u :: s) hn2 (fun x hx => by
  rcases List.mem_cons.mp hx with rfl | hx
  ·exact hin _ (by simp)
  ·exact hin x (by simp [hx]))
 rw [List.length_cons] at hnb
 have e4 : (u :: (s ++ [u])).dropLast = u :: s := by
  rw [show u :: (s ++ [u]) = (u :: s) ++ [u] from rfl, List.dropLast_concat]
 rw [e4] at h4
 refine ⟨ls, ⟨⟨h2, ?_, h3⟩, ?_, by omega⟩, by omega, by omega⟩
 ·rw [h4]
  exact List.Pairwise.map _ (fun a b (h : a ≠ b) (q : (a : Int) = b) => h (by omega)) hn2
 ·cases ls with
  | nil => simp at hlen
  | cons y r =>
   have a0 : (bdAt bs (rd (y :: r) 0)).f0 = (u : Int) := (List.cons.inj h4).1
   rw [a0]
   rcases List.eq_nil_or_concat (y :: r) with q | ⟨a, z, q⟩
   ·cases q
   ·rw [List.concat_eq_append] at q
    rw [q] at h5 ⊢
    rw [endOf_snoc]
    rw [List.map_append, List.map_append] at h5
    have := (List.append_inj' h5 rfl).2
    exact (List.cons.inj this).1
/-- The search's answer tells whether there are times. -/
theorem frF_tells (hn : n ≤ 7) (h1 : 1 ≤ n) (hok : diagramOkR (n : Int) bs = true) (hb : ∀ b ∈ bs, Bd n b) (hl : ∀ b ∈ bs, Lim b) (hne : ∀ b ∈ bs, b.f0 ≠ b.f1) {r : List Int} {b : Bool} (h : frF (n : Int) bs = some (r, b)) :
  b = !feasible n bs [] ∧ (b = true → Closed bs r ∧ 2 ≤ r.length ∧ r.length ≤ n) := by
 unfold frF at h
 rw [if_pos hok, if_neg (by omega)] at h
 have ht := frLoop_tells hl _ _ r b (by omega) h
 cases b with
 | true =>
  have := ht.1 rfl
  refine ⟨?_, fun _ => ⟨this.1, this.2.1, by omega⟩⟩
  rw [ring_not (by omega) hb hl this.1 (by rintro rfl; simp at this)]
  rfl
 | false =>
  refine ⟨?_, fun h => by cases h⟩
  cases hf : feasible n bs [] with
  | true => rfl
  | false =>
   exfalso
   obtain ⟨x, hx, x1, x2⟩ := ring_is (by omega) hb hl hne hf
   exact ht.2 rfl x hx x1 (by omega)
theorem ringL_any (l : List S36) (rec : List Int → Int → Option (Option (List Int))) (ls : List Int) (hrec : ∀ x s, ∃ q, rec (ls ++ [x]) s = some q) : ∀ d i s, ∃ q, ringL l rec d i ls s = some q := by
 intro d
 induction d with
 | zero => intro i s; exact ⟨none, rfl⟩
 | succ d ih =>
  intro i s
  unfold ringL
  split
  ·exact ih _ _
  ·obtain ⟨q, hq⟩ := hrec (i : Int) (wrap64 (s + (rd_T36 l (i : Int)).f2))
   rw [hq]
   cases q with
   | some x => exact ⟨some x, rfl⟩
   | none => exact ih _ _
theorem ringP_any (l : List S36) (m : Nat) : ∀ r ls s, ls.length ≤ m → m < ls.length + r → ∃ q, ringP l m r ls s = some q := by
 intro r
 induction r with
 | zero => intro ls s h1 h2; omega
 | succ r ih =>
  intro ls s h1 h2
  unfold ringP
  split
  ·exact ⟨_, rfl⟩
  ·exact ringL_any l _ ls (fun x s' => ih (ls ++ [x]) s' (by simp; omega) (by simp; omega)) _ _ _
theorem frLoop_any (l : List S36) : ∀ d m, ∃ r b, frLoop l d m = some (r, b) := by
 intro d
 induction d with
 | zero => intro m; exact ⟨[], false, rfl⟩
 | succ d ih =>
  intro m
  obtain ⟨q, hq⟩ := ringP_any l m (m + 1) [] 0 (Nat.zero_le _) (by simp)
  unfold frLoop
  rw [hq]
  cases q with
  | some x => exact ⟨x, true, rfl⟩
  | none => exact ih (m + 1)
theorem frF_any (n : Int) (l : List S36) : ∃ r b, frF n l = some (r, b) := by
 unfold frF
 split
 ·split
  ·exact ⟨[], false, rfl⟩
  ·exact frLoop_any l _ _
 ·exact ⟨[], false, rfl⟩
end
end Go.Proofs.Ythgmolenlpagkaa.Pure

