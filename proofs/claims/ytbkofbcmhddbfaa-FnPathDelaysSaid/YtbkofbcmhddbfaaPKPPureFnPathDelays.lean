-- Written for this claim by a program of this session.
import Derived.Test.YtbkofbcmhddbfaaPCoreP9
import Derived.Test.YtbkofbcmhddbfaaPCoreP7
import Derived.Test.YtbkofbcmhddbfaaPKPPaxf3
/- The delays between registers are those of the longest path and of no drawn way, and the longest path leads along inputs. -/
namespace Go.Proofs.Ytbkofbcmhddbfaa.Pure
open Go.RowKit Go.Proofs.Ytbkofbcmhddbfaa.Pa Go.Proofs.YtbkofbcmhddbfaaW.PrintWords Go.Proofs.YtbkofbcmhddbfaaW.PrintLast Go.Proofs.YtbkofbcmhddbfaaW.PrintMore
set_option linter.unusedVariables false
set_option linter.unusedSimpArgs false

theorem wf8p {x : Int} (h : (Lit.int .u8 x).wf = true) : 0 ≤ x ∧ x ≤ 255 := by
 simp only [Lit.wf, IntKind.min, IntKind.max, IntKind.signed, IntKind.bits, Bool.and_eq_true, decide_eq_true_eq, if_true] at h
 simp at h
 omega
theorem r8At_in (l : List Int) (hl : Bytes l) (i : Nat) (n : Nat) (hi : i ≤ 1000) (hn : 1 ≤ n) (hn2 : n ≤ 1000) : ∃ t : Nat, laws_r8At.f l (i : Int) (n : Int) = some (t : Int) ∧ t < n := by
 unfold laws_r8At.f
 by_cases h1 : (n : Int) ≤ 1
 ·rw [if_pos h1]
  exact ⟨0, rfl, by omega⟩
 ·rw [if_neg h1]
  by_cases h2 : (i : Int) ≥ (l.length : Int)
  ·rw [if_pos h2]
   exact ⟨0, rfl, by omega⟩
  ·have hlt : i < l.length := by omega
   have hb := hl l[i] (List.getElem_mem hlt)
   rw [if_neg h2, if_pos (by omega), if_pos (by omega), if_neg (by omega), rd_get hlt, wrap_id (by omega) (by omega)]
   have t0 : 0 ≤ Int.tmod l[i] (n : Int) := Int.tmod_nonneg _ hb.1
   have t1 : Int.tmod l[i] (n : Int) < (n : Int) := Int.tmod_lt_of_pos _ (by omega)
   exact ⟨(Int.tmod l[i] (n : Int)).toNat, by congr 1; omega, by omega⟩
theorem has8_at (w : List Int) (hw : w.length ≤ 1048576) (x : Int) (d : Nat) : ∀ (k i : Nat), i + d = w.length → d < k → laws_r8Has.l0 k w x (i : Int) = some (decide (x ∈ w.drop i)) := by
 induction d with
 | zero =>
  intro k i h hk
  obtain ⟨k, rfl⟩ : ∃ q, k = q + 1 := ⟨k - 1, by omega⟩
  rw [laws_r8Has.l0, if_neg (by omega), List.drop_of_length_le (by omega)]
  simp
 | succ d ih =>
  intro k i h hk
  obtain ⟨k, rfl⟩ : ∃ q, k = q + 1 := ⟨k - 1, by omega⟩
  have hlt : i < w.length := by omega
  have h2 := ih k (i + 1) (by omega) (by omega)
  rw [laws_r8Has.l0, if_pos (by omega), if_pos (by omega), rd_get hlt, wrap_id (x := (i : Int) + 1) (by omega) (by omega), show (i : Int) + 1 = ((i + 1 : Nat) : Int) by omega, h2, List.drop_eq_getElem_cons hlt]
  by_cases e : w[i] = x
  ·rw [if_pos e]
   congr 1
   exact (decide_eq_true (by rw [e]; exact List.mem_cons_self ..)).symm
  ·rw [if_neg e]
   congr 1
   exact decide_eq_decide.2 ⟨fun h => List.mem_cons_of_mem _ h, fun h => by
    rcases List.mem_cons.1 h with h | h
    ·exact absurd h.symm e
    ·exact h⟩
theorem has8 (w : List Int) (hw : w.length ≤ 1048576) (x : Int) (k : Nat) (hk : 1048577 ≤ k) : laws_r8Has.f k w x = some (decide (x ∈ w)) := by
 have := has8_at w hw x w.length k 0 (by omega) (by omega)
 unfold laws_r8Has.f
 rw [show ((0 : Nat) : Int) = 0 from rfl] at this
 rw [this, List.drop_zero]
section
variable {n : Int} {gates : List S36} {data : List Int} {a3 a4 a5 a6 : Int}
theorem PathIs.pos (C : Gates n gates) {goal v b : Int} {r : List Int} (h : PathIs n gates goal v r b) : 0 ≤ b := by
 induction h with
 | here => exact Int.le_refl _
 | step i h _ _ ih =>
  have := C.gate i h
  omega
/-- The path's nodes are joined by inputs, and their delays make up the greatest. -/
theorem path_check (C : Ready n gates data) {from_ to_ least most : Int} (hlm : least ≤ most) (hm : most ≤ 100000) (t0 : 0 ≤ to_) (t1 : to_ < n) (p : List Int) (hp : p.length ≤ 1000) : ∀ (r pre : List Int) (at_ b sum : Int), p = pre ++ at_ :: r → PathIs n gates (rd data to_) at_ r b → sum + b = most → 0 ≤ sum →
  ∃ K, ∀ k, K ≤ k → laws_FnPathDelays.l1 k from_ to_ least most p sum ((pre.length + 1 : Nat) : Int) n gates data a3 a4 a5 a6 = some true
 | [], pre, at_, b, sum, hpe, hpath, hs, h0 => by
  have hb : at_ = rd data to_ ∧ b = 0 := by cases hpath; exact ⟨rfl, rfl⟩
  have hlen : p.length = pre.length + 1 := by rw [hpe]; simp
  have hd := C.dlen
  refine ⟨1, fun k hk => ?_⟩
  obtain ⟨k, rfl⟩ : ∃ q, k = q + 1 := ⟨k - 1, by omega⟩
  rw [laws_FnPathDelays.l1, if_neg (by omega), if_pos (by omega), wrap_id (x := (p.length : Int) - 1) (by omega) (by omega), if_pos (by omega), if_pos (by omega), if_pos t0, if_pos (by omega), show (p.length : Int) - 1 = ((pre.length : Nat) : Int) by omega, rd_get (by omega)]
  have : p[pre.length]'(by omega) = at_ := by
   subst hpe
   simp
  rw [this, if_pos hb.1, if_pos (by omega), decide_eq_true hlm]
 | x :: r, pre, at_, b, sum, hpe, hpath, hs, h0 => by
  have hn := C.gs.n0
  have hn6 := C.gs.n1
  have hgl := C.gs.len
  have hlen : p.length = pre.length + 2 + r.length := by rw [hpe]; simp; omega
  obtain ⟨i, hi, b', hin, hrest, rfl, rfl⟩ : ∃ (i : Nat) (hi : i < gates.length) (b' : Int), at_ ∈ gates[i].f2 ∧ PathIs n gates (rd data to_) (n + i) r b' ∧ x = n + i ∧ b = b' + gates[i].f1 := by
   cases hpath with
   | step i h hin hr => exact ⟨i, h, _, hin, hr, rfl, rfl⟩
  have hb' := hrest.pos C.gs
  have hgi := C.gs.gate i hi
  have hwi := C.gs.wide i hi
  obtain ⟨K, hK⟩ := path_check C hlm hm t0 t1 p hp r (pre ++ [at_]) (n + i) b' (sum + gates[i].f1) (by rw [hpe]; simp) hrest (by omega) (by omega)
  refine ⟨K + 1048580, fun k hk => ?_⟩
  obtain ⟨k, rfl⟩ : ∃ q, k = q + 1 := ⟨k - 1, by omega⟩
  have hk2 := hK k (by omega)
  have e1 : p[pre.length]'(by omega) = at_ := by subst hpe; simp
  have e2 : p[pre.length + 1]'(by omega) = n + i := by subst hpe; simp
  rw [List.length_append, List.length_singleton] at hk2
  rw [laws_FnPathDelays.l1, if_pos (by omega), if_neg (by omega), if_pos (by omega), rd_get (by omega : pre.length + 1 < p.length), e2, if_neg (by omega), wrap_id (x := n + (gates.length : Int)) (by omega) (by omega), if_neg (by omega), wrap_id (x := n + (i : Int) - n) (by omega) (by omega), show n + (i : Int) - n = (i : Int) by omega, if_pos (by omega), if_pos (by omega), wrap_id (x := ((pre.length + 1 : Nat) : Int) - 1) (by omega) (by omega), if_pos (by omega), if_pos (by omega), show ((pre.length + 1 : Nat) : Int) - 1 = ((pre.length : Nat) : Int) by omega, rd_get (by omega : pre.length < p.length), e1, rdG' hi, has8 _ hwi _ k (by omega), decide_eq_true hin]
  simp only [Option.bind_some, if_true]
  rw [wrap_id (x := sum + gates[i].f1) (by omega) (by omega), wrap_id (x := ((pre.length + 1 : Nat) : Int) + 1) (by omega) (by omega), show ((pre.length + 1 : Nat) : Int) + 1 = ((pre.length + 1 + 1 : Nat) : Int) by omega]
  exact hk2
/-- What is known of a way from a register. -/
theorem way_within (Cc : Circ n gates data a3 a4 a5 a6) (C : Ready n gates data) {a b lo hi : Int} (a0 : 0 ≤ a) (a1 : a < n) (b0 : 0 ≤ b) (b1 : b < n) (hw : Wy n gates a (rd data b) lo hi) :
  ∃ p, pathO n gates data a5 a6 a b = some p ∧ p.1 ≤ a5 + lo ∧ a6 + hi ≤ p.2 := by
 have g := goal_in C b0 b1
 have hT := tab_best C.gs a a0 a1 ((rd data b).toNat + 1) (rd data b).toNat (by omega) (by omega)
 rw [show (((rd data b).toNat : Nat) : Int) = rd data b by omega] at hT
 have hl := Cc.least
 have hn := C.gs.n0
 have hgl := C.gs.len
 have hn6 := C.gs.n1
 cases ht : (tab a n gates).getD (rd data b).toNat none with
 | none => exact absurd hw (hT.1 ht _ _)
 | some p =>
  obtain ⟨⟨y, h1⟩, ⟨x, h2⟩, h3⟩ := hT.2 p ht
  have h4 := h3 _ _ hw
  have u1 := h1.up C.gs
  have u2 := h2.up C.gs
  have u3 := hw.up C.gs
  have m2 := h2.most C.gs
  have m3 := hw.most C.gs
  refine ⟨_, by unfold pathO; rw [ht]; rfl, ?_, ?_⟩
  ·show wrap64 (p.1 + a5) ≤ _
   rw [wrap_id (by omega) (by omega)]
   omega
  ·show _ ≤ wrap64 (p.2 + a6)
   rw [wrap_id (by omega) (by omega)]
   omega
/-- A drawn way back from the data of a register: its delays lie within those of the register that it comes to. -/
theorem drawn_way (Cc : Circ n gates data a3 a4 a5 a6) (C : Ready n gates data) (hv : validB n gates data a3 a4 a5 a6 = true) (hgw : ∀ g ∈ gates, g.f2.length ≤ 100) (hdl : data.length ≤ 1048576) (more : List Int) (hm : Bytes more) {from_ to_ least most : Int} {one : Bool} {path : List Int} (t0 : 0 ≤ to_) (t1 : to_ < n)
  (H : ∃ K, ∀ k, K ≤ k → laws_FnPathDelays.j2 k from_ to_ least most one path false n gates data a3 a4 a5 a6 = some true) : ∀ (m : Nat) (at_ lo hi : Int) (j : Nat), 0 ≤ at_ → at_ < n + gates.length → at_ < n + (m : Int) → Wy n gates at_ (rd data to_) lo hi → hi ≤ 100 * ((j : Int) - 2) → 2 ≤ j → (j : Int) + at_ ≤ 20 →
  ∃ K, ∀ k, K ≤ k → laws_FnPathDelays.l0 k more from_ to_ least most one path at_ (a5 + lo) (a6 + hi) (j : Int) n gates data a3 a4 a5 a6 = some true := by
 have hn := C.gs.n0
 have hn6 := C.gs.n1
 have hgl := C.gs.len
 have hl := Cc.least
 have base : ∀ (at_ lo hi : Int) (j : Nat), 0 ≤ at_ → at_ < n → Wy n gates at_ (rd data to_) lo hi → ∃ K, ∀ k, K ≤ k → laws_FnPathDelays.l0 k more from_ to_ least most one path at_ (a5 + lo) (a6 + hi) (j : Int) n gates data a3 a4 a5 a6 = some true := by
  intro at_ lo hi j h0 h1 hw
  obtain ⟨K1, hK1⟩ := H
  obtain ⟨K2, hK2⟩ := implPD n gates data a3 a4 a5 a6 at_ to_ (fun g hg => by have := hgw g hg; omega) hdl
  obtain ⟨p, hp, p1, p2⟩ := way_within Cc C h0 h1 t0 t1 hw
  have hpd : pdR n gates data a3 a4 a5 a6 at_ to_ = (p.1, p.2, true) := by
   unfold pdR
   rw [if_pos ⟨hv, ⟨h0, by omega⟩, t0, by omega⟩, hp]
   rfl
  refine ⟨K1 + K2 + 1, fun k hk => ?_⟩
  obtain ⟨k, rfl⟩ : ∃ q, k = q + 1 := ⟨k - 1, by omega⟩
  have e1 := hK1 k (by omega)
  have e2 : impl_PathDelays.f k n gates data a3 a4 a5 a6 at_ to_ = _ := hK2 k (by omega)
  rw [laws_FnPathDelays.l0, if_neg (by omega), e2, hpd]
  simp only [Option.bind_some, if_true]
  rw [if_neg (by omega), decide_eq_false (by omega)]
  exact e1
 intro m
 induction m with
 | zero =>
  intro at_ lo hi j h0 h1 h2 hw _ _ _
  exact base at_ lo hi j h0 (by omega) hw
 | succ m ih =>
  intro at_ lo hi j h0 h1 h2 hw hhi hj hja
  by_cases hr : at_ < n
  ·exact base at_ lo hi j h0 hr hw
  ·obtain ⟨i, rfl⟩ : ∃ i : Nat, at_ = n + i := ⟨(at_ - n).toNat, by omega⟩
   have hi2 : i < gates.length := by omega
   have hg := C.gs.gate i hi2
   have hw2 := hgw _ (List.getElem_mem hi2)
   have hne : 1 ≤ gates[i].f2.length := by
    have := hg.2.2.2.1
    cases hq : gates[i].f2 with
    | nil => exact absurd hq this
    | cons => simp
   obtain ⟨t, ht, htl⟩ := r8At_in more hm j gates[i].f2.length (by omega) hne (by omega)
   have hmem : rd gates[i].f2 (t : Int) ∈ gates[i].f2 := by rw [rd_get htl]; exact List.getElem_mem htl
   have hin := hg.2.2.2.2 _ hmem
   have hup := hw.up C.gs
   have hnext := Wy.ahead i hi2 hw hmem
   obtain ⟨K, hK⟩ := ih (rd gates[i].f2 (t : Int)) (lo + gates[i].f0) (hi + gates[i].f1) (j + 1) hin.1 (by omega) (by omega) hnext (by omega) (by omega) (by omega)
   refine ⟨K + 1, fun k hk => ?_⟩
   obtain ⟨k, rfl⟩ : ∃ q, k = q + 1 := ⟨k - 1, by omega⟩
   have e1 := hK k (by omega)
   rw [laws_FnPathDelays.l0, if_pos (by omega), wrap_id (x := n + (i : Int) - n) (by omega) (by omega), show n + (i : Int) - n = (i : Int) by omega, if_pos (by omega), if_pos (by omega), rdG' hi2, ht]
   simp only [Option.bind_some]
   rw [if_pos (by omega), if_pos (by omega), wrap_id (x := a5 + lo + gates[i].f0) (by omega) (by omega), wrap_id (x := a6 + hi + gates[i].f1) (by omega) (by omega), wrap_id (x := (j : Int) + 1) (by omega) (by omega), show a5 + lo + gates[i].f0 = a5 + (lo + gates[i].f0) by omega, show a6 + hi + gates[i].f1 = a6 + (hi + gates[i].f1) by omega, show (j : Int) + 1 = ((j + 1 : Nat) : Int) by omega]
   exact e1
end
theorem FnPathDelays : laws_FnPathDelays.Pure := by
 intro l0 l1 _ _ w0 _ _ w1
 have hb0 : Bytes l0 := fun x hx => wf8p (w0 x hx)
 have hb1 : Bytes l1 := fun x hx => wf8p (w1 x hx)
 cases hlong : laws_r8Long.f l0 l1 with
 | none =>
  exfalso
  unfold laws_r8Long.f at hlong
  split at hlong <;> cases hlong
 | some long =>
 cases long with
 | true =>
  refine ⟨0, ?_⟩
  unfold laws_FnPathDelays.f
  rw [hlong]
  rfl
 | false =>
 have hlen : l0.length ≤ 1000 ∧ l1.length ≤ 1000 := by
  unfold laws_r8Long.f at hlong
  split at hlong
  ·cases hlong
  ·have := Option.some.inj hlong
   simp only [decide_eq_false_iff_not] at this
   omega
 obtain ⟨R, gs, data, a3, a4, a5, a6, hc, hR1, hR4, hv, hgw, hdl, h3, h4, h6⟩ := circuit_tells l0 hb0 hlen.1 1000 (Nat.le_refl _)
 have hc' : ∀ k, 1000 ≤ k → spec_R8Circuit.f k l0 = some ((R : Int), gs, data, a3, a4, a5, a6) := fun k hk => at_rounds (fun k => spec_R8Circuit.mono l0 k) hk hc
 have hw : ∀ g ∈ gs, g.f2.length ≤ 1048576 := fun g hg => by have := hgw g hg; omega
 have Cc := circ_of (R : Int) gs data a3 a4 a5 a6 hw hv
 have C := Cc.ready hw
 obtain ⟨a, ha, ha1⟩ := r8At_in l1 hb1 0 R (by omega) hR1 (by omega)
 obtain ⟨b, hb, hb1'⟩ := r8At_in l1 hb1 1 R (by omega) hR1 (by omega)
 obtain ⟨K1, hK1⟩ := implPD (R : Int) gs data a3 a4 a5 a6 (a : Int) (b : Int) hw (by omega)
 obtain ⟨K2, hK2⟩ := implLP (R : Int) gs data a3 a4 a5 a6 (a : Int) (b : Int) hw (by omega)
 have hok := pdR_ok (R : Int) gs data a3 a4 a5 a6 (a : Int) (b : Int) hw
 have g := goal_in C (b := (b : Int)) (by omega) (by omega)
 have hgl := C.gs.len
 have hl := Cc.least
 -- behind the drawn way
 have H2 : ∃ K, ∀ k, K ≤ k → laws_FnPathDelays.j2 k (a : Int) (b : Int) (pdR (R : Int) gs data a3 a4 a5 a6 a b).1 (pdR (R : Int) gs data a3 a4 a5 a6 a b).2.1 (pdR (R : Int) gs data a3 a4 a5 a6 a b).2.2 (lpR (R : Int) gs data a3 a4 a5 a6 a b).1 false (R : Int) gs data a3 a4 a5 a6 = some true := by
  cases hone : (pdR (R : Int) gs data a3 a4 a5 a6 a b).2.2 with
  | false =>
   refine ⟨1, fun k hk => ?_⟩
   obtain ⟨k, rfl⟩ : ∃ q, k = q + 1 := ⟨k - 1, by omega⟩
   rw [laws_FnPathDelays.j2]
   simp
  | true =>
   have hcond : validB (R : Int) gs data a3 a4 a5 a6 = true ∧ (0 ≤ (a : Int) ∧ (a : Int) ≤ (R : Int) - 1) ∧ (0 ≤ (b : Int) ∧ (b : Int) ≤ (R : Int) - 1) := ⟨hv, by omega, by omega⟩
   have e := both_ends C (a := (a : Int)) (b := (b : Int)) (by omega) (by omega) (by omega) (by omega)
   have hT := tab_best C.gs (a : Int) (by omega) (by omega) ((rd data (b : Int)).toNat + 1) (rd data (b : Int)).toNat (by omega) (by omega)
   rw [show (((rd data (b : Int)).toNat : Nat) : Int) = rd data (b : Int) by omega] at hT
   unfold pdR at hone ⊢
   rw [if_pos hcond] at hone ⊢
   unfold pathO at hone ⊢
   cases ht : (tab (a : Int) (R : Int) gs).getD (rd data (b : Int)).toNat none with
   | none => rw [ht] at hone; exact absurd hone (by simp [wayR])
   | some p =>
    have e2 := e.2 p ht
    obtain ⟨⟨y, q1⟩, ⟨x, q2⟩, q3⟩ := hT.2 p ht
    have u1 := q1.up C.gs
    have m1 := q1.most C.gs
    have m2 := q2.most C.gs
    have q4 := q3 _ _ q1
    obtain ⟨r, hpa, hpi, hr⟩ := path_is C (a := (a : Int)) (b := (b : Int)) (by omega) (by omega) (by omega) (by omega) (by rw [e2.1]; exact e2.2)
    have hlp : (lpR (R : Int) gs data a3 a4 a5 a6 a b).1 = (a : Int) :: r := by
     unfold lpR
     rw [if_pos hcond, if_neg (by omega), hpa]
     rfl
    obtain ⟨K, hK⟩ := path_check (a3 := a3) (a4 := a4) (a5 := a5) (a6 := a6) (from_ := (a : Int)) (to_ := (b : Int)) (least := wrap64 (p.1 + a5)) (most := wrap64 (p.2 + a6)) C (by rw [wrap_id (by omega) (by omega), wrap_id (by omega) (by omega)]; omega) (by rw [wrap_id (by omega) (by omega)]; omega) (by omega) (by omega) ((a : Int) :: r) (by simp; omega) r [] (a : Int) _ a6 rfl hpi (by rw [wrap_id (by omega) (by omega), e2.1]; omega) (by omega)
    refine ⟨K + 2, fun k hk => ?_⟩
    obtain ⟨k, rfl⟩ : ∃ q, k = q + 1 + 1 := ⟨k - 2, by omega⟩
    have hk2 := hK k (by omega)
    rw [hlp, laws_FnPathDelays.j2]
    simp only [Option.map_some, wayR, Bool.false_eq_true, if_false, if_true]
    rw [laws_FnPathDelays.l1, if_pos (by rw [List.length_cons]; omega), if_pos rfl, if_pos (by rw [List.length_cons]; omega), show rd ((a : Int) :: r) 0 = (a : Int) from rfl, if_pos rfl, show wrap64 (0 + 1) = ((([] : List Int).length + 1 : Nat) : Int) by rw [wrap_id (by omega) (by omega)]; rfl]
    exact hk2
 obtain ⟨K3, hK3⟩ := drawn_way Cc C hv hgw (by omega) l1 hb1 (from_ := (a : Int)) (to_ := (b : Int)) (by omega) (by omega) H2 gs.length (rd data (b : Int)) 0 0 2 g.1 g.2 g.2 (Wy.here _) (by omega) (by omega) (by omega)
 obtain ⟨k, hk⟩ : ∃ k, K1 + K2 + K3 + 3000 ≤ k := ⟨_, Nat.le_refl _⟩
 refine ⟨k + 1, ?_⟩
 have e1 : impl_PathDelays.f (k + 1) (R : Int) gs data a3 a4 a5 a6 (a : Int) (b : Int) = _ := hK1 (k + 1) (by omega)
 have e2 : impl_LongestPath.f (k + 1) (R : Int) gs data a3 a4 a5 a6 (a : Int) (b : Int) = _ := hK2 (k + 1) (by omega)
 have e3 := hK3 k (by omega)
 rw [show a5 + (0 : Int) = a5 by omega, show a6 + (0 : Int) = a6 by omega] at e3
 unfold laws_FnPathDelays.f
 rw [hlong]
 simp only [Option.bind_some, Bool.false_eq_true, if_false]
 rw [hc' (k + 1) (by omega)]
 simp only [Option.bind_some]
 rw [show (0 : Int) = ((0 : Nat) : Int) from rfl, ha, show (1 : Int) = ((1 : Nat) : Int) from rfl, hb]
 simp only [Option.bind_some]
 rw [e1, e2]
 simp only [Option.bind_some]
 rw [if_neg (by rw [hok]; simp), valid_tells, hv]
 simp only [Option.bind_some, Bool.not_true]
 rw [laws_FnPathDelays.j0, if_neg (by decide), if_pos (by omega), if_pos (by omega)]
 exact e3
end Go.Proofs.Ytbkofbcmhddbfaa.Pure
