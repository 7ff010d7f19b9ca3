-- Written for this claim by a program of this session.
import Derived.Test.YtbgokpobaemibaaDoorNCoreN6
import Derived.Test.YtbgokpobaemibaaDoorNKNPaxf3
/- For every drawn diagram the law of the needed bounds answers yes. -/
namespace Go.Proofs.YtbgokpobaemibaaDoor.Pure
open Go.RowKit Go.Proofs.YtbgokpobaemibaaDoor.Pa Go.Proofs.YtbgokpobaemibaaDoorW.PrintWords Go.Proofs.YtbgokpobaemibaaDoorW.PrintLast Go.Proofs.YtbgokpobaemibaaDoorW.PrintMore
set_option linter.unusedVariables false
set_option linter.unusedSimpArgs false

theorem wf8t {x : Int} (h : (Lit.int .u8 x).wf = true) : 0 ≤ x ∧ x ≤ 255 := by
 simp only [Lit.wf, IntKind.min, IntKind.max, IntKind.signed, IntKind.bits, Bool.and_eq_true, decide_eq_true_eq, if_true] at h
 simp at h
 omega
theorem r8At_in (l : List Int) (hl : Bytes l) (i : Nat) (n : Nat) (hi : i ≤ 1000) (hn : 1 ≤ n) (hn2 : n ≤ 1000) : ∃ t : Nat, laws_r8At.f l (i : Int) (n : Int) = some (t : Int) ∧ t < n := by
 unfold laws_r8At.f
 by_cases h1 : (n : Int) ≤ 1
 ·rw [if_pos h1]
  exact ⟨0, rfl, by omega⟩
 ·rw [if_neg h1]
  by_cases h2 : (i : Int) ≥ (l.length : Int)
  ·rw [if_pos h2]
   exact ⟨0, rfl, by omega⟩
  ·have hlt : i < l.length := by omega
   have hb := hl l[i] (List.getElem_mem hlt)
   rw [if_neg h2, if_pos (by omega), if_pos (by omega), if_neg (by omega), rd_get hlt, wrap_id (by omega) (by omega)]
   have t0 : 0 ≤ Int.tmod l[i] (n : Int) := Int.tmod_nonneg _ hb.1
   have t1 : Int.tmod l[i] (n : Int) < (n : Int) := Int.tmod_lt_of_pos _ (by omega)
   exact ⟨(Int.tmod l[i] (n : Int)).toNat, by congr 1; omega, by omega⟩
theorem need_rest {m : Nat} {bs : List S39} (h : Dg m bs) (hf : feasible m bs [] = true) (l1 : List Int) (hl1 : Bytes l1) : ∃ K, ∀ k, K ≤ k → needRest k l1 (m : Int) bs = some true := by
 by_cases h0 : bs.length = 0
 ·exact ⟨0, fun k _ => by unfold needRest; rw [if_pos h0]⟩
 have hl := h.hl
 obtain ⟨p, hp1, hp⟩ := r8At_in l1 hl1 0 bs.length (by omega) (by omega) (by omega)
 rw [show ((0 : Nat) : Int) = 0 from rfl] at hp1
 obtain ⟨i0, i1, _, _⟩ := Bd_in (h.hb _ (List.getElem_mem hp))
 have hle := tight_le (w := []) h.hb i1 i0
 have hlim := h.lim _ (List.getElem_mem hp)
 unfold Lim at hlim
 obtain ⟨room, hr⟩ : ∃ room, room = if V (tight m bs []) bs[p].f1.toNat bs[p].f0.toNat = 1000000 then 1000000 else bs[p].f2 + V (tight m bs []) bs[p].f1.toNat bs[p].f0.toNat := ⟨_, rfl⟩
 obtain ⟨K1, hK1⟩ := room_val h hf hp
 obtain ⟨K2, hK2⟩ := bentStep_tells h hf hp room hr 0 true (.inl ⟨rfl, rfl⟩)
 obtain ⟨K3, hK3⟩ := bentStep_tells h hf hp room hr 1 false (.inr ⟨rfl, rfl⟩)
 have hrv : (if V (tight m bs []) bs[p].f1.toNat bs[p].f0.toNat = 1000000 then ((1000000 : Int), true) else (wrap64 (bs[p].f2 + V (tight m bs []) bs[p].f1.toNat bs[p].f0.toNat), true)) = (room, true) ∧ 0 ≤ room := by
  by_cases hv : V (tight m bs []) bs[p].f1.toNat bs[p].f0.toNat = 1000000
  ·rw [if_pos hv] at hr ⊢
   rw [hr]
   exact ⟨rfl, by omega⟩
  ·rw [if_neg hv] at hr ⊢
   have hvr := tight_range h.hn h.hb h.lim hf i1 i0 (by omega)
   have hpos := room_pos h hf hp (by omega)
   rw [wrap_id (by omega) (by omega), ← hr]
   exact ⟨rfl, by omega⟩
 refine ⟨max K1 (max K2 K3), fun k hk => ?_⟩
 unfold needRest
 rw [if_neg h0, hp1, Option.bind_some, if_pos ⟨by omega, by omega⟩, hK1 k (by omega), hrv.1, Option.bind_some, if_pos ⟨rfl, hrv.2⟩, hK2 k (by omega), Option.bind_some]
 exact hK3 k (by omega)
theorem FnNeeded : laws_FnNeeded.Pure := by
 intro l0 l1 h0 h1
 have hb0 : Bytes l0 := fun x hx => wf8t (h0.2 x hx)
 have hb1 : Bytes l1 := fun x hx => wf8t (h1.2 x hx)
 unfold laws_FnNeeded.f
 by_cases hlen : (l0.length : Int) > 48 ∨ (l1.length : Int) > 48
 ·refine ⟨0, ?_⟩
  unfold needF laws_r8Long.f
  by_cases q : (l0.length : Int) > 48
  ·rw [if_pos q, Option.bind_some, if_pos rfl]
  ·rw [if_neg q, Option.bind_some, decide_eq_true (by omega), if_pos rfl]
 have hshort : laws_r8Long.f l0 l1 = some false := by
  unfold laws_r8Long.f
  rw [if_neg (by omega), decide_eq_false (by omega)]
 obtain ⟨K0, hK0⟩ := diagram_tells l0 hb0 (by omega)
 -- a fixed number of rounds gives the diagram
 obtain ⟨n, bs, hd, n1, n6, hbl, hg⟩ := hK0 K0 (Nat.le_refl _)
 have hdk : ∀ k, K0 ≤ k → spec_R8Diagram.f k l0 = some ((n : Int), bs) := by
  intro k hk
  obtain ⟨d, rfl⟩ : ∃ d, k = K0 + d := ⟨k - K0, by omega⟩
  clear hk
  induction d with
  | zero => exact hd
  | succ d ih => exact spec_R8Diagram.mono _ _ _ ih
 have hok : diagramOk (n : Int) bs = true := by
  unfold diagramOk
  simp only [Bool.and_eq_true, decide_eq_true_eq, List.all_eq_true]
  refine ⟨⟨⟨by omega, by omega⟩, by omega⟩, fun b hm => ?_⟩
  have := hg b hm
  unfold Good8 at this
  unfold boundOk
  simp only [Bool.and_eq_true, decide_eq_true_eq, bne_iff_ne, ne_eq]
  obtain ⟨g0, g1, g2, g3, g4, g5, g6⟩ := this
  exact ⟨⟨⟨⟨g0, g1⟩, g2, g3⟩, by simpa using g4⟩, g5, g6⟩
 obtain ⟨m', e, h⟩ := Dg.of_ok hok
 obtain rfl : n = m' := by omega
 obtain ⟨K1, hK1⟩ := implTB h.h0 h.hn bs h.hl h.hb h.ok
 by_cases hf : feasible n bs [] = true
 ·obtain ⟨r, K2, hr, a1, a2, a3, a4⟩ := nb_tells h hf bs.length 0 [] (by omega) (by simp) (by simp) (by rfl) (fun p hp => absurd hp (by simp [fewOf]))
  have hfs := few_mem a1
  have hfl : (fewOf bs r).length = r.length := by simp [fewOf]
  have hl := h.hl
  have g2 : Dg n (fewOf bs r) := h.sub (by omega) hfs
  have f2 := sub_feasible h.hn h.hb h.lim hf _ hfs
  obtain ⟨K3, hK3⟩ := implTB g2.h0 g2.hn _ g2.hl g2.hb g2.ok
  obtain ⟨K4, hK4⟩ := rest_tells h hf hfs (by omega) a4 (fewOf bs r).length 0 (by omega)
  obtain ⟨K5, hK5⟩ := need_rest h hf l1 hb1
  obtain ⟨k, hk⟩ : ∃ k, K0 + K1 + K2 + K3 + K4 + K5 + 2000 ≤ k := ⟨_, Nat.le_refl _⟩
  refine ⟨k, ?_⟩
  have hneed : impl_NeededBounds.f k (n : Int) bs = some (r, true) := by
   unfold impl_NeededBounds.f
   rw [hK1 k (by omega), if_pos hf]
   simp only [Option.bind_some]
   rw [if_pos (by omega)]
   have := hr k (by omega)
   rw [show fewOf bs [] = [] from rfl] at this
   rw [this]
   rfl
  unfold needF
  rw [hshort, Option.bind_some, if_neg (by decide), hdk k (by omega), Option.bind_some]
  dsimp only
  rw [hneed, Option.bind_some, hK1 k (by omega), if_pos hf, Option.bind_some, text_prog hok k (by omega), Option.bind_some]
  dsimp only
  rw [read_prog hok, Option.bind_some]
  dsimp only
  rw [if_pos ⟨rfl, rfl, rfl, rfl, rfl, by omega⟩, if_pos rfl, if_pos ⟨a1, by omega⟩, hK3 k (by omega), if_pos f2, Option.bind_some]
  dsimp only
  rw [if_pos rfl, a3, rows_same h.hn (tight_Sq h.hb []) k (by omega), Option.bind_some, if_pos rfl, ← hfl, hK4 k (by omega), Option.bind_some]
  exact hK5 k (by omega)
 ·obtain ⟨k, hk⟩ : ∃ k, K0 + K1 + 2000 ≤ k := ⟨_, Nat.le_refl _⟩
  refine ⟨k, ?_⟩
  have hl := h.hl
  have hneed : impl_NeededBounds.f k (n : Int) bs = some ([], false) := by
   unfold impl_NeededBounds.f
   rw [hK1 k (by omega), if_neg hf]
   simp only [Option.bind_some]
  unfold needF
  rw [hshort, Option.bind_some, if_neg (by decide), hdk k (by omega), Option.bind_some]
  dsimp only
  rw [hneed, Option.bind_some, hK1 k (by omega), if_neg hf, Option.bind_some, text_prog hok k (by omega), Option.bind_some]
  dsimp only
  rw [read_prog hok, Option.bind_some]
  dsimp only
  rw [if_pos ⟨rfl, rfl, rfl, rfl, rfl, by omega⟩, if_neg (by decide)]
end Go.Proofs.YtbgokpobaemibaaDoor.Pure
