-- Written for this claim by a program of this session.
import Derived.Test.YtkdijegkoajdgaaFPax0
import Derived.Test.YtkdijegkoajdgaaFKFPaxf30
import Derived.Test.YtkdijegkoajdgaaFKFPaxf31
namespace Go.Proofs.Ytkdijegkoajdgaa.Pa
open Go.RowKit Go.Proofs.YtkdijegkoajdgaaW.PrintWords Go.Proofs.YtkdijegkoajdgaaW.PrintLast Go.Proofs.YtkdijegkoajdgaaW.PrintMore
attribute [local go_sem] max2_int min2_int max_two min_two max_three min_three max_four min_four   -- for this text's walks alone
set_option linter.unusedVariables false
set_option linter.unusedSimpArgs false

/-- A state of type 31 at block g of W; what its slices lead to came in by w0. -/
def IsS31 (w0 W : World) (g : Nat) (f0 : Int) (f1 : List (S53)) : Prop := ∃ A1 c1, W.heap[g]? = some (.cells #[.int .i64 f0, .slice A1 f1.length c1] 31 (0, 0)) ∧ w0.heap.size ≤ g ∧ Kd.C k53 w0 A1 f1.length f1
theorem IsS31.grown {w0 W : World} {g : Nat} {f0 : Int} {f1 : List (S53)} {W1 : World} {row : Option Nat} (h : IsS31 w0 W g f0 f1) (hw : W.grownBy W1 row) (hne : some g ≠ row) : IsS31 w0 W1 g f0 f1 := by
 obtain ⟨A1, c1, hb, hg, hr1⟩ := h
 exact ⟨A1, c1, blk_grown hb hw hne, hg, hr1⟩
theorem IsS31.below {w0 W : World} {g : Nat} {f0 : Int} {f1 : List (S53)} {W1 : World} (h : IsS31 w0 W g f0 f1) (hw : Below W.heap.size W W1) : IsS31 w0 W1 g f0 f1 := h.grown (grown_of_below hw none) (by simp)
/-! ### spec_l04Is: function 17 -/
/-- What a diagram must be. -/
def boundOkS (n : Int) (b : S53) : Bool := decide (0 ≤ b.f0) && decide (b.f0 ≤ n - 1) && (decide (0 ≤ b.f1) && decide (b.f1 ≤ n - 1)) && !(b.f0 == b.f1) && (decide (-1000 ≤ b.f2) && decide (b.f2 ≤ 1000))
def diagramOkS (n : Int) (l : List S53) : Bool := decide (1 ≤ n) && decide (n ≤ 10) && decide (l.length ≤ 24) && l.all (boundOkS n)
theorem l04Bound_tells (a b c n : Int) (h0 : 1 ≤ n) (h1 : n ≤ 10) : spec_l04Bound.f n a b c = some (boundOkS n ⟨a, b, c⟩) := by
 have hw : wrap64 (n - 1) = n - 1 := by unfold wrap64; omega
 have hin : ∀ x l u : Int, spec_l00In.f x l u = some (decide (l ≤ x) && decide (x ≤ u)) := by
  intro x l u
  unfold spec_l00In.f
  by_cases h : l ≤ x <;> simp [h]
 unfold spec_l04Bound.f boundOkS
 simp only [hin, hw, Option.bind_some]
 by_cases h2 : 0 ≤ a <;> by_cases h3 : a ≤ n - 1 <;> by_cases h4 : 0 ≤ b <;> by_cases h5 : b ≤ n - 1 <;> by_cases h6 : a = b <;> simp [h2, h3, h4, h5, h6]
def spec_l04Is.f (s0_0 : Int) (s0_1 : List (S53)) : Option (Bool × Int) := some (diagramOkS s0_0 s0_1, s0_0)
def allOkS (n : Int) (l : List S53) : Bool := l.all (boundOkS n)
theorem allOkS_step (n x : Int) (l : List S53) (h0 : 0 ≤ x) (h1 : x < (l.length : Int)) : allOkS n (l.drop x.toNat) = (boundOkS n (rd_T53 l x) && allOkS n (l.drop (x + 1).toNat)) := by
 rw [List.drop_eq_getElem_cons (by omega), show (x + 1).toNat = x.toNat + 1 from by omega]
 unfold rd_T53 allOkS
 rw [List.getD_eq_getElem?_getD, List.getElem?_eq_getElem (by omega), List.all_cons]
 rfl
set_option maxHeartbeats 4000000 in
set_option maxRecDepth 100000 in
theorem l04Is_walk (g : Nat) (n : Int) (l : List (S53)) (A : Option Addr) (c : Nat) (w0 w : World) (hb : w.heap[g]? = some (.cells #[.int .i64 n, .slice A l.length c] 31 (0, 0)))
  (hr : Kd.C k53 w0 A l.length l) (hB : Below w0.heap.size w0 w) :
  Calls Try.prog 17 #[.pointer (some ⟨g, 0, none⟩)] w fun e w' => e = .returned (.bool (diagramOkS n l)) ∧ Below w.heap.size w w' := by
 have hu := Try.underlying31
 have hu2 := Try.underlying53
 have c0 : w.cell? ⟨g, 0, none⟩ = some (.int .i64 n) := (blk_cell hb 0).trans rfl
 have c1 : w.cell? ⟨g, 1, none⟩ = some (.slice A l.length c) := (blk_cell hb 1).trans rfl
 have HC0 := Aside0.mk c0
 have HC1 := Aside0.mk c1
 have HR := Aside0.mk hr
 have HB0 := Aside0.mk hB
 have hlen : l.length ≤ 9223372036854775807 := hr.2.1
 clear hr hB hb
 by_cases hn : 1 ≤ n ∧ n ≤ 10
 ·obtain ⟨h0, h1⟩ := hn
  have HW : Aside0 (spec_l00In.f n 1 10 = some true) := ⟨by unfold spec_l00In.f; rw [if_pos h0, decide_eq_true h1]⟩
  by_cases hl : l.length ≤ 24
  ·have d1 : decide ((24 : Int) < (l.length : Int)) = false := decide_eq_false (by omega)
   have d2 : decide (24 < l.length) = false := decide_eq_false (by omega)
   have HE : Aside0 (diagramOkS n l = allOkS n l) := ⟨by unfold diagramOkS allOkS; rw [decide_eq_true h0, decide_eq_true h1, decide_eq_true hl]; simp⟩
   have H0 := Aside0.mk h0
   have H1 := Aside0.mk h1
   clear h0 h1 hl
   generalize diagramOkS n l = q at HE ⊢
   go_enter Try.func17, Try.ntmps17
   go_wp2_with (go_at_call 30; refine (spec_l00In.calls _ _ _ true _ HW.out).mono ?_; rintro e w' ⟨rfl, ⟨nd, rfl⟩⟩)
   clear c0 c1
   go_loopg [3] l.length (fun gg s3 wr => ∃ x : Int, s3 = .int .i64 x ∧ Aside0 (0 ≤ x ∧ x ≤ l.length ∧ (l.length : Int) - x ≤ gg) ∧ Aside0 (Below w.heap.size w wr) ∧ Aside0 (allOkS n l = allOkS n (l.drop x.toNat)))
   case atStart => exact ⟨0, rfl, ⟨by omega⟩, ⟨pw_below_drewN (Below.refl _ _) nd⟩, ⟨rfl⟩⟩
   case round =>
    obtain ⟨x, rfl, HX, HB, HF⟩ := hrel
    have c0 : wr.cell? ⟨g, 0, none⟩ = some (.int .i64 n) := pw_cell_below HB.out HC0.out
    have c1 : wr.cell? ⟨g, 1, none⟩ = some (.slice A l.length c) := pw_cell_below HB.out HC1.out
    by_cases hlt : x < (l.length : Int)
    ·have t0 : decide (0 ≤ x) = true := decide_eq_true HX.out.1
     have t1 : decide (x < (l.length : Int)) = true := decide_eq_true hlt
     have HL := Aside0.mk hlt
     clear hlt
     obtain ⟨ad, e, e0, e1, e2⟩ := at_T53 HR.out x HX.out.1 HL.out
     cases e
     replace e0 := pw_cell_below HB.out ((HB0.out.cell (World.block_lt_of_cell? w0 _ e0)).trans e0)
     replace e1 := pw_cell_below HB.out ((HB0.out.cell (World.block_lt_of_cell? w0 _ e1)).trans e1)
     replace e2 := pw_cell_below HB.out ((HB0.out.cell (World.block_lt_of_cell? w0 _ e2)).trans e2)
     have HD := Aside0.mk (allOkS_step n x l HX.out.1 HL.out)
     have HQ := Aside0.mk (l04Bound_tells (rd_T53 l x).f0 (rd_T53 l x).f1 (rd_T53 l x).f2 n H0.out H1.out)
     have p0 := eq_true HX.out.1
     have p1 := eq_true HL.out
     cases hq : boundOkS n (rd_T53 l x) with
     | true =>
      rw [show boundOkS n ⟨(rd_T53 l x).f0, (rd_T53 l x).f1, (rd_T53 l x).f2⟩ = true from hq] at HQ
      have HQ2 := Aside0.mk hq
      clear hq
      go_wp2
      go_region_held3 (fun w' => Aside0 (Below wr.heap.size wr w') ∧ w'.cell? ⟨g, 0, none⟩ = some (.int .i64 n) ∧ w'.cell? ⟨g, 1, none⟩ = some (.slice (some ad) l.length c) ∧ w'.cell? (ad.add (x.toNat * 3)) = some (.int .i64 (rd_T53 l x).f0) ∧ w'.cell? ⟨(ad.add (x.toNat * 3)).block, (ad.add (x.toNat * 3)).off + 1, none⟩ = some (.int .i64 (rd_T53 l x).f1) ∧ w'.cell? ⟨(ad.add (x.toNat * 3)).block, (ad.add (x.toNat * 3)).off + 2, none⟩ = some (.int .i64 (rd_T53 l x).f2)) ((first | exact ⟨⟨below_drew (Below.refl _ _)⟩, c0, c1, e0, e1, e2⟩ | exact ⟨⟨below_step (below_drew (Below.refl _ _)) hb'⟩, pw_cell_below hb' c0, pw_cell_below hb' c1, pw_cell_below hb' e0, pw_cell_below hb' e1, pw_cell_below hb' e2⟩)) ((go_at_call 31; refine (spec_l04Bound.calls _ _ _ _ true _ HQ.out).mono ?_; rintro e w' ⟨rfl, hb'⟩))
      go_wp2
      have hx1 := HX.out
      have hl1 := HL.out
      have hb2 := below_step HB.out (below_step (below_drew (Below.refl wr.heap.size wr)) hb')
      go_roundg ((l.length : Int) - (x + 1)).toNat
      case measure => omega
      case rel =>
       have hw1 : wrap64 (x + 1) = x + 1 := by unfold wrap64; omega
       refine ⟨x + 1, by rw [hw1], ⟨by omega⟩, ⟨hb2⟩, ⟨?_⟩⟩
       rw [HF.out, HD.out, HQ2.out]
       rfl
     | false =>
      rw [show boundOkS n ⟨(rd_T53 l x).f0, (rd_T53 l x).f1, (rd_T53 l x).f2⟩ = false from hq] at HQ
      have HQ2 := Aside0.mk hq
      clear hq
      go_wp2
      go_region_held3 (fun w' => Aside0 (Below wr.heap.size wr w') ∧ w'.cell? ⟨g, 0, none⟩ = some (.int .i64 n) ∧ w'.cell? ⟨g, 1, none⟩ = some (.slice (some ad) l.length c) ∧ w'.cell? (ad.add (x.toNat * 3)) = some (.int .i64 (rd_T53 l x).f0) ∧ w'.cell? ⟨(ad.add (x.toNat * 3)).block, (ad.add (x.toNat * 3)).off + 1, none⟩ = some (.int .i64 (rd_T53 l x).f1) ∧ w'.cell? ⟨(ad.add (x.toNat * 3)).block, (ad.add (x.toNat * 3)).off + 2, none⟩ = some (.int .i64 (rd_T53 l x).f2)) ((first | exact ⟨⟨below_drew (Below.refl _ _)⟩, c0, c1, e0, e1, e2⟩ | exact ⟨⟨below_step (below_drew (Below.refl _ _)) hb'⟩, pw_cell_below hb' c0, pw_cell_below hb' c1, pw_cell_below hb' e0, pw_cell_below hb' e1, pw_cell_below hb' e2⟩)) ((go_at_call 31; refine (spec_l04Bound.calls _ _ _ _ false _ HQ.out).mono ?_; rintro e w' ⟨rfl, hb'⟩))
      go_wp2
      have hb2 := below_step HB.out (below_step (below_drew (Below.refl wr.heap.size wr)) hb')
      go_ret
      refine ⟨?_, hb2⟩
      rw [HE.out, HF.out, HD.out, HQ2.out]
      rfl
    ·have t1 : decide (x < (l.length : Int)) = false := decide_eq_false hlt
     have HL := Aside0.mk hlt
     clear hlt
     go_wp2
     go_ret
     refine ⟨?_, HB.out⟩
     have hx := HX.out
     have hl := HL.out
     rw [HE.out, HF.out, List.drop_of_length_le (by omega)]
     rfl
  ·have d1 : decide ((24 : Int) < (l.length : Int)) = true := decide_eq_true (by omega)
   have d2 : decide (24 < l.length) = true := decide_eq_true (by omega)
   have HE : Aside0 (diagramOkS n l = false) := ⟨by unfold diagramOkS; rw [decide_eq_false hl]; simp⟩
   clear h0 h1 hl
   generalize diagramOkS n l = q at HE ⊢
   go_enter Try.func17, Try.ntmps17
   go_wp2_with (go_at_call 30; refine (spec_l00In.calls _ _ _ true _ HW.out).mono ?_; rintro e w' ⟨rfl, ⟨nd, rfl⟩⟩)
   go_ret
   exact ⟨by rw [HE.out]; rfl, pw_below_drewN (Below.refl _ _) nd⟩
 ·have HW : Aside0 (spec_l00In.f n 1 10 = some false) := ⟨by
   unfold spec_l00In.f
   split
   ·rw [decide_eq_false (by omega)]
   ·rfl⟩
  have HE : Aside0 (diagramOkS n l = false) := ⟨by
   unfold diagramOkS
   by_cases h0 : 1 ≤ n
   ·rw [decide_eq_false (show ¬ n ≤ 10 by omega)]; simp
   ·rw [decide_eq_false h0]; simp⟩
  clear hn
  generalize diagramOkS n l = q at HE ⊢
  go_enter Try.func17, Try.ntmps17
  go_wp2_with (go_at_call 30; refine (spec_l00In.calls _ _ _ false _ HW.out).mono ?_; rintro e w' ⟨rfl, ⟨nd, rfl⟩⟩)
  go_ret
  exact ⟨by rw [HE.out]; rfl, pw_below_drewN (Below.refl _ _) nd⟩
theorem spec_l04Is.calls (g : Nat) (s0_0 : Int) (s0_1 : List (S53)) (r1 : Bool) (r2 : Int) (w0 w : World) (hI : IsS31 w0 w g s0_0 s0_1) (hB : Below w0.heap.size w0 w) (h : spec_l04Is.f s0_0 s0_1 = some (r1, r2)) :
  Calls Try.prog 17 #[.pointer (some ⟨g, 0, none⟩)] w fun e w' => e = .returned (.bool r1) ∧ IsS31 w0 w' g r2 s0_1 ∧ Below w0.heap.size w0 w' ∧ KeepBut w w' g none := by
 simp only [spec_l04Is.f, Option.some.injEq, Prod.mk.injEq] at h
 obtain ⟨rfl, rfl⟩ := h
 obtain ⟨A, c, hb, hg, hr⟩ := id hI
 exact (l04Is_walk g s0_0 s0_1 A c w0 w hb hr hB).mono fun e w' ⟨he, hb'⟩ => ⟨he, hI.below hb', below_step hB hb', KeepBut.of_below hb' g none⟩

end Go.Proofs.Ytkdijegkoajdgaa.Pa
