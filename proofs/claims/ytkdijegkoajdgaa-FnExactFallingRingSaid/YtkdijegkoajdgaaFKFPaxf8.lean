-- Written for this claim by a program of this session.
import Derived.Test.YtkdijegkoajdgaaFPax0
import Derived.Test.YtkdijegkoajdgaaFKFPaxaringTop
import Derived.Test.YtkdijegkoajdgaaFCoreF2
import Derived.Test.YtkdijegkoajdgaaFKFPaxf20
import Derived.Laws.Cover3
namespace Go.Proofs.Ytkdijegkoajdgaa.Pa
open Go.RowKit Go.Proofs.YtkdijegkoajdgaaW.PrintWords Go.Proofs.YtkdijegkoajdgaaW.PrintLast Go.Proofs.YtkdijegkoajdgaaW.PrintMore
attribute [local go_sem] max2_int min2_int max_two min_two max_three min_three max_four min_four   -- for this text's walks alone
set_option linter.unusedVariables false
set_option linter.unusedSimpArgs false

/-! ### impl_FallingRing: function 8 -/
def impl_FallingRing.f (a0_0 : Int) (l0_1 : List S53) : Option (List Int × Bool) := frF a0_0 l0_1
set_option maxHeartbeats 16000000 in
set_option maxRecDepth 100000 in
theorem impl_FallingRing.calls (a0_0 : Int) (A0_1 : Option Addr) (c0_1 : Nat) (l0_1 : List (S53)) (r1 : List Int) (r2 : Bool) (w : World) (hr0_1 : Kd.C k53 w A0_1 l0_1.length l0_1) (hc0_1 : l0_1.length ≤ c0_1) (h : impl_FallingRing.f a0_0 l0_1 = some (r1, r2)) :
  Calls Try.prog 8 #[.agg #[.int .i64 a0_0, .slice A0_1 l0_1.length c0_1]] w fun e w' => ∃ v0_ : Value, e = .returned (.tuple #[v0_, .bool r2]) ∧ Kd.R (Kd.int .i64) 2 w' w.heap.size (fun _ => True) v0_ r1 ∧ Below w.heap.size w w' := by
 have hu := Try.underlying31
 have hu2 := Try.underlying53
 have hu6 := Try.underlying26
 have HR := Aside0.mk hr0_1
 have HC := Aside0.mk hc0_1
 clear hr0_1 hc0_1
 unfold impl_FallingRing.f frF at h
 obtain ⟨vd, hvd⟩ : ∃ z, diagramOkR a0_0 l0_1 = z := ⟨_, rfl⟩
 have HV : Aside0 (impl_ValidDiagram.f a0_0 l0_1 = some vd) := ⟨by rw [← hvd]; rfl⟩
 rw [hvd] at h
 cases vd with
 | false =>
  rw [if_neg (by decide)] at h
  injection h with h
  injection h with e1 e2
  subst e1
  subst e2
  clear hvd
  go_enter Try.func8, Try.ntmps8
  go_wp2_with (first | ((with_reducible refine gate_dst (N := 1) rfl ?_); refine box_event ?hg (N := 1) ?hd (cs := #[.int .i64 a0_0, .slice A0_1 l0_1.length c0_1]) (t := 31) ?hr ?_; (case hd => rfl); (case hg => rfl); (case hr => first | (go_simp; done) | (go_simp; rfl)); intro gb hg_ w1 hbox_ hb_; have HX_gb := Aside0.mk hbox_; have HB_w1 := Aside0.mk hb_; have HG_gb := Aside0.mk hg_; clear hbox_ hb_ hg_; have b0 := blk_cell HX_gb.out 0; have b1 := blk_cell HX_gb.out 1) | (go_at_call 20; refine (impl_ValidDiagram.calls (hr0_1 := Kd.C_below HR.out HB_w1.out) (hc0_1 := HC.out) (h := HV.out)).mono ?_; rintro e w2 ⟨rfl, hb⟩; have HB2 := Aside0.mk (below_step HB_w1.out hb); have HX2 := Aside0.mk (blk_below HX_gb.out hb); clear hb b0 b1; have b0 := blk_cell HX2.out 0; have b1 := blk_cell HX2.out 1))
  go_ret2
  exact ⟨_, rfl, Kd.R_nil _ _ _ _ _, HB2.out⟩
 | true =>
  rw [if_pos rfl] at h
  have HD := Aside0.mk (diagram_says hvd)
  clear hvd
  by_cases h7 : 7 < a0_0
  ·rw [if_pos h7] at h
   injection h with h
   injection h with e1 e2
   subst e1
   subst e2
   have g1 : decide (a0_0 > 7) = true := decide_eq_true h7
   have g2 : decide (7 < a0_0) = true := g1
   clear h7
   go_enter Try.func8, Try.ntmps8
   go_wp2_with (first | ((with_reducible refine gate_dst (N := 1) rfl ?_); refine box_event ?hg (N := 1) ?hd (cs := #[.int .i64 a0_0, .slice A0_1 l0_1.length c0_1]) (t := 31) ?hr ?_; (case hd => rfl); (case hg => rfl); (case hr => first | (go_simp; done) | (go_simp; rfl)); intro gb hg_ w1 hbox_ hb_; have HX_gb := Aside0.mk hbox_; have HB_w1 := Aside0.mk hb_; have HG_gb := Aside0.mk hg_; clear hbox_ hb_ hg_; have b0 := blk_cell HX_gb.out 0; have b1 := blk_cell HX_gb.out 1) | (go_at_call 20; refine (impl_ValidDiagram.calls (hr0_1 := Kd.C_below HR.out HB_w1.out) (hc0_1 := HC.out) (h := HV.out)).mono ?_; rintro e w2 ⟨rfl, hb⟩; have HB2 := Aside0.mk (below_step HB_w1.out hb); have HX2 := Aside0.mk (blk_below HX_gb.out hb); clear hb b0 b1; have b0 := blk_cell HX2.out 0; have b1 := blk_cell HX2.out 1))
   go_ret2
   exact ⟨_, rfl, Kd.R_nil _ _ _ _ _, HB2.out⟩
  ·rw [if_neg h7] at h
   have g1 : decide (a0_0 > 7) = false := decide_eq_false h7
   have g2 : decide (7 < a0_0) = false := g1
   have HL := Aside0.mk h
   clear h7 h
   go_enter Try.func8, Try.ntmps8
   go_wp2_with (first | ((with_reducible refine gate_dst (N := 1) rfl ?_); refine box_event ?hg (N := 1) ?hd (cs := #[.int .i64 a0_0, .slice A0_1 l0_1.length c0_1]) (t := 31) ?hr ?_; (case hd => rfl); (case hg => rfl); (case hr => first | (go_simp; done) | (go_simp; rfl)); intro gb hg_ w1 hbox_ hb_; have HX_gb := Aside0.mk hbox_; have HB_w1 := Aside0.mk hb_; have HG_gb := Aside0.mk hg_; clear hbox_ hb_ hg_; have b0 := blk_cell HX_gb.out 0; have b1 := blk_cell HX_gb.out 1) | (go_at_call 20; refine (impl_ValidDiagram.calls (hr0_1 := Kd.C_below HR.out HB_w1.out) (hc0_1 := HC.out) (h := HV.out)).mono ?_; rintro e w2 ⟨rfl, hb⟩; have HB2 := Aside0.mk (below_step HB_w1.out hb); have HX2 := Aside0.mk (blk_below HX_gb.out hb); clear hb b0 b1; have b0 := blk_cell HX2.out 0; have b1 := blk_cell HX2.out 1))
   clear b0 b1 HX_gb HB_w1 HG_gb g1 g2
   go_loopg [4] (a0_0.toNat + 1) (fun gg s4 wr => ∃ m : Nat, s4 = .int .i64 (m : Int) ∧ Aside0 (2 ≤ m ∧ (m : Int) ≤ a0_0 + 2 ∧ (a0_0 + 2 - (m : Int)).toNat ≤ gg) ∧ Aside0 (Below w.heap.size w wr) ∧ Aside0 (wr.heap[gb]? = some (.cells #[.int .i64 a0_0, .slice A0_1 l0_1.length c0_1] 31 (0, 0))) ∧ Aside0 (frLoop l0_1 (a0_0 + 1 - (m : Int)).toNat m = some (r1, r2)))
   case atStart => exact ⟨2, rfl, ⟨by have := HD.out.1; omega⟩, HB2, HX2, ⟨by have := HL.out; rw [show (a0_0 + 1 - ((2 : Nat) : Int)).toNat = (a0_0 - 1).toNat by omega]; exact this⟩⟩
   case round =>
    clear HL HB2 HX2
    obtain ⟨m, rfl, HM0, HB, HX, HN⟩ := hrel
    generalize hmi : (m : Int) = mi
    have HMI := Aside0.mk hmi
    have b0 := blk_cell HX.out 0
    have b1 := blk_cell HX.out 1
    by_cases hlt : mi ≤ a0_0
    ·have c1 : decide (mi ≤ a0_0) = true := decide_eq_true hlt
     have p1 := eq_true hlt
     have HM : Aside0 (2 ≤ m ∧ (m : Int) ≤ a0_0) := ⟨HM0.out.1, by omega⟩
     obtain ⟨d, hd⟩ : ∃ d, (a0_0 + 1 - (m : Int)).toNat = d + 1 := ⟨(a0_0 - (m : Int)).toNat, by omega⟩
     have hn := HN.out
     rw [hd] at hn
     unfold frLoop at hn
     obtain ⟨q, hp, hn⟩ := Option.bind_eq_some_iff.mp hn
     have HP := Aside0.mk hp
     have HDD := Aside0.mk hd
     clear hp hd HN hlt
     rw [← hmi]
     rw [← hmi] at c1 p1
     clear hmi
     cases q with
     | some x =>
      injection hn with hn
      injection hn with e1 e2
      subst e1
      subst e2
      go_wp2_with (go_at_call 21; refine (fallingRing.calls a0_0 A0_1 c0_1 l0_1 m _ true x _ (Kd.C_below HR.out HB.out) HC.out HD.out.2.2.1 (by have := HM.out; omega) (by have := HM.out; have := HD.out; omega) HD.out.2.2.2 HP.out rfl rfl).mono ?_; rintro e w5 ⟨v5, rfl, ho5, hb5, hn5⟩; have HB5 := Aside0.mk (below_step HB.out hb5); have HX5 := Aside0.mk (blk_below HX.out hb5); have HO5 := Aside0.mk (Kd.R_lower ho5 (below_size HB.out)); obtain ⟨A5, c5, rfl⟩ := Kd.R_slice ho5; have hc5 := (Kd.R_reads' ho5).2.2.2.2 (by rw [ringP_len _ _ _ _ _ _ HP.out]; have := HM.out; omega); obtain ⟨ad5, e5, _⟩ := hc5; cases e5; clear ho5 hb5 hn5; clear b0 b1)
      go_ret2
      exact ⟨_, rfl, HO5.out, HB5.out⟩
     | none =>
      have HN := Aside0.mk hn
      clear hn
      go_wp2_with (go_at_call 21; refine (fallingRing.calls a0_0 A0_1 c0_1 l0_1 m _ false [] _ (Kd.C_below HR.out HB.out) HC.out HD.out.2.2.1 (by have := HM.out; omega) (by have := HM.out; have := HD.out; omega) HD.out.2.2.2 HP.out rfl rfl).mono ?_; rintro e w5 ⟨v5, rfl, ho5, hb5, hn5⟩; have HB5 := Aside0.mk (below_step HB.out hb5); have HX5 := Aside0.mk (blk_below HX.out hb5); have HO5 := Aside0.mk (Kd.R_lower ho5 (below_size HB.out)); obtain rfl := hn5 rfl; clear ho5 hb5; clear b0 b1)
      have hm := HM.out
      have hm0 := HM0.out
      have hd := HDD.out
      have hw1 : wrap64 ((m : Int) + 1) = ((m + 1 : Nat) : Int) := by have := HD.out; unfold wrap64; omega
      go_roundg (a0_0 + 1 - (m : Int)).toNat
      case measure => omega
      case rel => exact ⟨m + 1, by first | (rw [hw1]) | (rw [i64_w, hw1]) | (rw [show (m : Int) + 1 = ((m + 1 : Nat) : Int) from by omega]), ⟨by omega⟩, HB5, HX5, ⟨by rw [show (a0_0 + 1 - ((m + 1 : Nat) : Int)).toNat = d by omega]; exact HN.out⟩⟩
    ·have c1 : decide (mi ≤ a0_0) = false := decide_eq_false hlt
     have p1 := eq_false hlt
     have hn := HN.out
     rw [show (a0_0 + 1 - (m : Int)).toNat = 0 by omega] at hn
     injection hn with hn
     injection hn with e1 e2
     subst e1
     subst e2
     clear HN hlt hmi
     go_wp2
     go_ret2
     exact ⟨_, rfl, Kd.R_nil _ _ _ _ _, HB.out⟩

end Go.Proofs.Ytkdijegkoajdgaa.Pa
