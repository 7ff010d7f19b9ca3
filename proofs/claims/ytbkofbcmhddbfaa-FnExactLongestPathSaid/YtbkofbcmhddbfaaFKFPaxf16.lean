-- Written for this claim by a program of this session.
import Derived.Test.YtbkofbcmhddbfaaFPax0
import Derived.Test.YtbkofbcmhddbfaaFCoreF1
import Derived.Test.YtbkofbcmhddbfaaFKFPaxf15
import Derived.Test.YtbkofbcmhddbfaaFKFPaxf52
import Derived.Test.YtbkofbcmhddbfaaFKFPaxf39
namespace Go.Proofs.Ytbkofbcmhddbfaa.Pa
open Go.RowKit Go.Proofs.YtbkofbcmhddbfaaW.PrintWords Go.Proofs.YtbkofbcmhddbfaaW.PrintLast Go.Proofs.YtbkofbcmhddbfaaW.PrintMore
attribute [local go_sem] max2_int min2_int max_two min_two max_three min_three max_four min_four   -- for this text's walks alone
set_option linter.unusedVariables false
set_option linter.unusedSimpArgs false

/-! ### laws_eqCircuit: function 16 -/
/-- Told of equal ones alone. -/
def laws_eqCircuit.f (a0_0 : Int) (l0_1 : List (S36)) (l0_2 : List Int) (a0_3 : Int) (a0_4 : Int) (a0_5 : Int) (a0_6 : Int) (a1_0 : Int) (l1_1 : List (S36)) (l1_2 : List Int) (a1_3 : Int) (a1_4 : Int) (a1_5 : Int) (a1_6 : Int) : Option Bool :=
 if a0_0 = a1_0 ∧ l0_1 = l1_1 ∧ l0_2 = l1_2 ∧ a0_3 = a1_3 ∧ a0_4 = a1_4 ∧ a0_5 = a1_5 ∧ a0_6 = a1_6 then some true else none
set_option maxHeartbeats 4000000 in
set_option maxRecDepth 100000 in
theorem laws_eqCircuit.calls (a0_0 : Int) (A0_1 : Option Addr) (c0_1 : Nat) (l0_1 : List (S36)) (A0_2 : Option Addr) (c0_2 : Nat) (l0_2 : List Int) (a0_3 : Int) (a0_4 : Int) (a0_5 : Int) (a0_6 : Int) (a1_0 : Int) (A1_1 : Option Addr) (c1_1 : Nat) (l1_1 : List (S36)) (A1_2 : Option Addr) (c1_2 : Nat) (l1_2 : List Int) (a1_3 : Int) (a1_4 : Int) (a1_5 : Int) (a1_6 : Int) (r : Bool) (w : World) (hr0_1 : Kd.C k36 w A0_1 l0_1.length l0_1) (hc0_1 : l0_1.length ≤ c0_1) (hr0_2 : Kd.C (Kd.int .i64) w A0_2 l0_2.length l0_2) (hc0_2 : l0_2.length ≤ c0_2) (hr1_1 : Kd.C k36 w A1_1 l1_1.length l1_1) (hc1_1 : l1_1.length ≤ c1_1) (hr1_2 : Kd.C (Kd.int .i64) w A1_2 l1_2.length l1_2) (hc1_2 : l1_2.length ≤ c1_2) (h : laws_eqCircuit.f a0_0 l0_1 l0_2 a0_3 a0_4 a0_5 a0_6 a1_0 l1_1 l1_2 a1_3 a1_4 a1_5 a1_6 = some r) :
  Calls Try.prog 16 #[.agg #[.int .i64 a0_0, .slice A0_1 l0_1.length c0_1, .slice A0_2 l0_2.length c0_2, .int .i64 a0_3, .int .i64 a0_4, .int .i64 a0_5, .int .i64 a0_6], .agg #[.int .i64 a1_0, .slice A1_1 l1_1.length c1_1, .slice A1_2 l1_2.length c1_2, .int .i64 a1_3, .int .i64 a1_4, .int .i64 a1_5, .int .i64 a1_6]] w fun e w' => e = .returned (.bool r) ∧ Below w.heap.size w w' := by
 unfold laws_eqCircuit.f at h
 split at h
 ·rename_i hh
  obtain ⟨rfl, rfl, rfl, rfl, rfl, rfl, rfl⟩ := hh
  obtain rfl := Option.some.inj h
  clear h
  have hu := Try.underlying27
  have HR0 := Aside0.mk hr0_1
  have HR1 := Aside0.mk hr0_2
  have HR2 := Aside0.mk hr1_1
  have HR3 := Aside0.mk hr1_2
  have HC0 := Aside0.mk hc0_1
  have HC1 := Aside0.mk hc0_2
  have HC2 := Aside0.mk hc1_1
  have HC3 := Aside0.mk hc1_2
  have HE := Aside0.mk (eqInts l0_2 hr0_2.2.1)
  have HG := Aside0.mk (show laws_eqGateS.f l0_1 l0_1 = some true from if_pos rfl)
  clear hr0_1 hr0_2 hr1_1 hr1_2 hc0_1 hc0_2 hc1_1 hc1_2
  go_enter Try.func16, Try.ntmps16
  go_wp2_with (first | ((with_reducible refine gate_dst (N := 2) rfl ?_); refine box_event ?hg (N := 2) ?hd (cs := #[.int .i64 a0_0, .slice A0_1 l0_1.length c0_1, .slice A0_2 l0_2.length c0_2, .int .i64 a0_3, .int .i64 a0_4, .int .i64 a0_5, .int .i64 a0_6]) (t := 27) ?hr ?_; (case hd => rfl); (case hg => rfl); (case hr => first | (go_simp; done) | (go_simp; rfl)); intro ga hg_ w1 hbox_ hb_; have HX_ga := Aside0.mk hbox_; have HB_w1 := Aside0.mk hb_; have HG_ga := Aside0.mk hg_; clear hbox_ hb_ hg_) | ((with_reducible refine gate_dst (N := 3) rfl ?_); refine box_event ?hg (N := 3) ?hd (cs := #[.int .i64 a0_0, .slice A1_1 l0_1.length c1_1, .slice A1_2 l0_2.length c1_2, .int .i64 a0_3, .int .i64 a0_4, .int .i64 a0_5, .int .i64 a0_6]) (t := 27) ?hr ?_; (case hd => rfl); (case hg => rfl); (case hr => first | (go_simp; done) | (go_simp; rfl)); intro gb hg_ w2 hbox_ hb_; have HX_gb := Aside0.mk hbox_; have HB_w2 := Aside0.mk hb_; have HG_gb := Aside0.mk hg_; clear hbox_ hb_ hg_; have HB := Aside0.mk (below_step HB_w1.out HB_w2.out); have HA := Aside0.mk (blk_below HX_ga.out HB_w2.out); obtain ⟨b0, b1, b2, b3, b4, b5, b6⟩ := cells7 HA.out; obtain ⟨d0, d1, d2, d3, d4, d5, d6⟩ := cells7 HX_gb.out) | (go_at_call 39; refine (laws_eqGateS.calls (hr0 := Kd.C_below HR0.out HB.out) (hc0 := HC0.out) (hr1 := Kd.C_below HR2.out HB.out) (hc1 := HC2.out) (h := HG.out)).mono ?_; rintro e w3 ⟨rfl, hb⟩; clear b0 b1 b2 b3 b4 b5 b6 d0 d1 d2 d3 d4 d5 d6; have HB3 := Aside0.mk (below_step HB.out hb); obtain ⟨b0, b1, b2, b3, b4, b5, b6⟩ := cells7 (blk_below HA.out hb); obtain ⟨d0, d1, d2, d3, d4, d5, d6⟩ := cells7 (blk_below HX_gb.out hb); clear hb) | (go_at_call 15; refine (laws_eqInt64S.calls (hr0 := Kd.C_below HR1.out HB3.out) (hc0 := HC1.out) (hr1 := Kd.C_below HR3.out HB3.out) (hc1 := HC3.out) (h := HE.out)).mono ?_; rintro e w' ⟨rfl, ⟨nd, rfl⟩⟩))
  go_ret
  exact ⟨rfl, pw_below_drewN HB3.out nd⟩
 ·simp at h

end Go.Proofs.Ytbkofbcmhddbfaa.Pa
