-- Written for this claim by a program of this session.
import Derived.Test.YtbkofbcmhddbfaaFPax0
import Derived.Test.YtbkofbcmhddbfaaFCoreF1
import Derived.Test.YtbkofbcmhddbfaaFCoreF6
import Derived.Test.YtbkofbcmhddbfaaFCoreF7
import Derived.Test.YtbkofbcmhddbfaaFCoreF4
import Derived.Test.YtbkofbcmhddbfaaFKFPaxf15
import Derived.Test.YtbkofbcmhddbfaaFKFPaxf52
import Derived.Test.YtbkofbcmhddbfaaFKFPaxf16
import Derived.Test.YtbkofbcmhddbfaaFKFPaxf18
import Derived.Test.YtbkofbcmhddbfaaFKFPaxf17
import Derived.Test.YtbkofbcmhddbfaaFKFPaxf19
import Derived.Test.YtbkofbcmhddbfaaFKFPaxaown
import Derived.Test.YtbkofbcmhddbfaaFKFPaxaheld
namespace Go.Proofs.Ytbkofbcmhddbfaa.Pa
open Go.RowKit Go.Proofs.YtbkofbcmhddbfaaW.PrintWords Go.Proofs.YtbkofbcmhddbfaaW.PrintLast Go.Proofs.YtbkofbcmhddbfaaW.PrintMore
attribute [local go_sem] max2_int min2_int max_two min_two max_three min_three max_four min_four   -- for this text's walks alone
set_option linter.unusedVariables false
set_option linter.unusedSimpArgs false

/-! ### laws_FnExactLongestPath: function 4 -/
/-- What the law computes where it holds. -/
def laws_FnExactLongestPath.f (k : Nat) (a0_0 : Int) (l0_1 : List (S86)) (l0_2 : List Int) (a0_3 a0_4 a0_5 a0_6 : Int) (a1 : Int) (a2 : Int) : Option Bool := (laws_szCircuit.f k a0_0 l0_1 l0_2 a0_3 a0_4 a0_5 a0_6 1048576).bind fun t => if t < 0 then some true else (laws_toCircuit.f k a0_0 l0_1 l0_2 a0_3 a0_4 a0_5 a0_6).bind fun b => (spec_LongestPath.f k b.1 b.2.1 b.2.2.1 b.2.2.2.1 b.2.2.2.2.1 b.2.2.2.2.2.1 b.2.2.2.2.2.2 a1 a2).bind fun v => (impl_LongestPath.f k b.1 b.2.1 b.2.2.1 b.2.2.2.1 b.2.2.2.2.1 b.2.2.2.2.2.1 b.2.2.2.2.2.2 a1 a2).bind fun u => if u = v ∧ b.2.1.length ≤ 1048576 ∧ (∀ g ∈ b.2.1, g.f2.length ≤ 1048576) ∧ b.2.2.1.length ≤ 1048576 ∧ v.1.length ≤ 1048576 then some true else none
set_option maxHeartbeats 8000000 in
set_option maxRecDepth 100000 in
theorem laws_FnExactLongestPath.calls (k : Nat) (a0_0 : Int) (A0_1 : Option Addr) (c0_1 : Nat) (l0_1 : List (S86)) (A0_2 : Option Addr) (c0_2 : Nat) (l0_2 : List Int) (a0_3 : Int) (a0_4 : Int) (a0_5 : Int) (a0_6 : Int) (a1 : Int) (a2 : Int) (r : Bool) (w : World) (hr0_1 : Kd.C k86 w A0_1 l0_1.length l0_1) (hc0_1 : l0_1.length ≤ c0_1) (hr0_2 : Kd.C (Kd.int .i64) w A0_2 l0_2.length l0_2) (hc0_2 : l0_2.length ≤ c0_2) (h : laws_FnExactLongestPath.f k a0_0 l0_1 l0_2 a0_3 a0_4 a0_5 a0_6 a1 a2 = some r) :
  Calls Try.prog 4 #[.agg #[.int .i64 a0_0, .slice A0_1 l0_1.length c0_1, .slice A0_2 l0_2.length c0_2, .int .i64 a0_3, .int .i64 a0_4, .int .i64 a0_5, .int .i64 a0_6], .int .i64 a1, .int .i64 a2] w fun e w' => e = .returned (.bool r) ∧ Below w.heap.size w w' := by
 have hu := Try.underlying40
 have hu2 := Try.underlying27
 have HR1 := Aside0.mk hr0_1
 have HC1 := Aside0.mk hc0_1
 have HR2 := Aside0.mk hr0_2
 have HC2 := Aside0.mk hc0_2
 clear hr0_1 hc0_1 hr0_2 hc0_2
 unfold laws_FnExactLongestPath.f at h
 replace h := Option.bind_eq_some_iff.mp h
 obtain ⟨t, ht, h⟩ := h
 have HT := Aside0.mk ht
 clear ht
 replace h : (if t < 0 then some true else _) = some r := h
 by_cases hn : t < 0
 ·rw [if_pos hn] at h
  obtain rfl := Option.some.inj h
  have d3 : decide (t < 0) = true := decide_eq_true hn
  clear h hn
  go_enter Try.func4, Try.ntmps4
  go_wp2_with (first | ((with_reducible refine gate_dst (N := 3) rfl ?_); refine box_event ?hg (N := 3) ?hd (cs := #[.int .i64 a0_0, .slice A0_1 l0_1.length c0_1, .slice A0_2 l0_2.length c0_2, .int .i64 a0_3, .int .i64 a0_4, .int .i64 a0_5, .int .i64 a0_6]) (t := 40) ?hr ?_; (case hd => rfl); (case hg => rfl); (case hr => first | (go_simp; done) | (go_simp; rfl)); intro gb hg_ w1 hbox_ hb_; have HX_gb := Aside0.mk hbox_; have HB_w1 := Aside0.mk hb_; have HG_gb := Aside0.mk hg_; clear hbox_ hb_ hg_; obtain ⟨b0, b1, b2, b3, b4, b5, b6⟩ := cells7 HX_gb.out) | (go_at_call 12; refine (laws_szCircuit.calls (hr0_1 := Kd.C_below HR1.out HB_w1.out) (hc0_1 := HC1.out) (hr0_2 := Kd.C_below HR2.out HB_w1.out) (hc0_2 := HC2.out) (h := HT.out)).mono ?_; rintro e w2 ⟨rfl, hb⟩; have HB := Aside0.mk (below_step HB_w1.out hb); have HX := Aside0.mk (blk_below HX_gb.out hb); clear hb b0 b1 b2 b3 b4 b5 b6; obtain ⟨b0, b1, b2, b3, b4, b5, b6⟩ := cells7 HX.out))
  go_ret
  exact ⟨rfl, HB.out⟩
 rw [if_neg hn] at h
 have d3 : decide (t < 0) = false := decide_eq_false hn
 clear hn
 replace h := Option.bind_eq_some_iff.mp h
 obtain ⟨⟨n, gs, ds, q3, q4, q5, q6⟩, hc, h⟩ := h
 replace h := Option.bind_eq_some_iff.mp h
 obtain ⟨⟨rs, rb⟩, hv, h⟩ := h
 replace h := Option.bind_eq_some_iff.mp h
 obtain ⟨u, hu', h⟩ := h
 dsimp only at h hv hu'
 split at h
 case isFalse => exact absurd h (by simp)
 rename_i hq
 obtain ⟨rfl, hl1, hl2, hl3, hl4⟩ := hq
 obtain rfl := Option.some.inj h
 have HTO := Aside0.mk hc
 have HV := Aside0.mk hv
 have HU := Aside0.mk hu'
 have HL1 := Aside0.mk hl1
 have HL2 := Aside0.mk hl2
 have HL3 := Aside0.mk hl3
 have HL4 := Aside0.mk hl4
 have HE := Aside0.mk (show laws_eqCircuit.f n gs ds q3 q4 q5 q6 n gs ds q3 q4 q5 q6 = some true from if_pos ⟨rfl, rfl, rfl, rfl, rfl, rfl, rfl⟩)
 have HQ := Aside0.mk (eqInts rs (by omega))
 clear h hc hv hu' hl1 hl2 hl3 hl4
 go_enter Try.func4, Try.ntmps4
 go_wp2_with (first | ((with_reducible refine gate_dst (N := 3) rfl ?_); refine box_event ?hg (N := 3) ?hd (cs := #[.int .i64 a0_0, .slice A0_1 l0_1.length c0_1, .slice A0_2 l0_2.length c0_2, .int .i64 a0_3, .int .i64 a0_4, .int .i64 a0_5, .int .i64 a0_6]) (t := 40) ?hr ?_; (case hd => rfl); (case hg => rfl); (case hr => first | (go_simp; done) | (go_simp; rfl)); intro gb hg_ w1 hbox_ hb_; have HX_gb := Aside0.mk hbox_; have HB_w1 := Aside0.mk hb_; have HG_gb := Aside0.mk hg_; clear hbox_ hb_ hg_; obtain ⟨b0, b1, b2, b3, b4, b5, b6⟩ := cells7 HX_gb.out) | (go_at_call 12; refine (laws_szCircuit.calls (hr0_1 := Kd.C_below HR1.out HB_w1.out) (hc0_1 := HC1.out) (hr0_2 := Kd.C_below HR2.out HB_w1.out) (hc0_2 := HC2.out) (h := HT.out)).mono ?_; rintro e w2 ⟨rfl, hb⟩; have HB := Aside0.mk (below_step HB_w1.out hb); have HX := Aside0.mk (blk_below HX_gb.out hb); clear hb b0 b1 b2 b3 b4 b5 b6; obtain ⟨b0, b1, b2, b3, b4, b5, b6⟩ := cells7 HX.out))
 refine (laws_toCircuit.calls (hr0_1 := Kd.C_below HR1.out HB.out) (hc0_1 := HC1.out) (hr0_2 := Kd.C_below HR2.out HB.out) (hc0_2 := HC2.out) (h := HTO.out)).mono ?_
 rintro e wa ⟨v1_, v2_, rfl, hs1, hs2, hb⟩; obtain ⟨A1_a, c1_a, rfl⟩ := Kd.S_slice hs1; obtain ⟨A2_a, c2_a, rfl⟩ := Kd.R_slice hs2
 have P1_a := Aside0.mk (Kd.S_reads' hs1).2.2; have Q1_a := Aside0.mk (Kd.S_reads' hs1).2.1; have P2_a := Aside0.mk (Kd.R_reads' hs2).2.2; have Q2_a := Aside0.mk (Kd.R_reads' hs2).2.1
 clear hs1 hs2
 replace HB := bB HB hb; replace HX := xB HX hb; clear hb
 go_wp2_with (fail)
 refine (spec_LongestPath.calls (hr0_1 := P1_a.out) (hc0_1 := Q1_a.out) (hr0_2 := P2_a.out) (hc0_2 := Q2_a.out) (h := HV.out)).mono ?_
 rintro e wc ⟨v4_, rfl, hs4, hb⟩; obtain ⟨A4, c4, rfl⟩ := Kd.R_slice hs4; have RS := Aside0.mk (R_range (N0 := w.heap.size) hs4 HB.out.size)
 clear hs4 P1_a P2_a Q1_a Q2_a
 replace HB := bB HB hb; replace HX := xB HX hb; clear b0 b1 b2 b3 b4 b5 b6; obtain ⟨b0, b1, b2, b3, b4, b5, b6⟩ := cells7 HX.out; clear hb
 have ZG := Aside0.mk (blk_lt HX.out)
 go_wp2_with (fail)
 refine (laws_toCircuit.calls (hr0_1 := Kd.C_below HR1.out HB.out) (hc0_1 := HC1.out) (hr0_2 := Kd.C_below HR2.out HB.out) (hc0_2 := HC2.out) (h := HTO.out)).mono ?_
 rintro e wd ⟨v1_, v2_, rfl, hs1, hs2, hb⟩; obtain ⟨A1_d, c1_d, rfl⟩ := Kd.S_slice hs1; obtain ⟨A2_d, c2_d, rfl⟩ := Kd.R_slice hs2
 have S1 := Aside0.mk (S_range (N0 := w.heap.size) hs1 HB.out.size); have R2 := Aside0.mk (R_range (N0 := w.heap.size) hs2 HB.out.size)
 clear hs1 hs2
 have Z2 := Aside0.mk hb.size
 replace RS := rB RS hb; replace HB := bB HB hb; replace HX := xB HX hb; clear hb
 go_wp2_with (fail)
 obtain ⟨wx, hwx⟩ : ∃ z, z = wd.alloc (.cells #[.int .i64 n, .slice A1_d gs.length c1_d, .slice A2_d ds.length c2_d, .int .i64 q3, .int .i64 q4, .int .i64 q5, .int .i64 q6] 27) := ⟨_, rfl⟩
 rw [← hwx]
 have hb : Below wd.heap.size wd wx := by rw [hwx]; exact below_alloc (Below.refl _ _) _
 have HY : Aside0 (wx.heap[wd.heap.size]? = some (.cells #[.int .i64 n, .slice A1_d gs.length c1_d, .slice A2_d ds.length c2_d, .int .i64 q3, .int .i64 q4, .int .i64 q5, .int .i64 q6] 27)) := ⟨by rw [hwx]; simpa using heap_alloc_new wd _⟩
 clear hwx
 have Z3 := Aside0.mk hb.size
 have ZD := Aside0.mk hb.size
 replace RS := rB RS hb; replace R2 := rB R2 hb; replace S1 := Aside0.mk (Kd.S_below S1.out hb); replace HB := bB HB hb; replace HX := xB HX hb; clear hb
 obtain ⟨d0_, d1_, d2_, d3_, d4_, d5_, d6_⟩ := cells7 HY.out
 obtain ⟨gx, hgx⟩ : ∃ z, z = wd.heap.size := ⟨_, rfl⟩
 rw [← hgx] at HY d0_ d1_ d2_ d3_ d4_ d5_ d6_ ⊢
 clear hgx
 refine (impl_LongestPath.calls (hr0_1 := (Kd.S_reads' S1.out).2.2) (hc0_1 := (Kd.S_reads' S1.out).2.1) (hr0_2 := (Kd.R_reads' R2.out).2.2) (hc0_2 := (Kd.R_reads' R2.out).2.1) (h := HU.out)).mono ?_
 rintro e wf ⟨v5_, rfl, hs5, hb⟩; obtain ⟨A5, c5, rfl⟩ := Kd.R_slice hs5; have RG := Aside0.mk (R_range (N0 := w.heap.size) hs5 HB.out.size); clear hs5
 have Z5 := Aside0.mk hb.size
 replace ZD := Aside0.mk (Nat.le_trans ZD.out hb.size)
 replace RS := rB RS hb; replace R2 := rB R2 hb; replace S1 := Aside0.mk (Kd.S_below S1.out hb); replace HB := bB HB hb; replace HX := xB HX hb; replace HY := xB HY hb; clear hb
 go_wp2_with (fail)
 refine (laws_eqInt64S.calls (hr0 := (Kd.R_reads' RG.out).2.2) (hc0 := (Kd.R_reads' RG.out).2.1) (hr1 := (Kd.R_reads' RS.out).2.2) (hc1 := (Kd.R_reads' RS.out).2.1) (h := HQ.out)).mono ?_
 rintro e wg ⟨rfl, hd⟩; have hb := drawn_below hd; clear hd
 replace ZD := Aside0.mk (Nat.le_trans ZD.out hb.size)
 replace RS := rB RS hb; replace R2 := rB R2 hb; replace RG := rB RG hb; replace S1 := Aside0.mk (Kd.S_below S1.out hb); replace HB := bB HB hb; replace HX := xB HX hb; clear b0 b1 b2 b3 b4 b5 b6; obtain ⟨b0, b1, b2, b3, b4, b5, b6⟩ := cells7 HX.out; replace HY := xB HY hb; clear d0_ d1_ d2_ d3_ d4_ d5_ d6_; obtain ⟨d0_, d1_, d2_, d3_, d4_, d5_, d6_⟩ := cells7 HY.out; clear hb
 go_wp2_with (fail)
 go_region_held3 (fun w' => Aside0 (Below wg.heap.size wg w') ∧ w'.cell? ⟨gx, 0, none⟩ = some (.int .i64 n) ∧ w'.cell? ⟨gx, 1, none⟩ = some (.slice A1_d gs.length c1_d) ∧ w'.cell? ⟨gx, 2, none⟩ = some (.slice A2_d ds.length c2_d) ∧ w'.cell? ⟨gx, 3, none⟩ = some (.int .i64 q3) ∧ w'.cell? ⟨gx, 4, none⟩ = some (.int .i64 q4) ∧ w'.cell? ⟨gx, 5, none⟩ = some (.int .i64 q5) ∧ w'.cell? ⟨gx, 6, none⟩ = some (.int .i64 q6) ∧ w'.cell? ⟨gb, 0, none⟩ = some (.int .i64 a0_0) ∧ w'.cell? ⟨gb, 1, none⟩ = some (.slice A0_1 l0_1.length c0_1) ∧ w'.cell? ⟨gb, 2, none⟩ = some (.slice A0_2 l0_2.length c0_2) ∧ w'.cell? ⟨gb, 3, none⟩ = some (.int .i64 a0_3) ∧ w'.cell? ⟨gb, 4, none⟩ = some (.int .i64 a0_4) ∧ w'.cell? ⟨gb, 5, none⟩ = some (.int .i64 a0_5) ∧ w'.cell? ⟨gb, 6, none⟩ = some (.int .i64 a0_6)) ((first | exact ⟨⟨below_drew (Below.refl _ _)⟩, d0_, d1_, d2_, d3_, d4_, d5_, d6_, b0, b1, b2, b3, b4, b5, b6⟩ | (obtain ⟨z_, z0, z1, z2, z3, z4, z5, z6, z7, z8, z9, z10, z11, z12, z13⟩ := ‹Aside0 (Below wg.heap.size wg _) ∧ _›; exact ⟨⟨below_step (by repeat (first | exact z_.out | apply below_drew)) hb'⟩, pw_cell_below hb' z0, pw_cell_below hb' z1, pw_cell_below hb' z2, pw_cell_below hb' z3, pw_cell_below hb' z4, pw_cell_below hb' z5, pw_cell_below hb' z6, pw_cell_below hb' z7, pw_cell_below hb' z8, pw_cell_below hb' z9, pw_cell_below hb' z10, pw_cell_below hb' z11, pw_cell_below hb' z12, pw_cell_below hb' z13⟩))) ((first | (go_at_call 14; refine (laws_toCircuit.calls (hr0_1 := Kd.C_below HR1.out (below_step HB.out (by obtain ⟨z_, _⟩ := ‹Aside0 (Below wg.heap.size wg _) ∧ _›; repeat (first | exact z_.out | apply below_drew)))) (hc0_1 := HC1.out) (hr0_2 := Kd.C_below HR2.out (below_step HB.out (by obtain ⟨z_, _⟩ := ‹Aside0 (Below wg.heap.size wg _) ∧ _›; repeat (first | exact z_.out | apply below_drew)))) (hc0_2 := HC2.out) (h := HTO.out)).mono ?_; rintro e w' ⟨v1_, v2_, rfl, hs1, hs2, hb'⟩; obtain ⟨A1_g, c1_g, rfl⟩ := Kd.S_slice hs1; obtain ⟨A2_g, c2_g, rfl⟩ := Kd.R_slice hs2; have P1_g := Aside0.mk (Kd.S_reads' hs1).2.2; have Q1_g := Aside0.mk (Kd.S_reads' hs1).2.1; have P2_g := Aside0.mk (Kd.R_reads' hs2).2.2; have Q2_g := Aside0.mk (Kd.R_reads' hs2).2.1; clear hs1 hs2) | (go_at_call 16; refine (laws_eqCircuit.calls (hr0_1 := Kd.C_below (Kd.S_reads' S1.out).2.2 (by obtain ⟨z_, _⟩ := ‹Aside0 (Below wg.heap.size wg _) ∧ _›; repeat (first | exact z_.out | apply below_drew))) (hc0_1 := (Kd.S_reads' S1.out).2.1) (hr0_2 := Kd.C_below (Kd.R_reads' R2.out).2.2 (by obtain ⟨z_, _⟩ := ‹Aside0 (Below wg.heap.size wg _) ∧ _›; repeat (first | exact z_.out | apply below_drew))) (hc0_2 := (Kd.R_reads' R2.out).2.1) (hr1_1 := (by repeat (first | exact P1_g.out | (with_reducible refine Kd.C_drewN ?_ _) | (with_reducible refine Kd.C_drew ?_)))) (hc1_1 := Q1_g.out) (hr1_2 := (by repeat (first | exact P2_g.out | (with_reducible refine Kd.C_drewN ?_ _) | (with_reducible refine Kd.C_drew ?_)))) (hc1_2 := Q2_g.out) (h := HE.out)).mono ?_; rintro e w' ⟨rfl, hb'⟩)))
 obtain ⟨z_, _⟩ := ‹Aside0 (Below wg.heap.size wg _) ∧ _›
 have hb := z_.out
 clear z_
 replace ZD := Aside0.mk (Nat.le_trans ZD.out hb.size)
 replace RS := rB RS hb; replace R2 := rB R2 hb; replace RG := rB RG hb; replace S1 := Aside0.mk (Kd.S_below S1.out hb); replace HB := bB HB hb; replace HX := xB HX hb; replace HY := xB HY hb; clear d0_ d1_ d2_ d3_ d4_ d5_ d6_; obtain ⟨d0_, d1_, d2_, d3_, d4_, d5_, d6_⟩ := cells7 HY.out; clear hb
 go_wp2_with (fail)
 refine (markCirc (fun b => wc.heap.size ≤ b ∧ b < wd.heap.size) (.slice A1_d gs.length c1_d) (.slice A2_d ds.length c2_d) n q3 q4 q5 q6 gs ds w _ HB.out S1.out R2.out (fun b hb => Nat.lt_of_lt_of_le hb.2 ZD.out) HL1.out HL2.out HL3.out).mono ?_
 rintro e wj ⟨r0, rfl, hr0, hB, hK⟩
 have HR0 := Aside0.mk hr0; clear hr0
 clear S1 R2 HY d0_ d1_ d2_ d3_ d4_ d5_ d6_
 replace RS := rK RS hK (fun b h h' => by have z2 := Z2.out; have z3 := Z3.out; have z5 := Z5.out; omega)
 replace RG := rK RG hK (fun b h h' => by have z2 := Z2.out; have z3 := Z3.out; have z5 := Z5.out; omega)
 replace HX := xK HX hK (fun h => by have z1 := ZG.out; have z2 := Z2.out; have z3 := Z3.out; have z5 := Z5.out; omega)
 replace HB := Aside0.mk hB; clear hB hK
 have dk : decide (r0 < 0) = false := decide_eq_false (by have := HR0.out; omega)
 go_wp2_with (fail)
 refine (laws_eqInt64S.calls (hr0 := (Kd.R_reads' RG.out).2.2) (hc0 := (Kd.R_reads' RG.out).2.1) (hr1 := (Kd.R_reads' RS.out).2.2) (hc1 := (Kd.R_reads' RS.out).2.1) (h := HQ.out)).mono ?_
 rintro e wl ⟨rfl, hd⟩; have hb := drawn_below hd; clear hd
 replace RS := rB RS hb; replace RG := rB RG hb; replace HB := bB HB hb; replace HX := xB HX hb; clear hb
 obtain ⟨l2', hl2', hm2, hh2⟩ := marks_held rs HL4.out
 obtain ⟨mm, emm, hmm⟩ : ∃ z, 1 + (rs.length : Int) = z ∧ ¬ z < 0 := ⟨_, rfl, by omega⟩
 rw [emm] at hm2 hh2
 have dm : decide (mm < 0) = false := decide_eq_false hmm
 have HLE := Aside0.mk hl2'; have HM2 := Aside0.mk hm2; have HH2 := Aside0.mk hh2; clear hl2' hm2 hh2 hmm emm
 go_wp2_with (fail)
 refine (laws_markInt64S.calls (w0 := w) (hB := HB.out) (ho0 := RG.out) (h := HM2.out)).mono ?_
 rintro e wm ⟨rfl, hR, hB, hK⟩
 replace RG := Aside0.mk hR; clear hR
 replace RS := rK RS hK (fun b h h' => by have z2 := Z2.out; have z3 := Z3.out; have z5 := Z5.out; omega)
 replace HX := xK HX hK (fun h => by have z1 := ZG.out; have z2 := Z2.out; have z3 := Z3.out; have z5 := Z5.out; omega)
 replace HB := Aside0.mk hB; clear hB hK
 go_wp2_with (fail)
 have hh := laws_heldInt64S.calls (hr0 := (Kd.R_reads' RG.out).2.2) (hc0 := Nat.le_trans (Nat.le_of_eq HLE.out) (by have h := (Kd.R_reads' RG.out).2.1; exact h)) (h := HH2.out)
 rw [HLE.out] at hh
 refine hh.mono ?_
 clear hh
 rintro e wn ⟨rfl, hd⟩; have hb := drawn_below hd; clear hd
 replace RS := rB RS hb; replace RG := rB RG hb; replace HB := bB HB hb; replace HX := xB HX hb; clear b0 b1 b2 b3 b4 b5 b6; obtain ⟨b0, b1, b2, b3, b4, b5, b6⟩ := cells7 HX.out; clear hb
 go_wp2_with (fail)
 refine (laws_toCircuit.calls (hr0_1 := Kd.C_below HR1.out HB.out) (hc0_1 := HC1.out) (hr0_2 := Kd.C_below HR2.out HB.out) (hc0_2 := HC2.out) (h := HTO.out)).mono ?_
 rintro e wo ⟨v1_, v2_, rfl, hs1, hs2, hb⟩; obtain ⟨A1_o, c1_o, rfl⟩ := Kd.S_slice hs1; obtain ⟨A2_o, c2_o, rfl⟩ := Kd.R_slice hs2
 have P1_o := Aside0.mk (Kd.S_reads' hs1).2.2; have Q1_o := Aside0.mk (Kd.S_reads' hs1).2.1; have P2_o := Aside0.mk (Kd.R_reads' hs2).2.2; have Q2_o := Aside0.mk (Kd.R_reads' hs2).2.1
 clear hs1 hs2
 replace RS := rB RS hb; replace RG := rB RG hb; replace HB := bB HB hb; replace HX := xB HX hb; clear hb
 go_wp2_with (fail)
 refine (impl_LongestPath.calls (hr0_1 := P1_o.out) (hc0_1 := Q1_o.out) (hr0_2 := P2_o.out) (hc0_2 := Q2_o.out) (h := HU.out)).mono ?_
 rintro e wq ⟨v6_, rfl, hs6, hb⟩; obtain ⟨A6, c6, rfl⟩ := Kd.R_slice hs6; have RH := Aside0.mk hs6; clear hs6 P1_o P2_o Q1_o Q2_o
 replace RS := rB RS hb; replace RG := rB RG hb; replace HB := bB HB hb; replace HX := xB HX hb; clear hb
 go_wp2_with (fail)
 refine (laws_eqInt64S.calls (hr0 := (Kd.R_reads' RH.out).2.2) (hc0 := (Kd.R_reads' RH.out).2.1) (hr1 := (Kd.R_reads' RS.out).2.2) (hc1 := (Kd.R_reads' RS.out).2.1) (h := HQ.out)).mono ?_
 rintro e wr ⟨rfl, hd⟩; have hb := drawn_below hd; clear hd
 clear RH
 replace RS := rB RS hb; replace RG := rB RG hb; replace HB := bB HB hb; replace HX := xB HX hb; clear hb
 go_wp2_with (fail)
 have hh := laws_heldInt64S.calls (hr0 := (Kd.R_reads' RG.out).2.2) (hc0 := Nat.le_trans (Nat.le_of_eq HLE.out) (by have h := (Kd.R_reads' RG.out).2.1; exact h)) (h := HH2.out)
 rw [HLE.out] at hh
 refine hh.mono ?_
 clear hh
 rintro e ws ⟨rfl, hd⟩; have hb := drawn_below hd; clear hd
 replace HB := bB HB hb; replace HX := xB HX hb; clear hb
 go_wp2
 go_ret
 exact ⟨rfl, HB.out⟩

/-- THE ONE PURE STATEMENT of laws_FnExactLongestPath: yours. -/
def laws_FnExactLongestPath.Pure : Prop := ∀ (a0_0 : Int) (l0_1 : List (S86)) (l0_2 : List Int) (a0_3 : Int) (a0_4 : Int) (a0_5 : Int) (a0_6 : Int) (a1 : Int) (a2 : Int), (Lit.int .i64 a0_0).wf = true → (l0_1.length ≤ 9223372036854775807 ∧ ∀ y_ ∈ l0_1, ((Lit.int .i64 y_.f0).wf = true ∧ (Lit.int .i64 y_.f1).wf = true ∧ (y_.f2.length ≤ 9223372036854775807 ∧ ∀ x_ ∈ y_.f2, (Lit.int .i64 x_).wf = true))) → (l0_2.length ≤ 9223372036854775807 ∧ ∀ x_ ∈ l0_2, (Lit.int .i64 x_).wf = true) → (Lit.int .i64 a0_3).wf = true → (Lit.int .i64 a0_4).wf = true → (Lit.int .i64 a0_5).wf = true → (Lit.int .i64 a0_6).wf = true → (Lit.int .i64 a1).wf = true → (Lit.int .i64 a2).wf = true → ∃ k, laws_FnExactLongestPath.f k a0_0 l0_1 l0_2 a0_3 a0_4 a0_5 a0_6 a1 a2 = some true

end Go.Proofs.Ytbkofbcmhddbfaa.Pa
