-- Written for this claim by a program of this session.
import Derived.Test.YtalafmahgeejiaaXPax0
import Derived.Test.YtalafmahgeejiaaXCoreP1
import Derived.Test.YtalafmahgeejiaaXCoreP8
import Derived.Test.YtalafmahgeejiaaXCoreP7
import Derived.Test.YtalafmahgeejiaaXCoreP6
import Derived.Test.YtalafmahgeejiaaXKPPaxf26
import Derived.Test.YtalafmahgeejiaaXKPPaxamarks
import Derived.Test.YtalafmahgeejiaaXKPPaxf25
import Derived.Test.YtalafmahgeejiaaXKPPaxf27
import Derived.Test.YtalafmahgeejiaaXKPPaxaown
import Derived.Test.YtalafmahgeejiaaXKPPaxamarkV
import Derived.Test.YtalafmahgeejiaaXKPPaxaheldV
namespace Go.Proofs.Ytalafmahgeejiaa.Pa
open Go.RowKit Go.Proofs.YtalafmahgeejiaaW.PrintWords Go.Proofs.YtalafmahgeejiaaW.PrintLast Go.Proofs.YtalafmahgeejiaaW.PrintMore
attribute [local go_sem] max2_int min2_int max_two min_two max_three min_three max_four min_four   -- for this text's walks alone
set_option linter.unusedVariables false
set_option linter.unusedSimpArgs false

/-! ### laws_FnExactPadCircuit: function 5 -/
/-- What the law computes where it holds. -/
def laws_FnExactPadCircuit.f (k : Nat) (a0_0 : Int) (l0_1 : List (S89)) (l0_2 : List Int) (a0_3 a0_4 a0_5 a0_6 : Int) (l1 : List Int) : Option Bool := if (l1.length : Int) > 1048576 then some true else (laws_szCircuit.f k a0_0 l0_1 l0_2 a0_3 a0_4 a0_5 a0_6 1048576).bind fun t => if t < 0 then some true else (laws_toCircuit.f k a0_0 l0_1 l0_2 a0_3 a0_4 a0_5 a0_6).bind fun b => (laws_toInt64S.f k l1).bind fun s => (spec_PadCircuit.f k b.1 b.2.1 b.2.2.1 b.2.2.2.1 b.2.2.2.2.1 b.2.2.2.2.2.1 b.2.2.2.2.2.2 s).bind fun v => (impl_PadCircuit.f k b.1 b.2.1 b.2.2.1 b.2.2.2.1 b.2.2.2.2.1 b.2.2.2.2.2.1 b.2.2.2.2.2.2 s).bind fun u =>  if u.1 = v.1 ∧ u.2.1 = v.2.1 ∧ u.2.2.1 = v.2.2.1 ∧ u.2.2.2.1 = v.2.2.2.1 ∧ u.2.2.2.2.1 = v.2.2.2.2.1 ∧ u.2.2.2.2.2.1 = v.2.2.2.2.2.1 ∧ u.2.2.2.2.2.2.1 = v.2.2.2.2.2.2.1 ∧ u.2.2.2.2.2.2.2 = v.2.2.2.2.2.2.2 then if b.2.1.length ≤ 1048576 ∧ (∀ g ∈ b.2.1, g.f2.length ≤ 1048576) ∧ b.2.2.1.length ≤ 1048576 ∧ s.length ≤ 1048576 ∧ v.2.1.length ≤ 1048576 ∧ (∀ g ∈ v.2.1, g.f2.length ≤ 1048576) ∧ v.2.2.1.length ≤ 1048576 then some true else none else none
set_option maxHeartbeats 8000000 in
set_option maxRecDepth 100000 in
theorem laws_FnExactPadCircuit.calls (k : Nat) (a0_0 : Int) (A0_1 : Option Addr) (c0_1 : Nat) (l0_1 : List (S89)) (A0_2 : Option Addr) (c0_2 : Nat) (l0_2 : List Int) (a0_3 : Int) (a0_4 : Int) (a0_5 : Int) (a0_6 : Int) (A1 : Option Addr) (c1 : Nat) (l1 : List Int) (r : Bool) (w : World) (hr0_1 : Kd.C k89 w A0_1 l0_1.length l0_1) (hc0_1 : l0_1.length ≤ c0_1) (hr0_2 : Kd.C (Kd.int .i64) w A0_2 l0_2.length l0_2) (hc0_2 : l0_2.length ≤ c0_2) (hr1 : Kd.C (Kd.int .i64) w A1 l1.length l1) (hc1 : l1.length ≤ c1) (h : laws_FnExactPadCircuit.f k a0_0 l0_1 l0_2 a0_3 a0_4 a0_5 a0_6 l1 = some r) :
  Calls Try.prog 5 #[.agg #[.int .i64 a0_0, .slice A0_1 l0_1.length c0_1, .slice A0_2 l0_2.length c0_2, .int .i64 a0_3, .int .i64 a0_4, .int .i64 a0_5, .int .i64 a0_6], .slice A1 l1.length c1] w fun e w' => e = .returned (.bool r) ∧ Below w.heap.size w w' := by
 have hu := Try.underlying25
 have hu2 := Try.underlying30
 have HR1 := Aside0.mk hr0_1
 have HC1 := Aside0.mk hc0_1
 have HR2 := Aside0.mk hr0_2
 have HC2 := Aside0.mk hc0_2
 have HR3 := Aside0.mk hr1
 have HC3 := Aside0.mk hc1
 have hlen3 : l1.length ≤ 9223372036854775807 := hr1.2.1
 clear hr0_1 hc0_1 hr0_2 hc0_2 hr1 hc1
 unfold laws_FnExactPadCircuit.f at h
 by_cases hl : (l1.length : Int) > 1048576
 ·rw [if_pos hl] at h
  obtain rfl := Option.some.inj h
  have d1 : decide ((1048576 : Int) < (l1.length : Int)) = true := decide_eq_true hl
  have d2 : decide (1048576 < l1.length) = true := decide_eq_true (by omega)
  clear h hl
  go_enter Try.func5, Try.ntmps5
  go_wp2_with (((with_reducible refine gate_dst (N := 2) rfl ?_); refine box_event ?hg (N := 2) ?hd (cs := #[.int .i64 a0_0, .slice A0_1 l0_1.length c0_1, .slice A0_2 l0_2.length c0_2, .int .i64 a0_3, .int .i64 a0_4, .int .i64 a0_5, .int .i64 a0_6]) (t := 25) ?hr ?_; (case hd => rfl); (case hg => rfl); (case hr => first | (go_simp; done) | (go_simp; rfl)); intro gb hg_ w1 hbox_ hb_; have HX_gb := Aside0.mk hbox_; have HB_w1 := Aside0.mk hb_; have HG_gb := Aside0.mk hg_; clear hbox_ hb_ hg_; obtain ⟨b0, b1, b2, b3, b4, b5, b6⟩ := cells7 HX_gb.out))
  go_ret
  exact ⟨rfl, HB_w1.out⟩
 rw [if_neg hl] at h
 have d1 : decide ((1048576 : Int) < (l1.length : Int)) = false := decide_eq_false hl
 have d2 : decide (1048576 < l1.length) = false := decide_eq_false (by omega)
 clear hl
 replace h := Option.bind_eq_some_iff.mp h
 obtain ⟨t, ht, h⟩ := h
 have HT := Aside0.mk ht
 clear ht
 replace h : (if t < 0 then some true else _) = some r := h
 by_cases hn : t < 0
 ·rw [if_pos hn] at h
  obtain rfl := Option.some.inj h
  have d3 : decide (t < 0) = true := decide_eq_true hn
  clear h hn
  go_enter Try.func5, Try.ntmps5
  go_wp2_with (first | ((with_reducible refine gate_dst (N := 2) rfl ?_); refine box_event ?hg (N := 2) ?hd (cs := #[.int .i64 a0_0, .slice A0_1 l0_1.length c0_1, .slice A0_2 l0_2.length c0_2, .int .i64 a0_3, .int .i64 a0_4, .int .i64 a0_5, .int .i64 a0_6]) (t := 25) ?hr ?_; (case hd => rfl); (case hg => rfl); (case hr => first | (go_simp; done) | (go_simp; rfl)); intro gb hg_ w1 hbox_ hb_; have HX_gb := Aside0.mk hbox_; have HB_w1 := Aside0.mk hb_; have HG_gb := Aside0.mk hg_; clear hbox_ hb_ hg_; obtain ⟨b0, b1, b2, b3, b4, b5, b6⟩ := cells7 HX_gb.out) | (go_at_call 14; refine (laws_szCircuit.calls (hr0_1 := Kd.C_below HR1.out HB_w1.out) (hc0_1 := HC1.out) (hr0_2 := Kd.C_below HR2.out HB_w1.out) (hc0_2 := HC2.out) (h := HT.out)).mono ?_; rintro e w2 ⟨rfl, hb⟩; have HB := Aside0.mk (below_step HB_w1.out hb); have HX := Aside0.mk (blk_below HX_gb.out hb); clear hb b0 b1 b2 b3 b4 b5 b6; obtain ⟨b0, b1, b2, b3, b4, b5, b6⟩ := cells7 HX.out))
  go_ret
  exact ⟨rfl, HB.out⟩
 rw [if_neg hn] at h
 have d3 : decide (t < 0) = false := decide_eq_false hn
 clear hn
 replace h := Option.bind_eq_some_iff.mp h
 obtain ⟨⟨n, gs, ds, q3, q4, q5, q6⟩, hc, h⟩ := h
 replace h := Option.bind_eq_some_iff.mp h
 obtain ⟨s, hs, h⟩ := h
 replace h := Option.bind_eq_some_iff.mp h
 obtain ⟨⟨xn, xg, xd, x3, x4, x5, x6, xb⟩, hv, h⟩ := h
 replace h := Option.bind_eq_some_iff.mp h
 obtain ⟨⟨vn, vg, vd, v3, v4, v5, v6, vb⟩, hu', h⟩ := h
 dsimp only at h hv hu'
 split at h
 case isFalse => exact absurd h (by simp)
 rename_i hq0
 obtain ⟨rfl, rfl, rfl, rfl, rfl, rfl, rfl, rfl⟩ := hq0
 split at h
 case isFalse => exact absurd h (by simp)
 rename_i hq
 obtain ⟨hl1, hl2, hl3, hl4, hl5, hl6, hl7⟩ := hq
 obtain rfl := Option.some.inj h
 have HTO := Aside0.mk hc
 have HS := Aside0.mk hs
 have HV := Aside0.mk hv
 have HU := Aside0.mk hu'
 have HL1 := Aside0.mk hl1
 have HL2 := Aside0.mk hl2
 have HL3 := Aside0.mk hl3
 have HL4 := Aside0.mk hl4
 have HL5 := Aside0.mk hl5
 have HL6 := Aside0.mk hl6
 have HL7 := Aside0.mk hl7
 have HE := Aside0.mk (show laws_eqCircuit.f n gs ds q3 q4 q5 q6 n gs ds q3 q4 q5 q6 = some true from if_pos ⟨rfl, rfl, rfl, rfl, rfl, rfl, rfl⟩)
 have HEV := Aside0.mk (show laws_eqCircuit.f vn vg vd v3 v4 v5 v6 vn vg vd v3 v4 v5 v6 = some true from if_pos ⟨rfl, rfl, rfl, rfl, rfl, rfl, rfl⟩)
 have HQ3 := Aside0.mk (eqInts s (by omega))
 clear h hc hs hv hu' hl1 hl2 hl3 hl4 hl5 hl6 hl7
 go_enter Try.func5, Try.ntmps5
 go_wp2_with (first | ((with_reducible refine gate_dst (N := 2) rfl ?_); refine box_event ?hg (N := 2) ?hd (cs := #[.int .i64 a0_0, .slice A0_1 l0_1.length c0_1, .slice A0_2 l0_2.length c0_2, .int .i64 a0_3, .int .i64 a0_4, .int .i64 a0_5, .int .i64 a0_6]) (t := 25) ?hr ?_; (case hd => rfl); (case hg => rfl); (case hr => first | (go_simp; done) | (go_simp; rfl)); intro gb hg_ w1 hbox_ hb_; have HX_gb := Aside0.mk hbox_; have HB_w1 := Aside0.mk hb_; have HG_gb := Aside0.mk hg_; clear hbox_ hb_ hg_; obtain ⟨b0, b1, b2, b3, b4, b5, b6⟩ := cells7 HX_gb.out) | (go_at_call 14; refine (laws_szCircuit.calls (hr0_1 := Kd.C_below HR1.out HB_w1.out) (hc0_1 := HC1.out) (hr0_2 := Kd.C_below HR2.out HB_w1.out) (hc0_2 := HC2.out) (h := HT.out)).mono ?_; rintro e w2 ⟨rfl, hb⟩; have HB := Aside0.mk (below_step HB_w1.out hb); have HX := Aside0.mk (blk_below HX_gb.out hb); clear hb b0 b1 b2 b3 b4 b5 b6; obtain ⟨b0, b1, b2, b3, b4, b5, b6⟩ := cells7 HX.out))
 clear b0 b1 b2 b3 b4 b5 b6
 refine (laws_toCircuit.calls (hr0_1 := Kd.C_below HR1.out HB.out) (hc0_1 := HC1.out) (hr0_2 := Kd.C_below HR2.out HB.out) (hc0_2 := HC2.out) (h := HTO.out)).mono ?_
 rintro e wa ⟨v1_, v2_, rfl, hs1, hs2, hb⟩; obtain ⟨A1_a, c1_a, rfl⟩ := Kd.S_slice hs1; obtain ⟨A2_a, c2_a, rfl⟩ := Kd.R_slice hs2
 have P1_a := Aside0.mk (Kd.S_reads' hs1).2.2; have Q1_a := Aside0.mk (Kd.S_reads' hs1).2.1; have P2_a := Aside0.mk (Kd.R_reads' hs2).2.2; have Q2_a := Aside0.mk (Kd.R_reads' hs2).2.1
 clear hs1 hs2
 replace HB := bB HB hb; replace HX := xB HX hb; clear hb
 go_wp2_with (fail)
 refine (laws_toInt64S.calls (hr0 := Kd.C_below HR3.out HB.out) (hc0 := HC3.out) (h := HS.out)).mono ?_
 rintro e wb ⟨v3_, rfl, hs3, hb⟩; obtain ⟨A3_b, c3_b, rfl⟩ := Kd.R_slice hs3
 have P3_b := Aside0.mk (Kd.R_reads' hs3).2.2; have Q3_b := Aside0.mk (Kd.R_reads' hs3).2.1
 clear hs3
 replace P1_a := Aside0.mk (Kd.C_below P1_a.out hb); replace P2_a := Aside0.mk (Kd.C_below P2_a.out hb); replace HB := bB HB hb; replace HX := xB HX hb; clear hb
 go_wp2_with (fail)
 refine (spec_PadCircuit.calls (hr0_1 := P1_a.out) (hc0_1 := Q1_a.out) (hr0_2 := P2_a.out) (hc0_2 := Q2_a.out) (hr1 := P3_b.out) (hc1 := Q3_b.out) (h := HV.out)).mono ?_
 rintro e wc ⟨v1_, v2_, rfl, hs1, hs2, hb⟩; obtain ⟨As, cs, rfl⟩ := Kd.S_slice hs1; obtain ⟨At, ct, rfl⟩ := Kd.R_slice hs2; have SS := Aside0.mk (S_range (N0 := w.heap.size) hs1 HB.out.size); have RD := Aside0.mk (R_range (N0 := w.heap.size) hs2 HB.out.size); have ZB := Aside0.mk (blk_lt HX.out); have ZC := Aside0.mk hb.size; clear hs1 hs2
 clear P1_a P2_a P3_b
 clear Q1_a Q2_a Q3_b
 replace HB := bB HB hb; replace HX := xB HX hb; clear hb
 obtain ⟨b0_, b1_, b2_, b3_, b4_, b5_, b6_⟩ := cells7 HX.out; have bl_ := blk_lt HX.out
 go_wp2_with (fail)
 clear b0_ b1_ b2_ b3_ b4_ b5_ b6_ bl_
 obtain ⟨wy, hwx⟩ : ∃ z, z = wc.alloc (.cells #[.int .i64 vn, .slice As vg.length cs, .slice At vd.length ct, .int .i64 v3, .int .i64 v4, .int .i64 v5, .int .i64 v6] 30) := ⟨_, rfl⟩
 rw [← hwx]
 have hb : Below wc.heap.size wc wy := by rw [hwx]; exact below_alloc (Below.refl _ _) _
 have HW : Aside0 (wy.heap[wc.heap.size]? = some (.cells #[.int .i64 vn, .slice As vg.length cs, .slice At vd.length ct, .int .i64 v3, .int .i64 v4, .int .i64 v5, .int .i64 v6] 30 (0, 0))) := ⟨by rw [hwx]; simpa using heap_alloc_new wc _⟩
 clear hwx
 replace RD := rB RD hb; replace SS := sB SS hb; replace HB := bB HB hb; replace HX := xB HX hb; clear hb
 obtain ⟨gw, hg⟩ : ∃ z, z = wc.heap.size := ⟨_, rfl⟩
 rw [← hg] at HW ⊢
 have EW := Aside0.mk hg
 have ZW := Aside0.mk (blk_lt HW.out)
 clear hg
 refine (laws_toCircuit.calls (hr0_1 := Kd.C_below HR1.out HB.out) (hc0_1 := HC1.out) (hr0_2 := Kd.C_below HR2.out HB.out) (hc0_2 := HC2.out) (h := HTO.out)).mono ?_
 rintro e wd ⟨v1_, v2_, rfl, hs1, hs2, hb⟩; obtain ⟨A1_d, c1_d, rfl⟩ := Kd.S_slice hs1; obtain ⟨A2_d, c2_d, rfl⟩ := Kd.R_slice hs2
 have S1 := Aside0.mk (S_range (N0 := w.heap.size) hs1 HB.out.size); have R2 := Aside0.mk (R_range (N0 := w.heap.size) hs2 HB.out.size); have Z2 := Aside0.mk hb.size
 clear hs1 hs2
 replace RD := rB RD hb; replace SS := sB SS hb; replace HB := bB HB hb; replace HX := xB HX hb; replace HW := xB HW hb; clear hb
 go_wp2_with (fail)
 obtain ⟨wx, hwx⟩ : ∃ z, z = wd.alloc (.cells #[.int .i64 n, .slice A1_d gs.length c1_d, .slice A2_d ds.length c2_d, .int .i64 q3, .int .i64 q4, .int .i64 q5, .int .i64 q6] 30) := ⟨_, rfl⟩
 rw [← hwx]
 have hb : Below wd.heap.size wd wx := by rw [hwx]; exact below_alloc (Below.refl _ _) _
 have HY : Aside0 (wx.heap[wd.heap.size]? = some (.cells #[.int .i64 n, .slice A1_d gs.length c1_d, .slice A2_d ds.length c2_d, .int .i64 q3, .int .i64 q4, .int .i64 q5, .int .i64 q6] 30 (0, 0))) := ⟨by rw [hwx]; simpa using heap_alloc_new wd _⟩
 clear hwx
 replace RD := rB RD hb; replace R2 := rB R2 hb; replace SS := sB SS hb; replace S1 := sB S1 hb; replace HB := bB HB hb; replace HX := xB HX hb; replace HW := xB HW hb; clear hb
 obtain ⟨gx, hg⟩ : ∃ z, z = wd.heap.size := ⟨_, rfl⟩
 rw [← hg] at HY ⊢
 have EX := Aside0.mk hg
 have ZX := Aside0.mk (blk_lt HY.out)
 clear hg
 have ZD : Aside0 (wd.heap.size ≤ wx.heap.size) := ⟨by have := EX.out; have := ZX.out; omega⟩
 refine (laws_toInt64S.calls (hr0 := Kd.C_below HR3.out HB.out) (hc0 := HC3.out) (h := HS.out)).mono ?_
 rintro e we ⟨v3_, rfl, hs3, hb⟩; obtain ⟨A3_e, c3_e, rfl⟩ := Kd.R_slice hs3
 have R3 := Aside0.mk (R_range (N0 := w.heap.size) hs3 HB.out.size); have Z4 := Aside0.mk hb.size
 clear hs3
 replace ZD := Aside0.mk (Nat.le_trans ZD.out hb.size); replace RD := rB RD hb; replace R2 := rB R2 hb; replace SS := sB SS hb; replace S1 := sB S1 hb; replace HB := bB HB hb; replace HX := xB HX hb; replace HW := xB HW hb; replace HY := xB HY hb; clear hb
 obtain ⟨d0_, d1_, d2_, d3_, d4_, d5_, d6_⟩ := cells7 HY.out; have dl_ := blk_lt HY.out
 go_wp2_with (fail)
 clear d0_ d1_ d2_ d3_ d4_ d5_ d6_ dl_
 refine (impl_PadCircuit.calls (hr0_1 := (Kd.S_reads' S1.out).2.2) (hc0_1 := (Kd.S_reads' S1.out).2.1) (hr0_2 := (Kd.R_reads' R2.out).2.2) (hc0_2 := (Kd.R_reads' R2.out).2.1) (hr1 := (Kd.R_reads' R3.out).2.2) (hc1 := (Kd.R_reads' R3.out).2.1) (h := HU.out)).mono ?_
 rintro e wf ⟨v1_, v2_, rfl, hs1, hs2, hb⟩; obtain ⟨Ag, cg, rfl⟩ := Kd.S_slice hs1; obtain ⟨Ah, ch, rfl⟩ := Kd.R_slice hs2; have SG := Aside0.mk (S_range (N0 := w.heap.size) hs1 HB.out.size); have RG := Aside0.mk (R_range (N0 := w.heap.size) hs2 HB.out.size); have Z5 := Aside0.mk hb.size; clear hs1 hs2
 replace ZD := Aside0.mk (Nat.le_trans ZD.out hb.size); replace RD := rB RD hb; replace R2 := rB R2 hb; replace R3 := rB R3 hb; replace SS := sB SS hb; replace S1 := sB S1 hb; replace HB := bB HB hb; replace HX := xB HX hb; replace HW := xB HW hb; replace HY := xB HY hb; clear hb
 obtain ⟨c0_, c1_, c2_, c3_, c4_, c5_, c6_⟩ := cells7 HW.out; have cl_ := blk_lt HW.out
 go_wp2_with (fail)
 clear c0_ c1_ c2_ c3_ c4_ c5_ c6_ cl_
 obtain ⟨wz, hwx⟩ : ∃ z, z = wf.alloc (.cells #[.int .i64 vn, .slice Ag vg.length cg, .slice Ah vd.length ch, .int .i64 v3, .int .i64 v4, .int .i64 v5, .int .i64 v6] 30) := ⟨_, rfl⟩
 rw [← hwx]
 have hb : Below wf.heap.size wf wz := by rw [hwx]; exact below_alloc (Below.refl _ _) _
 have HG : Aside0 (wz.heap[wf.heap.size]? = some (.cells #[.int .i64 vn, .slice Ag vg.length cg, .slice Ah vd.length ch, .int .i64 v3, .int .i64 v4, .int .i64 v5, .int .i64 v6] 30 (0, 0))) := ⟨by rw [hwx]; simpa using heap_alloc_new wf _⟩
 clear hwx
 replace ZD := Aside0.mk (Nat.le_trans ZD.out hb.size); replace RD := rB RD hb; replace R2 := rB R2 hb; replace R3 := rB R3 hb; replace RG := rB RG hb; replace SS := sB SS hb; replace S1 := sB S1 hb; replace SG := sB SG hb; replace HB := bB HB hb; replace HX := xB HX hb; replace HW := xB HW hb; replace HY := xB HY hb; clear hb
 obtain ⟨gg, hg⟩ : ∃ z, z = wf.heap.size := ⟨_, rfl⟩
 rw [← hg] at HG ⊢
 have EG := Aside0.mk hg
 have ZG := Aside0.mk (blk_lt HG.out)
 clear hg
 have ZF : Aside0 (wf.heap.size ≤ wz.heap.size) := ⟨by have := EG.out; have := ZG.out; omega⟩
 have nb : (vb != vb) = false := bne_self_eq_false _
 refine (laws_eqCircuit.calls (hr0_1 := (Kd.S_reads' SG.out).2.2) (hc0_1 := (Kd.S_reads' SG.out).2.1) (hr0_2 := (Kd.R_reads' RG.out).2.2) (hc0_2 := (Kd.R_reads' RG.out).2.1) (hr1_1 := (Kd.S_reads' SS.out).2.2) (hc1_1 := (Kd.S_reads' SS.out).2.1) (hr1_2 := (Kd.R_reads' RD.out).2.2) (hc1_2 := (Kd.R_reads' RD.out).2.1) (h := HEV.out)).mono ?_
 rintro e wg ⟨rfl, hb⟩
 replace ZD := Aside0.mk (Nat.le_trans ZD.out hb.size); replace ZF := Aside0.mk (Nat.le_trans ZF.out hb.size); replace RD := rB RD hb; replace R2 := rB R2 hb; replace R3 := rB R3 hb; replace RG := rB RG hb; replace SS := sB SS hb; replace S1 := sB S1 hb; replace SG := sB SG hb; replace HB := bB HB hb; replace HX := xB HX hb; replace HW := xB HW hb; replace HY := xB HY hb; replace HG := xB HG hb; clear hb
 go_wp2_with (fail)
 obtain ⟨d0_, d1_, d2_, d3_, d4_, d5_, d6_⟩ := cells7 HY.out; obtain ⟨b0_, b1_, b2_, b3_, b4_, b5_, b6_⟩ := cells7 HX.out
 go_region_held3 (fun w' => Aside0 (Below wg.heap.size wg w') ∧ w'.cell? ⟨gx, 0, none⟩ = some (.int .i64 n) ∧ w'.cell? ⟨gx, 1, none⟩ = some (.slice A1_d gs.length c1_d) ∧ w'.cell? ⟨gx, 2, none⟩ = some (.slice A2_d ds.length c2_d) ∧ w'.cell? ⟨gx, 3, none⟩ = some (.int .i64 q3) ∧ w'.cell? ⟨gx, 4, none⟩ = some (.int .i64 q4) ∧ w'.cell? ⟨gx, 5, none⟩ = some (.int .i64 q5) ∧ w'.cell? ⟨gx, 6, none⟩ = some (.int .i64 q6) ∧ w'.cell? ⟨gb, 0, none⟩ = some (.int .i64 a0_0) ∧ w'.cell? ⟨gb, 1, none⟩ = some (.slice A0_1 l0_1.length c0_1) ∧ w'.cell? ⟨gb, 2, none⟩ = some (.slice A0_2 l0_2.length c0_2) ∧ w'.cell? ⟨gb, 3, none⟩ = some (.int .i64 a0_3) ∧ w'.cell? ⟨gb, 4, none⟩ = some (.int .i64 a0_4) ∧ w'.cell? ⟨gb, 5, none⟩ = some (.int .i64 a0_5) ∧ w'.cell? ⟨gb, 6, none⟩ = some (.int .i64 a0_6)) ((first | exact ⟨⟨below_drew (Below.refl _ _)⟩, d0_, d1_, d2_, d3_, d4_, d5_, d6_, b0_, b1_, b2_, b3_, b4_, b5_, b6_⟩ | (obtain ⟨z_, z0, z1, z2, z3, z4, z5, z6, z7, z8, z9, z10, z11, z12, z13⟩ := ‹Aside0 (Below wg.heap.size wg _) ∧ _›; exact ⟨⟨below_step (by repeat (first | exact z_.out | apply below_drew)) hb'⟩, pw_cell_below hb' z0, pw_cell_below hb' z1, pw_cell_below hb' z2, pw_cell_below hb' z3, pw_cell_below hb' z4, pw_cell_below hb' z5, pw_cell_below hb' z6, pw_cell_below hb' z7, pw_cell_below hb' z8, pw_cell_below hb' z9, pw_cell_below hb' z10, pw_cell_below hb' z11, pw_cell_below hb' z12, pw_cell_below hb' z13⟩))) ((first | (go_at_call 16; refine (laws_toCircuit.calls (hr0_1 := Kd.C_below HR1.out (below_step HB.out (by obtain ⟨z_, _⟩ := ‹Aside0 (Below wg.heap.size wg _) ∧ _›; repeat (first | exact z_.out | apply below_drew)))) (hc0_1 := HC1.out) (hr0_2 := Kd.C_below HR2.out (below_step HB.out (by obtain ⟨z_, _⟩ := ‹Aside0 (Below wg.heap.size wg _) ∧ _›; repeat (first | exact z_.out | apply below_drew)))) (hc0_2 := HC2.out) (h := HTO.out)).mono ?_; rintro e w' ⟨v1_, v2_, rfl, hs1, hs2, hb'⟩; obtain ⟨A1_g, c1_g, rfl⟩ := Kd.S_slice hs1; obtain ⟨A2_g, c2_g, rfl⟩ := Kd.R_slice hs2; have P1_g := Aside0.mk (Kd.S_reads' hs1).2.2; have Q1_g := Aside0.mk (Kd.S_reads' hs1).2.1; have P2_g := Aside0.mk (Kd.R_reads' hs2).2.2; have Q2_g := Aside0.mk (Kd.R_reads' hs2).2.1; clear hs1 hs2) | (go_at_call 18; refine (laws_eqCircuit.calls (hr0_1 := Kd.C_below (Kd.S_reads' S1.out).2.2 (by obtain ⟨z_, _⟩ := ‹Aside0 (Below wg.heap.size wg _) ∧ _›; repeat (first | exact z_.out | apply below_drew))) (hc0_1 := (Kd.S_reads' S1.out).2.1) (hr0_2 := Kd.C_below (Kd.R_reads' R2.out).2.2 (by obtain ⟨z_, _⟩ := ‹Aside0 (Below wg.heap.size wg _) ∧ _›; repeat (first | exact z_.out | apply below_drew))) (hc0_2 := (Kd.R_reads' R2.out).2.1) (hr1_1 := (by repeat (first | exact P1_g.out | (with_reducible refine Kd.C_drewN ?_ _) | (with_reducible refine Kd.C_drew ?_)))) (hc1_1 := Q1_g.out) (hr1_2 := (by repeat (first | exact P2_g.out | (with_reducible refine Kd.C_drewN ?_ _) | (with_reducible refine Kd.C_drew ?_)))) (hc1_2 := Q2_g.out) (h := HE.out)).mono ?_; rintro e w' ⟨rfl, hb'⟩)))
 obtain ⟨z_, _⟩ := ‹Aside0 (Below wg.heap.size wg _) ∧ _›
 have hb := z_.out
 clear z_ d0_ d1_ d2_ d3_ d4_ d5_ d6_ b0_ b1_ b2_ b3_ b4_ b5_ b6_
 replace ZD := Aside0.mk (Nat.le_trans ZD.out hb.size); replace ZF := Aside0.mk (Nat.le_trans ZF.out hb.size); replace RD := rB RD hb; replace R2 := rB R2 hb; replace R3 := rB R3 hb; replace RG := rB RG hb; replace SS := sB SS hb; replace S1 := sB S1 hb; replace SG := sB SG hb; replace HB := bB HB hb; replace HX := xB HX hb; replace HW := xB HW hb; replace HY := xB HY hb; replace HG := xB HG hb; clear hb
 go_wp2_with (fail)
 refine (laws_toInt64S.calls (hr0 := Kd.C_below HR3.out HB.out) (hc0 := HC3.out) (h := HS.out)).mono ?_
 rintro e wh ⟨v3_, rfl, hs3, hb⟩; obtain ⟨A3_h, c3_h, rfl⟩ := Kd.R_slice hs3
 have P3_h := Aside0.mk (Kd.R_reads' hs3).2.2; have Q3_h := Aside0.mk (Kd.R_reads' hs3).2.1
 clear hs3
 replace ZD := Aside0.mk (Nat.le_trans ZD.out hb.size); replace ZF := Aside0.mk (Nat.le_trans ZF.out hb.size); replace RD := rB RD hb; replace R2 := rB R2 hb; replace R3 := rB R3 hb; replace RG := rB RG hb; replace SS := sB SS hb; replace S1 := sB S1 hb; replace SG := sB SG hb; replace HB := bB HB hb; replace HX := xB HX hb; replace HW := xB HW hb; replace HY := xB HY hb; replace HG := xB HG hb; clear hb
 go_wp2_with (fail)
 refine (laws_eqInt64S.calls (hr0 := (Kd.R_reads' R3.out).2.2) (hc0 := (Kd.R_reads' R3.out).2.1) (hr1 := P3_h.out) (hc1 := Q3_h.out) (h := HQ3.out)).mono ?_
 rintro e wi ⟨rfl, hd⟩; have hb := drawn_below hd; clear hd
 clear P3_h
 clear Q3_h
 replace ZD := Aside0.mk (Nat.le_trans ZD.out hb.size); replace ZF := Aside0.mk (Nat.le_trans ZF.out hb.size); replace RD := rB RD hb; replace R2 := rB R2 hb; replace R3 := rB R3 hb; replace RG := rB RG hb; replace SS := sB SS hb; replace S1 := sB S1 hb; replace SG := sB SG hb; replace HB := bB HB hb; replace HX := xB HX hb; replace HW := xB HW hb; replace HY := xB HY hb; replace HG := xB HG hb; clear hb
 obtain ⟨d0_, d1_, d2_, d3_, d4_, d5_, d6_⟩ := cells7 HY.out; have dl_ := blk_lt HY.out
 go_wp2_with (fail)
 clear d0_ d1_ d2_ d3_ d4_ d5_ d6_ dl_
 refine (markCirc (fun b => wy.heap.size ≤ b ∧ b < wd.heap.size) (.slice A1_d gs.length c1_d) (.slice A2_d ds.length c2_d) n q3 q4 q5 q6 gs ds w _ HB.out S1.out R2.out (fun b hb => Nat.lt_of_lt_of_le hb.2 ZD.out) HL1.out HL2.out HL3.out).mono ?_
 rintro e wj ⟨r0, rfl, hr0, hB, hK⟩
 have HR0 := Aside0.mk hr0; clear hr0
 clear S1 R2 HY ZD
 replace RD := rK RD hK (fun b h h' => by have t0_ := ZB.out; have t1_ := ZC.out; have t2_ := EW.out; have t3_ := ZW.out; have t4_ := Z2.out; have t5_ := EX.out; have t6_ := ZX.out; have t7_ := Z4.out; have t8_ := Z5.out; have t9_ := EG.out; have t10_ := ZG.out; omega)
 replace R3 := rK R3 hK (fun b h h' => by have t0_ := ZB.out; have t1_ := ZC.out; have t2_ := EW.out; have t3_ := ZW.out; have t4_ := Z2.out; have t5_ := EX.out; have t6_ := ZX.out; have t7_ := Z4.out; have t8_ := Z5.out; have t9_ := EG.out; have t10_ := ZG.out; omega)
 replace RG := rK RG hK (fun b h h' => by have t0_ := ZB.out; have t1_ := ZC.out; have t2_ := EW.out; have t3_ := ZW.out; have t4_ := Z2.out; have t5_ := EX.out; have t6_ := ZX.out; have t7_ := Z4.out; have t8_ := Z5.out; have t9_ := EG.out; have t10_ := ZG.out; omega)
 replace SS := sK SS hK (fun b h h' => by have h2 := h.1; have t0_ := ZB.out; have t1_ := ZC.out; have t2_ := EW.out; have t3_ := ZW.out; have t4_ := Z2.out; have t5_ := EX.out; have t6_ := ZX.out; have t7_ := Z4.out; have t8_ := Z5.out; have t9_ := EG.out; have t10_ := ZG.out; omega)
 replace SG := sK SG hK (fun b h h' => by have h2 := h.1; have t0_ := ZB.out; have t1_ := ZC.out; have t2_ := EW.out; have t3_ := ZW.out; have t4_ := Z2.out; have t5_ := EX.out; have t6_ := ZX.out; have t7_ := Z4.out; have t8_ := Z5.out; have t9_ := EG.out; have t10_ := ZG.out; omega)
 replace HX := xK HX hK (fun h => by have t0_ := ZB.out; have t1_ := ZC.out; have t2_ := EW.out; have t3_ := ZW.out; have t4_ := Z2.out; have t5_ := EX.out; have t6_ := ZX.out; have t7_ := Z4.out; have t8_ := Z5.out; have t9_ := EG.out; have t10_ := ZG.out; omega)
 replace HW := xK HW hK (fun h => by have t0_ := ZB.out; have t1_ := ZC.out; have t2_ := EW.out; have t3_ := ZW.out; have t4_ := Z2.out; have t5_ := EX.out; have t6_ := ZX.out; have t7_ := Z4.out; have t8_ := Z5.out; have t9_ := EG.out; have t10_ := ZG.out; omega)
 replace HG := xK HG hK (fun h => by have t0_ := ZB.out; have t1_ := ZC.out; have t2_ := EW.out; have t3_ := ZW.out; have t4_ := Z2.out; have t5_ := EX.out; have t6_ := ZX.out; have t7_ := Z4.out; have t8_ := Z5.out; have t9_ := EG.out; have t10_ := ZG.out; omega)
 replace ZF := Aside0.mk (Nat.le_trans ZF.out hK.1)
 replace HB := Aside0.mk hB; clear hB hK
 obtain ⟨l1', hl1', hm1⟩ := marks_tells s r0 HR0.out.1 (by have := HR0.out; have := HL4.out; omega) (by have := HL4.out; omega)
 have HM1 := Aside0.mk hm1; clear hm1 hl1'
 go_wp2_with (fail)
 refine (laws_markInt64S.calls (w0 := w) (hB := HB.out) (ho0 := R3.out) (h := HM1.out)).mono ?_
 rintro e wk ⟨rfl, _, hB, hK⟩
 clear R3
 replace RD := rK RD hK (fun b h h' => by have t0_ := ZB.out; have t1_ := ZC.out; have t2_ := EW.out; have t3_ := ZW.out; have t4_ := Z2.out; have t5_ := EX.out; have t6_ := ZX.out; have t7_ := Z4.out; have t8_ := Z5.out; have t9_ := EG.out; have t10_ := ZG.out; omega)
 replace RG := rK RG hK (fun b h h' => by have t0_ := ZB.out; have t1_ := ZC.out; have t2_ := EW.out; have t3_ := ZW.out; have t4_ := Z2.out; have t5_ := EX.out; have t6_ := ZX.out; have t7_ := Z4.out; have t8_ := Z5.out; have t9_ := EG.out; have t10_ := ZG.out; omega)
 replace SS := sK SS hK (fun b h h' => by have h2 := h.1; have t0_ := ZB.out; have t1_ := ZC.out; have t2_ := EW.out; have t3_ := ZW.out; have t4_ := Z2.out; have t5_ := EX.out; have t6_ := ZX.out; have t7_ := Z4.out; have t8_ := Z5.out; have t9_ := EG.out; have t10_ := ZG.out; omega)
 replace SG := sK SG hK (fun b h h' => by have h2 := h.1; have t0_ := ZB.out; have t1_ := ZC.out; have t2_ := EW.out; have t3_ := ZW.out; have t4_ := Z2.out; have t5_ := EX.out; have t6_ := ZX.out; have t7_ := Z4.out; have t8_ := Z5.out; have t9_ := EG.out; have t10_ := ZG.out; omega)
 replace HX := xK HX hK (fun h => by have t0_ := ZB.out; have t1_ := ZC.out; have t2_ := EW.out; have t3_ := ZW.out; have t4_ := Z2.out; have t5_ := EX.out; have t6_ := ZX.out; have t7_ := Z4.out; have t8_ := Z5.out; have t9_ := EG.out; have t10_ := ZG.out; omega)
 replace HW := xK HW hK (fun h => by have t0_ := ZB.out; have t1_ := ZC.out; have t2_ := EW.out; have t3_ := ZW.out; have t4_ := Z2.out; have t5_ := EX.out; have t6_ := ZX.out; have t7_ := Z4.out; have t8_ := Z5.out; have t9_ := EG.out; have t10_ := ZG.out; omega)
 replace HG := xK HG hK (fun h => by have t0_ := ZB.out; have t1_ := ZC.out; have t2_ := EW.out; have t3_ := ZW.out; have t4_ := Z2.out; have t5_ := EX.out; have t6_ := ZX.out; have t7_ := Z4.out; have t8_ := Z5.out; have t9_ := EG.out; have t10_ := ZG.out; omega)
 replace ZF := Aside0.mk (Nat.le_trans ZF.out hK.1)
 replace HB := Aside0.mk hB; clear hB hK
 obtain ⟨kk, ekk, hkk⟩ : ∃ z, r0 + (s.length : Int) = z ∧ ¬ z < 0 := ⟨_, rfl, by have := HR0.out; omega⟩
 rw [ekk]
 have dk : decide (kk < 0) = false := decide_eq_false hkk
 clear hkk ekk
 obtain ⟨e0_, e1_, e2_, e3_, e4_, e5_, e6_⟩ := cells7 HG.out; have el_ := blk_lt HG.out
 obtain ⟨c0_, c1_, c2_, c3_, c4_, c5_, c6_⟩ := cells7 HW.out; have cl_ := blk_lt HW.out
 go_wp2_with (fail)
 clear e0_ e1_ e2_ e3_ e4_ e5_ e6_ el_
 clear c0_ c1_ c2_ c3_ c4_ c5_ c6_ cl_
 refine (laws_eqCircuit.calls (hr0_1 := (Kd.S_reads' SG.out).2.2) (hc0_1 := (Kd.S_reads' SG.out).2.1) (hr0_2 := (Kd.R_reads' RG.out).2.2) (hc0_2 := (Kd.R_reads' RG.out).2.1) (hr1_1 := (Kd.S_reads' SS.out).2.2) (hc1_1 := (Kd.S_reads' SS.out).2.1) (hr1_2 := (Kd.R_reads' RD.out).2.2) (hc1_2 := (Kd.R_reads' RD.out).2.1) (h := HEV.out)).mono ?_
 rintro e wl ⟨rfl, hb⟩
 replace ZF := Aside0.mk (Nat.le_trans ZF.out hb.size); replace RD := rB RD hb; replace RG := rB RG hb; replace SS := sB SS hb; replace SG := sB SG hb; replace HB := bB HB hb; replace HX := xB HX hb; replace HW := xB HW hb; replace HG := xB HG hb; clear hb
 clear dk
 obtain ⟨e0_, e1_, e2_, e3_, e4_, e5_, e6_⟩ := cells7 HG.out; have el_ := blk_lt HG.out
 go_wp2_with (fail)
 clear e0_ e1_ e2_ e3_ e4_ e5_ e6_ el_
 refine (markCircV (fun b => we.heap.size ≤ b ∧ b < wf.heap.size) (.slice Ag vg.length cg) (.slice Ah vd.length ch) vn v3 v4 v5 v6 vg vd w _ HB.out SG.out RG.out (fun b hb => Nat.lt_of_lt_of_le hb.2 ZF.out) HL5.out HL6.out HL7.out).mono ?_
 rintro e wm ⟨mm, r1, vg', vd', rfl, hm, ⟨hgl, hdl, hk1, hr1, hr2, hh⟩, hS, hR, hB, hK⟩
 clear SG RG ZF
 replace RD := rK RD hK (fun b h h' => by have t0_ := ZB.out; have t1_ := ZC.out; have t2_ := EW.out; have t3_ := ZW.out; have t4_ := Z2.out; have t5_ := EX.out; have t6_ := ZX.out; have t7_ := Z4.out; have t8_ := Z5.out; have t9_ := EG.out; have t10_ := ZG.out; omega)
 replace SS := sK SS hK (fun b h h' => by have h2 := h.1; have t0_ := ZB.out; have t1_ := ZC.out; have t2_ := EW.out; have t3_ := ZW.out; have t4_ := Z2.out; have t5_ := EX.out; have t6_ := ZX.out; have t7_ := Z4.out; have t8_ := Z5.out; have t9_ := EG.out; have t10_ := ZG.out; omega)
 replace HX := xK HX hK (fun h => by have t0_ := ZB.out; have t1_ := ZC.out; have t2_ := EW.out; have t3_ := ZW.out; have t4_ := Z2.out; have t5_ := EX.out; have t6_ := ZX.out; have t7_ := Z4.out; have t8_ := Z5.out; have t9_ := EG.out; have t10_ := ZG.out; omega)
 replace HW := xK HW hK (fun h => by have t0_ := ZB.out; have t1_ := ZC.out; have t2_ := EW.out; have t3_ := ZW.out; have t4_ := Z2.out; have t5_ := EX.out; have t6_ := ZX.out; have t7_ := Z4.out; have t8_ := Z5.out; have t9_ := EG.out; have t10_ := ZG.out; omega)
 replace HG := xK HG hK (fun h => by have t0_ := ZB.out; have t1_ := ZC.out; have t2_ := EW.out; have t3_ := ZW.out; have t4_ := Z2.out; have t5_ := EX.out; have t6_ := ZX.out; have t7_ := Z4.out; have t8_ := Z5.out; have t9_ := EG.out; have t10_ := ZG.out; omega)
 replace HB := Aside0.mk hB; clear hB hK
 have SG := Aside0.mk hS; have RG := Aside0.mk hR; clear hS hR
 have HGL := Aside0.mk hgl; have HDL := Aside0.mk hdl
 have HHC := Aside0.mk (heldC_tells vn v3 v4 v5 v6 vg' vd' r1 mm _ (by rw [hgl]; exact HL5.out) hk1 hr2 hm.1 hh)
 have dm : decide (mm < 0) = false := decide_eq_false (by omega)
 have dn : (mm != mm) = false := bne_self_eq_false _
 have de : (mm == mm) = true := beq_self_eq_true _
 clear hgl hdl hk1 hr1 hr2 hh hm
 obtain ⟨e0_, e1_, e2_, e3_, e4_, e5_, e6_⟩ := cells7 HG.out; have el_ := blk_lt HG.out
 go_wp2_with (fail)
 clear e0_ e1_ e2_ e3_ e4_ e5_ e6_ el_
 have hh := laws_heldCircuit.calls (a1 := 1) (hr0_1 := (Kd.S_reads' SG.out).2.2) (c0_1 := cg) (hc0_1 := (by have h := (Kd.S_reads' SG.out).2.1; have := HGL.out; omega)) (hr0_2 := (Kd.R_reads' RG.out).2.2) (c0_2 := ch) (hc0_2 := (by have h := (Kd.R_reads' RG.out).2.1; have := HDL.out; omega)) (h := HHC.out)
 rw [HGL.out, HDL.out] at hh
 refine hh.mono ?_
 clear hh
 rintro e wn ⟨rfl, hb⟩
 replace RD := rB RD hb; replace RG := rB RG hb; replace SS := sB SS hb; replace SG := sB SG hb; replace HB := bB HB hb; replace HX := xB HX hb; replace HW := xB HW hb; replace HG := xB HG hb; clear hb
 obtain ⟨b0_, b1_, b2_, b3_, b4_, b5_, b6_⟩ := cells7 HX.out; have bl_ := blk_lt HX.out
 go_wp2_with (fail)
 clear b0_ b1_ b2_ b3_ b4_ b5_ b6_ bl_
 refine (laws_toCircuit.calls (hr0_1 := Kd.C_below HR1.out HB.out) (hc0_1 := HC1.out) (hr0_2 := Kd.C_below HR2.out HB.out) (hc0_2 := HC2.out) (h := HTO.out)).mono ?_
 rintro e wo ⟨v1_, v2_, rfl, hs1, hs2, hb⟩; obtain ⟨A1_o, c1_o, rfl⟩ := Kd.S_slice hs1; obtain ⟨A2_o, c2_o, rfl⟩ := Kd.R_slice hs2
 have P1_o := Aside0.mk (Kd.S_reads' hs1).2.2; have Q1_o := Aside0.mk (Kd.S_reads' hs1).2.1; have P2_o := Aside0.mk (Kd.R_reads' hs2).2.2; have Q2_o := Aside0.mk (Kd.R_reads' hs2).2.1
 clear hs1 hs2
 replace RD := rB RD hb; replace RG := rB RG hb; replace SS := sB SS hb; replace SG := sB SG hb; replace HB := bB HB hb; replace HX := xB HX hb; replace HW := xB HW hb; replace HG := xB HG hb; clear hb
 go_wp2_with (fail)
 refine (laws_toInt64S.calls (hr0 := Kd.C_below HR3.out HB.out) (hc0 := HC3.out) (h := HS.out)).mono ?_
 rintro e wp ⟨v3_, rfl, hs3, hb⟩; obtain ⟨A3_p, c3_p, rfl⟩ := Kd.R_slice hs3
 have P3_p := Aside0.mk (Kd.R_reads' hs3).2.2; have Q3_p := Aside0.mk (Kd.R_reads' hs3).2.1
 clear hs3
 replace RD := rB RD hb; replace RG := rB RG hb; replace SS := sB SS hb; replace SG := sB SG hb; replace P1_o := Aside0.mk (Kd.C_below P1_o.out hb); replace P2_o := Aside0.mk (Kd.C_below P2_o.out hb); replace HB := bB HB hb; replace HX := xB HX hb; replace HW := xB HW hb; replace HG := xB HG hb; clear hb
 go_wp2_with (fail)
 refine (impl_PadCircuit.calls (hr0_1 := P1_o.out) (hc0_1 := Q1_o.out) (hr0_2 := P2_o.out) (hc0_2 := Q2_o.out) (hr1 := P3_p.out) (hc1 := Q3_p.out) (h := HU.out)).mono ?_
 rintro e wq ⟨v1_, v2_, rfl, hs1, hs2, hb⟩; obtain ⟨Ai, ci, rfl⟩ := Kd.S_slice hs1; obtain ⟨Aj, cj, rfl⟩ := Kd.R_slice hs2; have SH := Aside0.mk hs1; have RH := Aside0.mk hs2; clear hs1 hs2
 clear P1_o P2_o P3_p
 clear Q1_o Q2_o Q3_p
 replace RD := rB RD hb; replace RG := rB RG hb; replace SS := sB SS hb; replace SG := sB SG hb; replace HB := bB HB hb; replace HX := xB HX hb; replace HW := xB HW hb; replace HG := xB HG hb; clear hb
 obtain ⟨c0_, c1_, c2_, c3_, c4_, c5_, c6_⟩ := cells7 HW.out; have cl_ := blk_lt HW.out
 go_wp2_with (fail)
 clear c0_ c1_ c2_ c3_ c4_ c5_ c6_ cl_
 obtain ⟨wr, hwx⟩ : ∃ z, z = wq.alloc (.cells #[.int .i64 vn, .slice Ai vg.length ci, .slice Aj vd.length cj, .int .i64 v3, .int .i64 v4, .int .i64 v5, .int .i64 v6] 30) := ⟨_, rfl⟩
 rw [← hwx]
 have hb : Below wq.heap.size wq wr := by rw [hwx]; exact below_alloc (Below.refl _ _) _
 have HH : Aside0 (wr.heap[wq.heap.size]? = some (.cells #[.int .i64 vn, .slice Ai vg.length ci, .slice Aj vd.length cj, .int .i64 v3, .int .i64 v4, .int .i64 v5, .int .i64 v6] 30 (0, 0))) := ⟨by rw [hwx]; simpa using heap_alloc_new wq _⟩
 clear hwx
 replace RD := rB RD hb; replace RG := rB RG hb; replace RH := rB RH hb; replace SS := sB SS hb; replace SG := sB SG hb; replace SH := sB SH hb; replace HB := bB HB hb; replace HX := xB HX hb; replace HW := xB HW hb; replace HG := xB HG hb; clear hb
 obtain ⟨gh, hg⟩ : ∃ z, z = wq.heap.size := ⟨_, rfl⟩
 rw [← hg] at HH ⊢
 have EH := Aside0.mk hg
 have ZH := Aside0.mk (blk_lt HH.out)
 clear hg
 refine (laws_eqCircuit.calls (hr0_1 := (Kd.S_reads' SH.out).2.2) (hc0_1 := (Kd.S_reads' SH.out).2.1) (hr0_2 := (Kd.R_reads' RH.out).2.2) (hc0_2 := (Kd.R_reads' RH.out).2.1) (hr1_1 := (Kd.S_reads' SS.out).2.2) (hc1_1 := (Kd.S_reads' SS.out).2.1) (hr1_2 := (Kd.R_reads' RD.out).2.2) (hc1_2 := (Kd.R_reads' RD.out).2.1) (h := HEV.out)).mono ?_
 rintro e ws ⟨rfl, hb⟩
 replace RD := rB RD hb; replace RG := rB RG hb; replace RH := rB RH hb; replace SS := sB SS hb; replace SG := sB SG hb; replace SH := sB SH hb; replace HB := bB HB hb; replace HX := xB HX hb; replace HW := xB HW hb; replace HG := xB HG hb; replace HH := xB HH hb; clear hb
 clear SH RH HH
 obtain ⟨e0_, e1_, e2_, e3_, e4_, e5_, e6_⟩ := cells7 HG.out; have el_ := blk_lt HG.out
 go_wp2_with (fail)
 clear e0_ e1_ e2_ e3_ e4_ e5_ e6_ el_
 have hh := laws_heldCircuit.calls (a1 := 1) (hr0_1 := (Kd.S_reads' SG.out).2.2) (c0_1 := cg) (hc0_1 := (by have h := (Kd.S_reads' SG.out).2.1; have := HGL.out; omega)) (hr0_2 := (Kd.R_reads' RG.out).2.2) (c0_2 := ch) (hc0_2 := (by have h := (Kd.R_reads' RG.out).2.1; have := HDL.out; omega)) (h := HHC.out)
 rw [HGL.out, HDL.out] at hh
 refine hh.mono ?_
 clear hh
 rintro e wt ⟨rfl, hb⟩
 replace RD := rB RD hb; replace RG := rB RG hb; replace SS := sB SS hb; replace SG := sB SG hb; replace HB := bB HB hb; replace HX := xB HX hb; replace HW := xB HW hb; replace HG := xB HG hb; clear hb
 go_wp2
 go_ret
 exact ⟨rfl, HB.out⟩

/-- THE ONE PURE STATEMENT of laws_FnExactPadCircuit: yours. -/
def laws_FnExactPadCircuit.Pure : Prop := ∀ (a0_0 : Int) (l0_1 : List (S89)) (l0_2 : List Int) (a0_3 : Int) (a0_4 : Int) (a0_5 : Int) (a0_6 : Int) (l1 : List Int), (Lit.int .i64 a0_0).wf = true → (l0_1.length ≤ 9223372036854775807 ∧ ∀ y_ ∈ l0_1, ((Lit.int .i64 y_.f0).wf = true ∧ (Lit.int .i64 y_.f1).wf = true ∧ (y_.f2.length ≤ 9223372036854775807 ∧ ∀ x_ ∈ y_.f2, (Lit.int .i64 x_).wf = true))) → (l0_2.length ≤ 9223372036854775807 ∧ ∀ x_ ∈ l0_2, (Lit.int .i64 x_).wf = true) → (Lit.int .i64 a0_3).wf = true → (Lit.int .i64 a0_4).wf = true → (Lit.int .i64 a0_5).wf = true → (Lit.int .i64 a0_6).wf = true → (l1.length ≤ 9223372036854775807 ∧ ∀ x_ ∈ l1, (Lit.int .i64 x_).wf = true) → ∃ k, laws_FnExactPadCircuit.f k a0_0 l0_1 l0_2 a0_3 a0_4 a0_5 a0_6 l1 = some true

end Go.Proofs.Ytalafmahgeejiaa.Pa
