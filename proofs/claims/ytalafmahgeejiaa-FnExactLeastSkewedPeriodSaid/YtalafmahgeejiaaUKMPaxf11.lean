-- Written for this claim by a program of this session.
import Derived.Test.YtalafmahgeejiaaUPax0
import Derived.Test.YtalafmahgeejiaaUCoreM7
import Derived.Test.YtalafmahgeejiaaUCoreM1
import Derived.Test.YtalafmahgeejiaaUKMPaxf18
import Derived.Test.YtalafmahgeejiaaUCoreM6
namespace Go.Proofs.Ytalafmahgeejiaa.Pa
open Go.RowKit Go.Proofs.YtalafmahgeejiaaW.PrintWords Go.Proofs.YtalafmahgeejiaaW.PrintLast Go.Proofs.YtalafmahgeejiaaW.PrintMore
attribute [local go_sem] max2_int min2_int max_two min_two max_three min_three max_four min_four   -- for this text's walks alone
set_option linter.unusedVariables false
set_option linter.unusedSimpArgs false

/-! ### laws_FnExactLeastSkewedPeriod: function 11 -/
/-- What the law computes where it holds. -/
def laws_FnExactLeastSkewedPeriod.f (k : Nat) (a0_0 : Int) (l0_1 : List (S89)) (l0_2 : List Int) (a0_3 a0_4 a0_5 a0_6 : Int) : Option Bool := (laws_szCircuit.f k a0_0 l0_1 l0_2 a0_3 a0_4 a0_5 a0_6 1048576).bind fun t => if t < 0 then some true else (laws_toCircuit.f k a0_0 l0_1 l0_2 a0_3 a0_4 a0_5 a0_6).bind fun b => (spec_LeastSkewedPeriod.f k b.1 b.2.1 b.2.2.1 b.2.2.2.1 b.2.2.2.2.1 b.2.2.2.2.2.1 b.2.2.2.2.2.2).bind fun v => (impl_LeastSkewedPeriod.f k b.1 b.2.1 b.2.2.1 b.2.2.2.1 b.2.2.2.2.1 b.2.2.2.2.2.1 b.2.2.2.2.2.2).bind fun u => if u = v then some true else none
set_option maxHeartbeats 8000000 in
set_option maxRecDepth 100000 in
theorem laws_FnExactLeastSkewedPeriod.calls (k : Nat) (a0_0 : Int) (A0_1 : Option Addr) (c0_1 : Nat) (l0_1 : List (S89)) (A0_2 : Option Addr) (c0_2 : Nat) (l0_2 : List Int) (a0_3 : Int) (a0_4 : Int) (a0_5 : Int) (a0_6 : Int) (r : Bool) (w : World) (hr0_1 : Kd.C k89 w A0_1 l0_1.length l0_1) (hc0_1 : l0_1.length ≤ c0_1) (hr0_2 : Kd.C (Kd.int .i64) w A0_2 l0_2.length l0_2) (hc0_2 : l0_2.length ≤ c0_2) (h : laws_FnExactLeastSkewedPeriod.f k a0_0 l0_1 l0_2 a0_3 a0_4 a0_5 a0_6 = some r) :
  Calls Try.prog 11 #[.agg #[.int .i64 a0_0, .slice A0_1 l0_1.length c0_1, .slice A0_2 l0_2.length c0_2, .int .i64 a0_3, .int .i64 a0_4, .int .i64 a0_5, .int .i64 a0_6]] w fun e w' => e = .returned (.bool r) ∧ Below w.heap.size w w' := by
 have hu := Try.underlying25
 have hu2 := Try.underlying30
 have HR1 := Aside0.mk hr0_1
 have HC1 := Aside0.mk hc0_1
 have HR2 := Aside0.mk hr0_2
 have HC2 := Aside0.mk hc0_2
 clear hr0_1 hc0_1 hr0_2 hc0_2
 unfold laws_FnExactLeastSkewedPeriod.f at h
 replace h := Option.bind_eq_some_iff.mp h
 obtain ⟨t, ht, h⟩ := h
 have HT := Aside0.mk ht
 clear ht
 replace h : (if t < 0 then some true else _) = some r := h
 by_cases hn : t < 0
 ·rw [if_pos hn] at h
  obtain rfl := Option.some.inj h
  have d3 : decide (t < 0) = true := decide_eq_true hn
  clear h hn
  go_enter Try.func11, Try.ntmps11
  go_wp2_with (first | ((with_reducible refine gate_dst (N := 1) rfl ?_); refine box_event ?hg (N := 1) ?hd (cs := #[.int .i64 a0_0, .slice A0_1 l0_1.length c0_1, .slice A0_2 l0_2.length c0_2, .int .i64 a0_3, .int .i64 a0_4, .int .i64 a0_5, .int .i64 a0_6]) (t := 25) ?hr ?_; (case hd => rfl); (case hg => rfl); (case hr => first | (go_simp; done) | (go_simp; rfl)); intro gb hg_ w1 hbox_ hb_; have HX_gb := Aside0.mk hbox_; have HB_w1 := Aside0.mk hb_; have HG_gb := Aside0.mk hg_; clear hbox_ hb_ hg_; obtain ⟨b0, b1, b2, b3, b4, b5, b6⟩ := cells7 HX_gb.out) | (go_at_call 14; refine (laws_szCircuit.calls (hr0_1 := Kd.C_below HR1.out HB_w1.out) (hc0_1 := HC1.out) (hr0_2 := Kd.C_below HR2.out HB_w1.out) (hc0_2 := HC2.out) (h := HT.out)).mono ?_; rintro e w2 ⟨rfl, hb⟩; have HB := Aside0.mk (below_step HB_w1.out hb); have HX := Aside0.mk (blk_below HX_gb.out hb); clear hb b0 b1 b2 b3 b4 b5 b6; obtain ⟨b0, b1, b2, b3, b4, b5, b6⟩ := cells7 HX.out))
  go_ret
  exact ⟨rfl, HB.out⟩
 rw [if_neg hn] at h
 have d3 : decide (t < 0) = false := decide_eq_false hn
 clear hn
 replace h := Option.bind_eq_some_iff.mp h
 obtain ⟨⟨n, gs, ds, q3, q4, q5, q6⟩, hc, h⟩ := h
 replace h := Option.bind_eq_some_iff.mp h
 obtain ⟨⟨v0, v1⟩, hv, h⟩ := h
 replace h := Option.bind_eq_some_iff.mp h
 obtain ⟨u, hu', h⟩ := h
 by_cases e : u = (v0, v1)
 case neg => rw [if_neg e] at h; exact absurd h (by simp)
 rw [if_pos e] at h
 subst e
 obtain rfl := Option.some.inj h
 dsimp only at hv hu'
 have HTO := Aside0.mk hc
 have HV := Aside0.mk hv
 have HU := Aside0.mk hu'
 have HE := Aside0.mk (show laws_eqCircuit.f n gs ds q3 q4 q5 q6 n gs ds q3 q4 q5 q6 = some true from if_pos ⟨rfl, rfl, rfl, rfl, rfl, rfl, rfl⟩)
 clear h hc hv hu'
 go_enter Try.func11, Try.ntmps11
 go_wp2_with (first | ((with_reducible refine gate_dst (N := 1) rfl ?_); refine box_event ?hg (N := 1) ?hd (cs := #[.int .i64 a0_0, .slice A0_1 l0_1.length c0_1, .slice A0_2 l0_2.length c0_2, .int .i64 a0_3, .int .i64 a0_4, .int .i64 a0_5, .int .i64 a0_6]) (t := 25) ?hr ?_; (case hd => rfl); (case hg => rfl); (case hr => first | (go_simp; done) | (go_simp; rfl)); intro gb hg_ w1 hbox_ hb_; have HX_gb := Aside0.mk hbox_; have HB_w1 := Aside0.mk hb_; have HG_gb := Aside0.mk hg_; clear hbox_ hb_ hg_; obtain ⟨b0, b1, b2, b3, b4, b5, b6⟩ := cells7 HX_gb.out) | (go_at_call 14; refine (laws_szCircuit.calls (hr0_1 := Kd.C_below HR1.out HB_w1.out) (hc0_1 := HC1.out) (hr0_2 := Kd.C_below HR2.out HB_w1.out) (hc0_2 := HC2.out) (h := HT.out)).mono ?_; rintro e w2 ⟨rfl, hb⟩; have HB := Aside0.mk (below_step HB_w1.out hb); have HX := Aside0.mk (blk_below HX_gb.out hb); clear hb b0 b1 b2 b3 b4 b5 b6; obtain ⟨b0, b1, b2, b3, b4, b5, b6⟩ := cells7 HX.out))
 refine (laws_toCircuit.calls (hr0_1 := Kd.C_below HR1.out HB.out) (hc0_1 := HC1.out) (hr0_2 := Kd.C_below HR2.out HB.out) (hc0_2 := HC2.out) (h := HTO.out)).mono ?_; rintro e wa ⟨v1_, v2_, rfl, hs1, hs2, hb⟩; obtain ⟨A1_a, c1_a, rfl⟩ := Kd.S_slice hs1; obtain ⟨A2_a, c2_a, rfl⟩ := Kd.R_slice hs2; have P1_a := Aside0.mk (Kd.S_reads' hs1).2.2; have Q1_a := Aside0.mk (Kd.S_reads' hs1).2.1; have P2_a := Aside0.mk (Kd.R_reads' hs2).2.2; have Q2_a := Aside0.mk (Kd.R_reads' hs2).2.1; clear hs1 hs2
 replace HB := Aside0.mk (below_step HB.out hb); replace HX := Aside0.mk (blk_below HX.out hb); clear b0 b1 b2 b3 b4 b5 b6; obtain ⟨b0, b1, b2, b3, b4, b5, b6⟩ := cells7 HX.out; clear hb
 go_wp2_with (fail)
 refine (spec_LeastSkewedPeriod.calls (hr0_1 := P1_a.out) (hc0_1 := Q1_a.out) (hr0_2 := P2_a.out) (hc0_2 := Q2_a.out) (h := HV.out)).mono ?_
 rintro e wc ⟨rfl, hb⟩
 clear P1_a P2_a
 replace HB := Aside0.mk (below_step HB.out hb); replace HX := Aside0.mk (blk_below HX.out hb); clear b0 b1 b2 b3 b4 b5 b6; obtain ⟨b0, b1, b2, b3, b4, b5, b6⟩ := cells7 HX.out; clear hb
 go_wp2_with (fail)
 refine (laws_toCircuit.calls (hr0_1 := Kd.C_below HR1.out HB.out) (hc0_1 := HC1.out) (hr0_2 := Kd.C_below HR2.out HB.out) (hc0_2 := HC2.out) (h := HTO.out)).mono ?_; rintro e wd ⟨v1_, v2_, rfl, hs1, hs2, hb⟩; obtain ⟨A1_d, c1_d, rfl⟩ := Kd.S_slice hs1; obtain ⟨A2_d, c2_d, rfl⟩ := Kd.R_slice hs2; have P1_d := Aside0.mk (Kd.S_reads' hs1).2.2; have Q1_d := Aside0.mk (Kd.S_reads' hs1).2.1; have P2_d := Aside0.mk (Kd.R_reads' hs2).2.2; have Q2_d := Aside0.mk (Kd.R_reads' hs2).2.1; clear hs1 hs2
 replace HB := Aside0.mk (below_step HB.out hb); replace HX := Aside0.mk (blk_below HX.out hb); clear b0 b1 b2 b3 b4 b5 b6; obtain ⟨b0, b1, b2, b3, b4, b5, b6⟩ := cells7 HX.out; clear hb
 go_wp2_with (fail)
 obtain ⟨wx, hwx⟩ : ∃ z, z = wd.alloc (.cells #[.int .i64 n, .slice A1_d gs.length c1_d, .slice A2_d ds.length c2_d, .int .i64 q3, .int .i64 q4, .int .i64 q5, .int .i64 q6] 30) := ⟨_, rfl⟩
 rw [← hwx]
 have hb : Below wd.heap.size wd wx := by rw [hwx]; exact below_alloc (Below.refl _ _) _
 have HY : Aside0 (wx.heap[wd.heap.size]? = some (.cells #[.int .i64 n, .slice A1_d gs.length c1_d, .slice A2_d ds.length c2_d, .int .i64 q3, .int .i64 q4, .int .i64 q5, .int .i64 q6] 30)) := ⟨by rw [hwx]; simpa using heap_alloc_new wd _⟩
 clear hwx
 replace P1_d := Aside0.mk (Kd.C_below P1_d.out hb); replace P2_d := Aside0.mk (Kd.C_below P2_d.out hb)
 replace HB := Aside0.mk (below_step HB.out hb); replace HX := Aside0.mk (blk_below HX.out hb); clear b0 b1 b2 b3 b4 b5 b6; obtain ⟨b0, b1, b2, b3, b4, b5, b6⟩ := cells7 HX.out; clear hb
 obtain ⟨d0_, d1_, d2_, d3_, d4_, d5_, d6_⟩ := cells7 HY.out
 generalize wd.heap.size = gx at HY d0_ d1_ d2_ d3_ d4_ d5_ d6_ ⊢
 refine (impl_LeastSkewedPeriod.calls (hr0_1 := P1_d.out) (hc0_1 := Q1_d.out) (hr0_2 := P2_d.out) (hc0_2 := Q2_d.out) (h := HU.out)).mono ?_
 rintro e wf ⟨rfl, hb⟩
 replace P1_d := Aside0.mk (Kd.C_below P1_d.out hb); replace P2_d := Aside0.mk (Kd.C_below P2_d.out hb)
 replace HB := Aside0.mk (below_step HB.out hb); replace HX := Aside0.mk (blk_below HX.out hb); replace HY := Aside0.mk (blk_below HY.out hb); clear b0 b1 b2 b3 b4 b5 b6 d0_ d1_ d2_ d3_ d4_ d5_ d6_; obtain ⟨b0, b1, b2, b3, b4, b5, b6⟩ := cells7 HX.out; obtain ⟨d0_, d1_, d2_, d3_, d4_, d5_, d6_⟩ := cells7 HY.out; clear hb
 go_wp2_with (fail)
 go_region_held3 (fun w' => Aside0 (Below wf.heap.size wf w') ∧ w'.cell? ⟨gx, 0, none⟩ = some (.int .i64 n) ∧ w'.cell? ⟨gx, 1, none⟩ = some (.slice A1_d gs.length c1_d) ∧ w'.cell? ⟨gx, 2, none⟩ = some (.slice A2_d ds.length c2_d) ∧ w'.cell? ⟨gx, 3, none⟩ = some (.int .i64 q3) ∧ w'.cell? ⟨gx, 4, none⟩ = some (.int .i64 q4) ∧ w'.cell? ⟨gx, 5, none⟩ = some (.int .i64 q5) ∧ w'.cell? ⟨gx, 6, none⟩ = some (.int .i64 q6) ∧ w'.cell? ⟨gb, 0, none⟩ = some (.int .i64 a0_0) ∧ w'.cell? ⟨gb, 1, none⟩ = some (.slice A0_1 l0_1.length c0_1) ∧ w'.cell? ⟨gb, 2, none⟩ = some (.slice A0_2 l0_2.length c0_2) ∧ w'.cell? ⟨gb, 3, none⟩ = some (.int .i64 a0_3) ∧ w'.cell? ⟨gb, 4, none⟩ = some (.int .i64 a0_4) ∧ w'.cell? ⟨gb, 5, none⟩ = some (.int .i64 a0_5) ∧ w'.cell? ⟨gb, 6, none⟩ = some (.int .i64 a0_6)) ((first | exact ⟨⟨below_drew (Below.refl _ _)⟩, d0_, d1_, d2_, d3_, d4_, d5_, d6_, b0, b1, b2, b3, b4, b5, b6⟩ | (obtain ⟨z_, z0, z1, z2, z3, z4, z5, z6, z7, z8, z9, z10, z11, z12, z13⟩ := ‹Aside0 (Below wf.heap.size wf _) ∧ _›; exact ⟨⟨below_step (by repeat (first | exact z_.out | apply below_drew)) hb'⟩, pw_cell_below hb' z0, pw_cell_below hb' z1, pw_cell_below hb' z2, pw_cell_below hb' z3, pw_cell_below hb' z4, pw_cell_below hb' z5, pw_cell_below hb' z6, pw_cell_below hb' z7, pw_cell_below hb' z8, pw_cell_below hb' z9, pw_cell_below hb' z10, pw_cell_below hb' z11, pw_cell_below hb' z12, pw_cell_below hb' z13⟩))) ((first | (go_at_call 16; refine (laws_toCircuit.calls (hr0_1 := Kd.C_below HR1.out (below_step HB.out (by obtain ⟨z_, _⟩ := ‹Aside0 (Below wf.heap.size wf _) ∧ _›; repeat (first | exact z_.out | apply below_drew)))) (hc0_1 := HC1.out) (hr0_2 := Kd.C_below HR2.out (below_step HB.out (by obtain ⟨z_, _⟩ := ‹Aside0 (Below wf.heap.size wf _) ∧ _›; repeat (first | exact z_.out | apply below_drew)))) (hc0_2 := HC2.out) (h := HTO.out)).mono ?_; rintro e w' ⟨v1_, v2_, rfl, hs1, hs2, hb'⟩; obtain ⟨A1_g, c1_g, rfl⟩ := Kd.S_slice hs1; obtain ⟨A2_g, c2_g, rfl⟩ := Kd.R_slice hs2; have P1_g := Aside0.mk (Kd.S_reads' hs1).2.2; have Q1_g := Aside0.mk (Kd.S_reads' hs1).2.1; have P2_g := Aside0.mk (Kd.R_reads' hs2).2.2; have Q2_g := Aside0.mk (Kd.R_reads' hs2).2.1; clear hs1 hs2) | (go_at_call 18; refine (laws_eqCircuit.calls (hr0_1 := (Kd.C_below P1_d.out (by obtain ⟨z_, _⟩ := ‹Aside0 (Below wf.heap.size wf _) ∧ _›; repeat (first | exact z_.out | apply below_drew)))) (hc0_1 := Q1_d.out) (hr0_2 := (Kd.C_below P2_d.out (by obtain ⟨z_, _⟩ := ‹Aside0 (Below wf.heap.size wf _) ∧ _›; repeat (first | exact z_.out | apply below_drew)))) (hc0_2 := Q2_d.out) (hr1_1 := (by repeat (first | exact P1_g.out | (with_reducible refine Kd.C_drewN ?_ _) | (with_reducible refine Kd.C_drew ?_)))) (hc1_1 := Q1_g.out) (hr1_2 := (by repeat (first | exact P2_g.out | (with_reducible refine Kd.C_drewN ?_ _) | (with_reducible refine Kd.C_drew ?_)))) (hc1_2 := Q2_g.out) (h := HE.out)).mono ?_; rintro e w' ⟨rfl, hb'⟩)))
 obtain ⟨z_, _⟩ := ‹Aside0 (Below wf.heap.size wf _) ∧ _›
 replace HB := Aside0.mk (below_step HB.out z_.out)
 go_wp2
 go_ret
 exact ⟨rfl, by repeat (first | exact HB.out | apply pw_below_drewN)⟩

/-- THE ONE PURE STATEMENT of laws_FnExactLeastSkewedPeriod: yours. -/
def laws_FnExactLeastSkewedPeriod.Pure : Prop := ∀ (a0_0 : Int) (l0_1 : List (S89)) (l0_2 : List Int) (a0_3 : Int) (a0_4 : Int) (a0_5 : Int) (a0_6 : Int), (Lit.int .i64 a0_0).wf = true → (l0_1.length ≤ 9223372036854775807 ∧ ∀ y_ ∈ l0_1, ((Lit.int .i64 y_.f0).wf = true ∧ (Lit.int .i64 y_.f1).wf = true ∧ (y_.f2.length ≤ 9223372036854775807 ∧ ∀ x_ ∈ y_.f2, (Lit.int .i64 x_).wf = true))) → (l0_2.length ≤ 9223372036854775807 ∧ ∀ x_ ∈ l0_2, (Lit.int .i64 x_).wf = true) → (Lit.int .i64 a0_3).wf = true → (Lit.int .i64 a0_4).wf = true → (Lit.int .i64 a0_5).wf = true → (Lit.int .i64 a0_6).wf = true → ∃ k, laws_FnExactLeastSkewedPeriod.f k a0_0 l0_1 l0_2 a0_3 a0_4 a0_5 a0_6 = some true

end Go.Proofs.Ytalafmahgeejiaa.Pa
