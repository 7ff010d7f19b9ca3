-- Written for this claim by a program of this session.
import Derived.Test.YtljboamepnhfpaaPax0
import Derived.Test.YtljboamepnhfpaaCore6
import Derived.Test.YtljboamepnhfpaaKPaxf24
import Derived.Test.YtljboamepnhfpaaPaxacells2
import Derived.Test.YtljboamepnhfpaaPaxaown
import Derived.Test.YtljboamepnhfpaaPaxf36
import Derived.Test.YtljboamepnhfpaaPaxf38
import Derived.Test.YtljboamepnhfpaaPaxf39
import Derived.Test.YtljboamepnhfpaaPaxf40
namespace Go.Proofs.Ytljboamepnhfpaa.Pa
open Go.RowKit Go.Proofs.YtljboamepnhfpaaW.PrintWords Go.Proofs.YtljboamepnhfpaaW.PrintLast Go.Proofs.YtljboamepnhfpaaW.PrintMore
attribute [local go_sem] max2_int min2_int max_two min_two max_three min_three max_four min_four   -- for this text's walks alone
set_option linter.unusedVariables false
set_option linter.unusedSimpArgs false
/-- What the law computes where it holds. -/
def laws_FnExactTightestBounds.f (k : Nat) (a0_0 : Int) (l0_1 : List S43) : Option Bool := (laws_szDiagram.f a0_0 l0_1 1048576).bind fun t => if t < 0 then some true else (laws_toDiagram.f k a0_0 l0_1).bind fun b => (spec_TightestBounds.f k b.1 b.2).bind fun v => (impl_TightestBounds.f k b.1 b.2).bind fun u => if u = v ∧ v.1.length ≤ 1048576 ∧ (∀ g ∈ v.1, g.length ≤ 1048576) ∧ laws_eqDiagram.f k b.1 b.2 b.1 b.2 = some true ∧ (laws_markDiagram.f k b.1 b.2 1).any (fun m => decide (0 ≤ m.1)) = true then some true else none
set_option maxHeartbeats 8000000 in
set_option maxRecDepth 100000 in
theorem laws_FnExactTightestBounds.calls (k : Nat) (a0_0 : Int) (A0_1 : Option Addr) (c0_1 : Nat) (l0_1 : List S43) (r : Bool) (w : World) (hr0_1 : Kd.C k43 w A0_1 l0_1.length l0_1) (hc0_1 : l0_1.length ≤ c0_1) (h : laws_FnExactTightestBounds.f k a0_0 l0_1 = some r) :
    Calls Try.prog 10 #[.agg #[.int .i64 a0_0, .slice A0_1 l0_1.length c0_1]] w fun e w' => e = .returned (.bool r) ∧ Below w.heap.size w w' := by
  have hu := Try.underlying24
  have hu2 := Try.underlying29
  have HR1 := Aside0.mk hr0_1
  have HC1 := Aside0.mk hc0_1
  clear hr0_1 hc0_1
  unfold laws_FnExactTightestBounds.f at h
  replace h := Option.bind_eq_some_iff.mp h
  obtain ⟨t, ht, h⟩ := h
  have HT := Aside0.mk ht
  clear ht
  replace h : (if t < 0 then some true else _) = some r := h
  by_cases hn : t < 0
  · rw [if_pos hn] at h
    obtain rfl := Option.some.inj h
    have d3 : decide (t < 0) = true := decide_eq_true hn
    clear h hn
    go_enter Try.func10, Try.ntmps10
    go_wp2_with (first | ((with_reducible refine gate_dst (N := 1) rfl ?_); refine box_event ?hg (N := 1) ?hd (cs := #[.int .i64 a0_0, .slice A0_1 l0_1.length c0_1]) (t := 24) ?hr ?_; (case hd => rfl); (case hg => rfl); (case hr => first | (go_simp; done) | (go_simp; rfl)); intro gb hg_ w1 hbox_ hb_; have HX_gb := Aside0.mk hbox_; have HB_w1 := Aside0.mk hb_; have HG_gb := Aside0.mk hg_; clear hbox_ hb_ hg_; obtain ⟨b0, b1⟩ := cells2 HX_gb.out) | (go_at_call 13; refine (laws_szDiagram.calls (hr0_1 := Kd.C_below HR1.out HB_w1.out) (hc0_1 := HC1.out) (h := HT.out)).mono ?_; rintro e w2 ⟨rfl, hb⟩; have HB := Aside0.mk (below_step HB_w1.out hb); have HX := Aside0.mk (blk_below HX_gb.out hb); clear hb b0 b1; obtain ⟨b0, b1⟩ := cells2 HX.out))
    go_ret
    exact ⟨rfl, HB.out⟩
  rw [if_neg hn] at h
  have d3 : decide (t < 0) = false := decide_eq_false hn
  clear hn
  replace h := Option.bind_eq_some_iff.mp h
  obtain ⟨⟨n, bs⟩, hc, h⟩ := h
  replace h := Option.bind_eq_some_iff.mp h
  obtain ⟨⟨rs, rb⟩, hv, h⟩ := h
  replace h := Option.bind_eq_some_iff.mp h
  obtain ⟨u, hu', h⟩ := h
  dsimp only at h hv hu'
  split at h
  case isFalse => exact absurd h (by simp)
  rename_i hq
  obtain ⟨rfl, hl1, hl2, he, hmk⟩ := hq
  obtain rfl := Option.some.inj h
  obtain ⟨⟨m1, m2⟩, hm1, hm2⟩ : ∃ m, laws_markDiagram.f k n bs 1 = some m ∧ 0 ≤ m.1 := by
    cases hz : laws_markDiagram.f k n bs 1 with
    | none => rw [hz] at hmk; exact absurd hmk (by simp)
    | some m => rw [hz] at hmk; exact ⟨m, rfl, by simpa using hmk⟩
  have HTO := Aside0.mk hc; have HV := Aside0.mk hv; have HU := Aside0.mk hu'; have HL1 := Aside0.mk hl1; have HL2 := Aside0.mk hl2; have HE := Aside0.mk he; have HM := Aside0.mk hm1
  have dk : decide (m1 < 0) = false := decide_eq_false (by dsimp only at hm2; omega)
  clear h hc hv hu' hl1 hl2 he hmk hm1 hm2
  go_enter Try.func10, Try.ntmps10
  go_wp2_with (first | ((with_reducible refine gate_dst (N := 1) rfl ?_); refine box_event ?hg (N := 1) ?hd (cs := #[.int .i64 a0_0, .slice A0_1 l0_1.length c0_1]) (t := 24) ?hr ?_; (case hd => rfl); (case hg => rfl); (case hr => first | (go_simp; done) | (go_simp; rfl)); intro gb hg_ w1 hbox_ hb_; have HX_gb := Aside0.mk hbox_; have HB_w1 := Aside0.mk hb_; have HG_gb := Aside0.mk hg_; clear hbox_ hb_ hg_; obtain ⟨b0, b1⟩ := cells2 HX_gb.out) | (go_at_call 13; refine (laws_szDiagram.calls (hr0_1 := Kd.C_below HR1.out HB_w1.out) (hc0_1 := HC1.out) (h := HT.out)).mono ?_; rintro e w2 ⟨rfl, hb⟩; have HB := Aside0.mk (below_step HB_w1.out hb); have HX := Aside0.mk (blk_below HX_gb.out hb); clear hb b0 b1; obtain ⟨b0, b1⟩ := cells2 HX.out))
  refine (laws_toDiagram.calls (hr0_1 := Kd.C_below HR1.out HB.out) (hc0_1 := HC1.out) (h := HTO.out)).mono ?_
  rintro e wa ⟨v1_, rfl, hs1, hb⟩; obtain ⟨A1_a, c1_a, rfl⟩ := Kd.R_slice hs1
  have P1_a := Aside0.mk (Kd.R_reads' hs1).2.2; have Q1_a := Aside0.mk (Kd.R_reads' hs1).2.1
  clear hs1
  replace HB := bB HB hb; replace HX := xB HX hb; clear hb
  go_wp2_with (fail)
  refine (spec_TightestBounds.calls (c0_1 := _) (hr0_1 := P1_a.out) (h := HV.out)).mono ?_
  rintro e wc ⟨v4_, rfl, hs4, hb⟩; obtain ⟨A4, c4, rfl⟩ := Kd.S_slice hs4; have RS := Aside0.mk (S_range (N0 := w.heap.size) hs4 HB.out.size)
  clear hs4 P1_a Q1_a
  replace HB := bB HB hb; replace HX := xB HX hb; clear b0 b1; obtain ⟨b0, b1⟩ := cells2 HX.out; clear hb
  have ZG := Aside0.mk (blk_lt HX.out)
  go_wp2_with (fail)
  refine (laws_toDiagram.calls (hr0_1 := Kd.C_below HR1.out HB.out) (hc0_1 := HC1.out) (h := HTO.out)).mono ?_
  rintro e wd ⟨v1_, rfl, hs1, hb⟩; obtain ⟨A1_d, c1_d, rfl⟩ := Kd.R_slice hs1
  have R2 := Aside0.mk (R_range (N0 := w.heap.size) hs1 HB.out.size)
  clear hs1
  have Z2 := Aside0.mk hb.size
  replace RS := sB RS hb; replace HB := bB HB hb; replace HX := xB HX hb; clear hb
  go_wp2_with (fail)
  obtain ⟨wx, hwx⟩ : ∃ z, z = wd.alloc (.cells #[.int .i64 n, .slice A1_d bs.length c1_d] 29) := ⟨_, rfl⟩
  rw [← hwx]
  have hb : Below wd.heap.size wd wx := by rw [hwx]; exact below_alloc (Below.refl _ _) _
  have HY : Aside0 (wx.heap[wd.heap.size]? = some (.cells #[.int .i64 n, .slice A1_d bs.length c1_d] 29)) := ⟨by rw [hwx]; simpa using heap_alloc_new wd _⟩
  clear hwx
  have Z3 := Aside0.mk hb.size
  have ZD := Aside0.mk hb.size
  replace RS := sB RS hb; replace R2 := rB R2 hb; replace HB := bB HB hb; replace HX := xB HX hb; clear hb
  obtain ⟨d0_, d1_⟩ := cells2 HY.out
  obtain ⟨gx, hgx⟩ : ∃ z, z = wd.heap.size := ⟨_, rfl⟩
  rw [← hgx] at HY d0_ d1_ ⊢
  clear hgx
  refine (impl_TightestBounds.calls (hr0_1 := (Kd.R_reads' R2.out).2.2) (hc0_1 := (Kd.R_reads' R2.out).2.1) (h := HU.out)).mono ?_
  rintro e wf ⟨v5_, rfl, hs5, hb⟩; obtain ⟨A5, c5, rfl⟩ := Kd.S_slice hs5; have RG := Aside0.mk (S_range (N0 := w.heap.size) hs5 HB.out.size); clear hs5
  have Z5 := Aside0.mk hb.size
  replace ZD := Aside0.mk (Nat.le_trans ZD.out hb.size)
  replace RS := sB RS hb; replace R2 := rB R2 hb; replace HB := bB HB hb; replace HX := xB HX hb; replace HY := xB HY hb; clear hb
  go_wp2_with (fail)
  refine (eqSS _ _ _ _ rs _ (Kd.S_reads' RG.out).2.2 (Kd.S_reads' RS.out).2.2).mono ?_
  rintro e wg ⟨rfl, hb⟩
  replace ZD := Aside0.mk (Nat.le_trans ZD.out hb.size)
  replace RS := sB RS hb; replace RG := sB RG hb; replace R2 := rB R2 hb; replace HB := bB HB hb; replace HX := xB HX hb; clear b0 b1; obtain ⟨b0, b1⟩ := cells2 HX.out; replace HY := xB HY hb; clear d0_ d1_; obtain ⟨d0_, d1_⟩ := cells2 HY.out; clear hb
  go_wp2_with (fail)
  go_region_held3 (fun w' => Aside0 (Below wg.heap.size wg w') ∧ w'.cell? ⟨gx, 0, none⟩ = some (.int .i64 n) ∧ w'.cell? ⟨gx, 1, none⟩ = some (.slice A1_d bs.length c1_d) ∧ w'.cell? ⟨gb, 0, none⟩ = some (.int .i64 a0_0) ∧ w'.cell? ⟨gb, 1, none⟩ = some (.slice A0_1 l0_1.length c0_1)) ((first | exact ⟨⟨below_drew (Below.refl _ _)⟩, d0_, d1_, b0, b1⟩ | (obtain ⟨z_, z0, z1, z2, z3⟩ := ‹Aside0 (Below wg.heap.size wg _) ∧ _›; exact ⟨⟨below_step (by repeat (first | exact z_.out | apply below_drew)) hb'⟩, pw_cell_below hb' z0, pw_cell_below hb' z1, pw_cell_below hb' z2, pw_cell_below hb' z3⟩))) ((first | (go_at_call 15; refine (laws_toDiagram.calls (hr0_1 := Kd.C_below HR1.out (below_step HB.out (by obtain ⟨z_, _⟩ := ‹Aside0 (Below wg.heap.size wg _) ∧ _›; repeat (first | exact z_.out | apply below_drew)))) (hc0_1 := HC1.out) (h := HTO.out)).mono ?_; rintro e w' ⟨v1_, rfl, hs1, hb'⟩; obtain ⟨A1_g, c1_g, rfl⟩ := Kd.R_slice hs1; have P1_g := Aside0.mk (Kd.R_reads' hs1).2.2; have Q1_g := Aside0.mk (Kd.R_reads' hs1).2.1; clear hs1) | (go_at_call 17; refine (laws_eqDiagram.calls (hr0_1 := Kd.C_below (Kd.R_reads' R2.out).2.2 (by obtain ⟨z_, _⟩ := ‹Aside0 (Below wg.heap.size wg _) ∧ _›; repeat (first | exact z_.out | apply below_drew))) (hc0_1 := (Kd.R_reads' R2.out).2.1) (hr1_1 := (by repeat (first | exact P1_g.out | (with_reducible refine Kd.C_drewN ?_ _) | (with_reducible refine Kd.C_drew ?_)))) (hc1_1 := Q1_g.out) (h := HE.out)).mono ?_; rintro e w' ⟨rfl, hb'⟩)))
  obtain ⟨z_, _⟩ := ‹Aside0 (Below wg.heap.size wg _) ∧ _›
  have hb := z_.out
  clear z_
  replace ZD := Aside0.mk (Nat.le_trans ZD.out hb.size)
  replace RS := sB RS hb; replace RG := sB RG hb; replace R2 := rB R2 hb; replace HB := bB HB hb; replace HX := xB HX hb; replace HY := xB HY hb; clear d0_ d1_; obtain ⟨d0_, d1_⟩ := cells2 HY.out; clear hb
  go_wp2_with (fail)
  refine (laws_markDiagram.calls (w0 := w) (hB := HB.out) (ho0_1 := R2.out) (h := HM.out)).mono ?_
  rintro e wj ⟨rfl, _, hB, hK⟩
  clear R2 HY d0_ d1_ ZD
  replace RS := sK RS hK (fun b h h' => by have z2 := Z2.out; have z3 := Z3.out; have z5 := Z5.out; obtain ⟨⟨h1, h2⟩, _⟩ := h; omega)
  replace RG := sK RG hK (fun b h h' => by have z2 := Z2.out; have z3 := Z3.out; have z5 := Z5.out; obtain ⟨⟨h1, h2⟩, _⟩ := h; omega)
  replace HX := xK HX hK (fun h => by have z1 := ZG.out; have z2 := Z2.out; have z3 := Z3.out; have z5 := Z5.out; omega)
  replace HB := Aside0.mk hB; clear hB hK
  go_wp2_with (fail)
  refine (eqSS _ _ _ _ rs _ (Kd.S_reads' RG.out).2.2 (Kd.S_reads' RS.out).2.2).mono ?_
  rintro e wl ⟨rfl, hb⟩
  replace RS := sB RS hb; replace RG := sB RG hb; replace HB := bB HB hb; replace HX := xB HX hb; clear hb
  go_wp2_with (fail)
  refine (markSS _ _ rs 1 w _ HB.out RG.out HL1.out HL2.out (by decide) (by decide)).mono ?_
  rintro e wm ⟨ys, rfl, hys, hHF, hS, hB, hK⟩
  replace RG := Aside0.mk hS; have HN := Aside0.mk hys; have HF := Aside0.mk hHF; clear hS hys hHF
  replace RS := sK RS hK (fun b h h' => by have z2 := Z2.out; have z3 := Z3.out; have z5 := Z5.out; obtain ⟨⟨h1, h2⟩, _⟩ := h; obtain ⟨⟨h3, h4⟩, _⟩ := h'; omega)
  replace HX := xK HX hK (fun h => by have z1 := ZG.out; have z2 := Z2.out; have z3 := Z3.out; have z5 := Z5.out; obtain ⟨⟨h3, h4⟩, _⟩ := h; omega)
  replace HB := Aside0.mk hB; clear hB hK
  obtain ⟨mm, emm, hmm⟩ : ∃ z, offs rs 1 rs.length = z ∧ ¬ z < 0 := ⟨_, rfl, by have := (offs_in rs 1 HL2.out (by decide) (by decide) rs.length).1; omega⟩
  rw [emm]
  have dm : decide (mm < 0) = false := decide_eq_false hmm
  have HMM := Aside0.mk emm; clear emm hmm
  go_wp2_with (fail)
  have hh := heldSS A5 c5 rs ys 1 _ (Kd.S_reads' RG.out).2.2 HN.out HL1.out HL2.out (by decide) (by decide) HF.out
  rw [HN.out, HMM.out] at hh
  refine hh.mono ?_
  clear hh
  rintro e wn ⟨rfl, hb⟩
  replace RS := sB RS hb; replace RG := sB RG hb; replace HB := bB HB hb; replace HX := xB HX hb; clear b0 b1; obtain ⟨b0, b1⟩ := cells2 HX.out; clear hb
  go_wp2_with (fail)
  refine (laws_toDiagram.calls (hr0_1 := Kd.C_below HR1.out HB.out) (hc0_1 := HC1.out) (h := HTO.out)).mono ?_
  rintro e wo ⟨v1_, rfl, hs1, hb⟩; obtain ⟨A1_o, c1_o, rfl⟩ := Kd.R_slice hs1
  have P1_o := Aside0.mk (Kd.R_reads' hs1).2.2; have Q1_o := Aside0.mk (Kd.R_reads' hs1).2.1
  clear hs1
  replace RS := sB RS hb; replace RG := sB RG hb; replace HB := bB HB hb; replace HX := xB HX hb; clear hb
  go_wp2_with (fail)
  refine (impl_TightestBounds.calls (hr0_1 := P1_o.out) (hc0_1 := Q1_o.out) (h := HU.out)).mono ?_
  rintro e wq ⟨v6_, rfl, hs6, hb⟩; obtain ⟨A6, c6, rfl⟩ := Kd.S_slice hs6; have RH := Aside0.mk hs6; clear hs6 P1_o Q1_o
  replace RS := sB RS hb; replace RG := sB RG hb; replace HB := bB HB hb; replace HX := xB HX hb; clear hb
  go_wp2_with (fail)
  refine (eqSS _ _ _ _ rs _ (Kd.S_reads' RH.out).2.2 (Kd.S_reads' RS.out).2.2).mono ?_
  rintro e wr ⟨rfl, hb⟩
  clear RH
  replace RS := sB RS hb; replace RG := sB RG hb; replace HB := bB HB hb; replace HX := xB HX hb; clear hb
  go_wp2_with (fail)
  have hh := heldSS A5 c5 rs ys 1 _ (Kd.S_reads' RG.out).2.2 HN.out HL1.out HL2.out (by decide) (by decide) HF.out
  rw [HN.out, HMM.out] at hh
  refine hh.mono ?_
  clear hh
  rintro e ws ⟨rfl, hb⟩
  replace HB := bB HB hb; replace HX := xB HX hb; clear hb
  go_wp2
  go_ret
  exact ⟨rfl, HB.out⟩

/-- The one pure statement of the law. -/
def laws_FnExactTightestBounds.Pure : Prop := ∀ (a0_0 : Int) (l0_1 : List (S43)), (Lit.int .i64 a0_0).wf = true → (l0_1.length ≤ 9223372036854775807 ∧ ∀ y_ ∈ l0_1, ((Lit.int .i64 y_.f0).wf = true ∧ (Lit.int .i64 y_.f1).wf = true ∧ (Lit.int .i64 y_.f2).wf = true)) → ∃ k, laws_FnExactTightestBounds.f k a0_0 l0_1 = some true

end Go.Proofs.Ytljboamepnhfpaa.Pa
