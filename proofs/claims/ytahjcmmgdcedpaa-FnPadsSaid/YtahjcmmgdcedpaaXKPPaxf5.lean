-- Written for this claim by a program of this session.
import Derived.Test.YtahjcmmgdcedpaaXPax0
import Derived.Test.YtahjcmmgdcedpaaXKPPaxf8
import Derived.Test.YtahjcmmgdcedpaaXCoreP3
import Derived.Test.YtahjcmmgdcedpaaXCoreP1
import Derived.Test.YtahjcmmgdcedpaaXCoreP7
import Derived.Test.YtahjcmmgdcedpaaXCoreP8
import Derived.Test.YtahjcmmgdcedpaaXCoreP9
namespace Go.Proofs.Ytahjcmmgdcedpaa.Pa
open Go.RowKit Go.Proofs.YtahjcmmgdcedpaaW.PrintWords Go.Proofs.YtahjcmmgdcedpaaW.PrintLast Go.Proofs.YtahjcmmgdcedpaaW.PrintMore
attribute [local go_sem] max2_int min2_int max_two min_two max_three min_three max_four min_four   -- for this text's walks alone
set_option linter.unusedVariables false
set_option linter.unusedSimpArgs false

/-! ### laws_FnPads: function 5 -/
theorem box7_put {w0 w : World} {g t : Nat} {z0 z1 z2 z3 z4 z5 z6 : Value} (v0 v1 v2 v3 v4 v5 v6 : Value) (hb : Below w0.heap.size w0 w) (hg : w0.heap.size ≤ g) (h : w.heap[g]? = some (.cells #[z0, z1, z2, z3, z4, z5, z6] t (0, 0))) :
  Below w0.heap.size w0 (((((((w.setCell ⟨g, 0, none⟩ (v0)).setCell ⟨g, 1, none⟩ (v1)).setCell ⟨g, 2, none⟩ (v2)).setCell ⟨g, 3, none⟩ (v3)).setCell ⟨g, 4, none⟩ (v4)).setCell ⟨g, 5, none⟩ (v5)).setCell ⟨g, 6, none⟩ (v6)) ∧ (((((((w.setCell ⟨g, 0, none⟩ (v0)).setCell ⟨g, 1, none⟩ (v1)).setCell ⟨g, 2, none⟩ (v2)).setCell ⟨g, 3, none⟩ (v3)).setCell ⟨g, 4, none⟩ (v4)).setCell ⟨g, 5, none⟩ (v5)).setCell ⟨g, 6, none⟩ (v6)).heap[g]? = some (.cells #[v0, v1, v2, v3, v4, v5, v6] t (0, 0)) := by
 have k0 := blk_put h 0 v0 (cs' := #[v0, z1, z2, z3, z4, z5, z6]) rfl
 have k1 := blk_put k0 1 v1 (cs' := #[v0, v1, z2, z3, z4, z5, z6]) rfl
 have k2 := blk_put k1 2 v2 (cs' := #[v0, v1, v2, z3, z4, z5, z6]) rfl
 have k3 := blk_put k2 3 v3 (cs' := #[v0, v1, v2, v3, z4, z5, z6]) rfl
 have k4 := blk_put k3 4 v4 (cs' := #[v0, v1, v2, v3, v4, z5, z6]) rfl
 have k5 := blk_put k4 5 v5 (cs' := #[v0, v1, v2, v3, v4, v5, z6]) rfl
 have k6 := blk_put k5 6 v6 (cs' := #[v0, v1, v2, v3, v4, v5, v6]) rfl
 exact ⟨below_set (below_set (below_set (below_set (below_set (below_set (below_set hb hg) hg) hg) hg) hg) hg) hg, k6⟩
/-- The pads from the x-th on, d of them: none is below 0, and one less would leave too little room. -/
def padsLoop (k : Nat) (n : Int) (gs : List S56) (ds : List Int) (q3 q4 q5 q6 : Int) (sk pads : List Int) : Nat → Nat → Option Bool
 | 0, _ => some true
 | d + 1, x => if rd pads (x : Int) < 0 then none else if rd pads (x : Int) = 0 then padsLoop k n gs ds q3 q4 q5 q6 sk pads d (x + 1) else
  (impl_PadCircuit.f k n gs ds q3 q4 q5 q6 (pads.set x (wrap64 (rd pads (x : Int) - 1)))).bind fun b => (impl_HoldRoom.f k b.1 b.2.1 b.2.2.1 b.2.2.2.1 b.2.2.2.2.1 b.2.2.2.2.2.1 b.2.2.2.2.2.2.1 sk).bind fun u =>
   if b.2.2.2.2.2.2.2 = true then if u = (-1, true) then padsLoop k n gs ds q3 q4 q5 q6 sk pads d (x + 1) else none else none
/-- What the law computes where it holds. -/
def laws_FnPads.f (k : Nat) (l0 l1 : List Int) : Option Bool := (laws_r8Long.f l0 l1).bind fun t => if t = true then some true else (spec_R8Circuit.f k l0).bind fun b => (spec_R8Skews.f k l1 b.1).bind fun s =>
 (impl_PadsOf.f k b.1 b.2.1 b.2.2.1 b.2.2.2.1 b.2.2.2.2.1 b.2.2.2.2.2.1 b.2.2.2.2.2.2 s).bind fun p => if p.2 = true then if (p.1.length : Int) = b.1 ∧ p.1.length ≤ 1000 then
  (impl_PadCircuit.f k b.1 b.2.1 b.2.2.1 b.2.2.2.1 b.2.2.2.2.1 b.2.2.2.2.2.1 b.2.2.2.2.2.2 p.1).bind fun u => (spec_PadCircuit.f k b.1 b.2.1 b.2.2.1 b.2.2.2.1 b.2.2.2.2.1 b.2.2.2.2.2.1 b.2.2.2.2.2.2 p.1).bind fun v =>
   if v.2.2.2.2.2.2.2 = u.2.2.2.2.2.2.2 then if u.2.2.2.2.2.2.2 = true then
    (impl_HoldRoom.f k u.1 u.2.1 u.2.2.1 u.2.2.2.1 u.2.2.2.2.1 u.2.2.2.2.2.1 u.2.2.2.2.2.2.1 s).bind fun e => if e.2 = true then if e.1 < 0 then none else padsLoop k b.1 b.2.1 b.2.2.1 b.2.2.2.1 b.2.2.2.2.1 b.2.2.2.2.2.1 b.2.2.2.2.2.2 s p.1 p.1.length 0 else none
   else impl_ValidCircuit.f b.1 b.2.1 b.2.2.1 b.2.2.2.1 b.2.2.2.2.1 b.2.2.2.2.2.1 b.2.2.2.2.2.2
   else none else none else none
set_option maxHeartbeats 8000000 in
set_option maxRecDepth 100000 in
theorem laws_FnPads.calls (k : Nat) (A0 : Option Addr) (c0 : Nat) (l0 : List Int) (A1 : Option Addr) (c1 : Nat) (l1 : List Int) (r : Bool) (w : World) (hr0 : Kd.C (Kd.int .u8) w A0 l0.length l0) (hc0 : l0.length ≤ c0) (hr1 : Kd.C (Kd.int .u8) w A1 l1.length l1) (hc1 : l1.length ≤ c1) (h : laws_FnPads.f k l0 l1 = some r) :
  Calls Try.prog 5 #[.slice A0 l0.length c0, .slice A1 l1.length c1] w fun e w' => e = .returned (.bool r) ∧ Below w.heap.size w w' := by
 have hu2 := Try.underlying45
 have HR0 := Aside0.mk hr0
 have HC0 := Aside0.mk hc0
 have HR1 := Aside0.mk hr1
 have HC1 := Aside0.mk hc1
 clear hr0 hc0 hr1 hc1
 obtain ⟨t, ht, h⟩ := Option.bind_eq_some_iff.mp h
 have HT := Aside0.mk ht
 clear ht
 go_enter Try.func5, Try.ntmps5
 cases t with
 | true =>
  go_wp2_with (fail)
  refine (laws_r8Long.calls (hr0 := HR0.out) (hc0 := HC0.out) (hr1 := HR1.out) (hc1 := HC1.out) (h := HT.out)).mono ?_
  rintro e w2 ⟨rfl, hd⟩
  obtain rfl := Option.some.inj h
  obtain ⟨nd, rfl⟩ := hd
  go_wp2
  go_ret
  exact ⟨rfl, by repeat (first | exact Below.refl _ _ | apply pw_below_drewN)⟩
 | false =>
  rw [if_neg (by decide)] at h
  obtain ⟨⟨n, gs, ds, q3, q4, q5, q6⟩, hb_, h⟩ := Option.bind_eq_some_iff.mp h
  dsimp only at h
  obtain ⟨s, hs_, h⟩ := Option.bind_eq_some_iff.mp h
  obtain ⟨⟨ps, one⟩, hp_, h⟩ := Option.bind_eq_some_iff.mp h
  dsimp only at h
  by_cases h1 : one = true
  case neg => rw [if_neg h1] at h; exact absurd h (by simp)
  rw [if_pos h1] at h
  subst h1
  by_cases h2 : (ps.length : Int) = n ∧ ps.length ≤ 1000
  case neg => rw [if_neg h2] at h; exact absurd h (by simp)
  rw [if_pos h2] at h
  obtain ⟨⟨u0, u1, u2, u3, u4, u5, u6, two⟩, hu_, h⟩ := Option.bind_eq_some_iff.mp h
  dsimp only at h
  obtain ⟨⟨y0, y1, y2, y3, y4, y5, y6, known⟩, hy_, h⟩ := Option.bind_eq_some_iff.mp h
  dsimp only at h
  by_cases h3 : known = two
  case neg => rw [if_neg h3] at h; exact absurd h (by simp)
  rw [if_pos h3] at h
  subst h3
  have HB_ := Aside0.mk hb_
  have HS_ := Aside0.mk hs_
  have HP_ := Aside0.mk hp_
  have HU_ := Aside0.mk hu_
  have HY_ := Aside0.mk hy_
  have H2 := Aside0.mk h2
  have HH := Aside0.mk h
  clear hb_ hs_ hp_ hu_ hy_ h2 h
  go_wp2_with (fail)
  refine (laws_r8Long.calls (hr0 := HR0.out) (hc0 := HC0.out) (hr1 := HR1.out) (hc1 := HC1.out) (h := HT.out)).mono ?_
  rintro e w2 ⟨rfl, hd⟩
  obtain ⟨nd, rfl⟩ := hd
  have HB : Aside0 (Below w.heap.size w (w.drewN nd)) := ⟨pw_below_drewN (Below.refl _ _) _⟩
  generalize w.drewN nd = w2 at HB ⊢
  go_wp2_with (fail)
  refine (spec_R8Circuit.calls (hr0 := Kd.C_below HR0.out HB.out) (hc0 := HC0.out) (h := HB_.out)).mono ?_
  rintro e w3 ⟨v1_, v2_, rfl, hs1, hs2, hb⟩; obtain ⟨Ag, cg, rfl⟩ := Kd.S_slice hs1; obtain ⟨Ad, cd, rfl⟩ := Kd.R_slice hs2; have PG := Aside0.mk (Kd.S_reads' hs1).2.2; have QG := Aside0.mk (Kd.S_reads' hs1).2.1; have PD := Aside0.mk (Kd.R_reads' hs2).2.2; have QD := Aside0.mk (Kd.R_reads' hs2).2.1; clear hs1 hs2; replace HB := Aside0.mk (below_step HB.out hb); clear hb
  go_wp2_with (((with_reducible refine gate_dst (N := 5) rfl ?_); (try (refine gate_guard (by rfl) ?_; dsimp only)); refine box_event ?hg (N := 5) ?hd (cs := #[.int .i64 0, .slice none 0 0, .slice none 0 0, .int .i64 0, .int .i64 0, .int .i64 0, .int .i64 0]) (t := 45) ?hr ?_; (case hd => rfl); (case hg => rfl); (case hr => first | (go_simp; done) | (go_simp; rfl)); intro gc hgz_ w4 hbox hbz; have HGZ := Aside0.mk hgz_; clear hgz_; have hz0_ := blk_cell hbox 0; have hf0_ := blk_frozen hbox 0; have hz1_ := blk_cell hbox 1; have hf1_ := blk_frozen hbox 1; have hz2_ := blk_cell hbox 2; have hf2_ := blk_frozen hbox 2; have hz3_ := blk_cell hbox 3; have hf3_ := blk_frozen hbox 3; have hz4_ := blk_cell hbox 4; have hf4_ := blk_frozen hbox 4; have hz5_ := blk_cell hbox 5; have hf5_ := blk_frozen hbox 5; have hz6_ := blk_cell hbox 6; have hf6_ := blk_frozen hbox 6))
  clear hz0_ hf0_ hz1_ hf1_ hz2_ hf2_ hz3_ hf3_ hz4_ hf4_ hz5_ hf5_ hz6_ hf6_
  have hq := box7_put (.int .i64 n) (.slice Ag gs.length cg) (.slice Ad ds.length cd) (.int .i64 q3) (.int .i64 q4) (.int .i64 q5) (.int .i64 q6) hbz (Nat.le_of_eq HGZ.out.symm) hbox
  clear HGZ hbz hbox
  generalize (((((((w4.setCell ⟨gc, 0, none⟩ (.int .i64 n)).setCell ⟨gc, 1, none⟩ (.slice Ag gs.length cg)).setCell ⟨gc, 2, none⟩ (.slice Ad ds.length cd)).setCell ⟨gc, 3, none⟩ (.int .i64 q3)).setCell ⟨gc, 4, none⟩ (.int .i64 q4)).setCell ⟨gc, 5, none⟩ (.int .i64 q5)).setCell ⟨gc, 6, none⟩ (.int .i64 q6)) = w5 at hq ⊢
  replace PG := Aside0.mk (Kd.C_below PG.out hq.1)
  replace PD := Aside0.mk (Kd.C_below PD.out hq.1)
  replace HB := Aside0.mk (below_step HB.out hq.1)
  have HX := Aside0.mk hq.2
  clear hq
  refine (spec_R8Skews.calls (hr0 := Kd.C_below HR1.out HB.out) (hc0 := HC1.out) (h := HS_.out)).mono ?_
  rintro e w6 ⟨v3_, rfl, hs3, hb⟩; obtain ⟨As, cs, rfl⟩ := Kd.R_slice hs3; have PS := Aside0.mk (Kd.R_reads' hs3).2.2; have QS := Aside0.mk (Kd.R_reads' hs3).2.1; clear hs3
  replace PG := Aside0.mk (Kd.C_below PG.out hb)
  replace PD := Aside0.mk (Kd.C_below PD.out hb)
  replace HX := Aside0.mk (blk_below HX.out hb)
  replace HB := Aside0.mk (below_step HB.out hb)
  clear hb
  obtain ⟨b0, b1, b2, b3, b4, b5, b6⟩ := cells7 HX.out
  go_wp2_with (fail)
  refine (impl_PadsOf.calls (hr0_1 := PG.out) (hc0_1 := QG.out) (hr0_2 := PD.out) (hc0_2 := QD.out) (hr1 := PS.out) (hc1 := QS.out) (h := HP_.out)).mono ?_
  rintro e w7 ⟨v4_, rfl, hs4, hb⟩; obtain ⟨Ap, cp, rfl⟩ := Kd.R_slice hs4; have PP := Aside0.mk (Kd.R_reads' hs4).2.2; have QP := Aside0.mk (Kd.R_reads' hs4).2.1; clear hs4
  clear b0 b1 b2 b3 b4 b5 b6
  replace PG := Aside0.mk (Kd.C_below PG.out hb)
  replace PD := Aside0.mk (Kd.C_below PD.out hb)
  replace PS := Aside0.mk (Kd.C_below PS.out hb)
  replace HX := Aside0.mk (blk_below HX.out hb)
  replace HB := Aside0.mk (below_step HB.out hb)
  clear hb
  obtain ⟨b0, b1, b2, b3, b4, b5, b6⟩ := cells7 HX.out
  have e2 := H2.out.1
  have e3 : ((ps.length : Int) != n) = false := by simp [e2]
  have e4 : ((ps.length : Int) == n) = true := by simp [e2]
  go_wp2_with (fail)
  refine (impl_PadCircuit.calls (hr0_1 := PG.out) (hc0_1 := QG.out) (hr0_2 := PD.out) (hc0_2 := QD.out) (hr1 := PP.out) (hc1 := QP.out) (h := HU_.out)).mono ?_
  rintro e w8 ⟨v5_, v6_, rfl, hs1, hs2, hb⟩; obtain ⟨Au, cu, rfl⟩ := Kd.S_slice hs1; obtain ⟨Av, cv, rfl⟩ := Kd.R_slice hs2; have PU := Aside0.mk (Kd.S_reads' hs1).2.2; have QU := Aside0.mk (Kd.S_reads' hs1).2.1; have PV := Aside0.mk (Kd.R_reads' hs2).2.2; have QV := Aside0.mk (Kd.R_reads' hs2).2.1; clear hs1 hs2
  clear b0 b1 b2 b3 b4 b5 b6
  replace PG := Aside0.mk (Kd.C_below PG.out hb)
  replace PD := Aside0.mk (Kd.C_below PD.out hb)
  replace PS := Aside0.mk (Kd.C_below PS.out hb)
  replace PP := Aside0.mk (Kd.C_below PP.out hb)
  replace HX := Aside0.mk (blk_below HX.out hb)
  replace HB := Aside0.mk (below_step HB.out hb)
  clear hb
  obtain ⟨b0, b1, b2, b3, b4, b5, b6⟩ := cells7 HX.out
  have hlt := blk_lt HX.out
  go_wp2_with (fail)
  clear b0 b1 b2 b3 b4 b5 b6
  clear hlt
  obtain ⟨w10, hwx⟩ : ∃ z, z = w8.alloc (.cells #[.int .i64 u0, .slice Au u1.length cu, .slice Av u2.length cv, .int .i64 u3, .int .i64 u4, .int .i64 u5, .int .i64 u6] 45) := ⟨_, rfl⟩
  rw [← hwx]
  have hb : Below w8.heap.size w8 w10 := by rw [hwx]; exact below_alloc (Below.refl _ _) _
  have HY : Aside0 (w10.heap[w8.heap.size]? = some (.cells #[.int .i64 u0, .slice Au u1.length cu, .slice Av u2.length cv, .int .i64 u3, .int .i64 u4, .int .i64 u5, .int .i64 u6] 45 (0, 0))) := ⟨by rw [hwx]; simpa using heap_alloc_new w8 _⟩
  clear hwx
  replace PG := Aside0.mk (Kd.C_below PG.out hb)
  replace PD := Aside0.mk (Kd.C_below PD.out hb)
  replace PS := Aside0.mk (Kd.C_below PS.out hb)
  replace PP := Aside0.mk (Kd.C_below PP.out hb)
  replace PU := Aside0.mk (Kd.C_below PU.out hb)
  replace PV := Aside0.mk (Kd.C_below PV.out hb)
  replace HX := Aside0.mk (blk_below HX.out hb)
  replace HB := Aside0.mk (below_step HB.out hb)
  clear hb
  generalize w8.heap.size = gu at HY ⊢
  refine (spec_PadCircuit.calls (hr0_1 := PG.out) (hc0_1 := QG.out) (hr0_2 := PD.out) (hc0_2 := QD.out) (hr1 := PP.out) (hc1 := QP.out) (h := HY_.out)).mono ?_
  rintro e w11 ⟨v7_, v8_, rfl, hs1, hs2, hb⟩; obtain ⟨Ay, cy, rfl⟩ := Kd.S_slice hs1; obtain ⟨Az, cz, rfl⟩ := Kd.R_slice hs2; clear hs1 hs2
  replace PG := Aside0.mk (Kd.C_below PG.out hb)
  replace PD := Aside0.mk (Kd.C_below PD.out hb)
  replace PS := Aside0.mk (Kd.C_below PS.out hb)
  replace PP := Aside0.mk (Kd.C_below PP.out hb)
  replace PU := Aside0.mk (Kd.C_below PU.out hb)
  replace PV := Aside0.mk (Kd.C_below PV.out hb)
  replace HX := Aside0.mk (blk_below HX.out hb)
  replace HY := Aside0.mk (blk_below HY.out hb)
  replace HB := Aside0.mk (below_step HB.out hb)
  clear hb
  cases known with
  | false =>
   have hh := HH.out
   rw [if_neg (by decide)] at hh
   have HVC := Aside0.mk hh
   clear hh HH
   obtain ⟨b0, b1, b2, b3, b4, b5, b6⟩ := cells7 HX.out
   have hlt := blk_lt HX.out
   go_wp2_with (fail)
   clear b0 b1 b2 b3 b4 b5 b6
   clear hlt
   obtain ⟨w13, hwx⟩ : ∃ z, z = w11.alloc (.cells #[.int .i64 y0, .slice Ay y1.length cy, .slice Az y2.length cz, .int .i64 y3, .int .i64 y4, .int .i64 y5, .int .i64 y6] 45) := ⟨_, rfl⟩
   rw [← hwx]
   have hb : Below w11.heap.size w11 w13 := by rw [hwx]; exact below_alloc (Below.refl _ _) _
   clear hwx
   replace PG := Aside0.mk (Kd.C_below PG.out hb)
   replace PD := Aside0.mk (Kd.C_below PD.out hb)
   replace HB := Aside0.mk (below_step HB.out hb)
   clear hb
   generalize w11.heap.size = gy at ⊢
   refine (impl_ValidCircuit.calls (hr0_1 := PG.out) (hc0_1 := QG.out) (hr0_2 := PD.out) (hc0_2 := QD.out) (h := HVC.out)).mono ?_
   rintro e w14 ⟨rfl, hb⟩
   replace HB := Aside0.mk (below_step HB.out hb)
   clear hb
   go_wp2
   go_ret
   exact ⟨rfl, by repeat (first | exact HB.out | apply pw_below_drewN | apply below_drew1)⟩
  | true =>
   have hh := HH.out
   rw [if_pos rfl] at hh
   obtain ⟨⟨e0, e1⟩, he_, hh⟩ := Option.bind_eq_some_iff.mp hh
   dsimp only at hh
   by_cases z1 : e1 = true
   case neg => rw [if_neg z1] at hh; exact absurd hh (by simp)
   rw [if_pos z1] at hh
   subst z1
   by_cases z2 : e0 < 0
   case pos => rw [if_pos z2] at hh; exact absurd hh (by simp)
   rw [if_neg z2] at hh
   have HE_ := Aside0.mk he_
   have HZ := Aside0.mk z2
   have HL := Aside0.mk hh
   clear hh HH he_ z2
   obtain ⟨b0, b1, b2, b3, b4, b5, b6⟩ := cells7 HY.out
   have hlt := blk_lt HY.out
   go_wp2_with (fail)
   clear b0 b1 b2 b3 b4 b5 b6
   clear hlt
   obtain ⟨w13, hwx⟩ : ∃ z, z = w11.alloc (.cells #[.int .i64 y0, .slice Ay y1.length cy, .slice Az y2.length cz, .int .i64 y3, .int .i64 y4, .int .i64 y5, .int .i64 y6] 45) := ⟨_, rfl⟩
   rw [← hwx]
   have hb : Below w11.heap.size w11 w13 := by rw [hwx]; exact below_alloc (Below.refl _ _) _
   clear hwx
   replace PG := Aside0.mk (Kd.C_below PG.out hb)
   replace PD := Aside0.mk (Kd.C_below PD.out hb)
   replace PS := Aside0.mk (Kd.C_below PS.out hb)
   replace PP := Aside0.mk (Kd.C_below PP.out hb)
   replace PU := Aside0.mk (Kd.C_below PU.out hb)
   replace PV := Aside0.mk (Kd.C_below PV.out hb)
   replace HX := Aside0.mk (blk_below HX.out hb)
   replace HB := Aside0.mk (below_step HB.out hb)
   clear hb
   generalize w11.heap.size = gy at ⊢
   clear HY
   refine (impl_HoldRoom.calls (hr0_1 := PU.out) (hc0_1 := QU.out) (hr0_2 := PV.out) (hc0_2 := QV.out) (hr1 := PS.out) (hc1 := QS.out) (h := HE_.out)).mono ?_
   rintro e w14 ⟨rfl, hb⟩
   clear PU PV QU QV
   replace PG := Aside0.mk (Kd.C_below PG.out hb)
   replace PD := Aside0.mk (Kd.C_below PD.out hb)
   replace PS := Aside0.mk (Kd.C_below PS.out hb)
   replace PP := Aside0.mk (Kd.C_below PP.out hb)
   replace HX := Aside0.mk (blk_below HX.out hb)
   replace HB := Aside0.mk (below_step HB.out hb)
   clear hb
   have z2 : ¬ e0 < 0 := by have := HZ.out; omega
   have z3 : decide (e0 < 0) = false := decide_eq_false z2
   replace z2 := eq_false z2
   go_wp2_with (fail)
   clear z2 z3 e2 e3 e4
   go_loopg [15] (ps.length + 1) (fun gg s15 wr => ∃ (x : Nat), s15 = .int .i64 (x : Int) ∧ Aside0 (x ≤ ps.length ∧ ps.length - x < gg) ∧ Aside0 (Below w.heap.size w wr) ∧ Aside0 (wr.heap[gc]? = some (.cells #[.int .i64 n, .slice Ag gs.length cg, .slice Ad ds.length cd, .int .i64 q3, .int .i64 q4, .int .i64 q5, .int .i64 q6] 45 (0, 0))) ∧ Aside0 (Kd.C k56 wr Ag gs.length gs) ∧ Aside0 (Kd.C (Kd.int .i64) wr Ad ds.length ds) ∧ Aside0 (Kd.C (Kd.int .i64) wr As s.length s) ∧ Aside0 (Kd.C (Kd.int .i64) wr Ap ps.length ps) ∧ Aside0 (padsLoop k n gs ds q3 q4 q5 q6 s ps (ps.length - x) x = some r))
   case atStart => exact ⟨0, rfl, ⟨by simp⟩, by first | exact HB | exact ⟨by repeat (first | exact HB.out | apply pw_below_drewN | apply below_drew1)⟩, HX, PG, PD, PS, PP, HL⟩
   case round =>
    clear HB HX PG PD PS PP HL
    obtain ⟨x, rfl, HXX, HB, HX, PG, PD, PS, PP, HL⟩ := hrel
    generalize hxi : (x : Int) = xi
    by_cases hlt : x < ps.length
    ·have hlt' : xi < (ps.length : Int) := by omega
     have h0' : (0 : Int) ≤ xi := by omega
     obtain ⟨d, hd⟩ : ∃ d, ps.length - x = d + 1 := ⟨ps.length - x - 1, by omega⟩
     have hl := HL.out
     rw [hd] at hl
     unfold padsLoop at hl
     rw [hxi] at hl
     by_cases y1 : rd ps xi < 0
     case pos => rw [if_pos y1] at hl; exact absurd hl (by simp)
     rw [if_neg y1] at hl
     obtain ⟨ad, ea, ha⟩ := Kd.at_int PP.out xi h0' hlt'
     cases ea
     have HD := Aside0.mk hd
     have HXI := Aside0.mk hxi
     have HLT := Aside0.mk hlt
     clear hd hxi hlt HL
     have c2 : decide (xi < (ps.length : Int)) = true := decide_eq_true hlt'
     have c1 : decide ((0 : Int) ≤ xi) = true := decide_eq_true h0'
     have c3 : decide (rd ps xi < 0) = false := decide_eq_false y1
     have p0 := eq_true h0'
     have p1 := eq_true hlt'
     have p3 := eq_false y1
     have hsz := HXX.out
     have hpl := PP.out.2.1
     by_cases y2 : rd ps xi = 0
     ·rw [if_pos y2] at hl
      have HN := Aside0.mk hl
      clear hl
      have c4 : (rd ps xi == 0) = true := beq_iff_eq.mpr y2
      have c5 : decide (rd ps xi = 0) = true := decide_eq_true y2
      have hxx := HXI.out
      have hll := HLT.out
      clear hxx hll
      go_wp2
      go_roundg (ps.length - x)
      case measure => have := HD.out; omega
      case rel =>
       have hxi := HXI.out
       have hd := HD.out
       refine ⟨x + 1, by first | (rw [show wrap64 (xi + 1) = ((x + 1 : Nat) : Int) from by unfold wrap64; omega]) | (rw [i64_w, show wrap64 (xi + 1) = ((x + 1 : Nat) : Int) from by unfold wrap64; omega]) | (rw [show xi + 1 = ((x + 1 : Nat) : Int) from by omega]), ⟨by omega⟩, HB, HX, PG, PD, PS, PP, ⟨by rw [show ps.length - (x + 1) = d by omega]; exact HN.out⟩⟩
     ·rw [if_neg y2] at hl
      obtain ⟨⟨t0, t1, t2, t3, t4, t5, t6, t7⟩, hk_, hl⟩ := Option.bind_eq_some_iff.mp hl
      dsimp only at hl
      obtain ⟨m, hm_, hj⟩ := Option.bind_eq_some_iff.mp hl
      clear hl
      by_cases y3 : t7 = true
      case neg => rw [if_neg y3] at hj; exact absurd hj (by simp)
      rw [if_pos y3] at hj
      subst y3
      by_cases y4 : m = (-1, true)
      case neg => rw [if_neg y4] at hj; exact absurd hj (by simp)
      rw [if_pos y4] at hj
      subst y4
      have HN := Aside0.mk hj
      have HM := Aside0.mk hm_
      clear hj hm_
      have c4 : (rd ps xi == 0) = false := beq_eq_false_iff_ne.mpr y2
      have c5 : decide (rd ps xi = 0) = false := decide_eq_false y2
      obtain ⟨xn, hxn⟩ : ∃ z, z = xi.toNat := ⟨_, rfl⟩
      have hxn' : xn = x := by have := HXI.out; omega
      rw [← hxn'] at hk_
      obtain ⟨less, hless⟩ : ∃ z, z = ps.set xn (wrap64 (rd ps xi - 1)) := ⟨_, rfl⟩
      rw [← hless] at hk_
      have hll : less.length = ps.length := by rw [hless]; simp
      have HK_ := Aside0.mk hk_
      have HLS := Aside0.mk hless
      have HLN := Aside0.mk hll
      have HXN := Aside0.mk hxn
      clear hk_ hless hll hxn hxn'
      have hlen := H2.out.2
      go_wp2_with (first | ((with_reducible refine gate_dst (N := 92) rfl ?_); refine Kd.R_lit (Kd.int .i64) _ 2 ?hg (N := 92) ?hd (xs := ([] : List Int)) (inner := []) (ok := fun _ => True) (okp := fun _ => True) ?hr ?hp (fun _ hk => hk) trivial (Below.refl _ _) (Nat.le_refl _) (by simp) ?_; (case hd => rfl); (case hg => rfl); (case hr => first | (go_simp; done) | (go_simp; rfl)); (case hp => exact (Reps.none _ _)); intro v92 w20 ho hb hg_ hnew_; have HO1 := Aside0.mk (Kd.R_lower ho (Nat.le_refl _)); have HR1_ := Aside0.mk hb; clear hg_ hnew_ ho hb) | ((with_reducible refine gate_builtin (b := .append) (xs := #[.tmp 92, .tmp 93]) rfl ?_); at_builtin; refine Kd.R_append_rows (Kd.int .i64) (w0 := wr) wr.heap.size rfl (.tmp 92) (.tmp 93) 28 2 (.int .i64 0) 8 rfl Try.underlying28 info2 rfl (by decide) (by omega) v92 [] ps _ _ _ (fun _ => True) (fun _ => False) rfl rfl HO1.out (Kd.C_below PP.out HR1_.out) (fun _ _ h => h) (fun _ h => h.elim) (fun _ _ => trivial) HR1_.out (below_size HR1_.out) (by simp; omega) ?_; intro v94 w21 ho hb hg hat; rw [List.nil_append] at ho; obtain ⟨g16, c16, rfl, hg16, hlt16, -⟩ := Kd.R_form ho (by omega); have HR2_ := Aside0.mk hb; have HO2 := Aside0.mk ho; have HG16 := Aside0.mk hg16; clear ho hb hg hat hg16 hlt16 HO1 HR1_; obtain ⟨hx16, hf16⟩ := Kd.R_celln 0 HO2.out xi h0' hlt'; have hx16' : w21.cell? ⟨g16, xi.toNat, none⟩ = some (.int .i64 (rd ps xi)) := hx16; clear hx16) | ((with_reducible refine gate_store (t := 2) (p := 100) rfl ?_); refine store_event (t := 2) (p := 100) (v := ?vo_) (w1 := (w21.setCell ⟨g16, xi.toNat, none⟩ (.int .i64 (wrap64 (rd ps xi - 1))))) ?hg ?ho ?hn ?hr ?_; (case ho => rfl); (case hg => rfl); (case hn => rfl); (case hr => first | (go_simp; done) | (go_simp; rfl)); intro w22 hw; have HR3_ : Aside0 (Below wr.heap.size wr w22) := ⟨by rw [hw]; exact below_set HR2_.out HG16.out⟩; have HO3 : Aside0 (Kd.R (Kd.int .i64) 2 w22 wr.heap.size (fun _ => True) (.slice (some ⟨g16, 0, none⟩) ps.length c16) less) := ⟨by rw [hw, HLS.out, HXN.out]; exact (Kd.R_putg HO2.out xi (wrap64 (rd ps xi - 1))).1⟩; clear hw hx16' hf16 HO2; obtain ⟨b0, b1, b2, b3, b4, b5, b6⟩ := cells7 (blk_below HX.out HR3_.out)))
      clear b0 b1 b2 b3 b4 b5 b6
      clear HR2_
      have hcall := impl_PadCircuit.calls (A1 := some ⟨g16, 0, none⟩) (c1 := c16) (w := w22) (hr0_1 := Kd.C_below PG.out HR3_.out) (hc0_1 := QG.out) (hr0_2 := Kd.C_below PD.out HR3_.out) (hc0_2 := QD.out) (hr1 := (Kd.R_reads' HO3.out).2.2) (hc1 := (by have := (Kd.R_reads' HO3.out).2.1; have := HLN.out; omega)) (h := HK_.out)
      rw [HLN.out] at hcall
      refine hcall.mono ?_
      clear hcall
      rintro e w23 ⟨v5_, v6_, rfl, hs1, hs2, hb⟩; obtain ⟨At, ct, rfl⟩ := Kd.S_slice hs1; obtain ⟨Aq, cq, rfl⟩ := Kd.R_slice hs2; have PT := Aside0.mk (Kd.S_reads' hs1).2.2; have QT := Aside0.mk (Kd.S_reads' hs1).2.1; have PQ := Aside0.mk (Kd.R_reads' hs2).2.2; have QQ := Aside0.mk (Kd.R_reads' hs2).2.1; clear hs1 hs2; replace HR3_ := Aside0.mk (below_step HR3_.out hb); clear hb HO3
      go_wp2_with (fail)
      obtain ⟨w24, hwx⟩ : ∃ z, z = w23.alloc (.cells #[.int .i64 t0, .slice At t1.length ct, .slice Aq t2.length cq, .int .i64 t3, .int .i64 t4, .int .i64 t5, .int .i64 t6] 45) := ⟨_, rfl⟩
      rw [← hwx]
      have hb : Below w23.heap.size w23 w24 := by rw [hwx]; exact below_alloc (Below.refl _ _) _
      clear hwx
      replace PT := Aside0.mk (Kd.C_below PT.out hb)
      replace PQ := Aside0.mk (Kd.C_below PQ.out hb)
      replace HR3_ := Aside0.mk (below_step HR3_.out hb)
      clear hb
      generalize w23.heap.size = g17 at ⊢
      refine (impl_HoldRoom.calls (hr0_1 := PT.out) (hc0_1 := QT.out) (hr0_2 := PQ.out) (hc0_2 := QQ.out) (hr1 := Kd.C_below PS.out HR3_.out) (hc1 := QS.out) (h := HM.out)).mono ?_
      rintro e w25 ⟨rfl, hb⟩; replace HR3_ := Aside0.mk (below_step HR3_.out hb); clear hb PT PQ
      go_wp2
      go_roundg (ps.length - x)
      case measure => have := HD.out; omega
      case rel =>
       have hxi := HXI.out
       have hd := HD.out
       refine ⟨x + 1, by first | (rw [show wrap64 (xi + 1) = ((x + 1 : Nat) : Int) from by unfold wrap64; omega]) | (rw [i64_w, show wrap64 (xi + 1) = ((x + 1 : Nat) : Int) from by unfold wrap64; omega]) | (rw [show xi + 1 = ((x + 1 : Nat) : Int) from by omega]), ⟨by omega⟩, ⟨below_step HB.out HR3_.out⟩, ⟨blk_below HX.out HR3_.out⟩, ⟨Kd.C_below PG.out HR3_.out⟩, ⟨Kd.C_below PD.out HR3_.out⟩, ⟨Kd.C_below PS.out HR3_.out⟩, ⟨Kd.C_below PP.out HR3_.out⟩, ⟨by rw [show ps.length - (x + 1) = d by omega]; exact HN.out⟩⟩
    ·have hlt' : ¬ (xi < (ps.length : Int)) := by omega
     have c2 : decide (xi < (ps.length : Int)) = false := decide_eq_false hlt'
     have p2 := eq_false hlt'
     have hl := HL.out
     rw [show ps.length - x = 0 by omega] at hl
     injection hl with hl
     subst hl
     clear HL hlt hxi
     go_wp2
     go_ret
     exact ⟨rfl, by repeat (first | exact HB.out | apply pw_below_drewN | apply below_drew1)⟩

/-- THE ONE PURE STATEMENT of laws_FnPads: yours. -/
def laws_FnPads.Pure : Prop := ∀ (l0 : List Int) (l1 : List Int), (l0.length ≤ 9223372036854775807 ∧ ∀ x_ ∈ l0, (Lit.int .u8 x_).wf = true) → (l1.length ≤ 9223372036854775807 ∧ ∀ x_ ∈ l1, (Lit.int .u8 x_).wf = true) → ∃ k, laws_FnPads.f k l0 l1 = some true

end Go.Proofs.Ytahjcmmgdcedpaa.Pa
