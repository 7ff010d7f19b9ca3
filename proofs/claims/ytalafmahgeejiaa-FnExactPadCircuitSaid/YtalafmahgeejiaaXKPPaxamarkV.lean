-- Written for this claim by a program of this session.
import Derived.Test.YtalafmahgeejiaaXPax0
import Derived.Test.YtalafmahgeejiaaXCoreP1
import Derived.Test.YtalafmahgeejiaaXKPPaxf26
import Derived.Test.YtalafmahgeejiaaXKPPaxf38
import Derived.Test.YtalafmahgeejiaaXKPPaxaheldfrom
namespace Go.Proofs.Ytalafmahgeejiaa.Pa
open Go.RowKit Go.Proofs.YtalafmahgeejiaaW.PrintWords Go.Proofs.YtalafmahgeejiaaW.PrintLast Go.Proofs.YtalafmahgeejiaaW.PrintMore
attribute [local go_sem] max2_int min2_int max_two min_two max_three min_three max_four min_four   -- for this text's walks alone
set_option linter.unusedVariables false
set_option linter.unusedSimpArgs false

/-! ### AUX markV -/
/-- Gates that hold the marks from k on: the number behind them. -/
def hkG : Int → List S62 → Option Int
 | k, [] => some k
 | k, g :: t => if g.f0 = k ∧ g.f1 = k + 1 ∧ laws_heldInt64S.f (g.f2.length + 1) g.f2 (k + 1 + 1) = some (k + 1 + 1 + (g.f2.length : Int)) then hkG (k + 1 + 1 + (g.f2.length : Int)) t else none
theorem hkG_snoc (l : List S62) (g : S62) : ∀ (k0 k : Int), hkG k0 l = some k → g.f0 = k → g.f1 = k + 1 → laws_heldInt64S.f (g.f2.length + 1) g.f2 (k + 1 + 1) = some (k + 1 + 1 + (g.f2.length : Int)) → hkG k0 (l ++ [g]) = some (k + 1 + 1 + (g.f2.length : Int)) := by
 induction l with
 | nil =>
  intro k0 k h h0 h1 h2
  obtain rfl := Option.some.inj h
  rw [List.nil_append, hkG, if_pos ⟨h0, h1, h2⟩, hkG]
 | cons x l ih =>
  intro k0 k h h0 h1 h2
  rw [hkG] at h
  split at h
  ·rename_i c
   rw [List.cons_append, hkG, if_pos c]
   exact ih _ _ h h0 h1 h2
  ·cases h
set_option maxHeartbeats 4000000 in
set_option maxRecDepth 100000 in
/-- What is marked, with the marks: the numbers go up, and no block is touched but those of the row. -/
theorem markGatesV (ok : Nat → Prop) (u : Value) (gs : List S62) (k0 : Int) (w0 w : World) (hB : Below w0.heap.size w0 w) (h : Kd.S k62 62 w w0.heap.size ok u gs)
  (hl : gs.length ≤ 1048576) (hw : ∀ g ∈ gs, g.f2.length ≤ 1048576) (h0 : 0 ≤ k0) (h1 : k0 ≤ 1048576) :
  Calls Try.prog 63 #[u, .int .i64 k0] w fun e w' => ∃ (r : Int) (gs' : List S62), e = .returned (.int .i64 r) ∧ (0 ≤ r ∧ r ≤ 2199027449856) ∧ gs'.length = gs.length ∧ hkG k0 gs' = some r ∧ Kd.S k62 62 w' w0.heap.size ok u gs' ∧ Below w0.heap.size w0 w' ∧ Kept w w' ok := by
 have HS0 := Aside0.mk h
 have HB0 := Aside0.mk hB
 have HW := Aside0.mk hw
 have HLEN := Aside0.mk hl
 have HK0 := Aside0.mk h1
 obtain ⟨A, c, rfl⟩ := Kd.S_slice h
 clear h hB hw
 go_enter Try.func63, Try.ntmps63
 go_wp2
 go_loopg [1, 5] gs.length (fun gg s1 s5 wr => ∃ (k x : Int) (ys : List S62), s1 = .int .i64 k ∧ s5 = .int .i64 x ∧ Aside0 (0 ≤ x ∧ x ≤ gs.length ∧ (gs.length : Int) - x ≤ gg) ∧ Aside0 (0 ≤ k ∧ k ≤ 1048576 + x * 1048578) ∧ Aside0 (ys.length = gs.length ∧ ys.drop x.toNat = gs.drop x.toNat) ∧ Aside0 (hkG k0 (ys.take x.toNat) = some k) ∧ Aside0 (Kd.S k62 62 wr w0.heap.size ok (.slice A gs.length c) ys) ∧ Aside0 (Below w0.heap.size w0 wr) ∧ Aside0 (Kept w wr ok))
 case atStart => exact ⟨k0, 0, gs, rfl, rfl, ⟨by omega⟩, ⟨by omega⟩, ⟨rfl, rfl⟩, ⟨rfl⟩, HS0, HB0, ⟨Kept.refl _ _⟩⟩
 case round =>
  obtain ⟨k, x, ys, rfl, rfl, HX, HK, HY, HM0, HS, HB, HKP⟩ := hrel
  by_cases hlt : x < (gs.length : Int)
  ·have t0 : decide (0 ≤ x) = true := decide_eq_true HX.out.1
   have t1 : decide (x < (gs.length : Int)) = true := decide_eq_true hlt
   have HL := Aside0.mk hlt
   obtain ⟨g, cap, eg, _⟩ := Kd.S_form HS.out (by have := HY.out.1; have := HX.out; omega)
   have hlen := HY.out.1
   rw [hlen] at eg
   injection eg with ea _ ec
   subst ea
   subst ec
   obtain ⟨oki, ce, hcl, hM, hcc, hfr, hoki, hH⟩ := Kd.S_elem HS.out z62 x HX.out.1 (by have := HL.out; omega)
   obtain ⟨v2, rfl, hv2⟩ := k62_openM hM
   have hget : ys.getD x.toNat z62 ∈ gs := by
    have hx := HX.out
    have hd := congrArg List.head? HY.out.2
    rw [List.head?_drop, List.head?_drop] at hd
    rw [List.getD_eq_getElem?_getD, hd, List.getElem?_eq_getElem (by omega)]
    exact List.getElem_mem _
   have HLN := Aside0.mk (HW.out _ hget)
   generalize ys.getD x.toNat z62 = y at hM hcc hv2 HLN hH
   have e0 : wr.cell? ⟨g, x.toNat * 3, none⟩ = some (.int .i64 y.f0) := hcc 0 _ rfl
   have e1 : wr.cell? ⟨g, x.toNat * 3 + 1, none⟩ = some (.int .i64 y.f1) := hcc 1 _ rfl
   have e2 : wr.cell? ⟨g, x.toNat * 3 + 2, none⟩ = some v2 := hcc 2 _ rfl
   have f0 : wr.frozen? ⟨g, x.toNat * 3, none⟩ = false := hfr 0
   have f1 : wr.frozen? ⟨g, x.toNat * 3 + 1, none⟩ = false := hfr 1
   have f2 : wr.frozen? ⟨g, x.toNat * 3 + 2, none⟩ = false := hfr 2
   have HOK := Aside0.mk hoki
   have HH := Aside0.mk hH
   have HV := Aside0.mk hv2
   have HG := Aside0.mk (show ok g from (Kd.S_R HS.out).1 g (by simp [Value.ownBlock]))
   have kb := HK.out
   have hx1 := HX.out
   obtain ⟨l', hl', hm, hh'⟩ := marks_from y.f2 (k + 1 + 1) HLN.out (by omega) (by have := HL.out; have := HLEN.out; omega)
   have HH2 := Aside0.mk hh'
   have HL2 := Aside0.mk hl'
   have HMK := Aside0.mk hm
   have w1 : wrap64 (k + 1) = k + 1 := by unfold wrap64; omega
   have w2 : wrap64 (k + 1 + 1) = k + 1 + 1 := by unfold wrap64; omega
   clear hlt hlen hcl hM hcc hfr hoki hH hv2 hget hm kb hx1 hh' hl'
   have p0 := eq_true HX.out.1
   have p1 := eq_true HL.out
   have HGB := Aside0.mk (Kd.S_base HS.out g (by simp [Value.ownBlock]))
   go_wp2_with (go_at_call 26; refine (laws_markInt64S.calls (P0_ := oki) (w0 := w0) (hB := by repeat (first | exact HB.out | refine below_set ?_ HGB.out)) (ho0 := Kd.R_far (p := ⟨g, x.toNat * 3 + 1, none⟩) (Kd.R_far (p := ⟨g, x.toNat * 3, none⟩) HV.out (fun b hb => (HOK.out b hb).2) (.int .i64 k)) (fun b hb => (HOK.out b hb).2) (.int .i64 (k + 1))) (h := HMK.out)).mono ?_; rintro e w3 ⟨rfl, hR3, hB3, hK3⟩; have HR3 := Aside0.mk hR3; have HB3 := Aside0.mk hB3; have HK3 := Aside0.mk hK3; clear hR3 hB3 hK3)
   have hseg := (Kd.H_seg HH.out HX.out.1 (by have := HL.out; omega) (seg := [.int .i64 k, .int .i64 (k + 1)]) (j := 0) (show 0 + 2 ≤ 3 from by decide) (by intro q hq; simp only [List.mem_cons, List.not_mem_nil, or_false] at hq; rcases hq with rfl | rfl <;> rfl)).1
   have hseg2 : Kd.H k62 62 ((wr.setCell ⟨g, x.toNat * 3, none⟩ (.int .i64 k)).setCell ⟨g, x.toNat * 3 + 1, none⟩ (.int .i64 (k + 1))) w0.heap.size ok (.slice (some ⟨g, 0, none⟩) gs.length c) ys x oki [.int .i64 k, .int .i64 (k + 1), v2] := hseg
   have hback := Kd.H_back (Kd.H_step hseg2 (fun b hb hn hlt => HK3.out.2 b hlt hn)) (k62_mkM w3 _ _ (⟨k, k + 1, l'⟩ : S62) (Kd.R_tight rfl HR3.out)) (fun b hb => HV.out.1 b hb.symm)
   have hkp : Kept w w3 ok := Kept.then_ (Kept.setCell (Kept.setCell HKP.out (p := ⟨g, x.toNat * 3, none⟩) (.inl HG.out) (.int .i64 k)) (p := ⟨g, x.toNat * 3 + 1, none⟩) (.inl HG.out) (.int .i64 (k + 1))) HK3.out (fun b hb => .inl (HOK.out b hb).1)
   have kb := HK.out
   have hx1 := HX.out
   have hl1 := HL.out
   have hy := HY.out
   have hln := HLN.out
   go_roundg ((gs.length : Int) - (x + 1)).toNat
   case measure => omega
   case rel =>
    refine ⟨k + 1 + 1 + y.f2.length, x + 1, ys.set x.toNat ⟨k, k + 1, l'⟩, rfl, by rw [show wrap64 (x + 1) = x + 1 by unfold wrap64; omega], ⟨by omega⟩, ⟨by omega⟩, ⟨by simpa using hy.1, ?_⟩, ⟨?_⟩, ⟨hback⟩, HB3, ⟨hkp⟩⟩
    ·rw [show (x + 1).toNat = x.toNat + 1 by omega, List.drop_set_of_lt (by omega), ← List.drop_drop, hy.2, List.drop_drop]
    ·have hm0 := HM0.out
     have hl2 := HL2.out
     have hh2 := HH2.out
     rw [← hl2] at hh2
     have htk : (ys.set x.toNat (⟨k, k + 1, l'⟩ : S62)).take (x + 1).toNat = ys.take x.toNat ++ [⟨k, k + 1, l'⟩] := by
      rw [show (x + 1).toNat = x.toNat + 1 by omega, List.take_succ_eq_append_getElem (by simp; omega), List.take_set_of_le (by omega)]
      simp
     rw [htk, ← hl2]
     exact hkG_snoc _ _ _ _ hm0 rfl rfl hh2
  ·have t1 : decide (x < (gs.length : Int)) = false := decide_eq_false hlt
   have kb := HK.out
   have hx1 := HX.out
   have HK2 := Aside0.mk (show 0 ≤ k ∧ k ≤ 2199027449856 by omega)
   have HT2 := Aside0.mk (show hkG k0 ys = some k by have h := HM0.out; have := HY.out.1; rwa [List.take_of_length_le (by omega)] at h)
   clear hlt kb hx1
   go_wp2
   go_ret
   exact ⟨k, ys, rfl, HK2.out, HY.out.1, HT2.out, HS.out, HB.out, HKP.out⟩
set_option maxHeartbeats 4000000 in
set_option maxRecDepth 100000 in
/-- A circuit is marked, with the marks: no block is touched but its own. -/
theorem markCircV (ok : Nat → Prop) (v1 v2 : Value) (n q3 q4 q5 q6 : Int) (gs : List S62) (ds : List Int) (w0 w : World) (hB : Below w0.heap.size w0 w) (h1 : Kd.S k62 62 w w0.heap.size (fun b => ok b ∧ some b ≠ v2.ownBlock) v1 gs) (h2 : Kd.R (Kd.int .i64) 2 w w0.heap.size ok v2 ds)
  (hok : ∀ b, ok b → b < w.heap.size) (hl : gs.length ≤ 1048576) (hw : ∀ g ∈ gs, g.f2.length ≤ 1048576) (hd : ds.length ≤ 1048576) :
  Calls Try.prog 25 #[.agg #[.int .i64 n, v1, v2, .int .i64 q3, .int .i64 q4, .int .i64 q5, .int .i64 q6], .int .i64 1] w fun e w' => ∃ (r r1 : Int) (gs' : List S62) (ds' : List Int), e = .returned (.int .i64 r) ∧ (0 ≤ r ∧ r ≤ 2199028498432) ∧ (gs'.length = gs.length ∧ ds'.length = ds.length ∧ hkG 1 gs' = some r1 ∧ 0 ≤ r1 ∧ r1 ≤ 2199027449856 ∧ laws_heldInt64S.f (ds.length + 1) ds' r1 = some r) ∧ Kd.S k62 62 w' w0.heap.size (fun b => ok b ∧ some b ≠ v2.ownBlock) v1 gs' ∧ Kd.R (Kd.int .i64) 2 w' w0.heap.size ok v2 ds' ∧ Below w0.heap.size w0 w' ∧ Kept w w' ok := by
 have hu := Try.underlying30
 have HB0 := Aside0.mk hB
 have H1 := Aside0.mk h1
 have H2 := Aside0.mk h2
 have HOK := Aside0.mk hok
 have HL := Aside0.mk hl
 have HW := Aside0.mk hw
 have HD := Aside0.mk hd
 clear hB h1 h2 hok hl hw hd
 go_enter Try.func25, Try.ntmps25
 go_wp2_with ((with_reducible refine gate_dst (N := 2) rfl ?_); refine box_event ?hg (N := 2) ?hd (cs := #[.int .i64 n, v1, v2, .int .i64 q3, .int .i64 q4, .int .i64 q5, .int .i64 q6]) (t := 30) ?hr ?_; (case hd => rfl); (case hg => rfl); (case hr => first | (go_simp; done) | (go_simp; rfl)); intro gb hg_ w1 hbox_ hb_; have HX_gb := Aside0.mk hbox_; have HB_w1 := Aside0.mk hb_; have HG_gb := Aside0.mk hg_; clear hbox_ hb_ hg_; obtain ⟨b0, b1, b2, b3, b4, b5, b6⟩ := cells7 HX_gb.out)
 refine (markGatesV (fun b => ok b ∧ some b ≠ v2.ownBlock) v1 gs 1 w0 w1 (below_step HB0.out HB_w1.out) (Kd.S_below H1.out HB_w1.out) HL.out HW.out (by decide) (by decide)).mono ?_
 rintro e w2 ⟨r, gs', rfl, hr, hgl, hgk, hS2, hB2, hK2⟩
 have HGL := Aside0.mk hgl
 have HGK := Aside0.mk hgk
 have HS2 := Aside0.mk hS2
 clear hgl hgk hS2
 have hx2 := (hK2.2 gb (blk_lt HX_gb.out) (fun h => by have := HOK.out gb h.1; have := HG_gb.out; omega)).trans HX_gb.out
 have hr2 : Kd.R (Kd.int .i64) 2 w2 w0.heap.size (fun b => some b = v2.ownBlock) v2 ds := Kd.R_step (Kd.R_tight rfl (Kd.R_below H2.out HB_w1.out)) (fun b hb hlt => hK2.2 b hlt (fun h => h.2 hb))
 obtain ⟨l', hl', hm, hh'⟩ := marks_from ds r HD.out (by omega) (by omega)
 have HL2 := Aside0.mk hl'
 have HH2 := Aside0.mk hh'
 clear hl' hh'
 have HM := Aside0.mk hm
 have HR := Aside0.mk hr
 have HB2 := Aside0.mk hB2
 have HK2 := Aside0.mk hK2
 have HR2 := Aside0.mk hr2
 clear b0 b1 b2 b3 b4 b5 b6 hm hr hB2 hK2 hr2
 obtain ⟨b0, b1, b2, b3, b4, b5, b6⟩ := cells7 hx2
 clear hx2
 go_wp2_with (fail)
 refine (laws_markInt64S.calls (P0_ := fun b => some b = v2.ownBlock) (w0 := w0) (hB := HB2.out) (ho0 := HR2.out) (h := HM.out)).mono ?_
 rintro e w3 ⟨rfl, hR3, hB3, hK3⟩
 have HR3 := Aside0.mk hR3
 clear hR3
 have HB3 := Aside0.mk hB3
 have HK3 := Aside0.mk hK3
 clear hB3 hK3
 have HRD := Aside0.mk (show 0 ≤ r + ds.length ∧ r + ds.length ≤ 2199028498432 by have := HR.out; have := HD.out; omega)
 go_wp2
 go_ret
 exact ⟨_, r, gs', l', rfl, HRD.out, ⟨HGL.out, HL2.out, HGK.out, HR.out.1, HR.out.2, HH2.out⟩, Kd.S_step HS2.out (fun b hb hlt => HK3.out.2 b hlt (fun h => hb.2 h)), Kd.R_mono (Kd.R_tight rfl HR3.out) (fun b hb => H2.out.1 b hb.symm), HB3.out, Kept.then_ (Kept.then_ (Kept.of_below HB_w1.out ok) (Kept.mono HK2.out (fun b hb => hb.1)) (fun b hb => .inl hb)) HK3.out (fun b hb => .inl (H2.out.1 b hb.symm))⟩

end Go.Proofs.Ytalafmahgeejiaa.Pa
