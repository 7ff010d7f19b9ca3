-- Written for this claim by a program of this session.
import Derived.Test.YtbkofbcmhddbfaaFPax0
import Derived.Test.YtbkofbcmhddbfaaFCoreF1
import Derived.Test.YtbkofbcmhddbfaaFKFPaxf18
import Derived.Test.YtbkofbcmhddbfaaFKFPaxamarks
import Derived.Test.YtbkofbcmhddbfaaFKFPaxf40
namespace Go.Proofs.Ytbkofbcmhddbfaa.Pa
open Go.RowKit Go.Proofs.YtbkofbcmhddbfaaW.PrintWords Go.Proofs.YtbkofbcmhddbfaaW.PrintLast Go.Proofs.YtbkofbcmhddbfaaW.PrintMore
attribute [local go_sem] max2_int min2_int max_two min_two max_three min_three max_four min_four   -- for this text's walks alone
set_option linter.unusedVariables false
set_option linter.unusedSimpArgs false

/-! ### laws_markCircuit: function 17 -/
set_option maxHeartbeats 4000000 in
set_option maxRecDepth 100000 in
/-- A circuit is marked: no block is touched but its own. -/
theorem markCirc (ok : Nat → Prop) (v1 v2 : Value) (n q3 q4 q5 q6 : Int) (gs : List S36) (ds : List Int) (w0 w : World) (hB : Below w0.heap.size w0 w) (h1 : Kd.S k36 36 w w0.heap.size (fun b => ok b ∧ some b ≠ v2.ownBlock) v1 gs) (h2 : Kd.R (Kd.int .i64) 2 w w0.heap.size ok v2 ds)
  (hok : ∀ b, ok b → b < w.heap.size) (hl : gs.length ≤ 1048576) (hw : ∀ g ∈ gs, g.f2.length ≤ 1048576) (hd : ds.length ≤ 1048576) :
  Calls Try.prog 17 #[.agg #[.int .i64 n, v1, v2, .int .i64 q3, .int .i64 q4, .int .i64 q5, .int .i64 q6], .int .i64 1] w fun e w' => ∃ r : Int, e = .returned (.int .i64 r) ∧ (0 ≤ r ∧ r ≤ 2199028498432) ∧ Below w0.heap.size w0 w' ∧ Kept w w' ok := by
 have hu := Try.underlying27
 have HB0 := Aside0.mk hB
 have H1 := Aside0.mk h1
 have H2 := Aside0.mk h2
 have HOK := Aside0.mk hok
 have HL := Aside0.mk hl
 have HW := Aside0.mk hw
 have HD := Aside0.mk hd
 clear hB h1 h2 hok hl hw hd
 go_enter Try.func17, Try.ntmps17
 go_wp2_with ((with_reducible refine gate_dst (N := 2) rfl ?_); refine box_event ?hg (N := 2) ?hd (cs := #[.int .i64 n, v1, v2, .int .i64 q3, .int .i64 q4, .int .i64 q5, .int .i64 q6]) (t := 27) ?hr ?_; (case hd => rfl); (case hg => rfl); (case hr => first | (go_simp; done) | (go_simp; rfl)); intro gb hg_ w1 hbox_ hb_; have HX_gb := Aside0.mk hbox_; have HB_w1 := Aside0.mk hb_; have HG_gb := Aside0.mk hg_; clear hbox_ hb_ hg_; obtain ⟨b0, b1, b2, b3, b4, b5, b6⟩ := cells7 HX_gb.out)
 refine (markGates (fun b => ok b ∧ some b ≠ v2.ownBlock) v1 gs 1 w0 w1 (below_step HB0.out HB_w1.out) (Kd.S_below H1.out HB_w1.out) HL.out HW.out (by decide) (by decide)).mono ?_
 rintro e w2 ⟨r, rfl, hr, hB2, hK2⟩
 have hx2 := (hK2.2 gb (blk_lt HX_gb.out) (fun h => by have := HOK.out gb h.1; have := HG_gb.out; omega)).trans HX_gb.out
 have hr2 : Kd.R (Kd.int .i64) 2 w2 w0.heap.size (fun b => some b = v2.ownBlock) v2 ds := Kd.R_step (Kd.R_tight rfl (Kd.R_below H2.out HB_w1.out)) (fun b hb hlt => hK2.2 b hlt (fun h => h.2 hb))
 obtain ⟨l', _, hm⟩ := marks_tells ds r (by omega) (by have := HD.out; omega) (by have := HD.out; omega)
 have HM := Aside0.mk hm
 have HR := Aside0.mk hr
 have HB2 := Aside0.mk hB2
 have HK2 := Aside0.mk hK2
 have HR2 := Aside0.mk hr2
 clear b0 b1 b2 b3 b4 b5 b6 hm hr hB2 hK2 hr2
 obtain ⟨b0, b1, b2, b3, b4, b5, b6⟩ := cells7 hx2
 clear hx2
 go_wp2_with (fail)
 refine (laws_markInt64S.calls (P0_ := fun b => some b = v2.ownBlock) (w0 := w0) (hB := HB2.out) (ho0 := HR2.out) (h := HM.out)).mono ?_
 rintro e w3 ⟨rfl, _, hB3, hK3⟩
 have HB3 := Aside0.mk hB3
 have HK3 := Aside0.mk hK3
 clear hB3 hK3
 have HRD := Aside0.mk (show 0 ≤ r + ds.length ∧ r + ds.length ≤ 2199028498432 by have := HR.out; have := HD.out; omega)
 go_wp2
 go_ret
 exact ⟨_, rfl, HRD.out, HB3.out, Kept.then_ (Kept.then_ (Kept.of_below HB_w1.out ok) (Kept.mono HK2.out (fun b hb => hb.1)) (fun b hb => .inl hb)) HK3.out (fun b hb => .inl (H2.out.1 b hb.symm))⟩

end Go.Proofs.Ytbkofbcmhddbfaa.Pa
