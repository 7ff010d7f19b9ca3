-- Written for this claim by a program of this session.
import Derived.Test.YtljboamepnhfpaaPax0
import Derived.Test.YtljboamepnhfpaaPaxf48
import Derived.Test.YtljboamepnhfpaaPaxacontainsB
import Derived.Test.YtljboamepnhfpaaPaxf16
import Derived.Test.YtljboamepnhfpaaPaxacontainsI
namespace Go.Proofs.Ytljboamepnhfpaa.Pa
open Go.RowKit Go.Proofs.YtljboamepnhfpaaW.PrintWords Go.Proofs.YtljboamepnhfpaaW.PrintLast Go.Proofs.YtljboamepnhfpaaW.PrintMore
attribute [local go_sem] max2_int min2_int max_two min_two max_three min_three max_four min_four   -- for this text's walks alone
set_option linter.unusedVariables false
set_option linter.unusedSimpArgs false

/-! ### impl_IsTiming: function 20 -/
def badTime (t : Int) : Bool := !(decide (-1000000 ≤ t) && decide (t ≤ 1000000))
def badBound (times : List Int) (b : S45) : Bool := decide (b.f2 < rd times b.f1 - rd times b.f0)
def anyBadTime (times : List Int) : Bool := times.any badTime
def anyBadBound (times : List Int) (l : List S45) : Bool := l.any (badBound times)
def timingOk (n : Int) (l : List S45) (times : List Int) : Bool := diagramOk n l && ((times.length : Int) == n) && !anyBadTime times && !anyBadBound times l
theorem timing_range (n : Int) (l : List S45) (times : List Int) (hv : diagramOk n l = true) (hn : (times.length : Int) = n) (ht : anyBadTime times = false) :
    ∀ x ∈ l, 0 ≤ x.f0 ∧ x.f0 < (times.length : Int) ∧ 0 ≤ x.f1 ∧ x.f1 < (times.length : Int) ∧ -9223372036854775808 ≤ rd times x.f1 - rd times x.f0 ∧ rd times x.f1 - rd times x.f0 ≤ 9223372036854775807 := by
  intro x hx
  have hb : boundOk n x = true := by
    unfold diagramOk at hv
    simp only [Bool.and_eq_true, List.all_eq_true] at hv
    exact hv.2 x hx
  unfold boundOk at hb
  simp only [Bool.and_eq_true, decide_eq_true_eq] at hb
  have hr : ∀ i : Int, 0 ≤ i → i < (times.length : Int) → -1000000 ≤ rd times i ∧ rd times i ≤ 1000000 := by
    intro i h0 h1
    have hm : rd times i ∈ times := by
      unfold rd
      rw [List.getD_eq_getElem?_getD, List.getElem?_eq_getElem (by omega)]
      exact List.getElem_mem _
    unfold anyBadTime at ht
    rw [List.any_eq_false] at ht
    have := ht _ hm
    unfold badTime at this
    simpa using this
  have r0 := hr x.f0 (by omega) (by omega)
  have r1 := hr x.f1 (by omega) (by omega)
  omega
def impl_IsTiming.f (a0_0 : Int) (l0_1 : List (S45)) (l1 : List Int) : Option (Bool) := some (timingOk a0_0 l0_1 l1)
set_option maxHeartbeats 4000000 in
set_option maxRecDepth 100000 in
theorem IsTiming_time (w W : World) (x : Int) (hb : Below w.heap.size w W) :
    Calls Try.prog 55 (#[.int .i64 x] ++ #[]) W fun e w' => e = .returned (.bool (badTime x)) ∧ Below w.heap.size w w' := by
  have HB := Aside0.mk hb
  clear hb
  have hq : impl_within.f x (-1000000) 1000000 = some (decide (-1000000 ≤ x) && decide (x ≤ 1000000)) := by
    unfold impl_within.f
    by_cases h : -1000000 ≤ x <;> simp [h]
  have HQ := Aside0.mk hq
  clear hq
  unfold badTime
  generalize (decide (-1000000 ≤ x) && decide (x ≤ 1000000)) = q at HQ ⊢
  show Calls Try.prog 55 #[.int .i64 x] W _
  go_enter Try.func55, Try.ntmps55
  go_wp2_with (go_at_call 48; refine (impl_within.calls _ _ _ q _ HQ.out).mono ?_; rintro e w' ⟨rfl, ⟨nd, rfl⟩⟩)
  go_ret
  exact ⟨rfl, pw_below_drewN HB.out nd⟩
set_option maxHeartbeats 4000000 in
set_option maxRecDepth 100000 in
theorem IsTiming_bound (times : List Int) (A : Option Addr) (c B : Nat) (w : World) (hc0 : w.cell? ⟨B, 0, none⟩ = some (.slice A times.length c)) (hr : Kd.C (Kd.int .i64) w A times.length times) (W : World) (x : S45)
    (h0 : 0 ≤ x.f0) (h1 : x.f0 < (times.length : Int)) (h2 : 0 ≤ x.f1) (h3 : x.f1 < (times.length : Int)) (hw : -9223372036854775808 ≤ rd times x.f1 - rd times x.f0 ∧ rd times x.f1 - rd times x.f0 ≤ 9223372036854775807) (hb : Below w.heap.size w W) :
    Calls Try.prog 56 (#[.agg #[.int .i64 x.f0, .int .i64 x.f1, .int .i64 x.f2]] ++ #[.pointer (some ⟨B, 0, none⟩)]) W fun e w' => e = .returned (.bool (badBound times x)) ∧ Below w.heap.size w w' := by
  have hu := Try.underlying45
  have HB := Aside0.mk hb
  have HC0 := Aside0.mk (pw_cell_below hb hc0)
  have HR := Aside0.mk (Kd.C_below hr hb)
  clear hb hc0 hr
  have hq : badBound times x = decide (x.f2 < rd times x.f1 - rd times x.f0) := rfl
  have HQ := Aside0.mk hq
  clear hq
  have H0 := Aside0.mk h0
  have H1 := Aside0.mk h1
  have H2 := Aside0.mk h2
  have H3 := Aside0.mk h3
  have HW := Aside0.mk hw
  clear h0 h1 h2 h3 hw
  generalize badBound times x = q at HQ ⊢
  show Calls Try.prog 56 #[.agg #[.int .i64 x.f0, .int .i64 x.f1, .int .i64 x.f2], .pointer (some ⟨B, 0, none⟩)] W _
  go_enter Try.func56, Try.ntmps56
  go_wp2_with ((with_reducible refine gate_dst (N := 2) rfl ?_); refine box_event ?hg (N := 2) ?hd (cs := #[.int .i64 x.f0, .int .i64 x.f1, .int .i64 x.f2]) (t := 45) ?hr ?_; (case hd => rfl); (case hg => rfl); (case hr => first | (go_simp; done) | (go_simp; rfl)); intro gb hg w6 hbox hb6; have HX6 := Aside0.mk hbox; have HB6 := Aside0.mk hb6; clear hbox hb6 hg)
  have b0 : w6.cell? ⟨gb, 0, none⟩ = some (.int .i64 x.f0) := (blk_cell HX6.out 0).trans rfl
  have b1 : w6.cell? ⟨gb, 1, none⟩ = some (.int .i64 x.f1) := (blk_cell HX6.out 1).trans rfl
  have b2 : w6.cell? ⟨gb, 2, none⟩ = some (.int .i64 x.f2) := (blk_cell HX6.out 2).trans rfl
  have t0 := pw_cell_below HB6.out HC0.out
  obtain ⟨ad, e, e0⟩ := Kd.at_int HR.out x.f0 H0.out H1.out
  cases e
  obtain ⟨ad', e', e1⟩ := Kd.at_int HR.out x.f1 H2.out H3.out
  cases e'
  replace e0 := pw_cell_below HB6.out e0
  replace e1 := pw_cell_below HB6.out e1
  have p0 := eq_true H0.out
  have p1 := eq_true H1.out
  have p2 := eq_true H2.out
  have p3 := eq_true H3.out
  have hwr : IntKind.i64.wrap (rd times x.f1 - rd times x.f0) = rd times x.f1 - rd times x.f0 := IntWalk.i64_in _ HW.out
  go_quiet (fail)
  go_wp2
  go_ret
  refine ⟨by rw [HQ.out]; rfl, ?_⟩
  repeat (first | exact below_step HB.out HB6.out | apply pw_below_drewN | apply below_drew)
set_option maxHeartbeats 4000000 in
set_option maxRecDepth 100000 in
theorem impl_IsTiming.calls (a0_0 : Int) (A0_1 : Option Addr) (c0_1 : Nat) (l0_1 : List (S45)) (A1 : Option Addr) (c1 : Nat) (l1 : List Int) (r : Bool) (w : World) (hr0_1 : Kd.C k45 w A0_1 l0_1.length l0_1) (hc0_1 : l0_1.length ≤ c0_1) (hr1 : Kd.C (Kd.int .i64) w A1 l1.length l1) (hc1 : l1.length ≤ c1) (h : impl_IsTiming.f a0_0 l0_1 l1 = some r) :
    Calls Try.prog 20 #[.agg #[.int .i64 a0_0, .slice A0_1 l0_1.length c0_1], .slice A1 l1.length c1] w fun e w' => e = .returned (.bool r) ∧ Below w.heap.size w w' := by
  obtain rfl := Option.some.inj h
  clear h
  have hu := Try.underlying29
  have HR := Aside0.mk hr0_1
  have HRT := Aside0.mk hr1
  have HC := Aside0.mk hc0_1
  have hlen1 : l1.length ≤ 9223372036854775807 := hr1.2.1
  clear hr0_1 hc0_1 hr1 hc1
  have HV : Aside0 (impl_ValidDiagram.f a0_0 l0_1 = some (diagramOk a0_0 l0_1)) := ⟨rfl⟩
  have HT : Aside0 (timingOk a0_0 l0_1 l1 = (diagramOk a0_0 l0_1 && ((l1.length : Int) == a0_0) && !anyBadTime l1 && !anyBadBound l1 l0_1)) := ⟨rfl⟩
  generalize timingOk a0_0 l0_1 l1 = q at HT ⊢
  cases hv : diagramOk a0_0 l0_1 with
  | false =>
    rw [hv] at HV HT
    clear hv
    go_enter Try.func20, Try.ntmps20
    go_wp2_with (first | ((with_reducible refine gate_dst (N := 2) rfl ?_); refine box_event ?hg (N := 2) ?hd (cs := #[.int .i64 a0_0, .slice A0_1 l0_1.length c0_1]) (t := 29) ?hr ?_; (case hd => rfl); (case hg => rfl); (case hr => first | (go_simp; done) | (go_simp; rfl)); intro gb hg_ w6 hbox_ hb_; have HX_gb := Aside0.mk hbox_; have HB_w6 := Aside0.mk hb_; have HG_gb := Aside0.mk hg_; clear hbox_ hb_ hg_; have b0 : w6.cell? ⟨gb, 0, none⟩ = some (.int .i64 a0_0) := (blk_cell HX_gb.out 0).trans rfl; have b1 : w6.cell? ⟨gb, 1, none⟩ = some (.slice A0_1 l0_1.length c0_1) := (blk_cell HX_gb.out 1).trans rfl) | ((with_reducible refine gate_dst (N := 3) rfl ?_); refine box_event ?hg (N := 3) ?hd (cs := #[.slice A1 l1.length c1]) (t := 33) ?hr ?_; (case hd => rfl); (case hg => rfl); (case hr => first | (go_simp; done) | (go_simp; rfl)); intro gt hg_ w7 hbox_ hb_; have HX_gt := Aside0.mk hbox_; have HB_w7 := Aside0.mk hb_; have HG_gt := Aside0.mk hg_; clear hbox_ hb_ hg_; have c0 : w7.cell? ⟨gb, 0, none⟩ = some (.int .i64 a0_0) := pw_cell_below HB_w7.out b0; have cc1 : w7.cell? ⟨gb, 1, none⟩ = some (.slice A0_1 l0_1.length c0_1) := pw_cell_below HB_w7.out b1; clear b0 b1) | (go_at_call 16; refine (impl_ValidDiagram.calls _ A0_1 c0_1 l0_1 false _ (Kd.C_below HR.out (below_step HB_w6.out HB_w7.out)) HC.out HV.out).mono ?_; rintro e w8 ⟨rfl, hb8⟩; have HB_w8 := Aside0.mk hb8; have d0 := pw_cell_below hb8 c0; have d1 := pw_cell_below hb8 cc1; have d2 : w8.cell? ⟨gt, 0, none⟩ = some (.slice A1 l1.length c1) := pw_cell_below hb8 ((blk_cell HX_gt.out 0).trans rfl); clear c0 cc1 hb8))
    go_ret
    exact ⟨by rw [HT.out]; rfl, below_step (below_step HB_w6.out HB_w7.out) HB_w8.out⟩
  | true =>
    rw [hv] at HV HT
    have HVV := Aside0.mk hv
    clear hv
    by_cases hn : (l1.length : Int) = a0_0
    · have n0 : ((l1.length : Int) == a0_0) = true := beq_iff_eq.mpr hn
      have n1 : ((l1.length : Int) != a0_0) = false := bne_eq_false_iff_eq.mpr hn
      rw [n0] at HT
      have HN := Aside0.mk hn
      clear hn
      cases ht : anyBadTime l1 with
      | true =>
        rw [ht] at HT
        have HTT := Aside0.mk ht
        clear ht
        go_enter Try.func20, Try.ntmps20
        go_wp2_with (first | ((with_reducible refine gate_dst (N := 2) rfl ?_); refine box_event ?hg (N := 2) ?hd (cs := #[.int .i64 a0_0, .slice A0_1 l0_1.length c0_1]) (t := 29) ?hr ?_; (case hd => rfl); (case hg => rfl); (case hr => first | (go_simp; done) | (go_simp; rfl)); intro gb hg_ w6 hbox_ hb_; have HX_gb := Aside0.mk hbox_; have HB_w6 := Aside0.mk hb_; have HG_gb := Aside0.mk hg_; clear hbox_ hb_ hg_; have b0 : w6.cell? ⟨gb, 0, none⟩ = some (.int .i64 a0_0) := (blk_cell HX_gb.out 0).trans rfl; have b1 : w6.cell? ⟨gb, 1, none⟩ = some (.slice A0_1 l0_1.length c0_1) := (blk_cell HX_gb.out 1).trans rfl) | ((with_reducible refine gate_dst (N := 3) rfl ?_); refine box_event ?hg (N := 3) ?hd (cs := #[.slice A1 l1.length c1]) (t := 33) ?hr ?_; (case hd => rfl); (case hg => rfl); (case hr => first | (go_simp; done) | (go_simp; rfl)); intro gt hg_ w7 hbox_ hb_; have HX_gt := Aside0.mk hbox_; have HB_w7 := Aside0.mk hb_; have HG_gt := Aside0.mk hg_; clear hbox_ hb_ hg_; have c0 : w7.cell? ⟨gb, 0, none⟩ = some (.int .i64 a0_0) := pw_cell_below HB_w7.out b0; have cc1 : w7.cell? ⟨gb, 1, none⟩ = some (.slice A0_1 l0_1.length c0_1) := pw_cell_below HB_w7.out b1; clear b0 b1) | (go_at_call 16; refine (impl_ValidDiagram.calls _ A0_1 c0_1 l0_1 true _ (Kd.C_below HR.out (below_step HB_w6.out HB_w7.out)) HC.out HV.out).mono ?_; rintro e w8 ⟨rfl, hb8⟩; have HB_w8 := Aside0.mk hb8; have d0 := pw_cell_below hb8 c0; have d1 := pw_cell_below hb8 cc1; have d2 : w8.cell? ⟨gt, 0, none⟩ = some (.slice A1 l1.length c1) := pw_cell_below hb8 ((blk_cell HX_gt.out 0).trans rfl); clear c0 cc1 hb8) | (go_at_call 54; refine (containsI.calls A1 c1 l1 55 #[] badTime _ (Kd.C_below HRT.out (below_step (below_step HB_w6.out HB_w7.out) HB_w8.out)) (enters_of Try.func55 (by kernel_rfl) rfl) (fun W x _ hb => IsTiming_time _ W x hb)).mono ?_; rintro e w9 ⟨he, hb9⟩; rw [show l1.any badTime = true from HTT.out] at he; subst he))
        go_ret
        exact ⟨by rw [HT.out]; rfl, below_step (below_step (below_step HB_w6.out HB_w7.out) HB_w8.out) hb9⟩
      | false =>
        rw [ht] at HT
        have HTT := Aside0.mk ht
        clear ht
        have HIN := Aside0.mk (timing_range a0_0 l0_1 l1 HVV.out HN.out HTT.out)
        have HQ : Aside0 (q = !anyBadBound l1 l0_1) := ⟨by rw [HT.out]; simp⟩
        generalize hbb : anyBadBound l1 l0_1 = bb at HQ
        have HBB := Aside0.mk hbb
        clear hbb
        go_enter Try.func20, Try.ntmps20
        go_wp2_with (first | ((with_reducible refine gate_dst (N := 2) rfl ?_); refine box_event ?hg (N := 2) ?hd (cs := #[.int .i64 a0_0, .slice A0_1 l0_1.length c0_1]) (t := 29) ?hr ?_; (case hd => rfl); (case hg => rfl); (case hr => first | (go_simp; done) | (go_simp; rfl)); intro gb hg_ w6 hbox_ hb_; have HX_gb := Aside0.mk hbox_; have HB_w6 := Aside0.mk hb_; have HG_gb := Aside0.mk hg_; clear hbox_ hb_ hg_; have b0 : w6.cell? ⟨gb, 0, none⟩ = some (.int .i64 a0_0) := (blk_cell HX_gb.out 0).trans rfl; have b1 : w6.cell? ⟨gb, 1, none⟩ = some (.slice A0_1 l0_1.length c0_1) := (blk_cell HX_gb.out 1).trans rfl) | ((with_reducible refine gate_dst (N := 3) rfl ?_); refine box_event ?hg (N := 3) ?hd (cs := #[.slice A1 l1.length c1]) (t := 33) ?hr ?_; (case hd => rfl); (case hg => rfl); (case hr => first | (go_simp; done) | (go_simp; rfl)); intro gt hg_ w7 hbox_ hb_; have HX_gt := Aside0.mk hbox_; have HB_w7 := Aside0.mk hb_; have HG_gt := Aside0.mk hg_; clear hbox_ hb_ hg_; have c0 : w7.cell? ⟨gb, 0, none⟩ = some (.int .i64 a0_0) := pw_cell_below HB_w7.out b0; have cc1 : w7.cell? ⟨gb, 1, none⟩ = some (.slice A0_1 l0_1.length c0_1) := pw_cell_below HB_w7.out b1; clear b0 b1) | (go_at_call 16; refine (impl_ValidDiagram.calls _ A0_1 c0_1 l0_1 true _ (Kd.C_below HR.out (below_step HB_w6.out HB_w7.out)) HC.out HV.out).mono ?_; rintro e w8 ⟨rfl, hb8⟩; have HB_w8 := Aside0.mk hb8; have d0 := pw_cell_below hb8 c0; have d1 := pw_cell_below hb8 cc1; have d2 : w8.cell? ⟨gt, 0, none⟩ = some (.slice A1 l1.length c1) := pw_cell_below hb8 ((blk_cell HX_gt.out 0).trans rfl); clear c0 cc1 hb8) | (go_at_call 54; refine (containsI.calls A1 c1 l1 55 #[] badTime _ (Kd.C_below HRT.out (below_step (below_step HB_w6.out HB_w7.out) HB_w8.out)) (enters_of Try.func55 (by kernel_rfl) rfl) (fun W x _ hb => IsTiming_time _ W x hb)).mono ?_; rintro e w9 ⟨he, hb9⟩; rw [show l1.any badTime = false from HTT.out] at he; subst he; have HB_w9 := Aside0.mk hb9; have f1 := pw_cell_below hb9 d1; have f2 := pw_cell_below hb9 d2; clear d0 d1 d2 hb9) | (go_at_call 49; refine (containsB.calls A0_1 c0_1 l0_1 56 #[.pointer (some ⟨gt, 0, none⟩)] (badBound l1) _ (Kd.C_below HR.out (below_step (below_step (below_step HB_w6.out HB_w7.out) HB_w8.out) HB_w9.out)) (enters_of Try.func56 (by kernel_rfl) rfl) (fun W x hx hb => IsTiming_bound l1 A1 c1 gt w9 f2 (Kd.C_below HRT.out (below_step (below_step (below_step HB_w6.out HB_w7.out) HB_w8.out) HB_w9.out)) W x (HIN.out x hx).1 (HIN.out x hx).2.1 (HIN.out x hx).2.2.1 (HIN.out x hx).2.2.2.1 (HIN.out x hx).2.2.2.2 hb)).mono ?_; rintro e w10 ⟨he, hb10⟩; rw [show l0_1.any (badBound l1) = bb from HBB.out] at he; subst he))
        go_ret
        exact ⟨by rw [HQ.out]; rfl, below_step (below_step (below_step (below_step HB_w6.out HB_w7.out) HB_w8.out) HB_w9.out) hb10⟩
    · have n0 : ((l1.length : Int) == a0_0) = false := beq_eq_false_iff_ne.mpr hn
      have n1 : ((l1.length : Int) != a0_0) = true := bne_iff_ne.mpr hn
      rw [n0] at HT
      clear hn
      go_enter Try.func20, Try.ntmps20
      go_wp2_with (first | ((with_reducible refine gate_dst (N := 2) rfl ?_); refine box_event ?hg (N := 2) ?hd (cs := #[.int .i64 a0_0, .slice A0_1 l0_1.length c0_1]) (t := 29) ?hr ?_; (case hd => rfl); (case hg => rfl); (case hr => first | (go_simp; done) | (go_simp; rfl)); intro gb hg_ w6 hbox_ hb_; have HX_gb := Aside0.mk hbox_; have HB_w6 := Aside0.mk hb_; have HG_gb := Aside0.mk hg_; clear hbox_ hb_ hg_; have b0 : w6.cell? ⟨gb, 0, none⟩ = some (.int .i64 a0_0) := (blk_cell HX_gb.out 0).trans rfl; have b1 : w6.cell? ⟨gb, 1, none⟩ = some (.slice A0_1 l0_1.length c0_1) := (blk_cell HX_gb.out 1).trans rfl) | ((with_reducible refine gate_dst (N := 3) rfl ?_); refine box_event ?hg (N := 3) ?hd (cs := #[.slice A1 l1.length c1]) (t := 33) ?hr ?_; (case hd => rfl); (case hg => rfl); (case hr => first | (go_simp; done) | (go_simp; rfl)); intro gt hg_ w7 hbox_ hb_; have HX_gt := Aside0.mk hbox_; have HB_w7 := Aside0.mk hb_; have HG_gt := Aside0.mk hg_; clear hbox_ hb_ hg_; have c0 : w7.cell? ⟨gb, 0, none⟩ = some (.int .i64 a0_0) := pw_cell_below HB_w7.out b0; have cc1 : w7.cell? ⟨gb, 1, none⟩ = some (.slice A0_1 l0_1.length c0_1) := pw_cell_below HB_w7.out b1; clear b0 b1) | (go_at_call 16; refine (impl_ValidDiagram.calls _ A0_1 c0_1 l0_1 true _ (Kd.C_below HR.out (below_step HB_w6.out HB_w7.out)) HC.out HV.out).mono ?_; rintro e w8 ⟨rfl, hb8⟩; have HB_w8 := Aside0.mk hb8; have d0 := pw_cell_below hb8 c0; have d1 := pw_cell_below hb8 cc1; have d2 : w8.cell? ⟨gt, 0, none⟩ = some (.slice A1 l1.length c1) := pw_cell_below hb8 ((blk_cell HX_gt.out 0).trans rfl); clear c0 cc1 hb8))
      go_ret
      exact ⟨by rw [HT.out]; rfl, below_step (below_step HB_w6.out HB_w7.out) HB_w8.out⟩

end Go.Proofs.Ytljboamepnhfpaa.Pa
