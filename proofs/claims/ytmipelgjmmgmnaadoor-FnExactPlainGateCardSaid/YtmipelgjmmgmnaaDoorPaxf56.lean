-- Written for this claim by a program of this session.
import Derived.Test.YtmipelgjmmgmnaaDoorPax0
import Derived.Test.YtmipelgjmmgmnaaDoorPaxf62
import Derived.Test.YtmipelgjmmgmnaaDoorPaxaside
import Derived.Test.YtmipelgjmmgmnaaDoorPaxawaveOf
import Derived.Test.YtmipelgjmmgmnaaDoorPaxajoinlv
import Derived.Test.YtmipelgjmmgmnaaDoorPaxf61
import Derived.Test.YtmipelgjmmgmnaaDoorPaxastrbox
namespace Go.Proofs.YtmipelgjmmgmnaaDoor.Pa
open Go.RowKit Go.Proofs.YtmipelgjmmgmnaaDoorW.PrintWords Go.Proofs.YtmipelgjmmgmnaaDoorW.PrintLast Go.Proofs.YtmipelgjmmgmnaaDoorW.PrintMore
attribute [local go_sem] max2_int min2_int max_two min_two max_three min_three max_four min_four   -- for this text's walks alone
set_option linter.unusedVariables false
set_option linter.unusedSimpArgs false

/-! ### impl_JoinWaves: function 56 -/
def joinOk (a b : ByteArray) : Bool := isWaveB a && isWaveB b && (a.size == b.size)
def impl_JoinWaves.f (a0 : Int) (a1 a2 : ByteArray) : Option (ByteArray × Bool) := if a0 = 0 then (if joinOk a1 a2 = true then some (strOfNums (waveL (fun i => joinLv a1 a2 (i : Int)) a1.size), true) else some ((⟨#[]⟩ : ByteArray), false)) else none
set_option maxHeartbeats 2000000 in
set_option maxRecDepth 100000 in
theorem JoinWaves_test (a b : ByteArray) (ga gb gc : Nat) (x : Int) (h0 : 0 ≤ x) (ha : x < (a.size : Int)) (hb : x < (b.size : Int)) (W : World)
    (c1 : W.cell? ⟨ga, 0, none⟩ = some (.string a)) (c2 : W.cell? ⟨gb, 0, none⟩ = some (.string b)) (c3 : W.cell? ⟨gc, 0, none⟩ = some (.int .i64 0)) :
    Calls Tryd.prog 98 #[.int .i64 x, .pointer (some ⟨ga, 0, none⟩), .pointer (some ⟨gb, 0, none⟩), .pointer (some ⟨gc, 0, none⟩)] W fun e w' => e = .returned (.bool (joinLv a b x)) ∧ Below W.heap.size W w' := by
  have ua := bt_at a x
  have ub := bt_at b x
  have p0 := eq_true h0
  have pa := eq_true ha
  have pb := eq_true hb
  have d0 : decide (0 ≤ x) = true := decide_eq_true h0
  have da : decide (x < (a.size : Int)) = true := decide_eq_true ha
  have db : decide (x < (b.size : Int)) = true := decide_eq_true hb
  clear h0 ha hb
  have HE : Aside0 (joinLv a b x = ((bt a x == 49) && (bt b x == 49))) := ⟨rfl⟩
  generalize joinLv a b x = q at HE ⊢
  cases e1 : (bt a x == 49) with
  | true =>
    rw [e1] at HE
    cases e2 : (bt b x == 49) with
    | true =>
      rw [e2] at HE
      go_enter Tryd.func98, Tryd.ntmps98
      go_wp2
      go_quiet (fail)
      go_wp2
      go_ret
      exact ⟨by rw [HE.out]; rfl, pw_below_drewN (Below.refl _ _) _⟩
    | false =>
      rw [e2] at HE
      go_enter Tryd.func98, Tryd.ntmps98
      go_wp2
      go_quiet (fail)
      go_wp2
      go_ret
      exact ⟨by rw [HE.out]; rfl, pw_below_drewN (Below.refl _ _) _⟩
  | false =>
    rw [e1] at HE
    cases e2 : (bt b x == 49) with
    | true =>
      rw [e2] at HE
      go_enter Tryd.func98, Tryd.ntmps98
      go_wp2
      go_quiet (fail)
      go_wp2
      go_ret
      exact ⟨by rw [HE.out]; rfl, pw_below_drewN (Below.refl _ _) _⟩
    | false =>
      rw [e2] at HE
      go_enter Tryd.func98, Tryd.ntmps98
      go_wp2
      go_quiet (fail)
      go_wp2
      go_ret
      exact ⟨by rw [HE.out]; rfl, pw_below_drewN (Below.refl _ _) _⟩
theorem JoinWaves_wave (a b : ByteArray) (ga gb gc : Nat) (ha : a.size ≤ 400) (hb : b.size = a.size) (w : World)
    (c1 : w.heap[ga]? = some (.cells #[.string a] 9 (0, 0))) (c2 : w.heap[gb]? = some (.cells #[.string b] 9 (0, 0))) (c3 : w.heap[gc]? = some (.cells #[.int .i64 0] 2 (0, 0))) :
    Calls Tryd.prog 53 #[.int .i64 (a.size : Int), .func (.func 98) #[] #[.pointer (some ⟨ga, 0, none⟩), .pointer (some ⟨gb, 0, none⟩), .pointer (some ⟨gc, 0, none⟩)]] w fun e w' => e = .returned (.string (strOfNums (waveL (fun i => joinLv a b (i : Int)) a.size))) ∧ Below w.heap.size w w' := by
  have l1 := blk_lt c1
  have l2 := blk_lt c2
  have l3 := blk_lt c3
  refine (waveOf.calls a.size 98 #[.pointer (some ⟨ga, 0, none⟩), .pointer (some ⟨gb, 0, none⟩), .pointer (some ⟨gc, 0, none⟩)] (fun i => joinLv a b (i : Int))
    (fun _ W => W.heap[ga]? = some (.cells #[.string a] 9 (0, 0)) ∧ W.heap[gb]? = some (.cells #[.string b] 9 (0, 0)) ∧ W.heap[gc]? = some (.cells #[.int .i64 0] 2 (0, 0))) w.heap.size w (by omega) (Nat.le_refl _)
    (enters_of Tryd.func98 (by kernel_rfl) rfl) ⟨c1, c2, c3⟩ (fun i W W' h hB => ⟨blk_stays h.1 l1 hB, blk_stays h.2.1 l2 hB, blk_stays h.2.2 l3 hB⟩)
    (fun i W hi _ h => (JoinWaves_test a b ga gb gc (i : Int) (by omega) (by omega) (by omega) W (cell1 h.1) (cell1 h.2.1) (cell1 h.2.2)).mono fun e w' ⟨he, hw⟩ => ⟨he, ⟨blk_below h.1 hw, blk_below h.2.1 hw, blk_below h.2.2 hw⟩, Side.of_below hw⟩)).mono fun e w' ⟨he, _, hB⟩ => ⟨he, hB⟩
theorem joinIn : impl_within.f 0 0 3 = some true := rfl
set_option maxHeartbeats 4000000 in
set_option maxRecDepth 100000 in
theorem impl_JoinWaves.calls (a0 : Int) (a1 : ByteArray) (a2 : ByteArray) (r1 : ByteArray) (r2 : Bool) (w : World) (h : impl_JoinWaves.f a0 a1 a2 = some (r1, r2)) :
    Calls Tryd.prog 56 #[.int .i64 a0, .string a1, .string a2] w fun e w' => e = .returned (.tuple #[.string r1, .bool r2]) ∧ Below w.heap.size w w' := by
  unfold impl_JoinWaves.f joinOk at h
  by_cases h0 : a0 = 0
  case neg => rw [if_neg h0] at h; exact absurd h (by simp)
  subst h0
  rw [if_pos rfl] at h
  have HA : Aside0 (impl_IsWave.f a1 = some (isWaveB a1)) := ⟨rfl⟩
  have HC : Aside0 (impl_IsWave.f a2 = some (isWaveB a2)) := ⟨rfl⟩
  have HI := Aside0.mk joinIn
  cases ha : isWaveB a1 with
  | false =>
    rw [ha, Bool.false_and, Bool.false_and, if_neg (by decide)] at h
    rw [ha] at HA
    clear ha
    simp only [Option.some.injEq, Prod.mk.injEq] at h
    obtain ⟨rfl, rfl⟩ := h
    go_enter Tryd.func56, Tryd.ntmps56
    go_wp2_with (first | ((with_reducible refine gate_dst (N := 3) rfl ?_); refine box_event ?hg (N := 3) ?hd (cs := #[.int .i64 0]) (t := 2) ?hr ?_; (case hd => rfl); (case hg => rfl); (case hr => first | (go_simp; done) | (go_simp; rfl)); intro gc hg_ w1 hbox_ hb_; have HX_gc := Aside0.mk hbox_; have HB_w1 := Aside0.mk hb_; have HG_gc := Aside0.mk hg_; clear hbox_ hb_ hg_; have k1 := cell1 HX_gc.out) | ((with_reducible refine gate_dst (N := 4) rfl ?_); refine box_event ?hg (N := 4) ?hd (cs := #[.string a1]) (t := 9) ?hr ?_; (case hd => rfl); (case hg => rfl); (case hr => first | (go_simp; done) | (go_simp; rfl)); intro ga hg_ w2 hbox_ hb_; have HX_ga := Aside0.mk hbox_; have HB_w2 := Aside0.mk hb_; have HG_ga := Aside0.mk hg_; clear hbox_ hb_ hg_; replace HX_gc := Aside0.mk (blk_below HX_gc.out HB_w2.out); clear k1; have k1 := cell1 HX_gc.out; have k2 := cell1 HX_ga.out) | ((with_reducible refine gate_dst (N := 5) rfl ?_); refine box_event ?hg (N := 5) ?hd (cs := #[.string a2]) (t := 9) ?hr ?_; (case hd => rfl); (case hg => rfl); (case hr => first | (go_simp; done) | (go_simp; rfl)); intro gb hg_ w3 hbox_ hb_; have HX_gb := Aside0.mk hbox_; have HB_w3 := Aside0.mk hb_; have HG_gb := Aside0.mk hg_; clear hbox_ hb_ hg_; replace HX_gc := Aside0.mk (blk_below HX_gc.out HB_w3.out); replace HX_ga := Aside0.mk (blk_below HX_ga.out HB_w3.out); have HB3 := Aside0.mk (below_step (below_step HB_w1.out HB_w2.out) HB_w3.out); clear k1 k2; have k1 := cell1 HX_gc.out; have k2 := cell1 HX_ga.out; have k3 := cell1 HX_gb.out) | (go_at_call 62; with_reducible refine (impl_IsWave.calls a1 false _ HA.out).mono ?_; rintro e w4 ⟨rfl, hb4⟩; have HB4 := Aside0.mk (below_step HB3.out hb4); clear hb4))
    go_ret2
    exact ⟨rfl, HB4.out⟩
  | true =>
    have hsz : a1.size ≤ 400 := by
      unfold isWaveB at ha
      rw [Bool.and_eq_true, decide_eq_true_eq] at ha
      exact ha.1
    have HSZ := Aside0.mk hsz
    rw [ha, Bool.true_and] at h
    rw [ha] at HA
    clear ha hsz
    cases hb : isWaveB a2 with
    | false =>
      rw [hb, Bool.false_and, if_neg (by decide)] at h
      rw [hb] at HC
      clear hb
      simp only [Option.some.injEq, Prod.mk.injEq] at h
      obtain ⟨rfl, rfl⟩ := h
      go_enter Tryd.func56, Tryd.ntmps56
      go_wp2_with (first | ((with_reducible refine gate_dst (N := 3) rfl ?_); refine box_event ?hg (N := 3) ?hd (cs := #[.int .i64 0]) (t := 2) ?hr ?_; (case hd => rfl); (case hg => rfl); (case hr => first | (go_simp; done) | (go_simp; rfl)); intro gc hg_ w1 hbox_ hb_; have HX_gc := Aside0.mk hbox_; have HB_w1 := Aside0.mk hb_; have HG_gc := Aside0.mk hg_; clear hbox_ hb_ hg_; have k1 := cell1 HX_gc.out) | ((with_reducible refine gate_dst (N := 4) rfl ?_); refine box_event ?hg (N := 4) ?hd (cs := #[.string a1]) (t := 9) ?hr ?_; (case hd => rfl); (case hg => rfl); (case hr => first | (go_simp; done) | (go_simp; rfl)); intro ga hg_ w2 hbox_ hb_; have HX_ga := Aside0.mk hbox_; have HB_w2 := Aside0.mk hb_; have HG_ga := Aside0.mk hg_; clear hbox_ hb_ hg_; replace HX_gc := Aside0.mk (blk_below HX_gc.out HB_w2.out); clear k1; have k1 := cell1 HX_gc.out; have k2 := cell1 HX_ga.out) | ((with_reducible refine gate_dst (N := 5) rfl ?_); refine box_event ?hg (N := 5) ?hd (cs := #[.string a2]) (t := 9) ?hr ?_; (case hd => rfl); (case hg => rfl); (case hr => first | (go_simp; done) | (go_simp; rfl)); intro gb hg_ w3 hbox_ hb_; have HX_gb := Aside0.mk hbox_; have HB_w3 := Aside0.mk hb_; have HG_gb := Aside0.mk hg_; clear hbox_ hb_ hg_; replace HX_gc := Aside0.mk (blk_below HX_gc.out HB_w3.out); replace HX_ga := Aside0.mk (blk_below HX_ga.out HB_w3.out); have HB3 := Aside0.mk (below_step (below_step HB_w1.out HB_w2.out) HB_w3.out); clear k1 k2; have k1 := cell1 HX_gc.out; have k2 := cell1 HX_ga.out; have k3 := cell1 HX_gb.out) | (go_at_call 62; (with_reducible refine (impl_IsWave.calls a1 true _ HA.out).mono ?_); rintro e w4 ⟨rfl, hb4⟩; have HB4 := Aside0.mk (below_step HB3.out hb4); replace HX_gb := Aside0.mk (blk_below HX_gb.out hb4); clear k1 k2 k3 hb4; have k3 := cell1 HX_gb.out) | (go_at_call 62; with_reducible refine (impl_IsWave.calls a2 false _ HC.out).mono ?_; rintro e w5 ⟨rfl, hb5⟩; have HB5 := Aside0.mk (below_step HB4.out hb5); clear hb5))
      go_ret2
      exact ⟨rfl, HB5.out⟩
    | true =>
      rw [hb, Bool.true_and] at h
      rw [hb] at HC
      clear hb
      by_cases hs : a1.size = a2.size
      · have e1 : ((a1.size : Int) == (a2.size : Int)) = true := beq_iff_eq.2 (by omega)
        have e2 : ((a1.size : Int) != (a2.size : Int)) = false := bne_eq_false_iff_eq.2 (by omega)
        have HSS := Aside0.mk hs
        rw [if_pos (beq_iff_eq.2 hs)] at h
        clear hs
        simp only [Option.some.injEq, Prod.mk.injEq] at h
        obtain ⟨rfl, rfl⟩ := h
        go_enter Tryd.func56, Tryd.ntmps56
        go_wp2_with (first | ((with_reducible refine gate_dst (N := 3) rfl ?_); refine box_event ?hg (N := 3) ?hd (cs := #[.int .i64 0]) (t := 2) ?hr ?_; (case hd => rfl); (case hg => rfl); (case hr => first | (go_simp; done) | (go_simp; rfl)); intro gc hg_ w1 hbox_ hb_; have HX_gc := Aside0.mk hbox_; have HB_w1 := Aside0.mk hb_; have HG_gc := Aside0.mk hg_; clear hbox_ hb_ hg_; have k1 := cell1 HX_gc.out) | ((with_reducible refine gate_dst (N := 4) rfl ?_); refine box_event ?hg (N := 4) ?hd (cs := #[.string a1]) (t := 9) ?hr ?_; (case hd => rfl); (case hg => rfl); (case hr => first | (go_simp; done) | (go_simp; rfl)); intro ga hg_ w2 hbox_ hb_; have HX_ga := Aside0.mk hbox_; have HB_w2 := Aside0.mk hb_; have HG_ga := Aside0.mk hg_; clear hbox_ hb_ hg_; replace HX_gc := Aside0.mk (blk_below HX_gc.out HB_w2.out); clear k1; have k1 := cell1 HX_gc.out; have k2 := cell1 HX_ga.out) | ((with_reducible refine gate_dst (N := 5) rfl ?_); refine box_event ?hg (N := 5) ?hd (cs := #[.string a2]) (t := 9) ?hr ?_; (case hd => rfl); (case hg => rfl); (case hr => first | (go_simp; done) | (go_simp; rfl)); intro gb hg_ w3 hbox_ hb_; have HX_gb := Aside0.mk hbox_; have HB_w3 := Aside0.mk hb_; have HG_gb := Aside0.mk hg_; clear hbox_ hb_ hg_; replace HX_gc := Aside0.mk (blk_below HX_gc.out HB_w3.out); replace HX_ga := Aside0.mk (blk_below HX_ga.out HB_w3.out); have HB3 := Aside0.mk (below_step (below_step HB_w1.out HB_w2.out) HB_w3.out); clear k1 k2; have k1 := cell1 HX_gc.out; have k2 := cell1 HX_ga.out; have k3 := cell1 HX_gb.out) | (go_at_call 62; (with_reducible refine (impl_IsWave.calls a1 true _ HA.out).mono ?_); rintro e w4 ⟨rfl, hb4⟩; have HB4 := Aside0.mk (below_step HB3.out hb4); replace HX_ga := Aside0.mk (blk_below HX_ga.out hb4); replace HX_gb := Aside0.mk (blk_below HX_gb.out hb4); replace HX_gc := Aside0.mk (blk_below HX_gc.out hb4); clear k1 k2 k3 hb4; have k3 := cell1 HX_gb.out) | (go_at_call 62; (with_reducible refine (impl_IsWave.calls a2 true _ HC.out).mono ?_); rintro e w5 ⟨rfl, hb5⟩; have HB5 := Aside0.mk (below_step HB4.out hb5); replace HX_ga := Aside0.mk (blk_below HX_ga.out hb5); replace HX_gb := Aside0.mk (blk_below HX_gb.out hb5); replace HX_gc := Aside0.mk (blk_below HX_gc.out hb5); clear k3 hb5; have k1 := cell1 HX_gc.out; have k2 := cell1 HX_ga.out; have k3 := cell1 HX_gb.out) | (go_at_call 61; refine (impl_within.calls 0 0 3 true _ HI.out).mono ?_; rintro e w' ⟨rfl, ⟨nd, rfl⟩⟩) | (go_at_call 53; refine (JoinWaves_wave a1 a2 ga gb gc HSZ.out HSS.out.symm _ (blk_drewN HX_ga.out _) (blk_drewN HX_gb.out _) (blk_drewN HX_gc.out _)).mono ?_; rintro e w6 ⟨rfl, hb6⟩; have HB6 := Aside0.mk (below_step (pw_below_drewN HB5.out _) hb6); clear hb6))
        go_ret2
        exact ⟨rfl, HB6.out⟩
      · have e1 : ((a1.size : Int) == (a2.size : Int)) = false := beq_eq_false_iff_ne.2 (by omega)
        have e2 : ((a1.size : Int) != (a2.size : Int)) = true := bne_iff_ne.2 (by omega)
        rw [if_neg (by rw [beq_eq_false_iff_ne.2 hs]; decide)] at h
        clear hs
        simp only [Option.some.injEq, Prod.mk.injEq] at h
        obtain ⟨rfl, rfl⟩ := h
        go_enter Tryd.func56, Tryd.ntmps56
        go_wp2_with (first | ((with_reducible refine gate_dst (N := 3) rfl ?_); refine box_event ?hg (N := 3) ?hd (cs := #[.int .i64 0]) (t := 2) ?hr ?_; (case hd => rfl); (case hg => rfl); (case hr => first | (go_simp; done) | (go_simp; rfl)); intro gc hg_ w1 hbox_ hb_; have HX_gc := Aside0.mk hbox_; have HB_w1 := Aside0.mk hb_; have HG_gc := Aside0.mk hg_; clear hbox_ hb_ hg_; have k1 := cell1 HX_gc.out) | ((with_reducible refine gate_dst (N := 4) rfl ?_); refine box_event ?hg (N := 4) ?hd (cs := #[.string a1]) (t := 9) ?hr ?_; (case hd => rfl); (case hg => rfl); (case hr => first | (go_simp; done) | (go_simp; rfl)); intro ga hg_ w2 hbox_ hb_; have HX_ga := Aside0.mk hbox_; have HB_w2 := Aside0.mk hb_; have HG_ga := Aside0.mk hg_; clear hbox_ hb_ hg_; replace HX_gc := Aside0.mk (blk_below HX_gc.out HB_w2.out); clear k1; have k1 := cell1 HX_gc.out; have k2 := cell1 HX_ga.out) | ((with_reducible refine gate_dst (N := 5) rfl ?_); refine box_event ?hg (N := 5) ?hd (cs := #[.string a2]) (t := 9) ?hr ?_; (case hd => rfl); (case hg => rfl); (case hr => first | (go_simp; done) | (go_simp; rfl)); intro gb hg_ w3 hbox_ hb_; have HX_gb := Aside0.mk hbox_; have HB_w3 := Aside0.mk hb_; have HG_gb := Aside0.mk hg_; clear hbox_ hb_ hg_; replace HX_gc := Aside0.mk (blk_below HX_gc.out HB_w3.out); replace HX_ga := Aside0.mk (blk_below HX_ga.out HB_w3.out); have HB3 := Aside0.mk (below_step (below_step HB_w1.out HB_w2.out) HB_w3.out); clear k1 k2; have k1 := cell1 HX_gc.out; have k2 := cell1 HX_ga.out; have k3 := cell1 HX_gb.out) | (go_at_call 62; (with_reducible refine (impl_IsWave.calls a1 true _ HA.out).mono ?_); rintro e w4 ⟨rfl, hb4⟩; have HB4 := Aside0.mk (below_step HB3.out hb4); replace HX_ga := Aside0.mk (blk_below HX_ga.out hb4); replace HX_gb := Aside0.mk (blk_below HX_gb.out hb4); replace HX_gc := Aside0.mk (blk_below HX_gc.out hb4); clear k1 k2 k3 hb4; have k3 := cell1 HX_gb.out) | (go_at_call 62; (with_reducible refine (impl_IsWave.calls a2 true _ HC.out).mono ?_); rintro e w5 ⟨rfl, hb5⟩; have HB5 := Aside0.mk (below_step HB4.out hb5); replace HX_ga := Aside0.mk (blk_below HX_ga.out hb5); replace HX_gb := Aside0.mk (blk_below HX_gb.out hb5); clear k3 hb5; have k2 := cell1 HX_ga.out; have k3 := cell1 HX_gb.out))
        go_ret2
        exact ⟨rfl, HB5.out⟩

end Go.Proofs.YtmipelgjmmgmnaaDoor.Pa
