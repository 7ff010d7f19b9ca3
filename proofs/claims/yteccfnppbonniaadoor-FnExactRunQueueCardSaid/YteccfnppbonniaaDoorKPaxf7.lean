-- Written for this claim by a program of this session.
import Derived.Test.YteccfnppbonniaaDoorPax0
import Derived.Test.YteccfnppbonniaaDoorCore3
import Derived.Test.YteccfnppbonniaaDoorKPaxf18
import Derived.Test.YteccfnppbonniaaDoorCore2
namespace Go.Proofs.YteccfnppbonniaaDoor.Pa
open Go.RowKit Go.Proofs.YteccfnppbonniaaDoorW.PrintWords Go.Proofs.YteccfnppbonniaaDoorW.PrintLast Go.Proofs.YteccfnppbonniaaDoorW.PrintMore
attribute [local go_sem] max2_int min2_int max_two min_two max_three min_three max_four min_four   -- for this text's walks alone
set_option linter.unusedVariables false
set_option linter.unusedSimpArgs false

/-! ### impl_RunQueue: function 7 -/
def impl_RunQueue.T7 : Bool × List (List Nat × List Nat) := (true, [([], []), ([], []), ([], []), ([1, 2], [1, 2]), ([0, 3], [0, 3])])
def impl_RunQueue.B7 : List Nat := [0, 0, 0, 6, 15]
theorem impl_RunQueue.tab7 : rtab .any (opsOf Tryd.f7 7) = impl_RunQueue.T7 := by kernel_rfl
theorem impl_RunQueue.bits7 : waitsOk impl_RunQueue.T7.2 impl_RunQueue.B7 = true := by kernel_rfl
def qrLoop (d g : Int) (s : ByteArray) : Nat → Nat → Int → Int → Int → Int → Int → Int → Int → List Int → Option (List Int)
 | 0, _, _, _, _, _, _, _, _, out => some out
 | n + 1, i, x0, x1, x2, x3, x4, x5, x6, out => (impl_queueState_step.f 40 x0 x1 x2 x3 x4 x5 x6 d g (bt s (i : Int))).bind fun y => qrLoop d g s n (i + 1) y.1 y.2.1 y.2.2.1 y.2.2.2.1 y.2.2.2.2.1 y.2.2.2.2.2.1 y.2.2.2.2.2.2 (out ++ [y.2.2.2.2.2.2])
def impl_RunQueue.f (a0_0 a0_1 : Int) (a1 : ByteArray) : Option (List Int × Bool) :=
 (impl_ValidQueue.f a0_0 a0_1).bind fun v => match v with
  | false => some ([], false)
  | true => (impl_isOrder.f a1).bind fun o => match o with
   | false => some ([], false)
   | true => if a1.size ≤ 1000 then (qrLoop a0_0 a0_1 a1 a1.size 0 0 0 0 0 0 0 0 []).bind fun out => some (out, true) else none
set_option maxHeartbeats 8000000 in
set_option maxRecDepth 100000 in
theorem impl_RunQueue.calls (a0_0 a0_1 : Int) (a1 : ByteArray) (r1 : List Int) (r2 : Bool) (w : World) (h : impl_RunQueue.f a0_0 a0_1 a1 = some (r1, r2)) :
  Calls Tryd.prog 7 #[.agg #[.int .i64 a0_0, .int .i64 a0_1], .string a1] w fun e w' => ∃ v0_ : Value, e = .returned (.tuple #[v0_, .bool r2]) ∧ Kd.R (Kd.int .i64) 2 w' w.heap.size (fun _ => True) v0_ r1 ∧ Below w.heap.size w w' := by
 have hu := Tryd.underlying27
 have hu2 := Tryd.underlying48
 unfold impl_RunQueue.f at h
 obtain ⟨v, hv, h⟩ := Option.bind_eq_some_iff.mp h
 have HV := Aside0.mk hv
 clear hv
 cases v with
 | false =>
  injection h with h
  injection h with e1 e2
  subst e1
  subst e2
  go_enter Tryd.func7, Tryd.ntmps7
  go_wp2_with (first | ((with_reducible refine gate_dst (N := 2) rfl ?_); refine box_event ?hg (N := 2) ?hd (cs := #[.int .i64 a0_0, .int .i64 a0_1]) (t := 27) ?hr ?_; (case hd => rfl); (case hg => rfl); (case hr => first | (go_simp; done) | (go_simp; rfl)); intro gq hg_ w1 hbox_ hb_; have HX_gq := Aside0.mk hbox_; have HB_w1 := Aside0.mk hb_; have HG_gq := Aside0.mk hg_; clear hbox_ hb_ hg_; have b0 := blk_cell HX_gq.out 0; have b1 := blk_cell HX_gq.out 1) | (go_at_call 18; refine (impl_ValidQueue.calls _ _ _ _ HV.out).mono ?_; rintro e w2 ⟨rfl, hb⟩; have HB2 := Aside0.mk (below_step HB_w1.out hb); have HX2 := Aside0.mk (blk_below HX_gq.out hb); clear hb b0 b1; have b0 := blk_cell HX2.out 0; have b1 := blk_cell HX2.out 1))
  go_ret2
  exact ⟨_, rfl, Kd.R_nil _ _ _ _ _, HB2.out⟩
 | true =>
  dsimp only at h
  obtain ⟨o, ho, h⟩ := Option.bind_eq_some_iff.mp h
  have HR := Aside0.mk ho
  clear ho
  cases o with
  | false =>
   injection h with h
   injection h with e1 e2
   subst e1
   subst e2
   go_enter Tryd.func7, Tryd.ntmps7
   go_wp2_with (first | ((with_reducible refine gate_dst (N := 2) rfl ?_); refine box_event ?hg (N := 2) ?hd (cs := #[.int .i64 a0_0, .int .i64 a0_1]) (t := 27) ?hr ?_; (case hd => rfl); (case hg => rfl); (case hr => first | (go_simp; done) | (go_simp; rfl)); intro gq hg_ w1 hbox_ hb_; have HX_gq := Aside0.mk hbox_; have HB_w1 := Aside0.mk hb_; have HG_gq := Aside0.mk hg_; clear hbox_ hb_ hg_; have b0 := blk_cell HX_gq.out 0; have b1 := blk_cell HX_gq.out 1) | (go_at_call 18; refine (impl_ValidQueue.calls _ _ _ _ HV.out).mono ?_; rintro e w2 ⟨rfl, hb⟩; have HB2 := Aside0.mk (below_step HB_w1.out hb); have HX2 := Aside0.mk (blk_below HX_gq.out hb); clear hb b0 b1; have b0 := blk_cell HX2.out 0; have b1 := blk_cell HX2.out 1) | (go_at_call 19; refine (impl_isOrder.calls _ _ _ HR.out).mono ?_; rintro e w3 ⟨rfl, hb⟩; have HB3 := Aside0.mk (below_step HB2.out hb); have HX3 := Aside0.mk (blk_below HX2.out hb); clear hb b0 b1))
   go_ret2
   exact ⟨_, rfl, Kd.R_nil _ _ _ _ _, HB3.out⟩
  | true =>
   dsimp only at h
   by_cases hs : a1.size ≤ 1000
   case neg => rw [if_neg hs] at h; exact absurd h (by simp)
   rw [if_pos hs] at h
   obtain ⟨out0, hl, h⟩ := Option.bind_eq_some_iff.mp h
   injection h with h
   injection h with e1 e2
   subst e1
   subst e2
   have HL := Aside0.mk hl
   have HS_ := Aside0.mk hs
   clear hl hs
   go_enter Tryd.func7, Tryd.ntmps7
   go_wp2_with (first | ((with_reducible refine gate_dst (N := 2) rfl ?_); refine box_event ?hg (N := 2) ?hd (cs := #[.int .i64 a0_0, .int .i64 a0_1]) (t := 27) ?hr ?_; (case hd => rfl); (case hg => rfl); (case hr => first | (go_simp; done) | (go_simp; rfl)); intro gq hg_ w1 hbox_ hb_; have HX_gq := Aside0.mk hbox_; have HB_w1 := Aside0.mk hb_; have HG_gq := Aside0.mk hg_; clear hbox_ hb_ hg_; have b0 := blk_cell HX_gq.out 0; have b1 := blk_cell HX_gq.out 1) | (go_at_call 18; refine (impl_ValidQueue.calls _ _ _ _ HV.out).mono ?_; rintro e w2 ⟨rfl, hb⟩; have HB2 := Aside0.mk (below_step HB_w1.out hb); have HX2 := Aside0.mk (blk_below HX_gq.out hb); clear hb b0 b1; have b0 := blk_cell HX2.out 0; have b1 := blk_cell HX2.out 1) | (go_at_call 19; refine (impl_isOrder.calls _ _ _ HR.out).mono ?_; rintro e w3 ⟨rfl, hb⟩; have HB3 := Aside0.mk (below_step HB2.out hb); have HX3 := Aside0.mk (blk_below HX2.out hb); clear hb b0 b1) | ((with_reducible refine gate_dst (N := 18) rfl ?_); refine Kd.R_lit (Kd.int .i64) _ 2 ?hg (N := 18) ?hd (xs := ([] : List Int)) (inner := []) (ok := fun _ => True) (okp := fun _ => True) ?hr ?hp (fun _ hk => hk) trivial (Below.refl _ _) (Nat.le_refl _) (by simp) ?_; (case hd => rfl); (case hg => rfl); (case hr => first | (go_simp; done) | (go_simp; rfl)); (case hp => exact (Reps.none _ _)); intro v18 w4 ho hb hg_ hnew_; have HO4 := Aside0.mk (Kd.R_lower ho (below_size HB3.out)); have HB4 := Aside0.mk (below_step HB3.out hb); have HX4 := Aside0.mk (blk_below HX3.out hb); clear hg_ hnew_ ho hb))
   obtain ⟨w6, hwx⟩ : ∃ z, z = w4.alloc (.cells #[.int .i64 0, .int .i64 0, .int .i64 0, .int .i64 0, .int .i64 0, .int .i64 0, .int .i64 0] 48) := ⟨_, rfl⟩
   rw [← hwx]
   have hb : Below w4.heap.size w4 w6 := (by rw [hwx]; exact below_alloc (Below.refl _ _) _)
   have HS4 : Aside0 (w6.heap[w4.heap.size]? = some (.cells #[.int .i64 0, .int .i64 0, .int .i64 0, .int .i64 0, .int .i64 0, .int .i64 0, .int .i64 0] 48 (0, 0))) := ⟨by rw [hwx]; simpa using heap_alloc_new w4 _⟩
   clear hwx
   replace HO4 := Aside0.mk (Kd.R_below HO4.out hb)
   have HNE0 := Aside0.mk (Nat.ne_of_lt (blk_lt HX4.out))
   have HGX0 := Aside0.mk (below_size HB4.out)
   replace HX4 := Aside0.mk (blk_below HX4.out hb)
   replace HB4 := Aside0.mk (below_step HB4.out hb)
   clear hb
   generalize w4.heap.size = gx at HS4 HNE0 HGX0 ⊢
   clear HB2 HX2 HB3 HX3 HB_w1 HX_gq HG_gq
   go_loopg [7, 21] (a1.size + 1) (fun gg s7 s21 wr => ∃ (i : Nat) (x0 x1 x2 x3 x4 x5 x6 : Int) (out : List Int), s21 = .int .i64 (i : Int) ∧ Aside0 (i ≤ a1.size ∧ a1.size - i < gg ∧ out.length ≤ i) ∧ Aside0 (Below w.heap.size w wr) ∧ Aside0 (wr.heap[gq]? = some (.cells #[.int .i64 a0_0, .int .i64 a0_1] 27 (0, 0))) ∧ Aside0 (wr.heap[gx]? = some (.cells #[.int .i64 x0, .int .i64 x1, .int .i64 x2, .int .i64 x3, .int .i64 x4, .int .i64 x5, .int .i64 x6] 48 (0, 0))) ∧ Aside0 (Kd.R (Kd.int .i64) 2 wr w.heap.size (fun _ => True) s7 out) ∧ Aside0 (qrLoop a0_0 a0_1 a1 (a1.size - i) i x0 x1 x2 x3 x4 x5 x6 out = some out0))
   case atStart => exact ⟨0, 0, 0, 0, 0, 0, 0, 0, [], rfl, ⟨by simp⟩, HB4, HX4, HS4, HO4, HL⟩
   case round =>
    clear HB4 HX4 HS4 HO4 HL
    obtain ⟨i, x0, x1, x2, x3, x4, x5, x6, out, rfl, HX, HB, HQ, S0, HO, HN⟩ := hrel
    obtain ⟨Ao, co, rfl⟩ := Kd.R_slice HO.out
    have HNE := HNE0; have HGX := HGX0
    generalize hxi : (i : Int) = xi
    have HXI := Aside0.mk hxi
    by_cases hlt : i < a1.size
    ·have hlt' : xi < (a1.size : Int) := by omega
     have h0' : (0 : Int) ≤ xi := by omega
     obtain ⟨n, hn⟩ : ∃ n, a1.size - i = n + 1 := ⟨a1.size - i - 1, by omega⟩
     have hq := HN.out
     rw [hn] at hq
     unfold qrLoop at hq
     rw [hxi] at hq
     obtain ⟨⟨y0, y1, y2, y3, y4, y5, y6⟩, hs, hq⟩ := Option.bind_eq_some_iff.mp hq
     dsimp only at hq
     have HS := Aside0.mk hs
     have HQQ := Aside0.mk hq
     have HD := Aside0.mk hn
     have HLT := Aside0.mk hlt
     have HP4 := Aside0.mk (eq_true h0'); have HQ4 := Aside0.mk (eq_true hlt'); have HD1 := Aside0.mk (decide_eq_true h0'); have HD2 := Aside0.mk (decide_eq_true hlt')
     have c2 : decide (xi < (a1.size : Int)) = true := decide_eq_true hlt'
     have p2 := eq_true hlt'
     clear hs hq hn hlt hxi HN
     go_wp2
     clear c2 p2 h0' hlt'
     replace HB := Aside0.mk (below_drew1 HB.out); replace HQ := Aside0.mk (blk_drew HQ.out); replace HO := Aside0.mk (Kd.R_drew HO.out); replace S0 := Aside0.mk (blk_drew S0.out)
     refine start_ (n := 5) (S := fun w' => True) (ds := []) #[false, false, false, false, false] (by kernel_rfl) rfl rfl trivial (fun hHeld => ?_)
     refine with_tabW impl_RunQueue.tab7 impl_RunQueue.bits7 (fun HT_ HW_ => ?_)
     generalize wr.drew = wk at HB HQ HO S0 hHeld ⊢
     refine pure_ (i := 1) (N := some 25) (v := ?_) (a' := ?_) #[false, true, false, false, false] rfl rfl (any_of HT_.out (by kernel_rfl)) (fun _ _ _ h => h) (Or.inl ⟨by rfl, ?_⟩) ?_ ?_
     rotate_left
     ·intro w'
      go_simp
      with_reducible rfl
     rotate_left
     ·simp only [Act.put, List.setIfInBounds_toArray, List.set_cons_zero, List.set_cons_succ, i64_w, i32_w]
      rfl
     refine pure_ (i := 2) (N := some 26) (v := ?_) (a' := ?_) #[false, true, true, false, false] rfl rfl (any_of HT_.out (by kernel_rfl)) (fun _ _ _ h => h) (Or.inl ⟨by rfl, ?_⟩) ?_ ?_
     rotate_left
     ·intro w'
      go_simp
      with_reducible rfl
     rotate_left
     ·simp only [Act.put, List.setIfInBounds_toArray, List.set_cons_zero, List.set_cons_succ, i64_w, i32_w]
      rfl
     refine inv_at [0, 3, 4] (fun a0_ b a w' => a = putSel a0_ b [(0, 24, .agg #[.int .i64 a0_0, .int .i64 a0_1]), (3, 27, .int .u8 (bt a1 xi)), (4, 28, .tuple #[])] ∧ (Below w.heap.size w w') ∧ (w'.heap[gq]? = some (.cells #[.int .i64 a0_0, .int .i64 a0_1] 27 (0, 0))) ∧ (Kd.R (Kd.int .i64) 2 w' w.heap.size (fun _ => True) (.slice Ao out.length co) out) ∧ (b 4 = false → w'.heap[gx]? = some (.cells #[.int .i64 x0, .int .i64 x1, .int .i64 x2, .int .i64 x3, .int .i64 x4, .int .i64 x5, .int .i64 x6] 48 (0, 0))) ∧ (b 4 = true → w'.heap[gx]? = some (.cells #[.int .i64 y0, .int .i64 y1, .int .i64 y2, .int .i64 y3, .int .i64 y4, .int .i64 y5, .int .i64 y6] 48 (0, 0)))) HT_.out HW_.out (by kernel_rfl) (by kernel_rfl) ?_ ?_ ?_
     ·exact ⟨by simp only [putSel, Bool.false_eq_true, if_false], HB.out, HQ.out, HO.out, fun _ => S0.out, fun h_ => absurd h_ (by decide)⟩
     ·skip
      clear HB HO HQ S0
      refine steps_cons ?_ ?_
      ·rintro b a w' ⟨ha, Q_HB, Q_HQ, Q_HO, Q_S0, Q_S1⟩ hb_ hon hoff
       refine ⟨_, rfl, fun K hK => ?_⟩
       have e2 : a.tmps[2]? = some (.pointer (some ⟨gq, 0, none⟩)) := by rw [ha]; exact (putSel_off rfl).trans rfl
       replace ha := Aside0.mk ha
       have HB := Aside0.mk Q_HB
       have HQ := Aside0.mk Q_HQ
       have HO := Aside0.mk Q_HO
       have S0 := Aside0.mk (Q_S0 (hoff 4 (by kernel_rfl)))
       have hc0_ : w'.cell? ⟨gq, 0, none⟩ = some (.int .i64 a0_0) := (blk_cell HQ.out 0).trans rfl
       have hc1_ : w'.cell? ⟨gq, 1, none⟩ = some (.int .i64 a0_1) := (blk_cell HQ.out 1).trans rfl
       refine value_ (w1 := w') (v := .agg #[.int .i64 a0_0, .int .i64 a0_1]) (by rfl) rfl ?_ ?_
       ·go_simp
        (try simp only [i64_w])
        try rfl
       refine hK.out _ _ ⟨(by rw [ha.out]; exact putSel_upk 0 hb_ rfl rfl rfl), Q_HB, Q_HQ, Q_HO, Q_S0, fun h0_ => absurd ((hoff 4 (by kernel_rfl)).symm.trans h0_) (by decide)⟩
      refine steps_cons ?_ ?_
      ·rintro b a w' ⟨ha, Q_HB, Q_HQ, Q_HO, Q_S0, Q_S1⟩ hb_ hon hoff
       refine ⟨_, rfl, fun K hK => ?_⟩
       have e25 : a.tmps[25]? = some (.string a1) := by rw [ha]; exact (putSel_off rfl).trans rfl
       have e26 : a.tmps[26]? = some (.int .i64 xi) := by rw [ha]; exact (putSel_off rfl).trans rfl
       replace ha := Aside0.mk ha
       have HB := Aside0.mk Q_HB
       have HQ := Aside0.mk Q_HQ
       have HO := Aside0.mk Q_HO
       have S0 := Aside0.mk (Q_S0 (hoff 4 (by kernel_rfl)))
       have p4_ := HP4.out
       have q4_ := HQ4.out
       have c1_ := HD1.out
       have c2_ := HD2.out
       have hx4_ := bt_at a1 xi
       refine value_ (w1 := w') (v := .int .u8 (bt a1 xi)) (by rfl) rfl ?_ ?_
       ·go_simp
        (try simp only [i64_w])
        try rfl
       refine hK.out _ _ ⟨(by rw [ha.out]; exact putSel_upk 1 hb_ rfl rfl rfl), Q_HB, Q_HQ, Q_HO, Q_S0, fun h0_ => absurd ((hoff 4 (by kernel_rfl)).symm.trans h0_) (by decide)⟩
      refine steps_cons ?_ ?_
      ·rintro b a w' ⟨ha, Q_HB, Q_HQ, Q_HO, Q_S0, Q_S1⟩ hb_ hon hoff
       refine ⟨_, rfl, fun K hK => ?_⟩
       have e6 : a.tmps[6]? = some (.pointer (some ⟨gx, 0, none⟩)) := by rw [ha]; exact (putSel_off rfl).trans rfl
       have e24 : a.tmps[24]? = some (.agg #[.int .i64 a0_0, .int .i64 a0_1]) := by rw [ha]; exact putSel_on (e := (0, 24, .agg #[.int .i64 a0_0, .int .i64 a0_1])) 0 rfl rfl (hon 0 (by kernel_rfl)) rfl
       have e27 : a.tmps[27]? = some (.int .u8 (bt a1 xi)) := by rw [ha]; exact putSel_on (e := (3, 27, .int .u8 (bt a1 xi))) 1 rfl rfl (hon 3 (by kernel_rfl)) rfl
       replace ha := Aside0.mk ha
       have HB := Aside0.mk Q_HB
       have HQ := Aside0.mk Q_HQ
       have HO := Aside0.mk Q_HO
       have S0 := Aside0.mk (Q_S0 hb_)
       refine goes_ Tryd.func20 (by kernel_rfl) rfl #[.pointer (some ⟨gx, 0, none⟩), .agg #[.int .i64 a0_0, .int .i64 a0_1], .int .u8 (bt a1 xi)] (by rfl) rfl rfl (by first | (simp only [List.map_toArray, List.map_cons, List.map_nil, Act.eval, Array.getD_eq_getD_getElem?, Option.getD_some, e6, e24, e27]; done) | (simp only [List.map_toArray, List.map_cons, List.map_nil, Act.eval, Array.getD_eq_getD_getElem?, Option.getD_some, e6, e24, e27]; rfl)) ?_
       refine (impl_queueState_step.calls 40 gx x0 x1 x2 x3 x4 x5 x6 a0_0 a0_1 (bt a1 xi) y0 y1 y2 y3 y4 y5 y6 w' S0.out HS.out).mono ?_
       rintro e w5 ⟨rfl, hx5, hk, hz⟩
       refine ⟨_, rfl, ?_⟩
       refine hK.out _ _ ⟨(by rw [ha.out]; exact putSel_upk 2 hb_ rfl rfl rfl), below_keptX HB.out hz hk HGX.out, blk_kept HQ.out hk HNE.out, Kd.R_mono (Kd.R_kept (Kd.R_types HO.out S0.out (by decide)) hk (fun k hk_ h_ => hk_.2 h_)) (fun _ _ => trivial), fun h0_ => absurd ((up_self b 4).symm.trans h0_) (by decide), fun _ => hx5⟩
      exact steps_nil
     rintro b a w15 hall ⟨ha, Q_HB, Q_HQ, Q_HO, Q_S0, Q_S1⟩
     clear HB HO HQ S0
     have hb0_ := hall 0 (by kernel_rfl)
     have hb3_ := hall 3 (by kernel_rfl)
     have hb4_ := hall 4 (by kernel_rfl)
     subst ha
     simp only [putSel, hb0_, hb3_, hb4_, if_true, Act.put, List.setIfInBounds_toArray, List.set_cons_zero, List.set_cons_succ]
     have HB := Aside0.mk Q_HB
     clear Q_HB
     have HQ := Aside0.mk Q_HQ
     clear Q_HQ
     have HO := Aside0.mk Q_HO
     clear Q_HO
     clear Q_S0
     have S1 := Aside0.mk (Q_S1 hb4_)
     clear Q_S1
     clear hall hb0_ hb3_ hb4_
     have hx1 := HX.out
     have hs1 := HS_.out
     have m6 := blk_cell S1.out 6
     go_wp2_with ((with_reducible refine gate_builtin (b := .append) (xs := #[.tmp 29, .tmp 32]) rfl ?_); at_builtin; refine Kd.R_append (Kd.int .i64) (w0 := w) w.heap.size rfl (.tmp 29) (.tmp 32) 24 2 (.int .i64 0) 8 rfl Tryd.underlying24 info2 rfl (by decide) (by omega) _ out y6 [.int .i64 y6] (fun _ => True) (fun _ => False) rfl rfl rfl (fun _ hk => hk.elim) (fun _ _ => trivial) HO.out HB.out (below_size HB.out) (by omega) ?_; intro v18 w18 ho hb hg hat; have HO18 := Aside0.mk ho; have HB18 := Aside0.mk hb; have HX18 := Aside0.mk (blk_grown S1.out hg (Kd.R_ne HO.out S1.out (by decide))); have HQ18 := Aside0.mk (blk_grown HQ.out hg (Kd.R_ne HO.out HQ.out (by decide))); clear ho hb hg hat)
     have hxi := HXI.out
     have hlt := HLT.out
     go_roundg (a1.size - i)
     case measure => omega
     case rel =>
      refine ⟨i + 1, y0, y1, y2, y3, y4, y5, y6, _, by first | (rw [show wrap64 (xi + 1) = ((i + 1 : Nat) : Int) from by unfold wrap64; omega]) | (rw [i64_w, show wrap64 (xi + 1) = ((i + 1 : Nat) : Int) from by unfold wrap64; omega]) | (rw [show xi + 1 = ((i + 1 : Nat) : Int) from by omega]), ⟨by simp; omega⟩, HB18, HQ18, HX18, HO18, ⟨?_⟩⟩
      have hd := HD.out
      rw [show a1.size - (i + 1) = n by omega]
      exact HQQ.out
    ·have hlt' : ¬ (xi < (a1.size : Int)) := by omega
     have c2 : decide (xi < (a1.size : Int)) = false := decide_eq_false hlt'
     have p2 := eq_false hlt'
     have hq := HN.out
     rw [show a1.size - i = 0 by omega] at hq
     injection hq with hq
     subst hq
     clear HN hlt hxi
     go_wp2
     go_ret2
     exact ⟨_, rfl, HO.out, HB.out⟩

end Go.Proofs.YteccfnppbonniaaDoor.Pa
