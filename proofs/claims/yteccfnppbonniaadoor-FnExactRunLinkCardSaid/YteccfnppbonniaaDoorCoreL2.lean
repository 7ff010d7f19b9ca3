-- Written for this claim by a program of this session.
import Derived.Test.YteccfnppbonniaaDoorPax0
import Derived.Test.YteccfnppbonniaaDoorCoreL1
namespace Go.Proofs.YteccfnppbonniaaDoor.Pa
open Go.RowKit Go.Proofs.YteccfnppbonniaaDoorW.PrintWords Go.Proofs.YteccfnppbonniaaDoorW.PrintLast Go.Proofs.YteccfnppbonniaaDoorW.PrintMore
attribute [local go_sem] max2_int min2_int max_two min_two max_three min_three max_four min_four   -- for this text's walks alone
set_option linter.unusedVariables false
set_option linter.unusedSimpArgs false

/-! ### AUX linkC -/
def linkRecv.T1 : Bool × List (List Nat × List Nat) := (true, [([], []), ([], []), ([1], [1]), ([2], [2]), ([3], [3]), ([], []), ([5], [5]), ([6], [6]), ([7], [7]), ([0, 4, 8], [0, 4, 8]), ([9, 9, 0, 1, 2, 3, 4, 5, 6, 7, 8, 9], [9]), ([10, 0, 1, 2, 3, 4, 5, 6, 7, 8, 9, 10], [])])
def linkRecv.B1 : List Nat := [0, 0, 2, 6, 14, 0, 32, 96, 224, 511, 1023, 2047]
theorem linkRecv.tab1 : rtab .any (opsOf Tryd.f28 1) = linkRecv.T1 := by kernel_rfl
theorem linkRecv.bits1 : waitsOk linkRecv.T1.2 linkRecv.B1 = true := by kernel_rfl
def linkRecv.T5 : Bool × List (List Nat × List Nat) := (true, [([], []), ([], []), ([1], [1]), ([2], [2]), ([3], [3]), ([], []), ([5], [5]), ([6], [6]), ([7], [7]), ([4, 8], [4, 8]), ([0, 0, 1, 2, 3, 4, 5, 6, 7, 8, 9], [0]), ([10, 0, 1, 2, 3, 4, 5, 6, 7, 8, 9], [10]), ([11, 9, 9, 0, 1, 2, 3, 4, 5, 6, 7, 8, 9], [9, 11])])
def linkRecv.B5 : List Nat := [0, 0, 2, 6, 14, 0, 32, 96, 224, 510, 1023, 2047, 4095]
theorem linkRecv.tab5 : rtab .any (opsOf Tryd.f28 5) = linkRecv.T5 := by kernel_rfl
theorem linkRecv.bits5 : waitsOk linkRecv.T5.2 linkRecv.B5 = true := by kernel_rfl
/-- What a step of the receiver tells: the answer behind it, and whether it takes a word. -/
def takeP (ph x2 sn : Int) : Int × Bool := if sn = x2 then (x2, false) else (sn, ph == 2 || sn == 1)
set_option maxHeartbeats 8000000 in
set_option maxRecDepth 100000 in
theorem stepReceiver.calls (gx : Nat) (x0 x1 x2 x3 x5 x6 x7 x8 x9 x10 l0 l1 l2 l3 : Int) (x4 : Bool) (sn y2 : Int) (tk : Bool) (w : World) (hx : w.heap[gx]? = some (.cells #[.int .i64 x0, .int .i64 x1, .int .i64 x2, .int .i64 x3, .bool x4, .int .i64 x5, .int .i64 x6, .int .i64 x7, .int .i64 x8, .int .i64 x9, .int .i64 x10] 63 (0, 0))) (hs : seesP l1 x9 x10 x1 = some sn) (h : takeP l0 x2 sn = (y2, tk)) :
  Calls Tryd.prog 28 #[.pointer (some ⟨gx, 0, none⟩), .agg #[.int .i64 l0, .int .i64 l1, .int .i64 l2, .int .i64 l3]] w fun e w' => e = .returned (.tuple #[.int .i64 x3, .bool tk]) ∧ w'.heap[gx]? = some (.cells #[.int .i64 x0, .int .i64 x1, .int .i64 y2, .int .i64 x3, .bool x4, .int .i64 x5, .int .i64 x6, .int .i64 x7, .int .i64 x8, .int .i64 x1, .int .i64 x9] 63 (0, 0)) ∧ Kept w w' (fun b => b = gx) ∧ Below 0 w w' := by
 have hu := Tryd.underlying63
 have hu2 := Tryd.underlying36
 have hu3 := Tryd.underlying61
 have hu4 := Tryd.underlying4
 have HX := Aside0.mk hx
 clear hx
 have HSN := Aside0.mk hs
 clear hs
 unfold takeP at h
 by_cases hq : sn = x2
 ·subst hq
  rw [if_pos rfl] at h
  simp only [Prod.mk.injEq] at h
  obtain ⟨rfl, rfl⟩ := h
  have q1 : (sn != sn) = false := by simp
  go_enter Tryd.func28, Tryd.ntmps28
  go_wp2_with ((with_reducible refine gate_dst (N := 3) rfl ?_); refine box_event ?hg (N := 3) ?hd (cs := #[.int .i64 l0, .int .i64 l1, .int .i64 l2, .int .i64 l3]) (t := 36) ?hr ?_; (case hd => rfl); (case hg => rfl); (case hr => first | (go_simp; done) | (go_simp; rfl)); intro gl hg_ w1 hbox_ hb_; have HX_gl := Aside0.mk hbox_; have HB_w1 := Aside0.mk hb_; have HG_gl := Aside0.mk hg_; clear hbox_ hb_ hg_)
  have HNE : Aside0 (gl ≠ gx) := ⟨by have h1 := blk_lt HX.out; have h2 := HG_gl.out; omega⟩
  have KP : Aside0 (Kept w w1 (fun b => b = gx)) := ⟨Kept.of_below HB_w1.out _⟩
  have HZ : Aside0 (Below 0 w w1) := ⟨Below.mono HB_w1.out (Nat.zero_le _)⟩
  replace HX := Aside0.mk (blk_below HX.out HB_w1.out)
  have HL := HX_gl
  clear HG_gl HB_w1 HX_gl
  have hb : Below w1.heap.size w1 w1.drew := below_drew1 (Below.refl _ _)
  replace KP := Aside0.mk (Kept.then_ KP.out (Kept.of_below hb (fun b => b = gx)) (fun b hb => .inl hb)); replace HX := Aside0.mk (blk_below HX.out hb); replace HL := Aside0.mk (blk_below HL.out hb); replace HZ := Aside0.mk (Below.trans HZ.out (Below.mono hb (Nat.zero_le _)))
  clear hb
  refine start_ (n := 12) (S := fun w' => True) (ds := []) #[false, false, false, false, false, false, false, false, false, false, false, false] (by kernel_rfl) rfl rfl trivial (fun hHeld => ?_)
  refine with_tabW linkRecv.tab1 linkRecv.bits1 (fun HT_ HW_ => ?_)
  generalize w1.drew = wk_ at KP HX HL HZ hHeld ⊢
  refine pure_ (i := 1) (N := some 9) (v := ?_) (a' := ?_) #[false, true, false, false, false, false, false, false, false, false, false, false] rfl rfl (any_of HT_.out (by kernel_rfl)) (fun _ _ _ h => h) (Or.inl ⟨by rfl, ?_⟩) ?_ ?_
  rotate_left
  ·intro w'
   go_simp
   with_reducible rfl
  rotate_left
  ·simp only [Act.put, List.setIfInBounds_toArray, List.set_cons_zero, List.set_cons_succ, i64_w, i32_w]
   rfl
  refine pure_ (i := 5) (N := some 13) (v := ?_) (a' := ?_) #[false, true, false, false, false, true, false, false, false, false, false, false] rfl rfl (any_of HT_.out (by kernel_rfl)) (fun _ _ _ h => h) (Or.inl ⟨by rfl, ?_⟩) ?_ ?_
  rotate_left
  ·intro w'
   go_simp
   with_reducible rfl
  rotate_left
  ·simp only [Act.put, List.setIfInBounds_toArray, List.set_cons_zero, List.set_cons_succ, i64_w, i32_w]
   rfl
  refine inv_at [0, 2, 3, 4, 6, 7, 8, 9, 10, 11] (fun a0_ b a w' => a = putSel a0_ b [(0, 8, .agg #[.int .i64 l0, .int .i64 l1, .int .i64 l2, .int .i64 l3]), (2, 10, .pointer (some ⟨gx, 0, none⟩)), (3, 11, .pointer (some ⟨gx, 9, none⟩)), (4, 12, .agg #[.int .i64 x9, .int .i64 x10]), (6, 14, .pointer (some ⟨gx, 0, none⟩)), (7, 15, .pointer (some ⟨gx, 1, none⟩)), (8, 16, .int .i64 x1), (9, 17, .int .i64 sn), (10, 6, .int .i64 sn), (11, 7, .bool false)] ∧ (Below 0 w w') ∧ (Kept w w' (fun b => b = gx)) ∧ (w'.heap[gx]? = some (.cells #[.int .i64 x0, .int .i64 x1, .int .i64 sn, .int .i64 x3, .bool x4, .int .i64 x5, .int .i64 x6, .int .i64 x7, .int .i64 x8, .int .i64 x9, .int .i64 x10] 63 (0, 0))) ∧ (w'.heap[gl]? = some (.cells #[.int .i64 l0, .int .i64 l1, .int .i64 l2, .int .i64 l3] 36 (0, 0)))) HT_.out HW_.out (by kernel_rfl) (by kernel_rfl) ?_ ?_ ?_
  ·exact ⟨by simp only [putSel, Bool.false_eq_true, if_false], HZ.out, KP.out, HX.out, HL.out⟩
  ·skip
   clear HL HX HZ KP
   refine steps_cons ?_ ?_
   ·rintro b a w' ⟨ha, Q_HZ, Q_KP, Q_HX, Q_HL⟩ hb_ hon hoff
    refine ⟨_, rfl, fun K hK => ?_⟩
    have e3 : a.tmps[3]? = some (.pointer (some ⟨gl, 0, none⟩)) := by rw [ha]; exact (putSel_off rfl).trans rfl
    replace ha := Aside0.mk ha
    have HZ := Aside0.mk Q_HZ
    have KP := Aside0.mk Q_KP
    have HX := Aside0.mk Q_HX
    have HL := Aside0.mk Q_HL
    have hc0_ : w'.cell? ⟨gl, 0, none⟩ = some (.int .i64 l0) := (blk_cell HL.out 0).trans rfl
    have hc1_ : w'.cell? ⟨gl, 1, none⟩ = some (.int .i64 l1) := (blk_cell HL.out 1).trans rfl
    have hc2_ : w'.cell? ⟨gl, 2, none⟩ = some (.int .i64 l2) := (blk_cell HL.out 2).trans rfl
    have hc3_ : w'.cell? ⟨gl, 3, none⟩ = some (.int .i64 l3) := (blk_cell HL.out 3).trans rfl
    refine value_ (w1 := w') (v := .agg #[.int .i64 l0, .int .i64 l1, .int .i64 l2, .int .i64 l3]) (by rfl) rfl ?_ ?_
    ·go_simp
     (try simp only [i64_w])
     try rfl
    refine hK.out _ _ ⟨(by rw [ha.out]; exact putSel_upk 0 hb_ rfl rfl rfl), Q_HZ, Q_KP, Q_HX, Q_HL⟩
   refine steps_cons ?_ ?_
   ·rintro b a w' ⟨ha, Q_HZ, Q_KP, Q_HX, Q_HL⟩ hb_ hon hoff
    refine ⟨_, rfl, fun K hK => ?_⟩
    have e9 : a.tmps[9]? = some (.pointer (some ⟨gx, 0, none⟩)) := by rw [ha]; exact (putSel_off rfl).trans rfl
    replace ha := Aside0.mk ha
    have HZ := Aside0.mk Q_HZ
    have KP := Aside0.mk Q_KP
    have HX := Aside0.mk Q_HX
    have HL := Aside0.mk Q_HL
    refine value_ (w1 := w') (v := .pointer (some ⟨gx, 0, none⟩)) (by rfl) rfl ?_ ?_
    ·go_simp
     (try simp only [i64_w])
     try rfl
    refine hK.out _ _ ⟨(by rw [ha.out]; exact putSel_upk 1 hb_ rfl rfl rfl), Q_HZ, Q_KP, Q_HX, Q_HL⟩
   refine steps_cons ?_ ?_
   ·rintro b a w' ⟨ha, Q_HZ, Q_KP, Q_HX, Q_HL⟩ hb_ hon hoff
    refine ⟨_, rfl, fun K hK => ?_⟩
    have e10 : a.tmps[10]? = some (.pointer (some ⟨gx, 0, none⟩)) := by rw [ha]; exact putSel_on (e := (2, 10, .pointer (some ⟨gx, 0, none⟩))) 1 rfl rfl (hon 2 (by kernel_rfl)) rfl
    replace ha := Aside0.mk ha
    have HZ := Aside0.mk Q_HZ
    have KP := Aside0.mk Q_KP
    have HX := Aside0.mk Q_HX
    have HL := Aside0.mk Q_HL
    refine value_ (w1 := w') (v := .pointer (some ⟨gx, 9, none⟩)) (by rfl) rfl ?_ ?_
    ·go_simp
     (try simp only [i64_w])
     try rfl
    refine hK.out _ _ ⟨(by rw [ha.out]; exact putSel_upk 2 hb_ rfl rfl rfl), Q_HZ, Q_KP, Q_HX, Q_HL⟩
   refine steps_cons ?_ ?_
   ·rintro b a w' ⟨ha, Q_HZ, Q_KP, Q_HX, Q_HL⟩ hb_ hon hoff
    refine ⟨_, rfl, fun K hK => ?_⟩
    have e11 : a.tmps[11]? = some (.pointer (some ⟨gx, 9, none⟩)) := by rw [ha]; exact putSel_on (e := (3, 11, .pointer (some ⟨gx, 9, none⟩))) 2 rfl rfl (hon 3 (by kernel_rfl)) rfl
    replace ha := Aside0.mk ha
    have HZ := Aside0.mk Q_HZ
    have KP := Aside0.mk Q_KP
    have HX := Aside0.mk Q_HX
    have HL := Aside0.mk Q_HL
    have hc9_ : w'.cell? ⟨gx, 9, none⟩ = some (.int .i64 x9) := (blk_cell HX.out 9).trans rfl
    have hc10_ : w'.cell? ⟨gx, 10, none⟩ = some (.int .i64 x10) := (blk_cell HX.out 10).trans rfl
    refine value_ (w1 := w') (v := .agg #[.int .i64 x9, .int .i64 x10]) (by rfl) rfl ?_ ?_
    ·go_simp
     (try simp only [i64_w])
     try rfl
    refine hK.out _ _ ⟨(by rw [ha.out]; exact putSel_upk 3 hb_ rfl rfl rfl), Q_HZ, Q_KP, Q_HX, Q_HL⟩
   refine steps_cons ?_ ?_
   ·rintro b a w' ⟨ha, Q_HZ, Q_KP, Q_HX, Q_HL⟩ hb_ hon hoff
    refine ⟨_, rfl, fun K hK => ?_⟩
    have e13 : a.tmps[13]? = some (.pointer (some ⟨gx, 0, none⟩)) := by rw [ha]; exact (putSel_off rfl).trans rfl
    replace ha := Aside0.mk ha
    have HZ := Aside0.mk Q_HZ
    have KP := Aside0.mk Q_KP
    have HX := Aside0.mk Q_HX
    have HL := Aside0.mk Q_HL
    refine value_ (w1 := w') (v := .pointer (some ⟨gx, 0, none⟩)) (by rfl) rfl ?_ ?_
    ·go_simp
     (try simp only [i64_w])
     try rfl
    refine hK.out _ _ ⟨(by rw [ha.out]; exact putSel_upk 4 hb_ rfl rfl rfl), Q_HZ, Q_KP, Q_HX, Q_HL⟩
   refine steps_cons ?_ ?_
   ·rintro b a w' ⟨ha, Q_HZ, Q_KP, Q_HX, Q_HL⟩ hb_ hon hoff
    refine ⟨_, rfl, fun K hK => ?_⟩
    have e14 : a.tmps[14]? = some (.pointer (some ⟨gx, 0, none⟩)) := by rw [ha]; exact putSel_on (e := (6, 14, .pointer (some ⟨gx, 0, none⟩))) 4 rfl rfl (hon 6 (by kernel_rfl)) rfl
    replace ha := Aside0.mk ha
    have HZ := Aside0.mk Q_HZ
    have KP := Aside0.mk Q_KP
    have HX := Aside0.mk Q_HX
    have HL := Aside0.mk Q_HL
    refine value_ (w1 := w') (v := .pointer (some ⟨gx, 1, none⟩)) (by rfl) rfl ?_ ?_
    ·go_simp
     (try simp only [i64_w])
     try rfl
    refine hK.out _ _ ⟨(by rw [ha.out]; exact putSel_upk 5 hb_ rfl rfl rfl), Q_HZ, Q_KP, Q_HX, Q_HL⟩
   refine steps_cons ?_ ?_
   ·rintro b a w' ⟨ha, Q_HZ, Q_KP, Q_HX, Q_HL⟩ hb_ hon hoff
    refine ⟨_, rfl, fun K hK => ?_⟩
    have e15 : a.tmps[15]? = some (.pointer (some ⟨gx, 1, none⟩)) := by rw [ha]; exact putSel_on (e := (7, 15, .pointer (some ⟨gx, 1, none⟩))) 5 rfl rfl (hon 7 (by kernel_rfl)) rfl
    replace ha := Aside0.mk ha
    have HZ := Aside0.mk Q_HZ
    have KP := Aside0.mk Q_KP
    have HX := Aside0.mk Q_HX
    have HL := Aside0.mk Q_HL
    have hc1_ : w'.cell? ⟨gx, 1, none⟩ = some (.int .i64 x1) := (blk_cell HX.out 1).trans rfl
    refine value_ (w1 := w') (v := .int .i64 x1) (by rfl) rfl ?_ ?_
    ·go_simp
     (try simp only [i64_w])
     try rfl
    refine hK.out _ _ ⟨(by rw [ha.out]; exact putSel_upk 6 hb_ rfl rfl rfl), Q_HZ, Q_KP, Q_HX, Q_HL⟩
   refine steps_cons ?_ ?_
   ·rintro b a w' ⟨ha, Q_HZ, Q_KP, Q_HX, Q_HL⟩ hb_ hon hoff
    refine ⟨_, rfl, fun K hK => ?_⟩
    have e8 : a.tmps[8]? = some (.agg #[.int .i64 l0, .int .i64 l1, .int .i64 l2, .int .i64 l3]) := by rw [ha]; exact putSel_on (e := (0, 8, .agg #[.int .i64 l0, .int .i64 l1, .int .i64 l2, .int .i64 l3])) 0 rfl rfl (hon 0 (by kernel_rfl)) rfl
    have e12 : a.tmps[12]? = some (.agg #[.int .i64 x9, .int .i64 x10]) := by rw [ha]; exact putSel_on (e := (4, 12, .agg #[.int .i64 x9, .int .i64 x10])) 3 rfl rfl (hon 4 (by kernel_rfl)) rfl
    have e16 : a.tmps[16]? = some (.int .i64 x1) := by rw [ha]; exact putSel_on (e := (8, 16, .int .i64 x1)) 6 rfl rfl (hon 8 (by kernel_rfl)) rfl
    replace ha := Aside0.mk ha
    have HZ := Aside0.mk Q_HZ
    have KP := Aside0.mk Q_KP
    have HX := Aside0.mk Q_HX
    have HL := Aside0.mk Q_HL
    refine goes_ Tryd.func37 (by kernel_rfl) rfl #[.agg #[.int .i64 l0, .int .i64 l1, .int .i64 l2, .int .i64 l3], .agg #[.int .i64 x9, .int .i64 x10], .int .i64 x1] (by rfl) rfl rfl (by first | (simp only [List.map_toArray, List.map_cons, List.map_nil, Act.eval, Array.getD_eq_getD_getElem?, Option.getD_some, e8, e12, e16]; done) | (simp only [List.map_toArray, List.map_cons, List.map_nil, Act.eval, Array.getD_eq_getD_getElem?, Option.getD_some, e8, e12, e16]; rfl)) ?_
    refine (sees.calls l0 l1 l2 l3 x9 x10 x1 sn w' HSN.out).mono ?_
    rintro e w5 ⟨rfl, hb⟩
    refine ⟨_, rfl, ?_⟩
    refine hK.out _ _ ⟨(by rw [ha.out]; exact putSel_upk 7 hb_ rfl rfl rfl), Below.trans HZ.out (Below.mono hb (Nat.zero_le _)), Kept.then_ KP.out (Kept.of_below hb (fun b => b = gx)) (fun b hb => .inl hb), blk_below HX.out hb, blk_below HL.out hb⟩
   refine steps_cons ?_ ?_
   ·rintro b a w' ⟨ha, Q_HZ, Q_KP, Q_HX, Q_HL⟩ hb_ hon hoff
    refine ⟨_, rfl, fun K hK => ?_⟩
    have e17 : a.tmps[17]? = some (.int .i64 sn) := by rw [ha]; exact putSel_on (e := (9, 17, .int .i64 sn)) 7 rfl rfl (hon 9 (by kernel_rfl)) rfl
    replace ha := Aside0.mk ha
    have HZ := Aside0.mk Q_HZ
    have KP := Aside0.mk Q_KP
    have HX := Aside0.mk Q_HX
    have HL := Aside0.mk Q_HL
    refine value_ (w1 := w') (v := .int .i64 sn) (by rfl) rfl ?_ ?_
    ·go_simp
     (try simp only [i64_w])
     try rfl
    refine hK.out _ _ ⟨(by rw [ha.out]; exact putSel_upk 8 hb_ rfl rfl rfl), Q_HZ, Q_KP, Q_HX, Q_HL⟩
   refine steps_cons ?_ ?_
   ·rintro b a w' ⟨ha, Q_HZ, Q_KP, Q_HX, Q_HL⟩ hb_ hon hoff
    refine ⟨_, rfl, fun K hK => ?_⟩
    replace ha := Aside0.mk ha
    have HZ := Aside0.mk Q_HZ
    have KP := Aside0.mk Q_KP
    have HX := Aside0.mk Q_HX
    have HL := Aside0.mk Q_HL
    refine value_ (w1 := w') (v := .bool false) (by rfl) rfl ?_ ?_
    ·go_simp
     (try simp only [i64_w])
     try rfl
    refine hK.out _ _ ⟨(by rw [ha.out]; exact putSel_upk 9 hb_ rfl rfl rfl), Q_HZ, Q_KP, Q_HX, Q_HL⟩
   exact steps_nil
  rintro b a w2 hall ⟨ha, Q_HZ, Q_KP, Q_HX, Q_HL⟩
  clear HL HX HZ KP
  have hb0_ := hall 0 (by kernel_rfl)
  have hb2_ := hall 2 (by kernel_rfl)
  have hb3_ := hall 3 (by kernel_rfl)
  have hb4_ := hall 4 (by kernel_rfl)
  have hb6_ := hall 6 (by kernel_rfl)
  have hb7_ := hall 7 (by kernel_rfl)
  have hb8_ := hall 8 (by kernel_rfl)
  have hb9_ := hall 9 (by kernel_rfl)
  have hb10_ := hall 10 (by kernel_rfl)
  have hb11_ := hall 11 (by kernel_rfl)
  subst ha
  simp only [putSel, hb0_, hb2_, hb3_, hb4_, hb6_, hb7_, hb8_, hb9_, hb10_, hb11_, if_true, Act.put, List.setIfInBounds_toArray, List.set_cons_zero, List.set_cons_succ]
  have HZ := Aside0.mk Q_HZ
  clear Q_HZ
  have KP := Aside0.mk Q_KP
  clear Q_KP
  have HX := Aside0.mk Q_HX
  clear Q_HX
  have HL := Aside0.mk Q_HL
  clear Q_HL
  clear hall hb0_ hb2_ hb3_ hb4_ hb6_ hb7_ hb8_ hb9_ hb10_ hb11_
  have c2 : w2.cell? ⟨gx, 2, none⟩ = some (.int .i64 sn) := (blk_cell HX.out 2).trans rfl
  go_wp2_with (fail)
  clear c2
  have hb : Below w2.heap.size w2 w2.drew := below_drew1 (Below.refl _ _)
  replace KP := Aside0.mk (Kept.then_ KP.out (Kept.of_below hb (fun b => b = gx)) (fun b hb => .inl hb)); replace HX := Aside0.mk (blk_below HX.out hb); replace HL := Aside0.mk (blk_below HL.out hb); replace HZ := Aside0.mk (Below.trans HZ.out (Below.mono hb (Nat.zero_le _)))
  clear hb
  refine start_ (n := 13) (S := fun w' => True) (ds := []) #[false, false, false, false, false, false, false, false, false, false, false, false, false] (by kernel_rfl) rfl rfl trivial (fun hHeld => ?_)
  refine with_tabW linkRecv.tab5 linkRecv.bits5 (fun HT_ HW_ => ?_)
  generalize w2.drew = wk_ at KP HX HL HZ hHeld ⊢
  refine pure_ (i := 0) (N := some 35) (v := ?_) (a' := ?_) #[true, false, false, false, false, false, false, false, false, false, false, false, false] rfl rfl (any_of HT_.out (by kernel_rfl)) (fun _ _ _ h => h) (Or.inl ⟨by rfl, ?_⟩) ?_ ?_
  rotate_left
  ·intro w'
   go_simp
   with_reducible rfl
  rotate_left
  ·simp only [Act.put, List.setIfInBounds_toArray, List.set_cons_zero, List.set_cons_succ, i64_w, i32_w]
   rfl
  refine pure_ (i := 1) (N := some 36) (v := ?_) (a' := ?_) #[true, true, false, false, false, false, false, false, false, false, false, false, false] rfl rfl (any_of HT_.out (by kernel_rfl)) (fun _ _ _ h => h) (Or.inl ⟨by rfl, ?_⟩) ?_ ?_
  rotate_left
  ·intro w'
   go_simp
   with_reducible rfl
  rotate_left
  ·simp only [Act.put, List.setIfInBounds_toArray, List.set_cons_zero, List.set_cons_succ, i64_w, i32_w]
   rfl
  refine pure_ (i := 5) (N := some 40) (v := ?_) (a' := ?_) #[true, true, false, false, false, true, false, false, false, false, false, false, false] rfl rfl (any_of HT_.out (by kernel_rfl)) (fun _ _ _ h => h) (Or.inl ⟨by rfl, ?_⟩) ?_ ?_
  rotate_left
  ·intro w'
   go_simp
   with_reducible rfl
  rotate_left
  ·simp only [Act.put, List.setIfInBounds_toArray, List.set_cons_zero, List.set_cons_succ, i64_w, i32_w]
   rfl
  refine inv_at [2, 3, 4, 6, 7, 8, 9, 10, 11, 12] (fun a0_ b a w' => a = putSel a0_ b [(2, 37, .pointer (some ⟨gx, 0, none⟩)), (3, 38, .pointer (some ⟨gx, 9, none⟩)), (4, 39, .agg #[.int .i64 x9, .int .i64 x10]), (6, 41, .pointer (some ⟨gx, 0, none⟩)), (7, 42, .pointer (some ⟨gx, 1, none⟩)), (8, 43, .int .i64 x1), (9, 44, .agg #[.int .i64 x1, .int .i64 x9]), (10, 45, .pointer (some ⟨gx, 0, none⟩)), (11, 46, .pointer (some ⟨gx, 9, none⟩))] ∧ (Below 0 w w') ∧ (Kept w w' (fun b => b = gx)) ∧ (b 12 = false → w'.heap[gx]? = some (.cells #[.int .i64 x0, .int .i64 x1, .int .i64 sn, .int .i64 x3, .bool x4, .int .i64 x5, .int .i64 x6, .int .i64 x7, .int .i64 x8, .int .i64 x9, .int .i64 x10] 63 (0, 0))) ∧ (w'.heap[gl]? = some (.cells #[.int .i64 l0, .int .i64 l1, .int .i64 l2, .int .i64 l3] 36 (0, 0))) ∧ (b 12 = true → w'.heap[gx]? = some (.cells #[.int .i64 x0, .int .i64 x1, .int .i64 sn, .int .i64 x3, .bool x4, .int .i64 x5, .int .i64 x6, .int .i64 x7, .int .i64 x8, .int .i64 x1, .int .i64 x9] 63 (0, 0)))) HT_.out HW_.out (by kernel_rfl) (by kernel_rfl) ?_ ?_ ?_
  ·exact ⟨by simp only [putSel, Bool.false_eq_true, if_false], HZ.out, KP.out, fun _ => HX.out, HL.out, fun h_ => absurd h_ (by decide)⟩
  ·skip
   clear HL HX HZ KP
   refine steps_cons ?_ ?_
   ·rintro b a w' ⟨ha, Q_HZ, Q_KP, Q_HX, Q_HL, Q_HXn⟩ hb_ hon hoff
    refine ⟨_, rfl, fun K hK => ?_⟩
    have e36 : a.tmps[36]? = some (.pointer (some ⟨gx, 0, none⟩)) := by rw [ha]; exact (putSel_off rfl).trans rfl
    replace ha := Aside0.mk ha
    have HZ := Aside0.mk Q_HZ
    have KP := Aside0.mk Q_KP
    have HX := Aside0.mk (Q_HX (hoff 12 (by kernel_rfl)))
    have HL := Aside0.mk Q_HL
    refine value_ (w1 := w') (v := .pointer (some ⟨gx, 0, none⟩)) (by rfl) rfl ?_ ?_
    ·go_simp
     (try simp only [i64_w])
     try rfl
    refine hK.out _ _ ⟨(by rw [ha.out]; exact putSel_upk 0 hb_ rfl rfl rfl), Q_HZ, Q_KP, Q_HX, Q_HL, fun h0_ => absurd ((hoff 12 (by kernel_rfl)).symm.trans h0_) (by decide)⟩
   refine steps_cons ?_ ?_
   ·rintro b a w' ⟨ha, Q_HZ, Q_KP, Q_HX, Q_HL, Q_HXn⟩ hb_ hon hoff
    refine ⟨_, rfl, fun K hK => ?_⟩
    have e37 : a.tmps[37]? = some (.pointer (some ⟨gx, 0, none⟩)) := by rw [ha]; exact putSel_on (e := (2, 37, .pointer (some ⟨gx, 0, none⟩))) 0 rfl rfl (hon 2 (by kernel_rfl)) rfl
    replace ha := Aside0.mk ha
    have HZ := Aside0.mk Q_HZ
    have KP := Aside0.mk Q_KP
    have HX := Aside0.mk (Q_HX (hoff 12 (by kernel_rfl)))
    have HL := Aside0.mk Q_HL
    refine value_ (w1 := w') (v := .pointer (some ⟨gx, 9, none⟩)) (by rfl) rfl ?_ ?_
    ·go_simp
     (try simp only [i64_w])
     try rfl
    refine hK.out _ _ ⟨(by rw [ha.out]; exact putSel_upk 1 hb_ rfl rfl rfl), Q_HZ, Q_KP, Q_HX, Q_HL, fun h0_ => absurd ((hoff 12 (by kernel_rfl)).symm.trans h0_) (by decide)⟩
   refine steps_cons ?_ ?_
   ·rintro b a w' ⟨ha, Q_HZ, Q_KP, Q_HX, Q_HL, Q_HXn⟩ hb_ hon hoff
    refine ⟨_, rfl, fun K hK => ?_⟩
    have e38 : a.tmps[38]? = some (.pointer (some ⟨gx, 9, none⟩)) := by rw [ha]; exact putSel_on (e := (3, 38, .pointer (some ⟨gx, 9, none⟩))) 1 rfl rfl (hon 3 (by kernel_rfl)) rfl
    replace ha := Aside0.mk ha
    have HZ := Aside0.mk Q_HZ
    have KP := Aside0.mk Q_KP
    have HX := Aside0.mk (Q_HX (hoff 12 (by kernel_rfl)))
    have HL := Aside0.mk Q_HL
    have hc9_ : w'.cell? ⟨gx, 9, none⟩ = some (.int .i64 x9) := (blk_cell HX.out 9).trans rfl
    have hc10_ : w'.cell? ⟨gx, 10, none⟩ = some (.int .i64 x10) := (blk_cell HX.out 10).trans rfl
    refine value_ (w1 := w') (v := .agg #[.int .i64 x9, .int .i64 x10]) (by rfl) rfl ?_ ?_
    ·go_simp
     (try simp only [i64_w])
     try rfl
    refine hK.out _ _ ⟨(by rw [ha.out]; exact putSel_upk 2 hb_ rfl rfl rfl), Q_HZ, Q_KP, Q_HX, Q_HL, fun h0_ => absurd ((hoff 12 (by kernel_rfl)).symm.trans h0_) (by decide)⟩
   refine steps_cons ?_ ?_
   ·rintro b a w' ⟨ha, Q_HZ, Q_KP, Q_HX, Q_HL, Q_HXn⟩ hb_ hon hoff
    refine ⟨_, rfl, fun K hK => ?_⟩
    have e40 : a.tmps[40]? = some (.pointer (some ⟨gx, 0, none⟩)) := by rw [ha]; exact (putSel_off rfl).trans rfl
    replace ha := Aside0.mk ha
    have HZ := Aside0.mk Q_HZ
    have KP := Aside0.mk Q_KP
    have HX := Aside0.mk (Q_HX (hoff 12 (by kernel_rfl)))
    have HL := Aside0.mk Q_HL
    refine value_ (w1 := w') (v := .pointer (some ⟨gx, 0, none⟩)) (by rfl) rfl ?_ ?_
    ·go_simp
     (try simp only [i64_w])
     try rfl
    refine hK.out _ _ ⟨(by rw [ha.out]; exact putSel_upk 3 hb_ rfl rfl rfl), Q_HZ, Q_KP, Q_HX, Q_HL, fun h0_ => absurd ((hoff 12 (by kernel_rfl)).symm.trans h0_) (by decide)⟩
   refine steps_cons ?_ ?_
   ·rintro b a w' ⟨ha, Q_HZ, Q_KP, Q_HX, Q_HL, Q_HXn⟩ hb_ hon hoff
    refine ⟨_, rfl, fun K hK => ?_⟩
    have e41 : a.tmps[41]? = some (.pointer (some ⟨gx, 0, none⟩)) := by rw [ha]; exact putSel_on (e := (6, 41, .pointer (some ⟨gx, 0, none⟩))) 3 rfl rfl (hon 6 (by kernel_rfl)) rfl
    replace ha := Aside0.mk ha
    have HZ := Aside0.mk Q_HZ
    have KP := Aside0.mk Q_KP
    have HX := Aside0.mk (Q_HX (hoff 12 (by kernel_rfl)))
    have HL := Aside0.mk Q_HL
    refine value_ (w1 := w') (v := .pointer (some ⟨gx, 1, none⟩)) (by rfl) rfl ?_ ?_
    ·go_simp
     (try simp only [i64_w])
     try rfl
    refine hK.out _ _ ⟨(by rw [ha.out]; exact putSel_upk 4 hb_ rfl rfl rfl), Q_HZ, Q_KP, Q_HX, Q_HL, fun h0_ => absurd ((hoff 12 (by kernel_rfl)).symm.trans h0_) (by decide)⟩
   refine steps_cons ?_ ?_
   ·rintro b a w' ⟨ha, Q_HZ, Q_KP, Q_HX, Q_HL, Q_HXn⟩ hb_ hon hoff
    refine ⟨_, rfl, fun K hK => ?_⟩
    have e42 : a.tmps[42]? = some (.pointer (some ⟨gx, 1, none⟩)) := by rw [ha]; exact putSel_on (e := (7, 42, .pointer (some ⟨gx, 1, none⟩))) 4 rfl rfl (hon 7 (by kernel_rfl)) rfl
    replace ha := Aside0.mk ha
    have HZ := Aside0.mk Q_HZ
    have KP := Aside0.mk Q_KP
    have HX := Aside0.mk (Q_HX (hoff 12 (by kernel_rfl)))
    have HL := Aside0.mk Q_HL
    have hc1_ : w'.cell? ⟨gx, 1, none⟩ = some (.int .i64 x1) := (blk_cell HX.out 1).trans rfl
    refine value_ (w1 := w') (v := .int .i64 x1) (by rfl) rfl ?_ ?_
    ·go_simp
     (try simp only [i64_w])
     try rfl
    refine hK.out _ _ ⟨(by rw [ha.out]; exact putSel_upk 5 hb_ rfl rfl rfl), Q_HZ, Q_KP, Q_HX, Q_HL, fun h0_ => absurd ((hoff 12 (by kernel_rfl)).symm.trans h0_) (by decide)⟩
   refine steps_cons ?_ ?_
   ·rintro b a w' ⟨ha, Q_HZ, Q_KP, Q_HX, Q_HL, Q_HXn⟩ hb_ hon hoff
    refine ⟨_, rfl, fun K hK => ?_⟩
    have e39 : a.tmps[39]? = some (.agg #[.int .i64 x9, .int .i64 x10]) := by rw [ha]; exact putSel_on (e := (4, 39, .agg #[.int .i64 x9, .int .i64 x10])) 2 rfl rfl (hon 4 (by kernel_rfl)) rfl
    have e43 : a.tmps[43]? = some (.int .i64 x1) := by rw [ha]; exact putSel_on (e := (8, 43, .int .i64 x1)) 5 rfl rfl (hon 8 (by kernel_rfl)) rfl
    replace ha := Aside0.mk ha
    have HZ := Aside0.mk Q_HZ
    have KP := Aside0.mk Q_KP
    have HX := Aside0.mk (Q_HX (hoff 12 (by kernel_rfl)))
    have HL := Aside0.mk Q_HL
    refine goes_ Tryd.func39 (by kernel_rfl) rfl #[.agg #[.int .i64 x9, .int .i64 x10], .int .i64 x1] (by rfl) rfl rfl (by first | (simp only [List.map_toArray, List.map_cons, List.map_nil, Act.eval, Array.getD_eq_getD_getElem?, Option.getD_some, e39, e43]; done) | (simp only [List.map_toArray, List.map_cons, List.map_nil, Act.eval, Array.getD_eq_getD_getElem?, Option.getD_some, e39, e43]; rfl)) ?_
    refine (moveOn.calls x9 x10 x1 w').mono ?_
    rintro e w5 ⟨rfl, hb⟩
    refine ⟨_, rfl, ?_⟩
    refine hK.out _ _ ⟨(by rw [ha.out]; exact putSel_upk 6 hb_ rfl rfl rfl), Below.trans HZ.out (Below.mono hb (Nat.zero_le _)), Kept.then_ KP.out (Kept.of_below hb (fun b => b = gx)) (fun b hb => .inl hb), fun _ => blk_below HX.out hb, blk_below HL.out hb, fun h0_ => absurd ((hoff 12 (by kernel_rfl)).symm.trans h0_) (by decide)⟩
   refine steps_cons ?_ ?_
   ·rintro b a w' ⟨ha, Q_HZ, Q_KP, Q_HX, Q_HL, Q_HXn⟩ hb_ hon hoff
    refine ⟨_, rfl, fun K hK => ?_⟩
    have e35 : a.tmps[35]? = some (.pointer (some ⟨gx, 0, none⟩)) := by rw [ha]; exact (putSel_off rfl).trans rfl
    replace ha := Aside0.mk ha
    have HZ := Aside0.mk Q_HZ
    have KP := Aside0.mk Q_KP
    have HX := Aside0.mk (Q_HX (hoff 12 (by kernel_rfl)))
    have HL := Aside0.mk Q_HL
    refine value_ (w1 := w') (v := .pointer (some ⟨gx, 0, none⟩)) (by rfl) rfl ?_ ?_
    ·go_simp
     (try simp only [i64_w])
     try rfl
    refine hK.out _ _ ⟨(by rw [ha.out]; exact putSel_upk 7 hb_ rfl rfl rfl), Q_HZ, Q_KP, Q_HX, Q_HL, fun h0_ => absurd ((hoff 12 (by kernel_rfl)).symm.trans h0_) (by decide)⟩
   refine steps_cons ?_ ?_
   ·rintro b a w' ⟨ha, Q_HZ, Q_KP, Q_HX, Q_HL, Q_HXn⟩ hb_ hon hoff
    refine ⟨_, rfl, fun K hK => ?_⟩
    have e45 : a.tmps[45]? = some (.pointer (some ⟨gx, 0, none⟩)) := by rw [ha]; exact putSel_on (e := (10, 45, .pointer (some ⟨gx, 0, none⟩))) 7 rfl rfl (hon 10 (by kernel_rfl)) rfl
    replace ha := Aside0.mk ha
    have HZ := Aside0.mk Q_HZ
    have KP := Aside0.mk Q_KP
    have HX := Aside0.mk (Q_HX (hoff 12 (by kernel_rfl)))
    have HL := Aside0.mk Q_HL
    refine value_ (w1 := w') (v := .pointer (some ⟨gx, 9, none⟩)) (by rfl) rfl ?_ ?_
    ·go_simp
     (try simp only [i64_w])
     try rfl
    refine hK.out _ _ ⟨(by rw [ha.out]; exact putSel_upk 8 hb_ rfl rfl rfl), Q_HZ, Q_KP, Q_HX, Q_HL, fun h0_ => absurd ((hoff 12 (by kernel_rfl)).symm.trans h0_) (by decide)⟩
   refine steps_cons ?_ ?_
   ·rintro b a w' ⟨ha, Q_HZ, Q_KP, Q_HX, Q_HL, Q_HXn⟩ hb_ hon hoff
    refine ⟨_, rfl, fun K hK => ?_⟩
    have e46 : a.tmps[46]? = some (.pointer (some ⟨gx, 9, none⟩)) := by rw [ha]; exact putSel_on (e := (11, 46, .pointer (some ⟨gx, 9, none⟩))) 8 rfl rfl (hon 11 (by kernel_rfl)) rfl
    have e44 : a.tmps[44]? = some (.agg #[.int .i64 x1, .int .i64 x9]) := by rw [ha]; exact putSel_on (e := (9, 44, .agg #[.int .i64 x1, .int .i64 x9])) 6 rfl rfl (hon 9 (by kernel_rfl)) rfl
    replace ha := Aside0.mk ha
    have HZ := Aside0.mk Q_HZ
    have KP := Aside0.mk Q_KP
    have HX := Aside0.mk (Q_HX hb_)
    have HL := Aside0.mk Q_HL
    have hz0_ := blk_cell HX.out 9
    have hz1_ := blk_cell HX.out 10
    have hf0_ := blk_frozen HX.out 9
    have hf1_ := blk_frozen HX.out 10
    refine skip_ (w1 := (w'.setCell ⟨gx, 9, none⟩ (.int .i64 x1)).setCell ⟨gx, 10, none⟩ (.int .i64 x9)) (by rfl) rfl ?_ ?_
    ·go_simp
    refine hK.out _ _ ⟨(by rw [ha.out]; exact putSel_none (v := undef) rfl), Below.setCell (Below.setCell HZ.out (p := ⟨gx, 9, none⟩) (Nat.zero_le _) (.int .i64 x1)) (p := ⟨gx, 10, none⟩) (Nat.zero_le _) (.int .i64 x9), Kept.setCell (Kept.setCell KP.out (p := ⟨gx, 9, none⟩) (.inl rfl) (.int .i64 x1)) (p := ⟨gx, 10, none⟩) (.inl rfl) (.int .i64 x9), fun h0_ => absurd ((up_self b 12).symm.trans h0_) (by decide), blk_far (blk_far HL.out (p := ⟨gx, 9, none⟩) HNE.out (.int .i64 x1)) (p := ⟨gx, 10, none⟩) HNE.out (.int .i64 x9), fun _ => blk_put (blk_put HX.out 9 (.int .i64 x1) rfl) 10 (.int .i64 x9) rfl⟩
   exact steps_nil
  rintro b a w5 hall ⟨ha, Q_HZ, Q_KP, Q_HX, Q_HL, Q_HXn⟩
  clear HL HX HZ KP
  have hb2_ := hall 2 (by kernel_rfl)
  have hb3_ := hall 3 (by kernel_rfl)
  have hb4_ := hall 4 (by kernel_rfl)
  have hb6_ := hall 6 (by kernel_rfl)
  have hb7_ := hall 7 (by kernel_rfl)
  have hb8_ := hall 8 (by kernel_rfl)
  have hb9_ := hall 9 (by kernel_rfl)
  have hb10_ := hall 10 (by kernel_rfl)
  have hb11_ := hall 11 (by kernel_rfl)
  have hb12_ := hall 12 (by kernel_rfl)
  subst ha
  simp only [putSel, hb2_, hb3_, hb4_, hb6_, hb7_, hb8_, hb9_, hb10_, hb11_, hb12_, if_true, Act.put, List.setIfInBounds_toArray, List.set_cons_zero, List.set_cons_succ]
  have HZ := Aside0.mk Q_HZ
  clear Q_HZ
  have KP := Aside0.mk Q_KP
  clear Q_KP
  clear Q_HX
  have HL := Aside0.mk Q_HL
  clear Q_HL
  have HXn := Aside0.mk (Q_HXn hb12_)
  clear Q_HXn
  clear hall hb2_ hb3_ hb4_ hb6_ hb7_ hb8_ hb9_ hb10_ hb11_ hb12_
  have HX := HXn
  clear HXn
  have c3 : w5.cell? ⟨gx, 3, none⟩ = some (.int .i64 x3) := (blk_cell HX.out 3).trans rfl
  go_wp2
  go_ret2
  exact ⟨rfl, HX.out, KP.out, HZ.out⟩
 rw [if_neg hq] at h
 simp only [Prod.mk.injEq] at h
 obtain ⟨rfl, rfl⟩ := h
 have q1 : (sn != x2) = true := bne_iff_ne.mpr hq
 have q2 : (sn == x2) = false := beq_eq_false_iff_ne.mpr hq
 clear hq
 by_cases hp : l0 = 2
 ·subst hp
  go_enter Tryd.func28, Tryd.ntmps28
  go_wp2_with ((with_reducible refine gate_dst (N := 3) rfl ?_); refine box_event ?hg (N := 3) ?hd (cs := #[.int .i64 2, .int .i64 l1, .int .i64 l2, .int .i64 l3]) (t := 36) ?hr ?_; (case hd => rfl); (case hg => rfl); (case hr => first | (go_simp; done) | (go_simp; rfl)); intro gl hg_ w1 hbox_ hb_; have HX_gl := Aside0.mk hbox_; have HB_w1 := Aside0.mk hb_; have HG_gl := Aside0.mk hg_; clear hbox_ hb_ hg_)
  have HNE : Aside0 (gl ≠ gx) := ⟨by have h1 := blk_lt HX.out; have h2 := HG_gl.out; omega⟩
  have KP : Aside0 (Kept w w1 (fun b => b = gx)) := ⟨Kept.of_below HB_w1.out _⟩
  have HZ : Aside0 (Below 0 w w1) := ⟨Below.mono HB_w1.out (Nat.zero_le _)⟩
  replace HX := Aside0.mk (blk_below HX.out HB_w1.out)
  have HL := HX_gl
  clear HG_gl HB_w1 HX_gl
  have hb : Below w1.heap.size w1 w1.drew := below_drew1 (Below.refl _ _)
  replace KP := Aside0.mk (Kept.then_ KP.out (Kept.of_below hb (fun b => b = gx)) (fun b hb => .inl hb)); replace HX := Aside0.mk (blk_below HX.out hb); replace HL := Aside0.mk (blk_below HL.out hb); replace HZ := Aside0.mk (Below.trans HZ.out (Below.mono hb (Nat.zero_le _)))
  clear hb
  refine start_ (n := 12) (S := fun w' => True) (ds := []) #[false, false, false, false, false, false, false, false, false, false, false, false] (by kernel_rfl) rfl rfl trivial (fun hHeld => ?_)
  refine with_tabW linkRecv.tab1 linkRecv.bits1 (fun HT_ HW_ => ?_)
  generalize w1.drew = wk_ at KP HX HL HZ hHeld ⊢
  refine pure_ (i := 1) (N := some 9) (v := ?_) (a' := ?_) #[false, true, false, false, false, false, false, false, false, false, false, false] rfl rfl (any_of HT_.out (by kernel_rfl)) (fun _ _ _ h => h) (Or.inl ⟨by rfl, ?_⟩) ?_ ?_
  rotate_left
  ·intro w'
   go_simp
   with_reducible rfl
  rotate_left
  ·simp only [Act.put, List.setIfInBounds_toArray, List.set_cons_zero, List.set_cons_succ, i64_w, i32_w]
   rfl
  refine pure_ (i := 5) (N := some 13) (v := ?_) (a' := ?_) #[false, true, false, false, false, true, false, false, false, false, false, false] rfl rfl (any_of HT_.out (by kernel_rfl)) (fun _ _ _ h => h) (Or.inl ⟨by rfl, ?_⟩) ?_ ?_
  rotate_left
  ·intro w'
   go_simp
   with_reducible rfl
  rotate_left
  ·simp only [Act.put, List.setIfInBounds_toArray, List.set_cons_zero, List.set_cons_succ, i64_w, i32_w]
   rfl
  refine inv_at [0, 2, 3, 4, 6, 7, 8, 9, 10, 11] (fun a0_ b a w' => a = putSel a0_ b [(0, 8, .agg #[.int .i64 2, .int .i64 l1, .int .i64 l2, .int .i64 l3]), (2, 10, .pointer (some ⟨gx, 0, none⟩)), (3, 11, .pointer (some ⟨gx, 9, none⟩)), (4, 12, .agg #[.int .i64 x9, .int .i64 x10]), (6, 14, .pointer (some ⟨gx, 0, none⟩)), (7, 15, .pointer (some ⟨gx, 1, none⟩)), (8, 16, .int .i64 x1), (9, 17, .int .i64 sn), (10, 6, .int .i64 sn), (11, 7, .bool false)] ∧ (Below 0 w w') ∧ (Kept w w' (fun b => b = gx)) ∧ (w'.heap[gx]? = some (.cells #[.int .i64 x0, .int .i64 x1, .int .i64 x2, .int .i64 x3, .bool x4, .int .i64 x5, .int .i64 x6, .int .i64 x7, .int .i64 x8, .int .i64 x9, .int .i64 x10] 63 (0, 0))) ∧ (w'.heap[gl]? = some (.cells #[.int .i64 2, .int .i64 l1, .int .i64 l2, .int .i64 l3] 36 (0, 0)))) HT_.out HW_.out (by kernel_rfl) (by kernel_rfl) ?_ ?_ ?_
  ·exact ⟨by simp only [putSel, Bool.false_eq_true, if_false], HZ.out, KP.out, HX.out, HL.out⟩
  ·skip
   clear HL HX HZ KP
   refine steps_cons ?_ ?_
   ·rintro b a w' ⟨ha, Q_HZ, Q_KP, Q_HX, Q_HL⟩ hb_ hon hoff
    refine ⟨_, rfl, fun K hK => ?_⟩
    have e3 : a.tmps[3]? = some (.pointer (some ⟨gl, 0, none⟩)) := by rw [ha]; exact (putSel_off rfl).trans rfl
    replace ha := Aside0.mk ha
    have HZ := Aside0.mk Q_HZ
    have KP := Aside0.mk Q_KP
    have HX := Aside0.mk Q_HX
    have HL := Aside0.mk Q_HL
    have hc0_ : w'.cell? ⟨gl, 0, none⟩ = some (.int .i64 2) := (blk_cell HL.out 0).trans rfl
    have hc1_ : w'.cell? ⟨gl, 1, none⟩ = some (.int .i64 l1) := (blk_cell HL.out 1).trans rfl
    have hc2_ : w'.cell? ⟨gl, 2, none⟩ = some (.int .i64 l2) := (blk_cell HL.out 2).trans rfl
    have hc3_ : w'.cell? ⟨gl, 3, none⟩ = some (.int .i64 l3) := (blk_cell HL.out 3).trans rfl
    refine value_ (w1 := w') (v := .agg #[.int .i64 2, .int .i64 l1, .int .i64 l2, .int .i64 l3]) (by rfl) rfl ?_ ?_
    ·go_simp
     (try simp only [i64_w])
     try rfl
    refine hK.out _ _ ⟨(by rw [ha.out]; exact putSel_upk 0 hb_ rfl rfl rfl), Q_HZ, Q_KP, Q_HX, Q_HL⟩
   refine steps_cons ?_ ?_
   ·rintro b a w' ⟨ha, Q_HZ, Q_KP, Q_HX, Q_HL⟩ hb_ hon hoff
    refine ⟨_, rfl, fun K hK => ?_⟩
    have e9 : a.tmps[9]? = some (.pointer (some ⟨gx, 0, none⟩)) := by rw [ha]; exact (putSel_off rfl).trans rfl
    replace ha := Aside0.mk ha
    have HZ := Aside0.mk Q_HZ
    have KP := Aside0.mk Q_KP
    have HX := Aside0.mk Q_HX
    have HL := Aside0.mk Q_HL
    refine value_ (w1 := w') (v := .pointer (some ⟨gx, 0, none⟩)) (by rfl) rfl ?_ ?_
    ·go_simp
     (try simp only [i64_w])
     try rfl
    refine hK.out _ _ ⟨(by rw [ha.out]; exact putSel_upk 1 hb_ rfl rfl rfl), Q_HZ, Q_KP, Q_HX, Q_HL⟩
   refine steps_cons ?_ ?_
   ·rintro b a w' ⟨ha, Q_HZ, Q_KP, Q_HX, Q_HL⟩ hb_ hon hoff
    refine ⟨_, rfl, fun K hK => ?_⟩
    have e10 : a.tmps[10]? = some (.pointer (some ⟨gx, 0, none⟩)) := by rw [ha]; exact putSel_on (e := (2, 10, .pointer (some ⟨gx, 0, none⟩))) 1 rfl rfl (hon 2 (by kernel_rfl)) rfl
    replace ha := Aside0.mk ha
    have HZ := Aside0.mk Q_HZ
    have KP := Aside0.mk Q_KP
    have HX := Aside0.mk Q_HX
    have HL := Aside0.mk Q_HL
    refine value_ (w1 := w') (v := .pointer (some ⟨gx, 9, none⟩)) (by rfl) rfl ?_ ?_
    ·go_simp
     (try simp only [i64_w])
     try rfl
    refine hK.out _ _ ⟨(by rw [ha.out]; exact putSel_upk 2 hb_ rfl rfl rfl), Q_HZ, Q_KP, Q_HX, Q_HL⟩
   refine steps_cons ?_ ?_
   ·rintro b a w' ⟨ha, Q_HZ, Q_KP, Q_HX, Q_HL⟩ hb_ hon hoff
    refine ⟨_, rfl, fun K hK => ?_⟩
    have e11 : a.tmps[11]? = some (.pointer (some ⟨gx, 9, none⟩)) := by rw [ha]; exact putSel_on (e := (3, 11, .pointer (some ⟨gx, 9, none⟩))) 2 rfl rfl (hon 3 (by kernel_rfl)) rfl
    replace ha := Aside0.mk ha
    have HZ := Aside0.mk Q_HZ
    have KP := Aside0.mk Q_KP
    have HX := Aside0.mk Q_HX
    have HL := Aside0.mk Q_HL
    have hc9_ : w'.cell? ⟨gx, 9, none⟩ = some (.int .i64 x9) := (blk_cell HX.out 9).trans rfl
    have hc10_ : w'.cell? ⟨gx, 10, none⟩ = some (.int .i64 x10) := (blk_cell HX.out 10).trans rfl
    refine value_ (w1 := w') (v := .agg #[.int .i64 x9, .int .i64 x10]) (by rfl) rfl ?_ ?_
    ·go_simp
     (try simp only [i64_w])
     try rfl
    refine hK.out _ _ ⟨(by rw [ha.out]; exact putSel_upk 3 hb_ rfl rfl rfl), Q_HZ, Q_KP, Q_HX, Q_HL⟩
   refine steps_cons ?_ ?_
   ·rintro b a w' ⟨ha, Q_HZ, Q_KP, Q_HX, Q_HL⟩ hb_ hon hoff
    refine ⟨_, rfl, fun K hK => ?_⟩
    have e13 : a.tmps[13]? = some (.pointer (some ⟨gx, 0, none⟩)) := by rw [ha]; exact (putSel_off rfl).trans rfl
    replace ha := Aside0.mk ha
    have HZ := Aside0.mk Q_HZ
    have KP := Aside0.mk Q_KP
    have HX := Aside0.mk Q_HX
    have HL := Aside0.mk Q_HL
    refine value_ (w1 := w') (v := .pointer (some ⟨gx, 0, none⟩)) (by rfl) rfl ?_ ?_
    ·go_simp
     (try simp only [i64_w])
     try rfl
    refine hK.out _ _ ⟨(by rw [ha.out]; exact putSel_upk 4 hb_ rfl rfl rfl), Q_HZ, Q_KP, Q_HX, Q_HL⟩
   refine steps_cons ?_ ?_
   ·rintro b a w' ⟨ha, Q_HZ, Q_KP, Q_HX, Q_HL⟩ hb_ hon hoff
    refine ⟨_, rfl, fun K hK => ?_⟩
    have e14 : a.tmps[14]? = some (.pointer (some ⟨gx, 0, none⟩)) := by rw [ha]; exact putSel_on (e := (6, 14, .pointer (some ⟨gx, 0, none⟩))) 4 rfl rfl (hon 6 (by kernel_rfl)) rfl
    replace ha := Aside0.mk ha
    have HZ := Aside0.mk Q_HZ
    have KP := Aside0.mk Q_KP
    have HX := Aside0.mk Q_HX
    have HL := Aside0.mk Q_HL
    refine value_ (w1 := w') (v := .pointer (some ⟨gx, 1, none⟩)) (by rfl) rfl ?_ ?_
    ·go_simp
     (try simp only [i64_w])
     try rfl
    refine hK.out _ _ ⟨(by rw [ha.out]; exact putSel_upk 5 hb_ rfl rfl rfl), Q_HZ, Q_KP, Q_HX, Q_HL⟩
   refine steps_cons ?_ ?_
   ·rintro b a w' ⟨ha, Q_HZ, Q_KP, Q_HX, Q_HL⟩ hb_ hon hoff
    refine ⟨_, rfl, fun K hK => ?_⟩
    have e15 : a.tmps[15]? = some (.pointer (some ⟨gx, 1, none⟩)) := by rw [ha]; exact putSel_on (e := (7, 15, .pointer (some ⟨gx, 1, none⟩))) 5 rfl rfl (hon 7 (by kernel_rfl)) rfl
    replace ha := Aside0.mk ha
    have HZ := Aside0.mk Q_HZ
    have KP := Aside0.mk Q_KP
    have HX := Aside0.mk Q_HX
    have HL := Aside0.mk Q_HL
    have hc1_ : w'.cell? ⟨gx, 1, none⟩ = some (.int .i64 x1) := (blk_cell HX.out 1).trans rfl
    refine value_ (w1 := w') (v := .int .i64 x1) (by rfl) rfl ?_ ?_
    ·go_simp
     (try simp only [i64_w])
     try rfl
    refine hK.out _ _ ⟨(by rw [ha.out]; exact putSel_upk 6 hb_ rfl rfl rfl), Q_HZ, Q_KP, Q_HX, Q_HL⟩
   refine steps_cons ?_ ?_
   ·rintro b a w' ⟨ha, Q_HZ, Q_KP, Q_HX, Q_HL⟩ hb_ hon hoff
    refine ⟨_, rfl, fun K hK => ?_⟩
    have e8 : a.tmps[8]? = some (.agg #[.int .i64 2, .int .i64 l1, .int .i64 l2, .int .i64 l3]) := by rw [ha]; exact putSel_on (e := (0, 8, .agg #[.int .i64 2, .int .i64 l1, .int .i64 l2, .int .i64 l3])) 0 rfl rfl (hon 0 (by kernel_rfl)) rfl
    have e12 : a.tmps[12]? = some (.agg #[.int .i64 x9, .int .i64 x10]) := by rw [ha]; exact putSel_on (e := (4, 12, .agg #[.int .i64 x9, .int .i64 x10])) 3 rfl rfl (hon 4 (by kernel_rfl)) rfl
    have e16 : a.tmps[16]? = some (.int .i64 x1) := by rw [ha]; exact putSel_on (e := (8, 16, .int .i64 x1)) 6 rfl rfl (hon 8 (by kernel_rfl)) rfl
    replace ha := Aside0.mk ha
    have HZ := Aside0.mk Q_HZ
    have KP := Aside0.mk Q_KP
    have HX := Aside0.mk Q_HX
    have HL := Aside0.mk Q_HL
    refine goes_ Tryd.func37 (by kernel_rfl) rfl #[.agg #[.int .i64 2, .int .i64 l1, .int .i64 l2, .int .i64 l3], .agg #[.int .i64 x9, .int .i64 x10], .int .i64 x1] (by rfl) rfl rfl (by first | (simp only [List.map_toArray, List.map_cons, List.map_nil, Act.eval, Array.getD_eq_getD_getElem?, Option.getD_some, e8, e12, e16]; done) | (simp only [List.map_toArray, List.map_cons, List.map_nil, Act.eval, Array.getD_eq_getD_getElem?, Option.getD_some, e8, e12, e16]; rfl)) ?_
    refine (sees.calls 2 l1 l2 l3 x9 x10 x1 sn w' HSN.out).mono ?_
    rintro e w5 ⟨rfl, hb⟩
    refine ⟨_, rfl, ?_⟩
    refine hK.out _ _ ⟨(by rw [ha.out]; exact putSel_upk 7 hb_ rfl rfl rfl), Below.trans HZ.out (Below.mono hb (Nat.zero_le _)), Kept.then_ KP.out (Kept.of_below hb (fun b => b = gx)) (fun b hb => .inl hb), blk_below HX.out hb, blk_below HL.out hb⟩
   refine steps_cons ?_ ?_
   ·rintro b a w' ⟨ha, Q_HZ, Q_KP, Q_HX, Q_HL⟩ hb_ hon hoff
    refine ⟨_, rfl, fun K hK => ?_⟩
    have e17 : a.tmps[17]? = some (.int .i64 sn) := by rw [ha]; exact putSel_on (e := (9, 17, .int .i64 sn)) 7 rfl rfl (hon 9 (by kernel_rfl)) rfl
    replace ha := Aside0.mk ha
    have HZ := Aside0.mk Q_HZ
    have KP := Aside0.mk Q_KP
    have HX := Aside0.mk Q_HX
    have HL := Aside0.mk Q_HL
    refine value_ (w1 := w') (v := .int .i64 sn) (by rfl) rfl ?_ ?_
    ·go_simp
     (try simp only [i64_w])
     try rfl
    refine hK.out _ _ ⟨(by rw [ha.out]; exact putSel_upk 8 hb_ rfl rfl rfl), Q_HZ, Q_KP, Q_HX, Q_HL⟩
   refine steps_cons ?_ ?_
   ·rintro b a w' ⟨ha, Q_HZ, Q_KP, Q_HX, Q_HL⟩ hb_ hon hoff
    refine ⟨_, rfl, fun K hK => ?_⟩
    replace ha := Aside0.mk ha
    have HZ := Aside0.mk Q_HZ
    have KP := Aside0.mk Q_KP
    have HX := Aside0.mk Q_HX
    have HL := Aside0.mk Q_HL
    refine value_ (w1 := w') (v := .bool false) (by rfl) rfl ?_ ?_
    ·go_simp
     (try simp only [i64_w])
     try rfl
    refine hK.out _ _ ⟨(by rw [ha.out]; exact putSel_upk 9 hb_ rfl rfl rfl), Q_HZ, Q_KP, Q_HX, Q_HL⟩
   exact steps_nil
  rintro b a w2 hall ⟨ha, Q_HZ, Q_KP, Q_HX, Q_HL⟩
  clear HL HX HZ KP
  have hb0_ := hall 0 (by kernel_rfl)
  have hb2_ := hall 2 (by kernel_rfl)
  have hb3_ := hall 3 (by kernel_rfl)
  have hb4_ := hall 4 (by kernel_rfl)
  have hb6_ := hall 6 (by kernel_rfl)
  have hb7_ := hall 7 (by kernel_rfl)
  have hb8_ := hall 8 (by kernel_rfl)
  have hb9_ := hall 9 (by kernel_rfl)
  have hb10_ := hall 10 (by kernel_rfl)
  have hb11_ := hall 11 (by kernel_rfl)
  subst ha
  simp only [putSel, hb0_, hb2_, hb3_, hb4_, hb6_, hb7_, hb8_, hb9_, hb10_, hb11_, if_true, Act.put, List.setIfInBounds_toArray, List.set_cons_zero, List.set_cons_succ]
  have HZ := Aside0.mk Q_HZ
  clear Q_HZ
  have KP := Aside0.mk Q_KP
  clear Q_KP
  have HX := Aside0.mk Q_HX
  clear Q_HX
  have HL := Aside0.mk Q_HL
  clear Q_HL
  clear hall hb0_ hb2_ hb3_ hb4_ hb6_ hb7_ hb8_ hb9_ hb10_ hb11_
  have c2 : w2.cell? ⟨gx, 2, none⟩ = some (.int .i64 x2) := (blk_cell HX.out 2).trans rfl
  have d0 : w2.cell? ⟨gl, 0, none⟩ = some (.int .i64 2) := (blk_cell HL.out 0).trans rfl
  have f2 := blk_frozen HX.out 2
  go_wp2_with (fail)
  clear c2 d0 f2
  replace KP := Aside0.mk (Kept.setCell KP.out (p := ⟨gx, 2, none⟩) (.inl rfl) (.int .i64 sn))
  replace HZ := Aside0.mk (Below.setCell HZ.out (p := ⟨gx, 2, none⟩) (Nat.zero_le _) (.int .i64 sn))
  replace HL := Aside0.mk (blk_far HL.out (p := ⟨gx, 2, none⟩) HNE.out (.int .i64 sn))
  replace HX := Aside0.mk (blk_put (cs := #[.int .i64 x0, .int .i64 x1, .int .i64 x2, .int .i64 x3, .bool x4, .int .i64 x5, .int .i64 x6, .int .i64 x7, .int .i64 x8, .int .i64 x9, .int .i64 x10]) (cs' := #[.int .i64 x0, .int .i64 x1, .int .i64 sn, .int .i64 x3, .bool x4, .int .i64 x5, .int .i64 x6, .int .i64 x7, .int .i64 x8, .int .i64 x9, .int .i64 x10]) HX.out 2 (.int .i64 sn) rfl)
  generalize (w2.setCell ⟨gx, 2, none⟩ (.int .i64 sn)) = w3 at KP HX HL HZ ⊢
  have hb : Below w3.heap.size w3 w3.drew := below_drew1 (Below.refl _ _)
  replace KP := Aside0.mk (Kept.then_ KP.out (Kept.of_below hb (fun b => b = gx)) (fun b hb => .inl hb)); replace HX := Aside0.mk (blk_below HX.out hb); replace HL := Aside0.mk (blk_below HL.out hb); replace HZ := Aside0.mk (Below.trans HZ.out (Below.mono hb (Nat.zero_le _)))
  clear hb
  refine start_ (n := 13) (S := fun w' => True) (ds := []) #[false, false, false, false, false, false, false, false, false, false, false, false, false] (by kernel_rfl) rfl rfl trivial (fun hHeld => ?_)
  refine with_tabW linkRecv.tab5 linkRecv.bits5 (fun HT_ HW_ => ?_)
  generalize w3.drew = wk_ at KP HX HL HZ hHeld ⊢
  refine pure_ (i := 0) (N := some 35) (v := ?_) (a' := ?_) #[true, false, false, false, false, false, false, false, false, false, false, false, false] rfl rfl (any_of HT_.out (by kernel_rfl)) (fun _ _ _ h => h) (Or.inl ⟨by rfl, ?_⟩) ?_ ?_
  rotate_left
  ·intro w'
   go_simp
   with_reducible rfl
  rotate_left
  ·simp only [Act.put, List.setIfInBounds_toArray, List.set_cons_zero, List.set_cons_succ, i64_w, i32_w]
   rfl
  refine pure_ (i := 1) (N := some 36) (v := ?_) (a' := ?_) #[true, true, false, false, false, false, false, false, false, false, false, false, false] rfl rfl (any_of HT_.out (by kernel_rfl)) (fun _ _ _ h => h) (Or.inl ⟨by rfl, ?_⟩) ?_ ?_
  rotate_left
  ·intro w'
   go_simp
   with_reducible rfl
  rotate_left
  ·simp only [Act.put, List.setIfInBounds_toArray, List.set_cons_zero, List.set_cons_succ, i64_w, i32_w]
   rfl
  refine pure_ (i := 5) (N := some 40) (v := ?_) (a' := ?_) #[true, true, false, false, false, true, false, false, false, false, false, false, false] rfl rfl (any_of HT_.out (by kernel_rfl)) (fun _ _ _ h => h) (Or.inl ⟨by rfl, ?_⟩) ?_ ?_
  rotate_left
  ·intro w'
   go_simp
   with_reducible rfl
  rotate_left
  ·simp only [Act.put, List.setIfInBounds_toArray, List.set_cons_zero, List.set_cons_succ, i64_w, i32_w]
   rfl
  refine inv_at [2, 3, 4, 6, 7, 8, 9, 10, 11, 12] (fun a0_ b a w' => a = putSel a0_ b [(2, 37, .pointer (some ⟨gx, 0, none⟩)), (3, 38, .pointer (some ⟨gx, 9, none⟩)), (4, 39, .agg #[.int .i64 x9, .int .i64 x10]), (6, 41, .pointer (some ⟨gx, 0, none⟩)), (7, 42, .pointer (some ⟨gx, 1, none⟩)), (8, 43, .int .i64 x1), (9, 44, .agg #[.int .i64 x1, .int .i64 x9]), (10, 45, .pointer (some ⟨gx, 0, none⟩)), (11, 46, .pointer (some ⟨gx, 9, none⟩))] ∧ (Below 0 w w') ∧ (Kept w w' (fun b => b = gx)) ∧ (b 12 = false → w'.heap[gx]? = some (.cells #[.int .i64 x0, .int .i64 x1, .int .i64 sn, .int .i64 x3, .bool x4, .int .i64 x5, .int .i64 x6, .int .i64 x7, .int .i64 x8, .int .i64 x9, .int .i64 x10] 63 (0, 0))) ∧ (w'.heap[gl]? = some (.cells #[.int .i64 2, .int .i64 l1, .int .i64 l2, .int .i64 l3] 36 (0, 0))) ∧ (b 12 = true → w'.heap[gx]? = some (.cells #[.int .i64 x0, .int .i64 x1, .int .i64 sn, .int .i64 x3, .bool x4, .int .i64 x5, .int .i64 x6, .int .i64 x7, .int .i64 x8, .int .i64 x1, .int .i64 x9] 63 (0, 0)))) HT_.out HW_.out (by kernel_rfl) (by kernel_rfl) ?_ ?_ ?_
  ·exact ⟨by simp only [putSel, Bool.false_eq_true, if_false], HZ.out, KP.out, fun _ => HX.out, HL.out, fun h_ => absurd h_ (by decide)⟩
  ·skip
   clear HL HX HZ KP
   refine steps_cons ?_ ?_
   ·rintro b a w' ⟨ha, Q_HZ, Q_KP, Q_HX, Q_HL, Q_HXn⟩ hb_ hon hoff
    refine ⟨_, rfl, fun K hK => ?_⟩
    have e36 : a.tmps[36]? = some (.pointer (some ⟨gx, 0, none⟩)) := by rw [ha]; exact (putSel_off rfl).trans rfl
    replace ha := Aside0.mk ha
    have HZ := Aside0.mk Q_HZ
    have KP := Aside0.mk Q_KP
    have HX := Aside0.mk (Q_HX (hoff 12 (by kernel_rfl)))
    have HL := Aside0.mk Q_HL
    refine value_ (w1 := w') (v := .pointer (some ⟨gx, 0, none⟩)) (by rfl) rfl ?_ ?_
    ·go_simp
     (try simp only [i64_w])
     try rfl
    refine hK.out _ _ ⟨(by rw [ha.out]; exact putSel_upk 0 hb_ rfl rfl rfl), Q_HZ, Q_KP, Q_HX, Q_HL, fun h0_ => absurd ((hoff 12 (by kernel_rfl)).symm.trans h0_) (by decide)⟩
   refine steps_cons ?_ ?_
   ·rintro b a w' ⟨ha, Q_HZ, Q_KP, Q_HX, Q_HL, Q_HXn⟩ hb_ hon hoff
    refine ⟨_, rfl, fun K hK => ?_⟩
    have e37 : a.tmps[37]? = some (.pointer (some ⟨gx, 0, none⟩)) := by rw [ha]; exact putSel_on (e := (2, 37, .pointer (some ⟨gx, 0, none⟩))) 0 rfl rfl (hon 2 (by kernel_rfl)) rfl
    replace ha := Aside0.mk ha
    have HZ := Aside0.mk Q_HZ
    have KP := Aside0.mk Q_KP
    have HX := Aside0.mk (Q_HX (hoff 12 (by kernel_rfl)))
    have HL := Aside0.mk Q_HL
    refine value_ (w1 := w') (v := .pointer (some ⟨gx, 9, none⟩)) (by rfl) rfl ?_ ?_
    ·go_simp
     (try simp only [i64_w])
     try rfl
    refine hK.out _ _ ⟨(by rw [ha.out]; exact putSel_upk 1 hb_ rfl rfl rfl), Q_HZ, Q_KP, Q_HX, Q_HL, fun h0_ => absurd ((hoff 12 (by kernel_rfl)).symm.trans h0_) (by decide)⟩
   refine steps_cons ?_ ?_
   ·rintro b a w' ⟨ha, Q_HZ, Q_KP, Q_HX, Q_HL, Q_HXn⟩ hb_ hon hoff
    refine ⟨_, rfl, fun K hK => ?_⟩
    have e38 : a.tmps[38]? = some (.pointer (some ⟨gx, 9, none⟩)) := by rw [ha]; exact putSel_on (e := (3, 38, .pointer (some ⟨gx, 9, none⟩))) 1 rfl rfl (hon 3 (by kernel_rfl)) rfl
    replace ha := Aside0.mk ha
    have HZ := Aside0.mk Q_HZ
    have KP := Aside0.mk Q_KP
    have HX := Aside0.mk (Q_HX (hoff 12 (by kernel_rfl)))
    have HL := Aside0.mk Q_HL
    have hc9_ : w'.cell? ⟨gx, 9, none⟩ = some (.int .i64 x9) := (blk_cell HX.out 9).trans rfl
    have hc10_ : w'.cell? ⟨gx, 10, none⟩ = some (.int .i64 x10) := (blk_cell HX.out 10).trans rfl
    refine value_ (w1 := w') (v := .agg #[.int .i64 x9, .int .i64 x10]) (by rfl) rfl ?_ ?_
    ·go_simp
     (try simp only [i64_w])
     try rfl
    refine hK.out _ _ ⟨(by rw [ha.out]; exact putSel_upk 2 hb_ rfl rfl rfl), Q_HZ, Q_KP, Q_HX, Q_HL, fun h0_ => absurd ((hoff 12 (by kernel_rfl)).symm.trans h0_) (by decide)⟩
   refine steps_cons ?_ ?_
   ·rintro b a w' ⟨ha, Q_HZ, Q_KP, Q_HX, Q_HL, Q_HXn⟩ hb_ hon hoff
    refine ⟨_, rfl, fun K hK => ?_⟩
    have e40 : a.tmps[40]? = some (.pointer (some ⟨gx, 0, none⟩)) := by rw [ha]; exact (putSel_off rfl).trans rfl
    replace ha := Aside0.mk ha
    have HZ := Aside0.mk Q_HZ
    have KP := Aside0.mk Q_KP
    have HX := Aside0.mk (Q_HX (hoff 12 (by kernel_rfl)))
    have HL := Aside0.mk Q_HL
    refine value_ (w1 := w') (v := .pointer (some ⟨gx, 0, none⟩)) (by rfl) rfl ?_ ?_
    ·go_simp
     (try simp only [i64_w])
     try rfl
    refine hK.out _ _ ⟨(by rw [ha.out]; exact putSel_upk 3 hb_ rfl rfl rfl), Q_HZ, Q_KP, Q_HX, Q_HL, fun h0_ => absurd ((hoff 12 (by kernel_rfl)).symm.trans h0_) (by decide)⟩
   refine steps_cons ?_ ?_
   ·rintro b a w' ⟨ha, Q_HZ, Q_KP, Q_HX, Q_HL, Q_HXn⟩ hb_ hon hoff
    refine ⟨_, rfl, fun K hK => ?_⟩
    have e41 : a.tmps[41]? = some (.pointer (some ⟨gx, 0, none⟩)) := by rw [ha]; exact putSel_on (e := (6, 41, .pointer (some ⟨gx, 0, none⟩))) 3 rfl rfl (hon 6 (by kernel_rfl)) rfl
    replace ha := Aside0.mk ha
    have HZ := Aside0.mk Q_HZ
    have KP := Aside0.mk Q_KP
    have HX := Aside0.mk (Q_HX (hoff 12 (by kernel_rfl)))
    have HL := Aside0.mk Q_HL
    refine value_ (w1 := w') (v := .pointer (some ⟨gx, 1, none⟩)) (by rfl) rfl ?_ ?_
    ·go_simp
     (try simp only [i64_w])
     try rfl
    refine hK.out _ _ ⟨(by rw [ha.out]; exact putSel_upk 4 hb_ rfl rfl rfl), Q_HZ, Q_KP, Q_HX, Q_HL, fun h0_ => absurd ((hoff 12 (by kernel_rfl)).symm.trans h0_) (by decide)⟩
   refine steps_cons ?_ ?_
   ·rintro b a w' ⟨ha, Q_HZ, Q_KP, Q_HX, Q_HL, Q_HXn⟩ hb_ hon hoff
    refine ⟨_, rfl, fun K hK => ?_⟩
    have e42 : a.tmps[42]? = some (.pointer (some ⟨gx, 1, none⟩)) := by rw [ha]; exact putSel_on (e := (7, 42, .pointer (some ⟨gx, 1, none⟩))) 4 rfl rfl (hon 7 (by kernel_rfl)) rfl
    replace ha := Aside0.mk ha
    have HZ := Aside0.mk Q_HZ
    have KP := Aside0.mk Q_KP
    have HX := Aside0.mk (Q_HX (hoff 12 (by kernel_rfl)))
    have HL := Aside0.mk Q_HL
    have hc1_ : w'.cell? ⟨gx, 1, none⟩ = some (.int .i64 x1) := (blk_cell HX.out 1).trans rfl
    refine value_ (w1 := w') (v := .int .i64 x1) (by rfl) rfl ?_ ?_
    ·go_simp
     (try simp only [i64_w])
     try rfl
    refine hK.out _ _ ⟨(by rw [ha.out]; exact putSel_upk 5 hb_ rfl rfl rfl), Q_HZ, Q_KP, Q_HX, Q_HL, fun h0_ => absurd ((hoff 12 (by kernel_rfl)).symm.trans h0_) (by decide)⟩
   refine steps_cons ?_ ?_
   ·rintro b a w' ⟨ha, Q_HZ, Q_KP, Q_HX, Q_HL, Q_HXn⟩ hb_ hon hoff
    refine ⟨_, rfl, fun K hK => ?_⟩
    have e39 : a.tmps[39]? = some (.agg #[.int .i64 x9, .int .i64 x10]) := by rw [ha]; exact putSel_on (e := (4, 39, .agg #[.int .i64 x9, .int .i64 x10])) 2 rfl rfl (hon 4 (by kernel_rfl)) rfl
    have e43 : a.tmps[43]? = some (.int .i64 x1) := by rw [ha]; exact putSel_on (e := (8, 43, .int .i64 x1)) 5 rfl rfl (hon 8 (by kernel_rfl)) rfl
    replace ha := Aside0.mk ha
    have HZ := Aside0.mk Q_HZ
    have KP := Aside0.mk Q_KP
    have HX := Aside0.mk (Q_HX (hoff 12 (by kernel_rfl)))
    have HL := Aside0.mk Q_HL
    refine goes_ Tryd.func39 (by kernel_rfl) rfl #[.agg #[.int .i64 x9, .int .i64 x10], .int .i64 x1] (by rfl) rfl rfl (by first | (simp only [List.map_toArray, List.map_cons, List.map_nil, Act.eval, Array.getD_eq_getD_getElem?, Option.getD_some, e39, e43]; done) | (simp only [List.map_toArray, List.map_cons, List.map_nil, Act.eval, Array.getD_eq_getD_getElem?, Option.getD_some, e39, e43]; rfl)) ?_
    refine (moveOn.calls x9 x10 x1 w').mono ?_
    rintro e w5 ⟨rfl, hb⟩
    refine ⟨_, rfl, ?_⟩
    refine hK.out _ _ ⟨(by rw [ha.out]; exact putSel_upk 6 hb_ rfl rfl rfl), Below.trans HZ.out (Below.mono hb (Nat.zero_le _)), Kept.then_ KP.out (Kept.of_below hb (fun b => b = gx)) (fun b hb => .inl hb), fun _ => blk_below HX.out hb, blk_below HL.out hb, fun h0_ => absurd ((hoff 12 (by kernel_rfl)).symm.trans h0_) (by decide)⟩
   refine steps_cons ?_ ?_
   ·rintro b a w' ⟨ha, Q_HZ, Q_KP, Q_HX, Q_HL, Q_HXn⟩ hb_ hon hoff
    refine ⟨_, rfl, fun K hK => ?_⟩
    have e35 : a.tmps[35]? = some (.pointer (some ⟨gx, 0, none⟩)) := by rw [ha]; exact (putSel_off rfl).trans rfl
    replace ha := Aside0.mk ha
    have HZ := Aside0.mk Q_HZ
    have KP := Aside0.mk Q_KP
    have HX := Aside0.mk (Q_HX (hoff 12 (by kernel_rfl)))
    have HL := Aside0.mk Q_HL
    refine value_ (w1 := w') (v := .pointer (some ⟨gx, 0, none⟩)) (by rfl) rfl ?_ ?_
    ·go_simp
     (try simp only [i64_w])
     try rfl
    refine hK.out _ _ ⟨(by rw [ha.out]; exact putSel_upk 7 hb_ rfl rfl rfl), Q_HZ, Q_KP, Q_HX, Q_HL, fun h0_ => absurd ((hoff 12 (by kernel_rfl)).symm.trans h0_) (by decide)⟩
   refine steps_cons ?_ ?_
   ·rintro b a w' ⟨ha, Q_HZ, Q_KP, Q_HX, Q_HL, Q_HXn⟩ hb_ hon hoff
    refine ⟨_, rfl, fun K hK => ?_⟩
    have e45 : a.tmps[45]? = some (.pointer (some ⟨gx, 0, none⟩)) := by rw [ha]; exact putSel_on (e := (10, 45, .pointer (some ⟨gx, 0, none⟩))) 7 rfl rfl (hon 10 (by kernel_rfl)) rfl
    replace ha := Aside0.mk ha
    have HZ := Aside0.mk Q_HZ
    have KP := Aside0.mk Q_KP
    have HX := Aside0.mk (Q_HX (hoff 12 (by kernel_rfl)))
    have HL := Aside0.mk Q_HL
    refine value_ (w1 := w') (v := .pointer (some ⟨gx, 9, none⟩)) (by rfl) rfl ?_ ?_
    ·go_simp
     (try simp only [i64_w])
     try rfl
    refine hK.out _ _ ⟨(by rw [ha.out]; exact putSel_upk 8 hb_ rfl rfl rfl), Q_HZ, Q_KP, Q_HX, Q_HL, fun h0_ => absurd ((hoff 12 (by kernel_rfl)).symm.trans h0_) (by decide)⟩
   refine steps_cons ?_ ?_
   ·rintro b a w' ⟨ha, Q_HZ, Q_KP, Q_HX, Q_HL, Q_HXn⟩ hb_ hon hoff
    refine ⟨_, rfl, fun K hK => ?_⟩
    have e46 : a.tmps[46]? = some (.pointer (some ⟨gx, 9, none⟩)) := by rw [ha]; exact putSel_on (e := (11, 46, .pointer (some ⟨gx, 9, none⟩))) 8 rfl rfl (hon 11 (by kernel_rfl)) rfl
    have e44 : a.tmps[44]? = some (.agg #[.int .i64 x1, .int .i64 x9]) := by rw [ha]; exact putSel_on (e := (9, 44, .agg #[.int .i64 x1, .int .i64 x9])) 6 rfl rfl (hon 9 (by kernel_rfl)) rfl
    replace ha := Aside0.mk ha
    have HZ := Aside0.mk Q_HZ
    have KP := Aside0.mk Q_KP
    have HX := Aside0.mk (Q_HX hb_)
    have HL := Aside0.mk Q_HL
    have hz0_ := blk_cell HX.out 9
    have hz1_ := blk_cell HX.out 10
    have hf0_ := blk_frozen HX.out 9
    have hf1_ := blk_frozen HX.out 10
    refine skip_ (w1 := (w'.setCell ⟨gx, 9, none⟩ (.int .i64 x1)).setCell ⟨gx, 10, none⟩ (.int .i64 x9)) (by rfl) rfl ?_ ?_
    ·go_simp
    refine hK.out _ _ ⟨(by rw [ha.out]; exact putSel_none (v := undef) rfl), Below.setCell (Below.setCell HZ.out (p := ⟨gx, 9, none⟩) (Nat.zero_le _) (.int .i64 x1)) (p := ⟨gx, 10, none⟩) (Nat.zero_le _) (.int .i64 x9), Kept.setCell (Kept.setCell KP.out (p := ⟨gx, 9, none⟩) (.inl rfl) (.int .i64 x1)) (p := ⟨gx, 10, none⟩) (.inl rfl) (.int .i64 x9), fun h0_ => absurd ((up_self b 12).symm.trans h0_) (by decide), blk_far (blk_far HL.out (p := ⟨gx, 9, none⟩) HNE.out (.int .i64 x1)) (p := ⟨gx, 10, none⟩) HNE.out (.int .i64 x9), fun _ => blk_put (blk_put HX.out 9 (.int .i64 x1) rfl) 10 (.int .i64 x9) rfl⟩
   exact steps_nil
  rintro b a w5 hall ⟨ha, Q_HZ, Q_KP, Q_HX, Q_HL, Q_HXn⟩
  clear HL HX HZ KP
  have hb2_ := hall 2 (by kernel_rfl)
  have hb3_ := hall 3 (by kernel_rfl)
  have hb4_ := hall 4 (by kernel_rfl)
  have hb6_ := hall 6 (by kernel_rfl)
  have hb7_ := hall 7 (by kernel_rfl)
  have hb8_ := hall 8 (by kernel_rfl)
  have hb9_ := hall 9 (by kernel_rfl)
  have hb10_ := hall 10 (by kernel_rfl)
  have hb11_ := hall 11 (by kernel_rfl)
  have hb12_ := hall 12 (by kernel_rfl)
  subst ha
  simp only [putSel, hb2_, hb3_, hb4_, hb6_, hb7_, hb8_, hb9_, hb10_, hb11_, hb12_, if_true, Act.put, List.setIfInBounds_toArray, List.set_cons_zero, List.set_cons_succ]
  have HZ := Aside0.mk Q_HZ
  clear Q_HZ
  have KP := Aside0.mk Q_KP
  clear Q_KP
  clear Q_HX
  have HL := Aside0.mk Q_HL
  clear Q_HL
  have HXn := Aside0.mk (Q_HXn hb12_)
  clear Q_HXn
  clear hall hb2_ hb3_ hb4_ hb6_ hb7_ hb8_ hb9_ hb10_ hb11_ hb12_
  have HX := HXn
  clear HXn
  have c3 : w5.cell? ⟨gx, 3, none⟩ = some (.int .i64 x3) := (blk_cell HX.out 3).trans rfl
  go_wp2
  go_ret2
  exact ⟨by first | rfl | (simp; done) | (simp [*]; done), HX.out, KP.out, HZ.out⟩
 ·have p1 : (l0 == 2) = false := beq_eq_false_iff_ne.mpr hp
  clear hp
  cases p2 : (sn == 1) with
  | true =>
   go_enter Tryd.func28, Tryd.ntmps28
   go_wp2_with ((with_reducible refine gate_dst (N := 3) rfl ?_); refine box_event ?hg (N := 3) ?hd (cs := #[.int .i64 l0, .int .i64 l1, .int .i64 l2, .int .i64 l3]) (t := 36) ?hr ?_; (case hd => rfl); (case hg => rfl); (case hr => first | (go_simp; done) | (go_simp; rfl)); intro gl hg_ w1 hbox_ hb_; have HX_gl := Aside0.mk hbox_; have HB_w1 := Aside0.mk hb_; have HG_gl := Aside0.mk hg_; clear hbox_ hb_ hg_)
   have HNE : Aside0 (gl ≠ gx) := ⟨by have h1 := blk_lt HX.out; have h2 := HG_gl.out; omega⟩
   have KP : Aside0 (Kept w w1 (fun b => b = gx)) := ⟨Kept.of_below HB_w1.out _⟩
   have HZ : Aside0 (Below 0 w w1) := ⟨Below.mono HB_w1.out (Nat.zero_le _)⟩
   replace HX := Aside0.mk (blk_below HX.out HB_w1.out)
   have HL := HX_gl
   clear HG_gl HB_w1 HX_gl
   have hb : Below w1.heap.size w1 w1.drew := below_drew1 (Below.refl _ _)
   replace KP := Aside0.mk (Kept.then_ KP.out (Kept.of_below hb (fun b => b = gx)) (fun b hb => .inl hb)); replace HX := Aside0.mk (blk_below HX.out hb); replace HL := Aside0.mk (blk_below HL.out hb); replace HZ := Aside0.mk (Below.trans HZ.out (Below.mono hb (Nat.zero_le _)))
   clear hb
   refine start_ (n := 12) (S := fun w' => True) (ds := []) #[false, false, false, false, false, false, false, false, false, false, false, false] (by kernel_rfl) rfl rfl trivial (fun hHeld => ?_)
   refine with_tabW linkRecv.tab1 linkRecv.bits1 (fun HT_ HW_ => ?_)
   generalize w1.drew = wk_ at KP HX HL HZ hHeld ⊢
   refine pure_ (i := 1) (N := some 9) (v := ?_) (a' := ?_) #[false, true, false, false, false, false, false, false, false, false, false, false] rfl rfl (any_of HT_.out (by kernel_rfl)) (fun _ _ _ h => h) (Or.inl ⟨by rfl, ?_⟩) ?_ ?_
   rotate_left
   ·intro w'
    go_simp
    with_reducible rfl
   rotate_left
   ·simp only [Act.put, List.setIfInBounds_toArray, List.set_cons_zero, List.set_cons_succ, i64_w, i32_w]
    rfl
   refine pure_ (i := 5) (N := some 13) (v := ?_) (a' := ?_) #[false, true, false, false, false, true, false, false, false, false, false, false] rfl rfl (any_of HT_.out (by kernel_rfl)) (fun _ _ _ h => h) (Or.inl ⟨by rfl, ?_⟩) ?_ ?_
   rotate_left
   ·intro w'
    go_simp
    with_reducible rfl
   rotate_left
   ·simp only [Act.put, List.setIfInBounds_toArray, List.set_cons_zero, List.set_cons_succ, i64_w, i32_w]
    rfl
   refine inv_at [0, 2, 3, 4, 6, 7, 8, 9, 10, 11] (fun a0_ b a w' => a = putSel a0_ b [(0, 8, .agg #[.int .i64 l0, .int .i64 l1, .int .i64 l2, .int .i64 l3]), (2, 10, .pointer (some ⟨gx, 0, none⟩)), (3, 11, .pointer (some ⟨gx, 9, none⟩)), (4, 12, .agg #[.int .i64 x9, .int .i64 x10]), (6, 14, .pointer (some ⟨gx, 0, none⟩)), (7, 15, .pointer (some ⟨gx, 1, none⟩)), (8, 16, .int .i64 x1), (9, 17, .int .i64 sn), (10, 6, .int .i64 sn), (11, 7, .bool false)] ∧ (Below 0 w w') ∧ (Kept w w' (fun b => b = gx)) ∧ (w'.heap[gx]? = some (.cells #[.int .i64 x0, .int .i64 x1, .int .i64 x2, .int .i64 x3, .bool x4, .int .i64 x5, .int .i64 x6, .int .i64 x7, .int .i64 x8, .int .i64 x9, .int .i64 x10] 63 (0, 0))) ∧ (w'.heap[gl]? = some (.cells #[.int .i64 l0, .int .i64 l1, .int .i64 l2, .int .i64 l3] 36 (0, 0)))) HT_.out HW_.out (by kernel_rfl) (by kernel_rfl) ?_ ?_ ?_
   ·exact ⟨by simp only [putSel, Bool.false_eq_true, if_false], HZ.out, KP.out, HX.out, HL.out⟩
   ·skip
    clear HL HX HZ KP
    refine steps_cons ?_ ?_
    ·rintro b a w' ⟨ha, Q_HZ, Q_KP, Q_HX, Q_HL⟩ hb_ hon hoff
     refine ⟨_, rfl, fun K hK => ?_⟩
     have e3 : a.tmps[3]? = some (.pointer (some ⟨gl, 0, none⟩)) := by rw [ha]; exact (putSel_off rfl).trans rfl
     replace ha := Aside0.mk ha
     have HZ := Aside0.mk Q_HZ
     have KP := Aside0.mk Q_KP
     have HX := Aside0.mk Q_HX
     have HL := Aside0.mk Q_HL
     have hc0_ : w'.cell? ⟨gl, 0, none⟩ = some (.int .i64 l0) := (blk_cell HL.out 0).trans rfl
     have hc1_ : w'.cell? ⟨gl, 1, none⟩ = some (.int .i64 l1) := (blk_cell HL.out 1).trans rfl
     have hc2_ : w'.cell? ⟨gl, 2, none⟩ = some (.int .i64 l2) := (blk_cell HL.out 2).trans rfl
     have hc3_ : w'.cell? ⟨gl, 3, none⟩ = some (.int .i64 l3) := (blk_cell HL.out 3).trans rfl
     refine value_ (w1 := w') (v := .agg #[.int .i64 l0, .int .i64 l1, .int .i64 l2, .int .i64 l3]) (by rfl) rfl ?_ ?_
     ·go_simp
      (try simp only [i64_w])
      try rfl
     refine hK.out _ _ ⟨(by rw [ha.out]; exact putSel_upk 0 hb_ rfl rfl rfl), Q_HZ, Q_KP, Q_HX, Q_HL⟩
    refine steps_cons ?_ ?_
    ·rintro b a w' ⟨ha, Q_HZ, Q_KP, Q_HX, Q_HL⟩ hb_ hon hoff
     refine ⟨_, rfl, fun K hK => ?_⟩
     have e9 : a.tmps[9]? = some (.pointer (some ⟨gx, 0, none⟩)) := by rw [ha]; exact (putSel_off rfl).trans rfl
     replace ha := Aside0.mk ha
     have HZ := Aside0.mk Q_HZ
     have KP := Aside0.mk Q_KP
     have HX := Aside0.mk Q_HX
     have HL := Aside0.mk Q_HL
     refine value_ (w1 := w') (v := .pointer (some ⟨gx, 0, none⟩)) (by rfl) rfl ?_ ?_
     ·go_simp
      (try simp only [i64_w])
      try rfl
     refine hK.out _ _ ⟨(by rw [ha.out]; exact putSel_upk 1 hb_ rfl rfl rfl), Q_HZ, Q_KP, Q_HX, Q_HL⟩
    refine steps_cons ?_ ?_
    ·rintro b a w' ⟨ha, Q_HZ, Q_KP, Q_HX, Q_HL⟩ hb_ hon hoff
     refine ⟨_, rfl, fun K hK => ?_⟩
     have e10 : a.tmps[10]? = some (.pointer (some ⟨gx, 0, none⟩)) := by rw [ha]; exact putSel_on (e := (2, 10, .pointer (some ⟨gx, 0, none⟩))) 1 rfl rfl (hon 2 (by kernel_rfl)) rfl
     replace ha := Aside0.mk ha
     have HZ := Aside0.mk Q_HZ
     have KP := Aside0.mk Q_KP
     have HX := Aside0.mk Q_HX
     have HL := Aside0.mk Q_HL
     refine value_ (w1 := w') (v := .pointer (some ⟨gx, 9, none⟩)) (by rfl) rfl ?_ ?_
     ·go_simp
      (try simp only [i64_w])
      try rfl
     refine hK.out _ _ ⟨(by rw [ha.out]; exact putSel_upk 2 hb_ rfl rfl rfl), Q_HZ, Q_KP, Q_HX, Q_HL⟩
    refine steps_cons ?_ ?_
    ·rintro b a w' ⟨ha, Q_HZ, Q_KP, Q_HX, Q_HL⟩ hb_ hon hoff
     refine ⟨_, rfl, fun K hK => ?_⟩
     have e11 : a.tmps[11]? = some (.pointer (some ⟨gx, 9, none⟩)) := by rw [ha]; exact putSel_on (e := (3, 11, .pointer (some ⟨gx, 9, none⟩))) 2 rfl rfl (hon 3 (by kernel_rfl)) rfl
     replace ha := Aside0.mk ha
     have HZ := Aside0.mk Q_HZ
     have KP := Aside0.mk Q_KP
     have HX := Aside0.mk Q_HX
     have HL := Aside0.mk Q_HL
     have hc9_ : w'.cell? ⟨gx, 9, none⟩ = some (.int .i64 x9) := (blk_cell HX.out 9).trans rfl
     have hc10_ : w'.cell? ⟨gx, 10, none⟩ = some (.int .i64 x10) := (blk_cell HX.out 10).trans rfl
     refine value_ (w1 := w') (v := .agg #[.int .i64 x9, .int .i64 x10]) (by rfl) rfl ?_ ?_
     ·go_simp
      (try simp only [i64_w])
      try rfl
     refine hK.out _ _ ⟨(by rw [ha.out]; exact putSel_upk 3 hb_ rfl rfl rfl), Q_HZ, Q_KP, Q_HX, Q_HL⟩
    refine steps_cons ?_ ?_
    ·rintro b a w' ⟨ha, Q_HZ, Q_KP, Q_HX, Q_HL⟩ hb_ hon hoff
     refine ⟨_, rfl, fun K hK => ?_⟩
     have e13 : a.tmps[13]? = some (.pointer (some ⟨gx, 0, none⟩)) := by rw [ha]; exact (putSel_off rfl).trans rfl
     replace ha := Aside0.mk ha
     have HZ := Aside0.mk Q_HZ
     have KP := Aside0.mk Q_KP
     have HX := Aside0.mk Q_HX
     have HL := Aside0.mk Q_HL
     refine value_ (w1 := w') (v := .pointer (some ⟨gx, 0, none⟩)) (by rfl) rfl ?_ ?_
     ·go_simp
      (try simp only [i64_w])
      try rfl
     refine hK.out _ _ ⟨(by rw [ha.out]; exact putSel_upk 4 hb_ rfl rfl rfl), Q_HZ, Q_KP, Q_HX, Q_HL⟩
    refine steps_cons ?_ ?_
    ·rintro b a w' ⟨ha, Q_HZ, Q_KP, Q_HX, Q_HL⟩ hb_ hon hoff
     refine ⟨_, rfl, fun K hK => ?_⟩
     have e14 : a.tmps[14]? = some (.pointer (some ⟨gx, 0, none⟩)) := by rw [ha]; exact putSel_on (e := (6, 14, .pointer (some ⟨gx, 0, none⟩))) 4 rfl rfl (hon 6 (by kernel_rfl)) rfl
     replace ha := Aside0.mk ha
     have HZ := Aside0.mk Q_HZ
     have KP := Aside0.mk Q_KP
     have HX := Aside0.mk Q_HX
     have HL := Aside0.mk Q_HL
     refine value_ (w1 := w') (v := .pointer (some ⟨gx, 1, none⟩)) (by rfl) rfl ?_ ?_
     ·go_simp
      (try simp only [i64_w])
      try rfl
     refine hK.out _ _ ⟨(by rw [ha.out]; exact putSel_upk 5 hb_ rfl rfl rfl), Q_HZ, Q_KP, Q_HX, Q_HL⟩
    refine steps_cons ?_ ?_
    ·rintro b a w' ⟨ha, Q_HZ, Q_KP, Q_HX, Q_HL⟩ hb_ hon hoff
     refine ⟨_, rfl, fun K hK => ?_⟩
     have e15 : a.tmps[15]? = some (.pointer (some ⟨gx, 1, none⟩)) := by rw [ha]; exact putSel_on (e := (7, 15, .pointer (some ⟨gx, 1, none⟩))) 5 rfl rfl (hon 7 (by kernel_rfl)) rfl
     replace ha := Aside0.mk ha
     have HZ := Aside0.mk Q_HZ
     have KP := Aside0.mk Q_KP
     have HX := Aside0.mk Q_HX
     have HL := Aside0.mk Q_HL
     have hc1_ : w'.cell? ⟨gx, 1, none⟩ = some (.int .i64 x1) := (blk_cell HX.out 1).trans rfl
     refine value_ (w1 := w') (v := .int .i64 x1) (by rfl) rfl ?_ ?_
     ·go_simp
      (try simp only [i64_w])
      try rfl
     refine hK.out _ _ ⟨(by rw [ha.out]; exact putSel_upk 6 hb_ rfl rfl rfl), Q_HZ, Q_KP, Q_HX, Q_HL⟩
    refine steps_cons ?_ ?_
    ·rintro b a w' ⟨ha, Q_HZ, Q_KP, Q_HX, Q_HL⟩ hb_ hon hoff
     refine ⟨_, rfl, fun K hK => ?_⟩
     have e8 : a.tmps[8]? = some (.agg #[.int .i64 l0, .int .i64 l1, .int .i64 l2, .int .i64 l3]) := by rw [ha]; exact putSel_on (e := (0, 8, .agg #[.int .i64 l0, .int .i64 l1, .int .i64 l2, .int .i64 l3])) 0 rfl rfl (hon 0 (by kernel_rfl)) rfl
     have e12 : a.tmps[12]? = some (.agg #[.int .i64 x9, .int .i64 x10]) := by rw [ha]; exact putSel_on (e := (4, 12, .agg #[.int .i64 x9, .int .i64 x10])) 3 rfl rfl (hon 4 (by kernel_rfl)) rfl
     have e16 : a.tmps[16]? = some (.int .i64 x1) := by rw [ha]; exact putSel_on (e := (8, 16, .int .i64 x1)) 6 rfl rfl (hon 8 (by kernel_rfl)) rfl
     replace ha := Aside0.mk ha
     have HZ := Aside0.mk Q_HZ
     have KP := Aside0.mk Q_KP
     have HX := Aside0.mk Q_HX
     have HL := Aside0.mk Q_HL
     refine goes_ Tryd.func37 (by kernel_rfl) rfl #[.agg #[.int .i64 l0, .int .i64 l1, .int .i64 l2, .int .i64 l3], .agg #[.int .i64 x9, .int .i64 x10], .int .i64 x1] (by rfl) rfl rfl (by first | (simp only [List.map_toArray, List.map_cons, List.map_nil, Act.eval, Array.getD_eq_getD_getElem?, Option.getD_some, e8, e12, e16]; done) | (simp only [List.map_toArray, List.map_cons, List.map_nil, Act.eval, Array.getD_eq_getD_getElem?, Option.getD_some, e8, e12, e16]; rfl)) ?_
     refine (sees.calls l0 l1 l2 l3 x9 x10 x1 sn w' HSN.out).mono ?_
     rintro e w5 ⟨rfl, hb⟩
     refine ⟨_, rfl, ?_⟩
     refine hK.out _ _ ⟨(by rw [ha.out]; exact putSel_upk 7 hb_ rfl rfl rfl), Below.trans HZ.out (Below.mono hb (Nat.zero_le _)), Kept.then_ KP.out (Kept.of_below hb (fun b => b = gx)) (fun b hb => .inl hb), blk_below HX.out hb, blk_below HL.out hb⟩
    refine steps_cons ?_ ?_
    ·rintro b a w' ⟨ha, Q_HZ, Q_KP, Q_HX, Q_HL⟩ hb_ hon hoff
     refine ⟨_, rfl, fun K hK => ?_⟩
     have e17 : a.tmps[17]? = some (.int .i64 sn) := by rw [ha]; exact putSel_on (e := (9, 17, .int .i64 sn)) 7 rfl rfl (hon 9 (by kernel_rfl)) rfl
     replace ha := Aside0.mk ha
     have HZ := Aside0.mk Q_HZ
     have KP := Aside0.mk Q_KP
     have HX := Aside0.mk Q_HX
     have HL := Aside0.mk Q_HL
     refine value_ (w1 := w') (v := .int .i64 sn) (by rfl) rfl ?_ ?_
     ·go_simp
      (try simp only [i64_w])
      try rfl
     refine hK.out _ _ ⟨(by rw [ha.out]; exact putSel_upk 8 hb_ rfl rfl rfl), Q_HZ, Q_KP, Q_HX, Q_HL⟩
    refine steps_cons ?_ ?_
    ·rintro b a w' ⟨ha, Q_HZ, Q_KP, Q_HX, Q_HL⟩ hb_ hon hoff
     refine ⟨_, rfl, fun K hK => ?_⟩
     replace ha := Aside0.mk ha
     have HZ := Aside0.mk Q_HZ
     have KP := Aside0.mk Q_KP
     have HX := Aside0.mk Q_HX
     have HL := Aside0.mk Q_HL
     refine value_ (w1 := w') (v := .bool false) (by rfl) rfl ?_ ?_
     ·go_simp
      (try simp only [i64_w])
      try rfl
     refine hK.out _ _ ⟨(by rw [ha.out]; exact putSel_upk 9 hb_ rfl rfl rfl), Q_HZ, Q_KP, Q_HX, Q_HL⟩
    exact steps_nil
   rintro b a w2 hall ⟨ha, Q_HZ, Q_KP, Q_HX, Q_HL⟩
   clear HL HX HZ KP
   have hb0_ := hall 0 (by kernel_rfl)
   have hb2_ := hall 2 (by kernel_rfl)
   have hb3_ := hall 3 (by kernel_rfl)
   have hb4_ := hall 4 (by kernel_rfl)
   have hb6_ := hall 6 (by kernel_rfl)
   have hb7_ := hall 7 (by kernel_rfl)
   have hb8_ := hall 8 (by kernel_rfl)
   have hb9_ := hall 9 (by kernel_rfl)
   have hb10_ := hall 10 (by kernel_rfl)
   have hb11_ := hall 11 (by kernel_rfl)
   subst ha
   simp only [putSel, hb0_, hb2_, hb3_, hb4_, hb6_, hb7_, hb8_, hb9_, hb10_, hb11_, if_true, Act.put, List.setIfInBounds_toArray, List.set_cons_zero, List.set_cons_succ]
   have HZ := Aside0.mk Q_HZ
   clear Q_HZ
   have KP := Aside0.mk Q_KP
   clear Q_KP
   have HX := Aside0.mk Q_HX
   clear Q_HX
   have HL := Aside0.mk Q_HL
   clear Q_HL
   clear hall hb0_ hb2_ hb3_ hb4_ hb6_ hb7_ hb8_ hb9_ hb10_ hb11_
   have c2 : w2.cell? ⟨gx, 2, none⟩ = some (.int .i64 x2) := (blk_cell HX.out 2).trans rfl
   have d0 : w2.cell? ⟨gl, 0, none⟩ = some (.int .i64 l0) := (blk_cell HL.out 0).trans rfl
   have f2 := blk_frozen HX.out 2
   go_wp2_with (fail)
   clear c2 d0 f2
   replace KP := Aside0.mk (Kept.setCell KP.out (p := ⟨gx, 2, none⟩) (.inl rfl) (.int .i64 sn))
   replace HZ := Aside0.mk (Below.setCell HZ.out (p := ⟨gx, 2, none⟩) (Nat.zero_le _) (.int .i64 sn))
   replace HL := Aside0.mk (blk_far HL.out (p := ⟨gx, 2, none⟩) HNE.out (.int .i64 sn))
   replace HX := Aside0.mk (blk_put (cs := #[.int .i64 x0, .int .i64 x1, .int .i64 x2, .int .i64 x3, .bool x4, .int .i64 x5, .int .i64 x6, .int .i64 x7, .int .i64 x8, .int .i64 x9, .int .i64 x10]) (cs' := #[.int .i64 x0, .int .i64 x1, .int .i64 sn, .int .i64 x3, .bool x4, .int .i64 x5, .int .i64 x6, .int .i64 x7, .int .i64 x8, .int .i64 x9, .int .i64 x10]) HX.out 2 (.int .i64 sn) rfl)
   generalize (w2.setCell ⟨gx, 2, none⟩ (.int .i64 sn)) = w3 at KP HX HL HZ ⊢
   have hb : Below w3.heap.size w3 w3.drew := below_drew1 (Below.refl _ _)
   replace KP := Aside0.mk (Kept.then_ KP.out (Kept.of_below hb (fun b => b = gx)) (fun b hb => .inl hb)); replace HX := Aside0.mk (blk_below HX.out hb); replace HL := Aside0.mk (blk_below HL.out hb); replace HZ := Aside0.mk (Below.trans HZ.out (Below.mono hb (Nat.zero_le _)))
   clear hb
   refine start_ (n := 13) (S := fun w' => True) (ds := []) #[false, false, false, false, false, false, false, false, false, false, false, false, false] (by kernel_rfl) rfl rfl trivial (fun hHeld => ?_)
   refine with_tabW linkRecv.tab5 linkRecv.bits5 (fun HT_ HW_ => ?_)
   generalize w3.drew = wk_ at KP HX HL HZ hHeld ⊢
   refine pure_ (i := 0) (N := some 35) (v := ?_) (a' := ?_) #[true, false, false, false, false, false, false, false, false, false, false, false, false] rfl rfl (any_of HT_.out (by kernel_rfl)) (fun _ _ _ h => h) (Or.inl ⟨by rfl, ?_⟩) ?_ ?_
   rotate_left
   ·intro w'
    go_simp
    with_reducible rfl
   rotate_left
   ·simp only [Act.put, List.setIfInBounds_toArray, List.set_cons_zero, List.set_cons_succ, i64_w, i32_w]
    rfl
   refine pure_ (i := 1) (N := some 36) (v := ?_) (a' := ?_) #[true, true, false, false, false, false, false, false, false, false, false, false, false] rfl rfl (any_of HT_.out (by kernel_rfl)) (fun _ _ _ h => h) (Or.inl ⟨by rfl, ?_⟩) ?_ ?_
   rotate_left
   ·intro w'
    go_simp
    with_reducible rfl
   rotate_left
   ·simp only [Act.put, List.setIfInBounds_toArray, List.set_cons_zero, List.set_cons_succ, i64_w, i32_w]
    rfl
   refine pure_ (i := 5) (N := some 40) (v := ?_) (a' := ?_) #[true, true, false, false, false, true, false, false, false, false, false, false, false] rfl rfl (any_of HT_.out (by kernel_rfl)) (fun _ _ _ h => h) (Or.inl ⟨by rfl, ?_⟩) ?_ ?_
   rotate_left
   ·intro w'
    go_simp
    with_reducible rfl
   rotate_left
   ·simp only [Act.put, List.setIfInBounds_toArray, List.set_cons_zero, List.set_cons_succ, i64_w, i32_w]
    rfl
   refine inv_at [2, 3, 4, 6, 7, 8, 9, 10, 11, 12] (fun a0_ b a w' => a = putSel a0_ b [(2, 37, .pointer (some ⟨gx, 0, none⟩)), (3, 38, .pointer (some ⟨gx, 9, none⟩)), (4, 39, .agg #[.int .i64 x9, .int .i64 x10]), (6, 41, .pointer (some ⟨gx, 0, none⟩)), (7, 42, .pointer (some ⟨gx, 1, none⟩)), (8, 43, .int .i64 x1), (9, 44, .agg #[.int .i64 x1, .int .i64 x9]), (10, 45, .pointer (some ⟨gx, 0, none⟩)), (11, 46, .pointer (some ⟨gx, 9, none⟩))] ∧ (Below 0 w w') ∧ (Kept w w' (fun b => b = gx)) ∧ (b 12 = false → w'.heap[gx]? = some (.cells #[.int .i64 x0, .int .i64 x1, .int .i64 sn, .int .i64 x3, .bool x4, .int .i64 x5, .int .i64 x6, .int .i64 x7, .int .i64 x8, .int .i64 x9, .int .i64 x10] 63 (0, 0))) ∧ (w'.heap[gl]? = some (.cells #[.int .i64 l0, .int .i64 l1, .int .i64 l2, .int .i64 l3] 36 (0, 0))) ∧ (b 12 = true → w'.heap[gx]? = some (.cells #[.int .i64 x0, .int .i64 x1, .int .i64 sn, .int .i64 x3, .bool x4, .int .i64 x5, .int .i64 x6, .int .i64 x7, .int .i64 x8, .int .i64 x1, .int .i64 x9] 63 (0, 0)))) HT_.out HW_.out (by kernel_rfl) (by kernel_rfl) ?_ ?_ ?_
   ·exact ⟨by simp only [putSel, Bool.false_eq_true, if_false], HZ.out, KP.out, fun _ => HX.out, HL.out, fun h_ => absurd h_ (by decide)⟩
   ·skip
    clear HL HX HZ KP
    refine steps_cons ?_ ?_
    ·rintro b a w' ⟨ha, Q_HZ, Q_KP, Q_HX, Q_HL, Q_HXn⟩ hb_ hon hoff
     refine ⟨_, rfl, fun K hK => ?_⟩
     have e36 : a.tmps[36]? = some (.pointer (some ⟨gx, 0, none⟩)) := by rw [ha]; exact (putSel_off rfl).trans rfl
     replace ha := Aside0.mk ha
     have HZ := Aside0.mk Q_HZ
     have KP := Aside0.mk Q_KP
     have HX := Aside0.mk (Q_HX (hoff 12 (by kernel_rfl)))
     have HL := Aside0.mk Q_HL
     refine value_ (w1 := w') (v := .pointer (some ⟨gx, 0, none⟩)) (by rfl) rfl ?_ ?_
     ·go_simp
      (try simp only [i64_w])
      try rfl
     refine hK.out _ _ ⟨(by rw [ha.out]; exact putSel_upk 0 hb_ rfl rfl rfl), Q_HZ, Q_KP, Q_HX, Q_HL, fun h0_ => absurd ((hoff 12 (by kernel_rfl)).symm.trans h0_) (by decide)⟩
    refine steps_cons ?_ ?_
    ·rintro b a w' ⟨ha, Q_HZ, Q_KP, Q_HX, Q_HL, Q_HXn⟩ hb_ hon hoff
     refine ⟨_, rfl, fun K hK => ?_⟩
     have e37 : a.tmps[37]? = some (.pointer (some ⟨gx, 0, none⟩)) := by rw [ha]; exact putSel_on (e := (2, 37, .pointer (some ⟨gx, 0, none⟩))) 0 rfl rfl (hon 2 (by kernel_rfl)) rfl
     replace ha := Aside0.mk ha
     have HZ := Aside0.mk Q_HZ
     have KP := Aside0.mk Q_KP
     have HX := Aside0.mk (Q_HX (hoff 12 (by kernel_rfl)))
     have HL := Aside0.mk Q_HL
     refine value_ (w1 := w') (v := .pointer (some ⟨gx, 9, none⟩)) (by rfl) rfl ?_ ?_
     ·go_simp
      (try simp only [i64_w])
      try rfl
     refine hK.out _ _ ⟨(by rw [ha.out]; exact putSel_upk 1 hb_ rfl rfl rfl), Q_HZ, Q_KP, Q_HX, Q_HL, fun h0_ => absurd ((hoff 12 (by kernel_rfl)).symm.trans h0_) (by decide)⟩
    refine steps_cons ?_ ?_
    ·rintro b a w' ⟨ha, Q_HZ, Q_KP, Q_HX, Q_HL, Q_HXn⟩ hb_ hon hoff
     refine ⟨_, rfl, fun K hK => ?_⟩
     have e38 : a.tmps[38]? = some (.pointer (some ⟨gx, 9, none⟩)) := by rw [ha]; exact putSel_on (e := (3, 38, .pointer (some ⟨gx, 9, none⟩))) 1 rfl rfl (hon 3 (by kernel_rfl)) rfl
     replace ha := Aside0.mk ha
     have HZ := Aside0.mk Q_HZ
     have KP := Aside0.mk Q_KP
     have HX := Aside0.mk (Q_HX (hoff 12 (by kernel_rfl)))
     have HL := Aside0.mk Q_HL
     have hc9_ : w'.cell? ⟨gx, 9, none⟩ = some (.int .i64 x9) := (blk_cell HX.out 9).trans rfl
     have hc10_ : w'.cell? ⟨gx, 10, none⟩ = some (.int .i64 x10) := (blk_cell HX.out 10).trans rfl
     refine value_ (w1 := w') (v := .agg #[.int .i64 x9, .int .i64 x10]) (by rfl) rfl ?_ ?_
     ·go_simp
      (try simp only [i64_w])
      try rfl
     refine hK.out _ _ ⟨(by rw [ha.out]; exact putSel_upk 2 hb_ rfl rfl rfl), Q_HZ, Q_KP, Q_HX, Q_HL, fun h0_ => absurd ((hoff 12 (by kernel_rfl)).symm.trans h0_) (by decide)⟩
    refine steps_cons ?_ ?_
    ·rintro b a w' ⟨ha, Q_HZ, Q_KP, Q_HX, Q_HL, Q_HXn⟩ hb_ hon hoff
     refine ⟨_, rfl, fun K hK => ?_⟩
     have e40 : a.tmps[40]? = some (.pointer (some ⟨gx, 0, none⟩)) := by rw [ha]; exact (putSel_off rfl).trans rfl
     replace ha := Aside0.mk ha
     have HZ := Aside0.mk Q_HZ
     have KP := Aside0.mk Q_KP
     have HX := Aside0.mk (Q_HX (hoff 12 (by kernel_rfl)))
     have HL := Aside0.mk Q_HL
     refine value_ (w1 := w') (v := .pointer (some ⟨gx, 0, none⟩)) (by rfl) rfl ?_ ?_
     ·go_simp
      (try simp only [i64_w])
      try rfl
     refine hK.out _ _ ⟨(by rw [ha.out]; exact putSel_upk 3 hb_ rfl rfl rfl), Q_HZ, Q_KP, Q_HX, Q_HL, fun h0_ => absurd ((hoff 12 (by kernel_rfl)).symm.trans h0_) (by decide)⟩
    refine steps_cons ?_ ?_
    ·rintro b a w' ⟨ha, Q_HZ, Q_KP, Q_HX, Q_HL, Q_HXn⟩ hb_ hon hoff
     refine ⟨_, rfl, fun K hK => ?_⟩
     have e41 : a.tmps[41]? = some (.pointer (some ⟨gx, 0, none⟩)) := by rw [ha]; exact putSel_on (e := (6, 41, .pointer (some ⟨gx, 0, none⟩))) 3 rfl rfl (hon 6 (by kernel_rfl)) rfl
     replace ha := Aside0.mk ha
     have HZ := Aside0.mk Q_HZ
     have KP := Aside0.mk Q_KP
     have HX := Aside0.mk (Q_HX (hoff 12 (by kernel_rfl)))
     have HL := Aside0.mk Q_HL
     refine value_ (w1 := w') (v := .pointer (some ⟨gx, 1, none⟩)) (by rfl) rfl ?_ ?_
     ·go_simp
      (try simp only [i64_w])
      try rfl
     refine hK.out _ _ ⟨(by rw [ha.out]; exact putSel_upk 4 hb_ rfl rfl rfl), Q_HZ, Q_KP, Q_HX, Q_HL, fun h0_ => absurd ((hoff 12 (by kernel_rfl)).symm.trans h0_) (by decide)⟩
    refine steps_cons ?_ ?_
    ·rintro b a w' ⟨ha, Q_HZ, Q_KP, Q_HX, Q_HL, Q_HXn⟩ hb_ hon hoff
     refine ⟨_, rfl, fun K hK => ?_⟩
     have e42 : a.tmps[42]? = some (.pointer (some ⟨gx, 1, none⟩)) := by rw [ha]; exact putSel_on (e := (7, 42, .pointer (some ⟨gx, 1, none⟩))) 4 rfl rfl (hon 7 (by kernel_rfl)) rfl
     replace ha := Aside0.mk ha
     have HZ := Aside0.mk Q_HZ
     have KP := Aside0.mk Q_KP
     have HX := Aside0.mk (Q_HX (hoff 12 (by kernel_rfl)))
     have HL := Aside0.mk Q_HL
     have hc1_ : w'.cell? ⟨gx, 1, none⟩ = some (.int .i64 x1) := (blk_cell HX.out 1).trans rfl
     refine value_ (w1 := w') (v := .int .i64 x1) (by rfl) rfl ?_ ?_
     ·go_simp
      (try simp only [i64_w])
      try rfl
     refine hK.out _ _ ⟨(by rw [ha.out]; exact putSel_upk 5 hb_ rfl rfl rfl), Q_HZ, Q_KP, Q_HX, Q_HL, fun h0_ => absurd ((hoff 12 (by kernel_rfl)).symm.trans h0_) (by decide)⟩
    refine steps_cons ?_ ?_
    ·rintro b a w' ⟨ha, Q_HZ, Q_KP, Q_HX, Q_HL, Q_HXn⟩ hb_ hon hoff
     refine ⟨_, rfl, fun K hK => ?_⟩
     have e39 : a.tmps[39]? = some (.agg #[.int .i64 x9, .int .i64 x10]) := by rw [ha]; exact putSel_on (e := (4, 39, .agg #[.int .i64 x9, .int .i64 x10])) 2 rfl rfl (hon 4 (by kernel_rfl)) rfl
     have e43 : a.tmps[43]? = some (.int .i64 x1) := by rw [ha]; exact putSel_on (e := (8, 43, .int .i64 x1)) 5 rfl rfl (hon 8 (by kernel_rfl)) rfl
     replace ha := Aside0.mk ha
     have HZ := Aside0.mk Q_HZ
     have KP := Aside0.mk Q_KP
     have HX := Aside0.mk (Q_HX (hoff 12 (by kernel_rfl)))
     have HL := Aside0.mk Q_HL
     refine goes_ Tryd.func39 (by kernel_rfl) rfl #[.agg #[.int .i64 x9, .int .i64 x10], .int .i64 x1] (by rfl) rfl rfl (by first | (simp only [List.map_toArray, List.map_cons, List.map_nil, Act.eval, Array.getD_eq_getD_getElem?, Option.getD_some, e39, e43]; done) | (simp only [List.map_toArray, List.map_cons, List.map_nil, Act.eval, Array.getD_eq_getD_getElem?, Option.getD_some, e39, e43]; rfl)) ?_
     refine (moveOn.calls x9 x10 x1 w').mono ?_
     rintro e w5 ⟨rfl, hb⟩
     refine ⟨_, rfl, ?_⟩
     refine hK.out _ _ ⟨(by rw [ha.out]; exact putSel_upk 6 hb_ rfl rfl rfl), Below.trans HZ.out (Below.mono hb (Nat.zero_le _)), Kept.then_ KP.out (Kept.of_below hb (fun b => b = gx)) (fun b hb => .inl hb), fun _ => blk_below HX.out hb, blk_below HL.out hb, fun h0_ => absurd ((hoff 12 (by kernel_rfl)).symm.trans h0_) (by decide)⟩
    refine steps_cons ?_ ?_
    ·rintro b a w' ⟨ha, Q_HZ, Q_KP, Q_HX, Q_HL, Q_HXn⟩ hb_ hon hoff
     refine ⟨_, rfl, fun K hK => ?_⟩
     have e35 : a.tmps[35]? = some (.pointer (some ⟨gx, 0, none⟩)) := by rw [ha]; exact (putSel_off rfl).trans rfl
     replace ha := Aside0.mk ha
     have HZ := Aside0.mk Q_HZ
     have KP := Aside0.mk Q_KP
     have HX := Aside0.mk (Q_HX (hoff 12 (by kernel_rfl)))
     have HL := Aside0.mk Q_HL
     refine value_ (w1 := w') (v := .pointer (some ⟨gx, 0, none⟩)) (by rfl) rfl ?_ ?_
     ·go_simp
      (try simp only [i64_w])
      try rfl
     refine hK.out _ _ ⟨(by rw [ha.out]; exact putSel_upk 7 hb_ rfl rfl rfl), Q_HZ, Q_KP, Q_HX, Q_HL, fun h0_ => absurd ((hoff 12 (by kernel_rfl)).symm.trans h0_) (by decide)⟩
    refine steps_cons ?_ ?_
    ·rintro b a w' ⟨ha, Q_HZ, Q_KP, Q_HX, Q_HL, Q_HXn⟩ hb_ hon hoff
     refine ⟨_, rfl, fun K hK => ?_⟩
     have e45 : a.tmps[45]? = some (.pointer (some ⟨gx, 0, none⟩)) := by rw [ha]; exact putSel_on (e := (10, 45, .pointer (some ⟨gx, 0, none⟩))) 7 rfl rfl (hon 10 (by kernel_rfl)) rfl
     replace ha := Aside0.mk ha
     have HZ := Aside0.mk Q_HZ
     have KP := Aside0.mk Q_KP
     have HX := Aside0.mk (Q_HX (hoff 12 (by kernel_rfl)))
     have HL := Aside0.mk Q_HL
     refine value_ (w1 := w') (v := .pointer (some ⟨gx, 9, none⟩)) (by rfl) rfl ?_ ?_
     ·go_simp
      (try simp only [i64_w])
      try rfl
     refine hK.out _ _ ⟨(by rw [ha.out]; exact putSel_upk 8 hb_ rfl rfl rfl), Q_HZ, Q_KP, Q_HX, Q_HL, fun h0_ => absurd ((hoff 12 (by kernel_rfl)).symm.trans h0_) (by decide)⟩
    refine steps_cons ?_ ?_
    ·rintro b a w' ⟨ha, Q_HZ, Q_KP, Q_HX, Q_HL, Q_HXn⟩ hb_ hon hoff
     refine ⟨_, rfl, fun K hK => ?_⟩
     have e46 : a.tmps[46]? = some (.pointer (some ⟨gx, 9, none⟩)) := by rw [ha]; exact putSel_on (e := (11, 46, .pointer (some ⟨gx, 9, none⟩))) 8 rfl rfl (hon 11 (by kernel_rfl)) rfl
     have e44 : a.tmps[44]? = some (.agg #[.int .i64 x1, .int .i64 x9]) := by rw [ha]; exact putSel_on (e := (9, 44, .agg #[.int .i64 x1, .int .i64 x9])) 6 rfl rfl (hon 9 (by kernel_rfl)) rfl
     replace ha := Aside0.mk ha
     have HZ := Aside0.mk Q_HZ
     have KP := Aside0.mk Q_KP
     have HX := Aside0.mk (Q_HX hb_)
     have HL := Aside0.mk Q_HL
     have hz0_ := blk_cell HX.out 9
     have hz1_ := blk_cell HX.out 10
     have hf0_ := blk_frozen HX.out 9
     have hf1_ := blk_frozen HX.out 10
     refine skip_ (w1 := (w'.setCell ⟨gx, 9, none⟩ (.int .i64 x1)).setCell ⟨gx, 10, none⟩ (.int .i64 x9)) (by rfl) rfl ?_ ?_
     ·go_simp
     refine hK.out _ _ ⟨(by rw [ha.out]; exact putSel_none (v := undef) rfl), Below.setCell (Below.setCell HZ.out (p := ⟨gx, 9, none⟩) (Nat.zero_le _) (.int .i64 x1)) (p := ⟨gx, 10, none⟩) (Nat.zero_le _) (.int .i64 x9), Kept.setCell (Kept.setCell KP.out (p := ⟨gx, 9, none⟩) (.inl rfl) (.int .i64 x1)) (p := ⟨gx, 10, none⟩) (.inl rfl) (.int .i64 x9), fun h0_ => absurd ((up_self b 12).symm.trans h0_) (by decide), blk_far (blk_far HL.out (p := ⟨gx, 9, none⟩) HNE.out (.int .i64 x1)) (p := ⟨gx, 10, none⟩) HNE.out (.int .i64 x9), fun _ => blk_put (blk_put HX.out 9 (.int .i64 x1) rfl) 10 (.int .i64 x9) rfl⟩
    exact steps_nil
   rintro b a w5 hall ⟨ha, Q_HZ, Q_KP, Q_HX, Q_HL, Q_HXn⟩
   clear HL HX HZ KP
   have hb2_ := hall 2 (by kernel_rfl)
   have hb3_ := hall 3 (by kernel_rfl)
   have hb4_ := hall 4 (by kernel_rfl)
   have hb6_ := hall 6 (by kernel_rfl)
   have hb7_ := hall 7 (by kernel_rfl)
   have hb8_ := hall 8 (by kernel_rfl)
   have hb9_ := hall 9 (by kernel_rfl)
   have hb10_ := hall 10 (by kernel_rfl)
   have hb11_ := hall 11 (by kernel_rfl)
   have hb12_ := hall 12 (by kernel_rfl)
   subst ha
   simp only [putSel, hb2_, hb3_, hb4_, hb6_, hb7_, hb8_, hb9_, hb10_, hb11_, hb12_, if_true, Act.put, List.setIfInBounds_toArray, List.set_cons_zero, List.set_cons_succ]
   have HZ := Aside0.mk Q_HZ
   clear Q_HZ
   have KP := Aside0.mk Q_KP
   clear Q_KP
   clear Q_HX
   have HL := Aside0.mk Q_HL
   clear Q_HL
   have HXn := Aside0.mk (Q_HXn hb12_)
   clear Q_HXn
   clear hall hb2_ hb3_ hb4_ hb6_ hb7_ hb8_ hb9_ hb10_ hb11_ hb12_
   have HX := HXn
   clear HXn
   have c3 : w5.cell? ⟨gx, 3, none⟩ = some (.int .i64 x3) := (blk_cell HX.out 3).trans rfl
   go_wp2
   go_ret2
   exact ⟨by first | rfl | (simp; done) | (simp [*]; done), HX.out, KP.out, HZ.out⟩
  | false =>
   go_enter Tryd.func28, Tryd.ntmps28
   go_wp2_with ((with_reducible refine gate_dst (N := 3) rfl ?_); refine box_event ?hg (N := 3) ?hd (cs := #[.int .i64 l0, .int .i64 l1, .int .i64 l2, .int .i64 l3]) (t := 36) ?hr ?_; (case hd => rfl); (case hg => rfl); (case hr => first | (go_simp; done) | (go_simp; rfl)); intro gl hg_ w1 hbox_ hb_; have HX_gl := Aside0.mk hbox_; have HB_w1 := Aside0.mk hb_; have HG_gl := Aside0.mk hg_; clear hbox_ hb_ hg_)
   have HNE : Aside0 (gl ≠ gx) := ⟨by have h1 := blk_lt HX.out; have h2 := HG_gl.out; omega⟩
   have KP : Aside0 (Kept w w1 (fun b => b = gx)) := ⟨Kept.of_below HB_w1.out _⟩
   have HZ : Aside0 (Below 0 w w1) := ⟨Below.mono HB_w1.out (Nat.zero_le _)⟩
   replace HX := Aside0.mk (blk_below HX.out HB_w1.out)
   have HL := HX_gl
   clear HG_gl HB_w1 HX_gl
   have hb : Below w1.heap.size w1 w1.drew := below_drew1 (Below.refl _ _)
   replace KP := Aside0.mk (Kept.then_ KP.out (Kept.of_below hb (fun b => b = gx)) (fun b hb => .inl hb)); replace HX := Aside0.mk (blk_below HX.out hb); replace HL := Aside0.mk (blk_below HL.out hb); replace HZ := Aside0.mk (Below.trans HZ.out (Below.mono hb (Nat.zero_le _)))
   clear hb
   refine start_ (n := 12) (S := fun w' => True) (ds := []) #[false, false, false, false, false, false, false, false, false, false, false, false] (by kernel_rfl) rfl rfl trivial (fun hHeld => ?_)
   refine with_tabW linkRecv.tab1 linkRecv.bits1 (fun HT_ HW_ => ?_)
   generalize w1.drew = wk_ at KP HX HL HZ hHeld ⊢
   refine pure_ (i := 1) (N := some 9) (v := ?_) (a' := ?_) #[false, true, false, false, false, false, false, false, false, false, false, false] rfl rfl (any_of HT_.out (by kernel_rfl)) (fun _ _ _ h => h) (Or.inl ⟨by rfl, ?_⟩) ?_ ?_
   rotate_left
   ·intro w'
    go_simp
    with_reducible rfl
   rotate_left
   ·simp only [Act.put, List.setIfInBounds_toArray, List.set_cons_zero, List.set_cons_succ, i64_w, i32_w]
    rfl
   refine pure_ (i := 5) (N := some 13) (v := ?_) (a' := ?_) #[false, true, false, false, false, true, false, false, false, false, false, false] rfl rfl (any_of HT_.out (by kernel_rfl)) (fun _ _ _ h => h) (Or.inl ⟨by rfl, ?_⟩) ?_ ?_
   rotate_left
   ·intro w'
    go_simp
    with_reducible rfl
   rotate_left
   ·simp only [Act.put, List.setIfInBounds_toArray, List.set_cons_zero, List.set_cons_succ, i64_w, i32_w]
    rfl
   refine inv_at [0, 2, 3, 4, 6, 7, 8, 9, 10, 11] (fun a0_ b a w' => a = putSel a0_ b [(0, 8, .agg #[.int .i64 l0, .int .i64 l1, .int .i64 l2, .int .i64 l3]), (2, 10, .pointer (some ⟨gx, 0, none⟩)), (3, 11, .pointer (some ⟨gx, 9, none⟩)), (4, 12, .agg #[.int .i64 x9, .int .i64 x10]), (6, 14, .pointer (some ⟨gx, 0, none⟩)), (7, 15, .pointer (some ⟨gx, 1, none⟩)), (8, 16, .int .i64 x1), (9, 17, .int .i64 sn), (10, 6, .int .i64 sn), (11, 7, .bool false)] ∧ (Below 0 w w') ∧ (Kept w w' (fun b => b = gx)) ∧ (w'.heap[gx]? = some (.cells #[.int .i64 x0, .int .i64 x1, .int .i64 x2, .int .i64 x3, .bool x4, .int .i64 x5, .int .i64 x6, .int .i64 x7, .int .i64 x8, .int .i64 x9, .int .i64 x10] 63 (0, 0))) ∧ (w'.heap[gl]? = some (.cells #[.int .i64 l0, .int .i64 l1, .int .i64 l2, .int .i64 l3] 36 (0, 0)))) HT_.out HW_.out (by kernel_rfl) (by kernel_rfl) ?_ ?_ ?_
   ·exact ⟨by simp only [putSel, Bool.false_eq_true, if_false], HZ.out, KP.out, HX.out, HL.out⟩
   ·skip
    clear HL HX HZ KP
    refine steps_cons ?_ ?_
    ·rintro b a w' ⟨ha, Q_HZ, Q_KP, Q_HX, Q_HL⟩ hb_ hon hoff
     refine ⟨_, rfl, fun K hK => ?_⟩
     have e3 : a.tmps[3]? = some (.pointer (some ⟨gl, 0, none⟩)) := by rw [ha]; exact (putSel_off rfl).trans rfl
     replace ha := Aside0.mk ha
     have HZ := Aside0.mk Q_HZ
     have KP := Aside0.mk Q_KP
     have HX := Aside0.mk Q_HX
     have HL := Aside0.mk Q_HL
     have hc0_ : w'.cell? ⟨gl, 0, none⟩ = some (.int .i64 l0) := (blk_cell HL.out 0).trans rfl
     have hc1_ : w'.cell? ⟨gl, 1, none⟩ = some (.int .i64 l1) := (blk_cell HL.out 1).trans rfl
     have hc2_ : w'.cell? ⟨gl, 2, none⟩ = some (.int .i64 l2) := (blk_cell HL.out 2).trans rfl
     have hc3_ : w'.cell? ⟨gl, 3, none⟩ = some (.int .i64 l3) := (blk_cell HL.out 3).trans rfl
     refine value_ (w1 := w') (v := .agg #[.int .i64 l0, .int .i64 l1, .int .i64 l2, .int .i64 l3]) (by rfl) rfl ?_ ?_
     ·go_simp
      (try simp only [i64_w])
      try rfl
     refine hK.out _ _ ⟨(by rw [ha.out]; exact putSel_upk 0 hb_ rfl rfl rfl), Q_HZ, Q_KP, Q_HX, Q_HL⟩
    refine steps_cons ?_ ?_
    ·rintro b a w' ⟨ha, Q_HZ, Q_KP, Q_HX, Q_HL⟩ hb_ hon hoff
     refine ⟨_, rfl, fun K hK => ?_⟩
     have e9 : a.tmps[9]? = some (.pointer (some ⟨gx, 0, none⟩)) := by rw [ha]; exact (putSel_off rfl).trans rfl
     replace ha := Aside0.mk ha
     have HZ := Aside0.mk Q_HZ
     have KP := Aside0.mk Q_KP
     have HX := Aside0.mk Q_HX
     have HL := Aside0.mk Q_HL
     refine value_ (w1 := w') (v := .pointer (some ⟨gx, 0, none⟩)) (by rfl) rfl ?_ ?_
     ·go_simp
      (try simp only [i64_w])
      try rfl
     refine hK.out _ _ ⟨(by rw [ha.out]; exact putSel_upk 1 hb_ rfl rfl rfl), Q_HZ, Q_KP, Q_HX, Q_HL⟩
    refine steps_cons ?_ ?_
    ·rintro b a w' ⟨ha, Q_HZ, Q_KP, Q_HX, Q_HL⟩ hb_ hon hoff
     refine ⟨_, rfl, fun K hK => ?_⟩
     have e10 : a.tmps[10]? = some (.pointer (some ⟨gx, 0, none⟩)) := by rw [ha]; exact putSel_on (e := (2, 10, .pointer (some ⟨gx, 0, none⟩))) 1 rfl rfl (hon 2 (by kernel_rfl)) rfl
     replace ha := Aside0.mk ha
     have HZ := Aside0.mk Q_HZ
     have KP := Aside0.mk Q_KP
     have HX := Aside0.mk Q_HX
     have HL := Aside0.mk Q_HL
     refine value_ (w1 := w') (v := .pointer (some ⟨gx, 9, none⟩)) (by rfl) rfl ?_ ?_
     ·go_simp
      (try simp only [i64_w])
      try rfl
     refine hK.out _ _ ⟨(by rw [ha.out]; exact putSel_upk 2 hb_ rfl rfl rfl), Q_HZ, Q_KP, Q_HX, Q_HL⟩
    refine steps_cons ?_ ?_
    ·rintro b a w' ⟨ha, Q_HZ, Q_KP, Q_HX, Q_HL⟩ hb_ hon hoff
     refine ⟨_, rfl, fun K hK => ?_⟩
     have e11 : a.tmps[11]? = some (.pointer (some ⟨gx, 9, none⟩)) := by rw [ha]; exact putSel_on (e := (3, 11, .pointer (some ⟨gx, 9, none⟩))) 2 rfl rfl (hon 3 (by kernel_rfl)) rfl
     replace ha := Aside0.mk ha
     have HZ := Aside0.mk Q_HZ
     have KP := Aside0.mk Q_KP
     have HX := Aside0.mk Q_HX
     have HL := Aside0.mk Q_HL
     have hc9_ : w'.cell? ⟨gx, 9, none⟩ = some (.int .i64 x9) := (blk_cell HX.out 9).trans rfl
     have hc10_ : w'.cell? ⟨gx, 10, none⟩ = some (.int .i64 x10) := (blk_cell HX.out 10).trans rfl
     refine value_ (w1 := w') (v := .agg #[.int .i64 x9, .int .i64 x10]) (by rfl) rfl ?_ ?_
     ·go_simp
      (try simp only [i64_w])
      try rfl
     refine hK.out _ _ ⟨(by rw [ha.out]; exact putSel_upk 3 hb_ rfl rfl rfl), Q_HZ, Q_KP, Q_HX, Q_HL⟩
    refine steps_cons ?_ ?_
    ·rintro b a w' ⟨ha, Q_HZ, Q_KP, Q_HX, Q_HL⟩ hb_ hon hoff
     refine ⟨_, rfl, fun K hK => ?_⟩
     have e13 : a.tmps[13]? = some (.pointer (some ⟨gx, 0, none⟩)) := by rw [ha]; exact (putSel_off rfl).trans rfl
     replace ha := Aside0.mk ha
     have HZ := Aside0.mk Q_HZ
     have KP := Aside0.mk Q_KP
     have HX := Aside0.mk Q_HX
     have HL := Aside0.mk Q_HL
     refine value_ (w1 := w') (v := .pointer (some ⟨gx, 0, none⟩)) (by rfl) rfl ?_ ?_
     ·go_simp
      (try simp only [i64_w])
      try rfl
     refine hK.out _ _ ⟨(by rw [ha.out]; exact putSel_upk 4 hb_ rfl rfl rfl), Q_HZ, Q_KP, Q_HX, Q_HL⟩
    refine steps_cons ?_ ?_
    ·rintro b a w' ⟨ha, Q_HZ, Q_KP, Q_HX, Q_HL⟩ hb_ hon hoff
     refine ⟨_, rfl, fun K hK => ?_⟩
     have e14 : a.tmps[14]? = some (.pointer (some ⟨gx, 0, none⟩)) := by rw [ha]; exact putSel_on (e := (6, 14, .pointer (some ⟨gx, 0, none⟩))) 4 rfl rfl (hon 6 (by kernel_rfl)) rfl
     replace ha := Aside0.mk ha
     have HZ := Aside0.mk Q_HZ
     have KP := Aside0.mk Q_KP
     have HX := Aside0.mk Q_HX
     have HL := Aside0.mk Q_HL
     refine value_ (w1 := w') (v := .pointer (some ⟨gx, 1, none⟩)) (by rfl) rfl ?_ ?_
     ·go_simp
      (try simp only [i64_w])
      try rfl
     refine hK.out _ _ ⟨(by rw [ha.out]; exact putSel_upk 5 hb_ rfl rfl rfl), Q_HZ, Q_KP, Q_HX, Q_HL⟩
    refine steps_cons ?_ ?_
    ·rintro b a w' ⟨ha, Q_HZ, Q_KP, Q_HX, Q_HL⟩ hb_ hon hoff
     refine ⟨_, rfl, fun K hK => ?_⟩
     have e15 : a.tmps[15]? = some (.pointer (some ⟨gx, 1, none⟩)) := by rw [ha]; exact putSel_on (e := (7, 15, .pointer (some ⟨gx, 1, none⟩))) 5 rfl rfl (hon 7 (by kernel_rfl)) rfl
     replace ha := Aside0.mk ha
     have HZ := Aside0.mk Q_HZ
     have KP := Aside0.mk Q_KP
     have HX := Aside0.mk Q_HX
     have HL := Aside0.mk Q_HL
     have hc1_ : w'.cell? ⟨gx, 1, none⟩ = some (.int .i64 x1) := (blk_cell HX.out 1).trans rfl
     refine value_ (w1 := w') (v := .int .i64 x1) (by rfl) rfl ?_ ?_
     ·go_simp
      (try simp only [i64_w])
      try rfl
     refine hK.out _ _ ⟨(by rw [ha.out]; exact putSel_upk 6 hb_ rfl rfl rfl), Q_HZ, Q_KP, Q_HX, Q_HL⟩
    refine steps_cons ?_ ?_
    ·rintro b a w' ⟨ha, Q_HZ, Q_KP, Q_HX, Q_HL⟩ hb_ hon hoff
     refine ⟨_, rfl, fun K hK => ?_⟩
     have e8 : a.tmps[8]? = some (.agg #[.int .i64 l0, .int .i64 l1, .int .i64 l2, .int .i64 l3]) := by rw [ha]; exact putSel_on (e := (0, 8, .agg #[.int .i64 l0, .int .i64 l1, .int .i64 l2, .int .i64 l3])) 0 rfl rfl (hon 0 (by kernel_rfl)) rfl
     have e12 : a.tmps[12]? = some (.agg #[.int .i64 x9, .int .i64 x10]) := by rw [ha]; exact putSel_on (e := (4, 12, .agg #[.int .i64 x9, .int .i64 x10])) 3 rfl rfl (hon 4 (by kernel_rfl)) rfl
     have e16 : a.tmps[16]? = some (.int .i64 x1) := by rw [ha]; exact putSel_on (e := (8, 16, .int .i64 x1)) 6 rfl rfl (hon 8 (by kernel_rfl)) rfl
     replace ha := Aside0.mk ha
     have HZ := Aside0.mk Q_HZ
     have KP := Aside0.mk Q_KP
     have HX := Aside0.mk Q_HX
     have HL := Aside0.mk Q_HL
     refine goes_ Tryd.func37 (by kernel_rfl) rfl #[.agg #[.int .i64 l0, .int .i64 l1, .int .i64 l2, .int .i64 l3], .agg #[.int .i64 x9, .int .i64 x10], .int .i64 x1] (by rfl) rfl rfl (by first | (simp only [List.map_toArray, List.map_cons, List.map_nil, Act.eval, Array.getD_eq_getD_getElem?, Option.getD_some, e8, e12, e16]; done) | (simp only [List.map_toArray, List.map_cons, List.map_nil, Act.eval, Array.getD_eq_getD_getElem?, Option.getD_some, e8, e12, e16]; rfl)) ?_
     refine (sees.calls l0 l1 l2 l3 x9 x10 x1 sn w' HSN.out).mono ?_
     rintro e w5 ⟨rfl, hb⟩
     refine ⟨_, rfl, ?_⟩
     refine hK.out _ _ ⟨(by rw [ha.out]; exact putSel_upk 7 hb_ rfl rfl rfl), Below.trans HZ.out (Below.mono hb (Nat.zero_le _)), Kept.then_ KP.out (Kept.of_below hb (fun b => b = gx)) (fun b hb => .inl hb), blk_below HX.out hb, blk_below HL.out hb⟩
    refine steps_cons ?_ ?_
    ·rintro b a w' ⟨ha, Q_HZ, Q_KP, Q_HX, Q_HL⟩ hb_ hon hoff
     refine ⟨_, rfl, fun K hK => ?_⟩
     have e17 : a.tmps[17]? = some (.int .i64 sn) := by rw [ha]; exact putSel_on (e := (9, 17, .int .i64 sn)) 7 rfl rfl (hon 9 (by kernel_rfl)) rfl
     replace ha := Aside0.mk ha
     have HZ := Aside0.mk Q_HZ
     have KP := Aside0.mk Q_KP
     have HX := Aside0.mk Q_HX
     have HL := Aside0.mk Q_HL
     refine value_ (w1 := w') (v := .int .i64 sn) (by rfl) rfl ?_ ?_
     ·go_simp
      (try simp only [i64_w])
      try rfl
     refine hK.out _ _ ⟨(by rw [ha.out]; exact putSel_upk 8 hb_ rfl rfl rfl), Q_HZ, Q_KP, Q_HX, Q_HL⟩
    refine steps_cons ?_ ?_
    ·rintro b a w' ⟨ha, Q_HZ, Q_KP, Q_HX, Q_HL⟩ hb_ hon hoff
     refine ⟨_, rfl, fun K hK => ?_⟩
     replace ha := Aside0.mk ha
     have HZ := Aside0.mk Q_HZ
     have KP := Aside0.mk Q_KP
     have HX := Aside0.mk Q_HX
     have HL := Aside0.mk Q_HL
     refine value_ (w1 := w') (v := .bool false) (by rfl) rfl ?_ ?_
     ·go_simp
      (try simp only [i64_w])
      try rfl
     refine hK.out _ _ ⟨(by rw [ha.out]; exact putSel_upk 9 hb_ rfl rfl rfl), Q_HZ, Q_KP, Q_HX, Q_HL⟩
    exact steps_nil
   rintro b a w2 hall ⟨ha, Q_HZ, Q_KP, Q_HX, Q_HL⟩
   clear HL HX HZ KP
   have hb0_ := hall 0 (by kernel_rfl)
   have hb2_ := hall 2 (by kernel_rfl)
   have hb3_ := hall 3 (by kernel_rfl)
   have hb4_ := hall 4 (by kernel_rfl)
   have hb6_ := hall 6 (by kernel_rfl)
   have hb7_ := hall 7 (by kernel_rfl)
   have hb8_ := hall 8 (by kernel_rfl)
   have hb9_ := hall 9 (by kernel_rfl)
   have hb10_ := hall 10 (by kernel_rfl)
   have hb11_ := hall 11 (by kernel_rfl)
   subst ha
   simp only [putSel, hb0_, hb2_, hb3_, hb4_, hb6_, hb7_, hb8_, hb9_, hb10_, hb11_, if_true, Act.put, List.setIfInBounds_toArray, List.set_cons_zero, List.set_cons_succ]
   have HZ := Aside0.mk Q_HZ
   clear Q_HZ
   have KP := Aside0.mk Q_KP
   clear Q_KP
   have HX := Aside0.mk Q_HX
   clear Q_HX
   have HL := Aside0.mk Q_HL
   clear Q_HL
   clear hall hb0_ hb2_ hb3_ hb4_ hb6_ hb7_ hb8_ hb9_ hb10_ hb11_
   have c2 : w2.cell? ⟨gx, 2, none⟩ = some (.int .i64 x2) := (blk_cell HX.out 2).trans rfl
   have d0 : w2.cell? ⟨gl, 0, none⟩ = some (.int .i64 l0) := (blk_cell HL.out 0).trans rfl
   have f2 := blk_frozen HX.out 2
   go_wp2_with (fail)
   clear c2 d0 f2
   replace KP := Aside0.mk (Kept.setCell KP.out (p := ⟨gx, 2, none⟩) (.inl rfl) (.int .i64 sn))
   replace HZ := Aside0.mk (Below.setCell HZ.out (p := ⟨gx, 2, none⟩) (Nat.zero_le _) (.int .i64 sn))
   replace HL := Aside0.mk (blk_far HL.out (p := ⟨gx, 2, none⟩) HNE.out (.int .i64 sn))
   replace HX := Aside0.mk (blk_put (cs := #[.int .i64 x0, .int .i64 x1, .int .i64 x2, .int .i64 x3, .bool x4, .int .i64 x5, .int .i64 x6, .int .i64 x7, .int .i64 x8, .int .i64 x9, .int .i64 x10]) (cs' := #[.int .i64 x0, .int .i64 x1, .int .i64 sn, .int .i64 x3, .bool x4, .int .i64 x5, .int .i64 x6, .int .i64 x7, .int .i64 x8, .int .i64 x9, .int .i64 x10]) HX.out 2 (.int .i64 sn) rfl)
   generalize (w2.setCell ⟨gx, 2, none⟩ (.int .i64 sn)) = w3 at KP HX HL HZ ⊢
   have hb : Below w3.heap.size w3 w3.drew := below_drew1 (Below.refl _ _)
   replace KP := Aside0.mk (Kept.then_ KP.out (Kept.of_below hb (fun b => b = gx)) (fun b hb => .inl hb)); replace HX := Aside0.mk (blk_below HX.out hb); replace HL := Aside0.mk (blk_below HL.out hb); replace HZ := Aside0.mk (Below.trans HZ.out (Below.mono hb (Nat.zero_le _)))
   clear hb
   refine start_ (n := 13) (S := fun w' => True) (ds := []) #[false, false, false, false, false, false, false, false, false, false, false, false, false] (by kernel_rfl) rfl rfl trivial (fun hHeld => ?_)
   refine with_tabW linkRecv.tab5 linkRecv.bits5 (fun HT_ HW_ => ?_)
   generalize w3.drew = wk_ at KP HX HL HZ hHeld ⊢
   refine pure_ (i := 0) (N := some 35) (v := ?_) (a' := ?_) #[true, false, false, false, false, false, false, false, false, false, false, false, false] rfl rfl (any_of HT_.out (by kernel_rfl)) (fun _ _ _ h => h) (Or.inl ⟨by rfl, ?_⟩) ?_ ?_
   rotate_left
   ·intro w'
    go_simp
    with_reducible rfl
   rotate_left
   ·simp only [Act.put, List.setIfInBounds_toArray, List.set_cons_zero, List.set_cons_succ, i64_w, i32_w]
    rfl
   refine pure_ (i := 1) (N := some 36) (v := ?_) (a' := ?_) #[true, true, false, false, false, false, false, false, false, false, false, false, false] rfl rfl (any_of HT_.out (by kernel_rfl)) (fun _ _ _ h => h) (Or.inl ⟨by rfl, ?_⟩) ?_ ?_
   rotate_left
   ·intro w'
    go_simp
    with_reducible rfl
   rotate_left
   ·simp only [Act.put, List.setIfInBounds_toArray, List.set_cons_zero, List.set_cons_succ, i64_w, i32_w]
    rfl
   refine pure_ (i := 5) (N := some 40) (v := ?_) (a' := ?_) #[true, true, false, false, false, true, false, false, false, false, false, false, false] rfl rfl (any_of HT_.out (by kernel_rfl)) (fun _ _ _ h => h) (Or.inl ⟨by rfl, ?_⟩) ?_ ?_
   rotate_left
   ·intro w'
    go_simp
    with_reducible rfl
   rotate_left
   ·simp only [Act.put, List.setIfInBounds_toArray, List.set_cons_zero, List.set_cons_succ, i64_w, i32_w]
    rfl
   refine inv_at [2, 3, 4, 6, 7, 8, 9, 10, 11, 12] (fun a0_ b a w' => a = putSel a0_ b [(2, 37, .pointer (some ⟨gx, 0, none⟩)), (3, 38, .pointer (some ⟨gx, 9, none⟩)), (4, 39, .agg #[.int .i64 x9, .int .i64 x10]), (6, 41, .pointer (some ⟨gx, 0, none⟩)), (7, 42, .pointer (some ⟨gx, 1, none⟩)), (8, 43, .int .i64 x1), (9, 44, .agg #[.int .i64 x1, .int .i64 x9]), (10, 45, .pointer (some ⟨gx, 0, none⟩)), (11, 46, .pointer (some ⟨gx, 9, none⟩))] ∧ (Below 0 w w') ∧ (Kept w w' (fun b => b = gx)) ∧ (b 12 = false → w'.heap[gx]? = some (.cells #[.int .i64 x0, .int .i64 x1, .int .i64 sn, .int .i64 x3, .bool x4, .int .i64 x5, .int .i64 x6, .int .i64 x7, .int .i64 x8, .int .i64 x9, .int .i64 x10] 63 (0, 0))) ∧ (w'.heap[gl]? = some (.cells #[.int .i64 l0, .int .i64 l1, .int .i64 l2, .int .i64 l3] 36 (0, 0))) ∧ (b 12 = true → w'.heap[gx]? = some (.cells #[.int .i64 x0, .int .i64 x1, .int .i64 sn, .int .i64 x3, .bool x4, .int .i64 x5, .int .i64 x6, .int .i64 x7, .int .i64 x8, .int .i64 x1, .int .i64 x9] 63 (0, 0)))) HT_.out HW_.out (by kernel_rfl) (by kernel_rfl) ?_ ?_ ?_
   ·exact ⟨by simp only [putSel, Bool.false_eq_true, if_false], HZ.out, KP.out, fun _ => HX.out, HL.out, fun h_ => absurd h_ (by decide)⟩
   ·skip
    clear HL HX HZ KP
    refine steps_cons ?_ ?_
    ·rintro b a w' ⟨ha, Q_HZ, Q_KP, Q_HX, Q_HL, Q_HXn⟩ hb_ hon hoff
     refine ⟨_, rfl, fun K hK => ?_⟩
     have e36 : a.tmps[36]? = some (.pointer (some ⟨gx, 0, none⟩)) := by rw [ha]; exact (putSel_off rfl).trans rfl
     replace ha := Aside0.mk ha
     have HZ := Aside0.mk Q_HZ
     have KP := Aside0.mk Q_KP
     have HX := Aside0.mk (Q_HX (hoff 12 (by kernel_rfl)))
     have HL := Aside0.mk Q_HL
     refine value_ (w1 := w') (v := .pointer (some ⟨gx, 0, none⟩)) (by rfl) rfl ?_ ?_
     ·go_simp
      (try simp only [i64_w])
      try rfl
     refine hK.out _ _ ⟨(by rw [ha.out]; exact putSel_upk 0 hb_ rfl rfl rfl), Q_HZ, Q_KP, Q_HX, Q_HL, fun h0_ => absurd ((hoff 12 (by kernel_rfl)).symm.trans h0_) (by decide)⟩
    refine steps_cons ?_ ?_
    ·rintro b a w' ⟨ha, Q_HZ, Q_KP, Q_HX, Q_HL, Q_HXn⟩ hb_ hon hoff
     refine ⟨_, rfl, fun K hK => ?_⟩
     have e37 : a.tmps[37]? = some (.pointer (some ⟨gx, 0, none⟩)) := by rw [ha]; exact putSel_on (e := (2, 37, .pointer (some ⟨gx, 0, none⟩))) 0 rfl rfl (hon 2 (by kernel_rfl)) rfl
     replace ha := Aside0.mk ha
     have HZ := Aside0.mk Q_HZ
     have KP := Aside0.mk Q_KP
     have HX := Aside0.mk (Q_HX (hoff 12 (by kernel_rfl)))
     have HL := Aside0.mk Q_HL
     refine value_ (w1 := w') (v := .pointer (some ⟨gx, 9, none⟩)) (by rfl) rfl ?_ ?_
     ·go_simp
      (try simp only [i64_w])
      try rfl
     refine hK.out _ _ ⟨(by rw [ha.out]; exact putSel_upk 1 hb_ rfl rfl rfl), Q_HZ, Q_KP, Q_HX, Q_HL, fun h0_ => absurd ((hoff 12 (by kernel_rfl)).symm.trans h0_) (by decide)⟩
    refine steps_cons ?_ ?_
    ·rintro b a w' ⟨ha, Q_HZ, Q_KP, Q_HX, Q_HL, Q_HXn⟩ hb_ hon hoff
     refine ⟨_, rfl, fun K hK => ?_⟩
     have e38 : a.tmps[38]? = some (.pointer (some ⟨gx, 9, none⟩)) := by rw [ha]; exact putSel_on (e := (3, 38, .pointer (some ⟨gx, 9, none⟩))) 1 rfl rfl (hon 3 (by kernel_rfl)) rfl
     replace ha := Aside0.mk ha
     have HZ := Aside0.mk Q_HZ
     have KP := Aside0.mk Q_KP
     have HX := Aside0.mk (Q_HX (hoff 12 (by kernel_rfl)))
     have HL := Aside0.mk Q_HL
     have hc9_ : w'.cell? ⟨gx, 9, none⟩ = some (.int .i64 x9) := (blk_cell HX.out 9).trans rfl
     have hc10_ : w'.cell? ⟨gx, 10, none⟩ = some (.int .i64 x10) := (blk_cell HX.out 10).trans rfl
     refine value_ (w1 := w') (v := .agg #[.int .i64 x9, .int .i64 x10]) (by rfl) rfl ?_ ?_
     ·go_simp
      (try simp only [i64_w])
      try rfl
     refine hK.out _ _ ⟨(by rw [ha.out]; exact putSel_upk 2 hb_ rfl rfl rfl), Q_HZ, Q_KP, Q_HX, Q_HL, fun h0_ => absurd ((hoff 12 (by kernel_rfl)).symm.trans h0_) (by decide)⟩
    refine steps_cons ?_ ?_
    ·rintro b a w' ⟨ha, Q_HZ, Q_KP, Q_HX, Q_HL, Q_HXn⟩ hb_ hon hoff
     refine ⟨_, rfl, fun K hK => ?_⟩
     have e40 : a.tmps[40]? = some (.pointer (some ⟨gx, 0, none⟩)) := by rw [ha]; exact (putSel_off rfl).trans rfl
     replace ha := Aside0.mk ha
     have HZ := Aside0.mk Q_HZ
     have KP := Aside0.mk Q_KP
     have HX := Aside0.mk (Q_HX (hoff 12 (by kernel_rfl)))
     have HL := Aside0.mk Q_HL
     refine value_ (w1 := w') (v := .pointer (some ⟨gx, 0, none⟩)) (by rfl) rfl ?_ ?_
     ·go_simp
      (try simp only [i64_w])
      try rfl
     refine hK.out _ _ ⟨(by rw [ha.out]; exact putSel_upk 3 hb_ rfl rfl rfl), Q_HZ, Q_KP, Q_HX, Q_HL, fun h0_ => absurd ((hoff 12 (by kernel_rfl)).symm.trans h0_) (by decide)⟩
    refine steps_cons ?_ ?_
    ·rintro b a w' ⟨ha, Q_HZ, Q_KP, Q_HX, Q_HL, Q_HXn⟩ hb_ hon hoff
     refine ⟨_, rfl, fun K hK => ?_⟩
     have e41 : a.tmps[41]? = some (.pointer (some ⟨gx, 0, none⟩)) := by rw [ha]; exact putSel_on (e := (6, 41, .pointer (some ⟨gx, 0, none⟩))) 3 rfl rfl (hon 6 (by kernel_rfl)) rfl
     replace ha := Aside0.mk ha
     have HZ := Aside0.mk Q_HZ
     have KP := Aside0.mk Q_KP
     have HX := Aside0.mk (Q_HX (hoff 12 (by kernel_rfl)))
     have HL := Aside0.mk Q_HL
     refine value_ (w1 := w') (v := .pointer (some ⟨gx, 1, none⟩)) (by rfl) rfl ?_ ?_
     ·go_simp
      (try simp only [i64_w])
      try rfl
     refine hK.out _ _ ⟨(by rw [ha.out]; exact putSel_upk 4 hb_ rfl rfl rfl), Q_HZ, Q_KP, Q_HX, Q_HL, fun h0_ => absurd ((hoff 12 (by kernel_rfl)).symm.trans h0_) (by decide)⟩
    refine steps_cons ?_ ?_
    ·rintro b a w' ⟨ha, Q_HZ, Q_KP, Q_HX, Q_HL, Q_HXn⟩ hb_ hon hoff
     refine ⟨_, rfl, fun K hK => ?_⟩
     have e42 : a.tmps[42]? = some (.pointer (some ⟨gx, 1, none⟩)) := by rw [ha]; exact putSel_on (e := (7, 42, .pointer (some ⟨gx, 1, none⟩))) 4 rfl rfl (hon 7 (by kernel_rfl)) rfl
     replace ha := Aside0.mk ha
     have HZ := Aside0.mk Q_HZ
     have KP := Aside0.mk Q_KP
     have HX := Aside0.mk (Q_HX (hoff 12 (by kernel_rfl)))
     have HL := Aside0.mk Q_HL
     have hc1_ : w'.cell? ⟨gx, 1, none⟩ = some (.int .i64 x1) := (blk_cell HX.out 1).trans rfl
     refine value_ (w1 := w') (v := .int .i64 x1) (by rfl) rfl ?_ ?_
     ·go_simp
      (try simp only [i64_w])
      try rfl
     refine hK.out _ _ ⟨(by rw [ha.out]; exact putSel_upk 5 hb_ rfl rfl rfl), Q_HZ, Q_KP, Q_HX, Q_HL, fun h0_ => absurd ((hoff 12 (by kernel_rfl)).symm.trans h0_) (by decide)⟩
    refine steps_cons ?_ ?_
    ·rintro b a w' ⟨ha, Q_HZ, Q_KP, Q_HX, Q_HL, Q_HXn⟩ hb_ hon hoff
     refine ⟨_, rfl, fun K hK => ?_⟩
     have e39 : a.tmps[39]? = some (.agg #[.int .i64 x9, .int .i64 x10]) := by rw [ha]; exact putSel_on (e := (4, 39, .agg #[.int .i64 x9, .int .i64 x10])) 2 rfl rfl (hon 4 (by kernel_rfl)) rfl
     have e43 : a.tmps[43]? = some (.int .i64 x1) := by rw [ha]; exact putSel_on (e := (8, 43, .int .i64 x1)) 5 rfl rfl (hon 8 (by kernel_rfl)) rfl
     replace ha := Aside0.mk ha
     have HZ := Aside0.mk Q_HZ
     have KP := Aside0.mk Q_KP
     have HX := Aside0.mk (Q_HX (hoff 12 (by kernel_rfl)))
     have HL := Aside0.mk Q_HL
     refine goes_ Tryd.func39 (by kernel_rfl) rfl #[.agg #[.int .i64 x9, .int .i64 x10], .int .i64 x1] (by rfl) rfl rfl (by first | (simp only [List.map_toArray, List.map_cons, List.map_nil, Act.eval, Array.getD_eq_getD_getElem?, Option.getD_some, e39, e43]; done) | (simp only [List.map_toArray, List.map_cons, List.map_nil, Act.eval, Array.getD_eq_getD_getElem?, Option.getD_some, e39, e43]; rfl)) ?_
     refine (moveOn.calls x9 x10 x1 w').mono ?_
     rintro e w5 ⟨rfl, hb⟩
     refine ⟨_, rfl, ?_⟩
     refine hK.out _ _ ⟨(by rw [ha.out]; exact putSel_upk 6 hb_ rfl rfl rfl), Below.trans HZ.out (Below.mono hb (Nat.zero_le _)), Kept.then_ KP.out (Kept.of_below hb (fun b => b = gx)) (fun b hb => .inl hb), fun _ => blk_below HX.out hb, blk_below HL.out hb, fun h0_ => absurd ((hoff 12 (by kernel_rfl)).symm.trans h0_) (by decide)⟩
    refine steps_cons ?_ ?_
    ·rintro b a w' ⟨ha, Q_HZ, Q_KP, Q_HX, Q_HL, Q_HXn⟩ hb_ hon hoff
     refine ⟨_, rfl, fun K hK => ?_⟩
     have e35 : a.tmps[35]? = some (.pointer (some ⟨gx, 0, none⟩)) := by rw [ha]; exact (putSel_off rfl).trans rfl
     replace ha := Aside0.mk ha
     have HZ := Aside0.mk Q_HZ
     have KP := Aside0.mk Q_KP
     have HX := Aside0.mk (Q_HX (hoff 12 (by kernel_rfl)))
     have HL := Aside0.mk Q_HL
     refine value_ (w1 := w') (v := .pointer (some ⟨gx, 0, none⟩)) (by rfl) rfl ?_ ?_
     ·go_simp
      (try simp only [i64_w])
      try rfl
     refine hK.out _ _ ⟨(by rw [ha.out]; exact putSel_upk 7 hb_ rfl rfl rfl), Q_HZ, Q_KP, Q_HX, Q_HL, fun h0_ => absurd ((hoff 12 (by kernel_rfl)).symm.trans h0_) (by decide)⟩
    refine steps_cons ?_ ?_
    ·rintro b a w' ⟨ha, Q_HZ, Q_KP, Q_HX, Q_HL, Q_HXn⟩ hb_ hon hoff
     refine ⟨_, rfl, fun K hK => ?_⟩
     have e45 : a.tmps[45]? = some (.pointer (some ⟨gx, 0, none⟩)) := by rw [ha]; exact putSel_on (e := (10, 45, .pointer (some ⟨gx, 0, none⟩))) 7 rfl rfl (hon 10 (by kernel_rfl)) rfl
     replace ha := Aside0.mk ha
     have HZ := Aside0.mk Q_HZ
     have KP := Aside0.mk Q_KP
     have HX := Aside0.mk (Q_HX (hoff 12 (by kernel_rfl)))
     have HL := Aside0.mk Q_HL
     refine value_ (w1 := w') (v := .pointer (some ⟨gx, 9, none⟩)) (by rfl) rfl ?_ ?_
     ·go_simp
      (try simp only [i64_w])
      try rfl
     refine hK.out _ _ ⟨(by rw [ha.out]; exact putSel_upk 8 hb_ rfl rfl rfl), Q_HZ, Q_KP, Q_HX, Q_HL, fun h0_ => absurd ((hoff 12 (by kernel_rfl)).symm.trans h0_) (by decide)⟩
    refine steps_cons ?_ ?_
    ·rintro b a w' ⟨ha, Q_HZ, Q_KP, Q_HX, Q_HL, Q_HXn⟩ hb_ hon hoff
     refine ⟨_, rfl, fun K hK => ?_⟩
     have e46 : a.tmps[46]? = some (.pointer (some ⟨gx, 9, none⟩)) := by rw [ha]; exact putSel_on (e := (11, 46, .pointer (some ⟨gx, 9, none⟩))) 8 rfl rfl (hon 11 (by kernel_rfl)) rfl
     have e44 : a.tmps[44]? = some (.agg #[.int .i64 x1, .int .i64 x9]) := by rw [ha]; exact putSel_on (e := (9, 44, .agg #[.int .i64 x1, .int .i64 x9])) 6 rfl rfl (hon 9 (by kernel_rfl)) rfl
     replace ha := Aside0.mk ha
     have HZ := Aside0.mk Q_HZ
     have KP := Aside0.mk Q_KP
     have HX := Aside0.mk (Q_HX hb_)
     have HL := Aside0.mk Q_HL
     have hz0_ := blk_cell HX.out 9
     have hz1_ := blk_cell HX.out 10
     have hf0_ := blk_frozen HX.out 9
     have hf1_ := blk_frozen HX.out 10
     refine skip_ (w1 := (w'.setCell ⟨gx, 9, none⟩ (.int .i64 x1)).setCell ⟨gx, 10, none⟩ (.int .i64 x9)) (by rfl) rfl ?_ ?_
     ·go_simp
     refine hK.out _ _ ⟨(by rw [ha.out]; exact putSel_none (v := undef) rfl), Below.setCell (Below.setCell HZ.out (p := ⟨gx, 9, none⟩) (Nat.zero_le _) (.int .i64 x1)) (p := ⟨gx, 10, none⟩) (Nat.zero_le _) (.int .i64 x9), Kept.setCell (Kept.setCell KP.out (p := ⟨gx, 9, none⟩) (.inl rfl) (.int .i64 x1)) (p := ⟨gx, 10, none⟩) (.inl rfl) (.int .i64 x9), fun h0_ => absurd ((up_self b 12).symm.trans h0_) (by decide), blk_far (blk_far HL.out (p := ⟨gx, 9, none⟩) HNE.out (.int .i64 x1)) (p := ⟨gx, 10, none⟩) HNE.out (.int .i64 x9), fun _ => blk_put (blk_put HX.out 9 (.int .i64 x1) rfl) 10 (.int .i64 x9) rfl⟩
    exact steps_nil
   rintro b a w5 hall ⟨ha, Q_HZ, Q_KP, Q_HX, Q_HL, Q_HXn⟩
   clear HL HX HZ KP
   have hb2_ := hall 2 (by kernel_rfl)
   have hb3_ := hall 3 (by kernel_rfl)
   have hb4_ := hall 4 (by kernel_rfl)
   have hb6_ := hall 6 (by kernel_rfl)
   have hb7_ := hall 7 (by kernel_rfl)
   have hb8_ := hall 8 (by kernel_rfl)
   have hb9_ := hall 9 (by kernel_rfl)
   have hb10_ := hall 10 (by kernel_rfl)
   have hb11_ := hall 11 (by kernel_rfl)
   have hb12_ := hall 12 (by kernel_rfl)
   subst ha
   simp only [putSel, hb2_, hb3_, hb4_, hb6_, hb7_, hb8_, hb9_, hb10_, hb11_, hb12_, if_true, Act.put, List.setIfInBounds_toArray, List.set_cons_zero, List.set_cons_succ]
   have HZ := Aside0.mk Q_HZ
   clear Q_HZ
   have KP := Aside0.mk Q_KP
   clear Q_KP
   clear Q_HX
   have HL := Aside0.mk Q_HL
   clear Q_HL
   have HXn := Aside0.mk (Q_HXn hb12_)
   clear Q_HXn
   clear hall hb2_ hb3_ hb4_ hb6_ hb7_ hb8_ hb9_ hb10_ hb11_ hb12_
   have HX := HXn
   clear HXn
   have c3 : w5.cell? ⟨gx, 3, none⟩ = some (.int .i64 x3) := (blk_cell HX.out 3).trans rfl
   go_wp2
   go_ret2
   exact ⟨by first | rfl | (simp; done) | (simp [*]; done), HX.out, KP.out, HZ.out⟩

end Go.Proofs.YteccfnppbonniaaDoor.Pa

namespace Go.Proofs.YteccfnppbonniaaDoor.Pa
open Go.RowKit Go.Proofs.YteccfnppbonniaaDoorW.PrintWords Go.Proofs.YteccfnppbonniaaDoorW.PrintLast Go.Proofs.YteccfnppbonniaaDoorW.PrintMore
attribute [local go_sem] max2_int min2_int max_two min_two max_three min_three max_four min_four   -- for this text's walks alone
set_option linter.unusedVariables false
set_option linter.unusedSimpArgs false

/-! ### impl_RunLink: function 13 -/
def ilLoop (l0 l1 l2 l3 : Int) (s : ByteArray) : Nat → Nat → Int → Int → Int → Int → Bool → Int → Int → Int → Int → Int → Int → List Int → Option (List Int × Int)
 | 0, _, x0, _, _, _, _, _, _, _, _, _, _, out => some (out, x0)
 | n + 1, i, x0, x1, x2, x3, x4, x5, x6, x7, x8, x9, x10, out =>
  if bt s (i : Int) = 115 then (seesP l1 x7 x8 x2).bind fun sn => (actP l0 l2 l3 sn x0 x1 (advP l2 x3 x4 x5 x6).1 (advP l2 x3 x4 x5 x6).2.1 (advP l2 x3 x4 x5 x6).2.2.1 (advP l2 x3 x4 x5 x6).2.2.2).bind fun z => ilLoop l0 l1 l2 l3 s n (i + 1) z.1 z.2.1 x2 z.2.2.1 z.2.2.2.1 z.2.2.2.2.1 z.2.2.2.2.2 x2 x7 x9 x10 out
  else (seesP l1 x9 x10 x1).bind fun sn => ilLoop l0 l1 l2 l3 s n (i + 1) x0 x1 (takeP l0 x2 sn).1 x3 x4 x5 x6 x7 x8 x1 x9 (if (takeP l0 x2 sn).2 = true then out ++ [x3] else out)
def impl_RunLink.f (a0_0 a0_1 a0_2 a0_3 : Int) (a1 : ByteArray) : Option (List Int × Int × Bool) :=
 (impl_ValidLink.f a0_0 a0_1 a0_2 a0_3).bind fun v => match v with
  | false => some ([], 0, false)
  | true => (impl_isOrder.f a1).bind fun o => match o with
   | false => some ([], 0, false)
   | true => if a1.size ≤ 1000 then (ilLoop a0_0 a0_1 a0_2 a0_3 a1 a1.size 0 0 0 0 (-1) false 0 0 0 0 0 0 []).bind fun q => some (q.1, q.2, true) else none
set_option maxHeartbeats 8000000 in
set_option maxRecDepth 100000 in
theorem impl_RunLink.calls (a0_0 a0_1 a0_2 a0_3 : Int) (a1 : ByteArray) (r1 : List Int) (r2 : Int) (r3 : Bool) (w : World) (h : impl_RunLink.f a0_0 a0_1 a0_2 a0_3 a1 = some (r1, r2, r3)) :
  Calls Tryd.prog 13 #[.agg #[.int .i64 a0_0, .int .i64 a0_1, .int .i64 a0_2, .int .i64 a0_3], .string a1] w fun e w' => ∃ v0_ : Value, e = .returned (.tuple #[v0_, .int .i64 r2, .bool r3]) ∧ Kd.R (Kd.int .i64) 2 w' w.heap.size (fun _ => True) v0_ r1 ∧ Below w.heap.size w w' := by
 have hu := Tryd.underlying36
 have hu2 := Tryd.underlying63
 unfold impl_RunLink.f at h
 obtain ⟨v, hv, h⟩ := Option.bind_eq_some_iff.mp h
 have HV := Aside0.mk hv
 clear hv
 cases v with
 | false =>
  injection h with h
  injection h with e1 e2
  injection e2 with e2 e3
  subst e1
  subst e2
  subst e3
  go_enter Tryd.func13, Tryd.ntmps13
  go_wp2_with (first | ((with_reducible refine gate_dst (N := 2) rfl ?_); refine box_event ?hg (N := 2) ?hd (cs := #[.int .i64 a0_0, .int .i64 a0_1, .int .i64 a0_2, .int .i64 a0_3]) (t := 36) ?hr ?_; (case hd => rfl); (case hg => rfl); (case hr => first | (go_simp; done) | (go_simp; rfl)); intro gq hg_ w1 hbox_ hb_; have HX_gq := Aside0.mk hbox_; have HB_w1 := Aside0.mk hb_; have HG_gq := Aside0.mk hg_; clear hbox_ hb_ hg_; have b0 := blk_cell HX_gq.out 0; have b1 := blk_cell HX_gq.out 1; have b2 := blk_cell HX_gq.out 2; have b3 := blk_cell HX_gq.out 3) | (go_at_call 25; refine (impl_ValidLink.calls _ _ _ _ _ _ HV.out).mono ?_; rintro e w2 ⟨rfl, hb⟩; have HB2 := Aside0.mk (below_step HB_w1.out hb); have HX2 := Aside0.mk (blk_below HX_gq.out hb); clear hb b0 b1 b2 b3; have b0 := blk_cell HX2.out 0; have b1 := blk_cell HX2.out 1; have b2 := blk_cell HX2.out 2; have b3 := blk_cell HX2.out 3))
  refine bodyPost_ret (results_tmp3 rfl _ _ _) rfl ?_
  exact ⟨_, rfl, Kd.R_nil _ _ _ _ _, HB2.out⟩
 | true =>
  dsimp only at h
  obtain ⟨o, ho, h⟩ := Option.bind_eq_some_iff.mp h
  have HR := Aside0.mk ho
  clear ho
  cases o with
  | false =>
   injection h with h
   injection h with e1 e2
   injection e2 with e2 e3
   subst e1
   subst e2
   subst e3
   go_enter Tryd.func13, Tryd.ntmps13
   go_wp2_with (first | ((with_reducible refine gate_dst (N := 2) rfl ?_); refine box_event ?hg (N := 2) ?hd (cs := #[.int .i64 a0_0, .int .i64 a0_1, .int .i64 a0_2, .int .i64 a0_3]) (t := 36) ?hr ?_; (case hd => rfl); (case hg => rfl); (case hr => first | (go_simp; done) | (go_simp; rfl)); intro gq hg_ w1 hbox_ hb_; have HX_gq := Aside0.mk hbox_; have HB_w1 := Aside0.mk hb_; have HG_gq := Aside0.mk hg_; clear hbox_ hb_ hg_; have b0 := blk_cell HX_gq.out 0; have b1 := blk_cell HX_gq.out 1; have b2 := blk_cell HX_gq.out 2; have b3 := blk_cell HX_gq.out 3) | (go_at_call 25; refine (impl_ValidLink.calls _ _ _ _ _ _ HV.out).mono ?_; rintro e w2 ⟨rfl, hb⟩; have HB2 := Aside0.mk (below_step HB_w1.out hb); have HX2 := Aside0.mk (blk_below HX_gq.out hb); clear hb b0 b1 b2 b3; have b0 := blk_cell HX2.out 0; have b1 := blk_cell HX2.out 1; have b2 := blk_cell HX2.out 2; have b3 := blk_cell HX2.out 3) | (go_at_call 19; refine (impl_isOrder.calls _ _ _ HR.out).mono ?_; rintro e w3 ⟨rfl, hb⟩; have HB3 := Aside0.mk (below_step HB2.out hb); have HX3 := Aside0.mk (blk_below HX2.out hb); clear hb b0 b1 b2 b3))
   refine bodyPost_ret (results_tmp3 rfl _ _ _) rfl ?_
   exact ⟨_, rfl, Kd.R_nil _ _ _ _ _, HB3.out⟩
  | true =>
   dsimp only at h
   by_cases hs : a1.size ≤ 1000
   case neg => rw [if_neg hs] at h; exact absurd h (by simp)
   rw [if_pos hs] at h
   obtain ⟨⟨out0, res0⟩, hl, h⟩ := Option.bind_eq_some_iff.mp h
   injection h with h
   injection h with e1 e2
   injection e2 with e2 e3
   subst e1
   subst e2
   subst e3
   have HL := Aside0.mk hl
   have HS_ := Aside0.mk hs
   clear hl hs
   go_enter Tryd.func13, Tryd.ntmps13
   go_wp2_with (first | ((with_reducible refine gate_dst (N := 2) rfl ?_); refine box_event ?hg (N := 2) ?hd (cs := #[.int .i64 a0_0, .int .i64 a0_1, .int .i64 a0_2, .int .i64 a0_3]) (t := 36) ?hr ?_; (case hd => rfl); (case hg => rfl); (case hr => first | (go_simp; done) | (go_simp; rfl)); intro gq hg_ w1 hbox_ hb_; have HX_gq := Aside0.mk hbox_; have HB_w1 := Aside0.mk hb_; have HG_gq := Aside0.mk hg_; clear hbox_ hb_ hg_; have b0 := blk_cell HX_gq.out 0; have b1 := blk_cell HX_gq.out 1; have b2 := blk_cell HX_gq.out 2; have b3 := blk_cell HX_gq.out 3) | (go_at_call 25; refine (impl_ValidLink.calls _ _ _ _ _ _ HV.out).mono ?_; rintro e w2 ⟨rfl, hb⟩; have HB2 := Aside0.mk (below_step HB_w1.out hb); have HX2 := Aside0.mk (blk_below HX_gq.out hb); clear hb b0 b1 b2 b3; have b0 := blk_cell HX2.out 0; have b1 := blk_cell HX2.out 1; have b2 := blk_cell HX2.out 2; have b3 := blk_cell HX2.out 3) | (go_at_call 19; refine (impl_isOrder.calls _ _ _ HR.out).mono ?_; rintro e w3 ⟨rfl, hb⟩; have HB3 := Aside0.mk (below_step HB2.out hb); have HX3 := Aside0.mk (blk_below HX2.out hb); clear hb b0 b1 b2 b3) | (go_at_call 26; refine (startOfLink.calls _).mono ?_; rintro e w5 ⟨rfl, hb⟩; have HB5 := Aside0.mk (below_step HB3.out hb); have HX5 := Aside0.mk (blk_below HX3.out hb); clear hb) | ((with_reducible refine gate_dst (N := 21) rfl ?_); refine Kd.R_lit (Kd.int .i64) _ 2 ?hg (N := 21) ?hd (xs := ([] : List Int)) (inner := []) (ok := fun _ => True) (okp := fun _ => True) ?hr ?hp (fun _ hk => hk) trivial (Below.refl _ _) (Nat.le_refl _) (by simp) ?_; (case hd => rfl); (case hg => rfl); (case hr => first | (go_simp; done) | (go_simp; rfl)); (case hp => exact (Reps.none _ _)); intro v18 w4 ho hb hg_ hnew_; have HO4 := Aside0.mk (Kd.R_lower ho (below_size HB5.out)); have HB4 := Aside0.mk (below_step HB5.out hb); have HX4 := Aside0.mk (blk_below HX5.out hb); clear hg_ hnew_ ho hb))
   obtain ⟨w6, hwx⟩ : ∃ z, z = w4.alloc (.cells #[.int .i64 0, .int .i64 0, .int .i64 0, .int .i64 (-1), .bool false, .int .i64 0, .int .i64 0, .int .i64 0, .int .i64 0, .int .i64 0, .int .i64 0] 63) := ⟨_, rfl⟩
   rw [← hwx]
   have hb : Below w4.heap.size w4 w6 := (by rw [hwx]; exact below_alloc (Below.refl _ _) _)
   have HS4 : Aside0 (w6.heap[w4.heap.size]? = some (.cells #[.int .i64 0, .int .i64 0, .int .i64 0, .int .i64 (-1), .bool false, .int .i64 0, .int .i64 0, .int .i64 0, .int .i64 0, .int .i64 0, .int .i64 0] 63 (0, 0))) := ⟨by rw [hwx]; simpa using heap_alloc_new w4 _⟩
   clear hwx
   replace HO4 := Aside0.mk (Kd.R_below HO4.out hb)
   have HNE0 := Aside0.mk (Nat.ne_of_lt (blk_lt HX4.out))
   have HGX0 := Aside0.mk (below_size HB4.out)
   replace HX4 := Aside0.mk (blk_below HX4.out hb)
   replace HB4 := Aside0.mk (below_step HB4.out hb)
   clear hb
   generalize w4.heap.size = gx at HS4 HNE0 HGX0 ⊢
   clear HB2 HX2 HB3 HX3 HB5 HX5 HB_w1 HX_gq HG_gq
   go_loopg [8, 24] (a1.size + 1) (fun gg s8 s24 wr => ∃ (i : Nat) (x0 x1 x2 x3 : Int) (x4 : Bool) (x5 x6 x7 x8 x9 x10 : Int) (out : List Int), s24 = .int .i64 (i : Int) ∧ Aside0 (i ≤ a1.size ∧ a1.size - i < gg ∧ out.length ≤ i) ∧ Aside0 (Below w.heap.size w wr) ∧ Aside0 (wr.heap[gq]? = some (.cells #[.int .i64 a0_0, .int .i64 a0_1, .int .i64 a0_2, .int .i64 a0_3] 36 (0, 0))) ∧ Aside0 (wr.heap[gx]? = some (.cells #[.int .i64 x0, .int .i64 x1, .int .i64 x2, .int .i64 x3, .bool x4, .int .i64 x5, .int .i64 x6, .int .i64 x7, .int .i64 x8, .int .i64 x9, .int .i64 x10] 63 (0, 0))) ∧ Aside0 (Kd.R (Kd.int .i64) 2 wr w.heap.size (fun _ => True) s8 out) ∧ Aside0 (ilLoop a0_0 a0_1 a0_2 a0_3 a1 (a1.size - i) i x0 x1 x2 x3 x4 x5 x6 x7 x8 x9 x10 out = some (out0, res0)))
   case atStart => exact ⟨0, 0, 0, 0, -1, false, 0, 0, 0, 0, 0, 0, [], rfl, ⟨by simp⟩, HB4, HX4, HS4, HO4, HL⟩
   case round =>
    clear HB4 HX4 HS4 HO4 HL
    obtain ⟨i, x0, x1, x2, x3, x4, x5, x6, x7, x8, x9, x10, out, rfl, HXI0, HB, HQ, HX, HO, HN⟩ := hrel
    obtain ⟨Ao, co, rfl⟩ := Kd.R_slice HO.out
    generalize hxi : (i : Int) = xi
    have HXI := Aside0.mk hxi
    by_cases hlt : i < a1.size
    ·have hlt' : xi < (a1.size : Int) := by omega
     have h0' : (0 : Int) ≤ xi := by omega
     obtain ⟨n, hn⟩ : ∃ n, a1.size - i = n + 1 := ⟨a1.size - i - 1, by omega⟩
     have hq := HN.out
     rw [hn] at hq
     unfold ilLoop at hq
     rw [hxi] at hq
     have HD := Aside0.mk hn
     have HLT := Aside0.mk hlt
     have p4 := eq_true h0'; have q4 := eq_true hlt'; have c1 := decide_eq_true h0'; have hx4 := bt_at a1 xi
     have c2 : decide (xi < (a1.size : Int)) = true := decide_eq_true hlt'
     clear hn hlt hxi HN
     have hs1 := HS_.out
     have hxb := HXI0.out.2.2; have hxc := HXI0.out.1
     by_cases hc : bt a1 xi = 115
     ·rw [if_pos hc] at hq
      have k1 : ((bt a1 xi) == 115) = true := beq_iff_eq.mpr hc
      have k2 : ((bt a1 xi) != 115) = false := bne_eq_false_iff_eq.mpr hc
      clear hc
      obtain ⟨sn, hsn, hq⟩ := Option.bind_eq_some_iff.mp hq
      obtain ⟨⟨a3, a4, a5, a6⟩, ha⟩ : ∃ z, advP a0_2 x3 x4 x5 x6 = z := ⟨_, rfl⟩
      rw [ha] at hq
      obtain ⟨⟨z0, z1, z3, z4, z5, z6⟩, hz, hq⟩ := Option.bind_eq_some_iff.mp hq
      dsimp only at hq hz
      have HSN := Aside0.mk hsn; have HAA := Aside0.mk ha; have HZZ := Aside0.mk hz; have HQQ := Aside0.mk hq
      clear hsn ha hz hq
      have g0 := blk_cell HQ.out 0; have g1 := blk_cell HQ.out 1; have g2 := blk_cell HQ.out 2; have g3 := blk_cell HQ.out 3
      go_wp2_with (go_at_call 27; refine (stepSender.calls gx x0 x1 x2 x3 x5 x6 x7 x8 x9 x10 a0_0 a0_1 a0_2 a0_3 x4 sn a3 a5 a6 z0 z1 z3 z5 z6 a4 z4 _ HX.out HAA.out HSN.out HZZ.out).mono ?_; rintro e w15 ⟨rfl, hx5, hk, hz⟩; clear g0 g1 g2 g3; replace HO := Aside0.mk (Kd.R_mono (Kd.R_kept (Kd.R_types HO.out HX.out (by decide)) hk (fun k hk_ h_ => hk_.2 h_)) (fun _ _ => trivial)); replace HB := Aside0.mk (below_keptX HB.out hz hk HGX0.out); replace HQ := Aside0.mk (blk_kept HQ.out hk HNE0.out); replace HX := Aside0.mk hx5; clear hx5 hk hz)
      have hxi := HXI.out
      have hlt := HLT.out
      have hx1 := HXI0.out
      have hd := HD.out
      go_roundg (a1.size - i)
      case measure => omega
      case rel =>
       exact ⟨i + 1, z0, z1, x2, z3, z4, z5, z6, x2, x7, x9, x10, out, by first | (rw [show wrap64 (xi + 1) = ((i + 1 : Nat) : Int) from by unfold wrap64; omega]) | (rw [i64_w, show wrap64 (xi + 1) = ((i + 1 : Nat) : Int) from by unfold wrap64; omega]) | (rw [show xi + 1 = ((i + 1 : Nat) : Int) from by omega]), ⟨by omega⟩, HB, HQ, HX, HO, ⟨by rw [show a1.size - (i + 1) = n by omega]; exact HQQ.out⟩⟩
     ·rw [if_neg hc] at hq
      have k1 : ((bt a1 xi) == 115) = false := beq_eq_false_iff_ne.mpr hc
      have k2 : ((bt a1 xi) != 115) = true := bne_iff_ne.mpr hc
      clear hc
      obtain ⟨sn, hsn, hq⟩ := Option.bind_eq_some_iff.mp hq
      obtain ⟨⟨y2, tk⟩, hz⟩ : ∃ z, takeP a0_0 x2 sn = z := ⟨_, rfl⟩
      rw [hz] at hq
      dsimp only at hq
      have HSN := Aside0.mk hsn; have HZZ := Aside0.mk hz
      clear hsn hz
      have g0 := blk_cell HQ.out 0; have g1 := blk_cell HQ.out 1; have g2 := blk_cell HQ.out 2; have g3 := blk_cell HQ.out 3
      cases tk with
      | true =>
       rw [if_pos rfl] at hq
       have HQQ := Aside0.mk hq
       clear hq
       go_wp2_with (first | (go_at_call 28; refine (stepReceiver.calls gx x0 x1 x2 x3 x5 x6 x7 x8 x9 x10 a0_0 a0_1 a0_2 a0_3 x4 sn y2 true _ HX.out HSN.out HZZ.out).mono ?_; rintro e w15 ⟨rfl, hx5, hk, hz⟩; clear g0 g1 g2 g3; replace HO := Aside0.mk (Kd.R_mono (Kd.R_kept (Kd.R_types HO.out HX.out (by decide)) hk (fun k hk_ h_ => hk_.2 h_)) (fun _ _ => trivial)); replace HB := Aside0.mk (below_keptX HB.out hz hk HGX0.out); replace HQ := Aside0.mk (blk_kept HQ.out hk HNE0.out); replace HX := Aside0.mk hx5; clear hx5 hk hz) | ((with_reducible refine gate_builtin (b := .append) (xs := #[.tmp 39, .tmp 41]) rfl ?_); at_builtin; refine Kd.R_append (Kd.int .i64) (w0 := w) w.heap.size rfl (.tmp 39) (.tmp 41) 24 2 (.int .i64 0) 8 rfl Tryd.underlying24 info2 rfl (by decide) (by omega) _ out x3 [.int .i64 x3] (fun _ => True) (fun _ => False) rfl rfl rfl (fun _ hk => hk.elim) (fun _ _ => trivial) HO.out HB.out (below_size HB.out) (by omega) ?_; intro v18 w18 ho hb hg hat; have HO18 := Aside0.mk ho; have HB18 := Aside0.mk hb; have HX18 := Aside0.mk (blk_grown HX.out hg (Kd.R_ne HO.out HX.out (by decide))); have HQ18 := Aside0.mk (blk_grown HQ.out hg (Kd.R_ne HO.out HQ.out (by decide))); clear ho hb hg hat))
       have hxi := HXI.out
       have hlt := HLT.out
       have hx1 := HXI0.out
       have hd := HD.out
       go_roundg (a1.size - i)
       case measure => omega
       case rel =>
        exact ⟨i + 1, x0, x1, y2, x3, x4, x5, x6, x7, x8, x1, x9, _, by first | (rw [show wrap64 (xi + 1) = ((i + 1 : Nat) : Int) from by unfold wrap64; omega]) | (rw [i64_w, show wrap64 (xi + 1) = ((i + 1 : Nat) : Int) from by unfold wrap64; omega]) | (rw [show xi + 1 = ((i + 1 : Nat) : Int) from by omega]), ⟨by simp; omega⟩, HB18, HQ18, HX18, HO18, ⟨by rw [show a1.size - (i + 1) = n by omega]; exact HQQ.out⟩⟩
      | false =>
       rw [if_neg (by decide)] at hq
       have HQQ := Aside0.mk hq
       clear hq
       go_wp2_with (go_at_call 28; refine (stepReceiver.calls gx x0 x1 x2 x3 x5 x6 x7 x8 x9 x10 a0_0 a0_1 a0_2 a0_3 x4 sn y2 false _ HX.out HSN.out HZZ.out).mono ?_; rintro e w15 ⟨rfl, hx5, hk, hz⟩; clear g0 g1 g2 g3; replace HO := Aside0.mk (Kd.R_mono (Kd.R_kept (Kd.R_types HO.out HX.out (by decide)) hk (fun k hk_ h_ => hk_.2 h_)) (fun _ _ => trivial)); replace HB := Aside0.mk (below_keptX HB.out hz hk HGX0.out); replace HQ := Aside0.mk (blk_kept HQ.out hk HNE0.out); replace HX := Aside0.mk hx5; clear hx5 hk hz)
       have hxi := HXI.out
       have hlt := HLT.out
       have hx1 := HXI0.out
       have hd := HD.out
       go_roundg (a1.size - i)
       case measure => omega
       case rel =>
        exact ⟨i + 1, x0, x1, y2, x3, x4, x5, x6, x7, x8, x1, x9, out, by first | (rw [show wrap64 (xi + 1) = ((i + 1 : Nat) : Int) from by unfold wrap64; omega]) | (rw [i64_w, show wrap64 (xi + 1) = ((i + 1 : Nat) : Int) from by unfold wrap64; omega]) | (rw [show xi + 1 = ((i + 1 : Nat) : Int) from by omega]), ⟨by omega⟩, HB, HQ, HX, HO, ⟨by rw [show a1.size - (i + 1) = n by omega]; exact HQQ.out⟩⟩
    ·have hlt' : ¬ (xi < (a1.size : Int)) := by omega
     have c2 : decide (xi < (a1.size : Int)) = false := decide_eq_false hlt'
     have p2 := eq_false hlt'
     have hq := HN.out
     rw [show a1.size - i = 0 by omega] at hq
     injection hq with hq
     injection hq with hq1 hq2
     subst hq1
     subst hq2
     clear HN hlt hxi
     have m0 := blk_cell HX.out 0
     go_wp2
     go_quiet (fail)
     go_wp2
     refine bodyPost_ret (results_tmp3 rfl _ _ _) rfl ?_
     exact ⟨_, rfl, Kd.R_drewN HO.out nq, pw_below_drewN HB.out nq⟩

end Go.Proofs.YteccfnppbonniaaDoor.Pa

namespace Go.Proofs.YteccfnppbonniaaDoor.Pa
open Go.RowKit Go.Proofs.YteccfnppbonniaaDoorW.PrintWords Go.Proofs.YteccfnppbonniaaDoorW.PrintLast Go.Proofs.YteccfnppbonniaaDoorW.PrintMore
attribute [local go_sem] max2_int min2_int max_two min_two max_three min_three max_four min_four   -- for this text's walks alone
set_option linter.unusedVariables false
set_option linter.unusedSimpArgs false

/-! ### spec_l00In: function 29 -/
def spec_l00In.f (a0 : Int) (a1 : Int) (a2 : Int) : Option (Bool) := if a0 ≥ a1 then (some (decide (a0 ≤ a2))) else (some false)
set_option maxHeartbeats 8000000 in
set_option maxRecDepth 100000 in
theorem spec_l00In.calls (a0 : Int) (a1 : Int) (a2 : Int) (r : Bool) (w : World) (h : spec_l00In.f a0 a1 a2 = some r) :
  Calls Tryd.prog 29 #[.int .i64 a0, .int .i64 a1, .int .i64 a2] w fun e w' => e = .returned (.bool r) ∧ Drawn0 w w' := by
 have H : (if a0 ≥ a1 then (some (decide (a0 ≤ a2))) else (some false)) = some r := h
 clear h
 by_cases c4 : a0 ≥ a1
 ·rw [if_pos c4] at H
  have c4b0 : decide (a1 ≤ a0) = true := decide_eq_true c4
  clear c4
  obtain rfl := Option.some.inj H
  go_enter Tryd.func29, Tryd.ntmps29
  go_wp2
  go_ret
  exact ⟨by first | rfl | (simp; done) | (simp [*]; done), by repeat (first | exact Drawn0.refl _ | apply Drawn0.step)⟩
 ·rw [if_neg c4] at H
  have c4b0 : decide (a1 ≤ a0) = false := decide_eq_false c4
  clear c4
  obtain rfl := Option.some.inj H
  go_enter Tryd.func29, Tryd.ntmps29
  go_wp2
  go_ret
  exact ⟨by first | rfl | (simp; done) | (simp [*]; done), by repeat (first | exact Drawn0.refl _ | apply Drawn0.step)⟩

end Go.Proofs.YteccfnppbonniaaDoor.Pa

namespace Go.Proofs.YteccfnppbonniaaDoor.Pa
open Go.RowKit Go.Proofs.YteccfnppbonniaaDoorW.PrintWords Go.Proofs.YteccfnppbonniaaDoorW.PrintLast Go.Proofs.YteccfnppbonniaaDoorW.PrintMore
attribute [local go_sem] max2_int min2_int max_two min_two max_three min_three max_four min_four   -- for this text's walks alone
set_option linter.unusedVariables false
set_option linter.unusedSimpArgs false

/-- A state of type 36 at block g of W; what its slices lead to came in by w0. -/
def IsS36 (w0 W : World) (g : Nat) (f0 : Int) (f1 : Int) (f2 : Int) (f3 : Int) : Prop := W.heap[g]? = some (.cells #[.int .i64 f0, .int .i64 f1, .int .i64 f2, .int .i64 f3] 36 (0, 0)) ∧ w0.heap.size ≤ g
theorem IsS36.grown {w0 W : World} {g : Nat} {f0 : Int} {f1 : Int} {f2 : Int} {f3 : Int} {W1 : World} {row : Option Nat} (h : IsS36 w0 W g f0 f1 f2 f3) (hw : W.grownBy W1 row) (hne : some g ≠ row) : IsS36 w0 W1 g f0 f1 f2 f3 := by
 obtain ⟨hb, hg⟩ := h
 exact ⟨blk_grown hb hw hne, hg⟩
theorem IsS36.own_neN {w0 W : World} {g : Nat} {f0 : Int} {f1 : Int} {f2 : Int} {f3 : Int} {α : Type} {d : Kd α} {e : Nat} {base : Nat} {ok : Nat → Prop} {v : Value} {xs : List α} (h : IsS36 w0 W g f0 f1 f2 f3) (ho : Kd.N d e W base ok v xs) (ht : e ≠ 36) : some g ≠ v.ownBlock := by
 obtain ⟨hb, hg⟩ := h
 exact Kd.N_ne ho hb ht
theorem IsS36.fresh {w0 W : World} {g : Nat} {f0 : Int} {f1 : Int} {f2 : Int} {f3 : Int} (h : IsS36 w0 W g f0 f1 f2 f3) : ∀ k, W.heap.size ≤ k → k ≠ g := by
 obtain ⟨hb, hg⟩ := h
 exact Kd.freshB hb
theorem IsS36.kept {w0 W : World} {g : Nat} {f0 : Int} {f1 : Int} {f2 : Int} {f3 : Int} {W1 : World} {S : Nat → Prop} (h : IsS36 w0 W g f0 f1 f2 f3) (hk : Kept W W1 S) (hne : ¬ S g) : IsS36 w0 W1 g f0 f1 f2 f3 := by
 obtain ⟨hb, hg⟩ := h
 exact ⟨blk_kept hb hk hne, hg⟩
theorem IsS36.below {w0 W : World} {g : Nat} {f0 : Int} {f1 : Int} {f2 : Int} {f3 : Int} {W1 : World} (h : IsS36 w0 W g f0 f1 f2 f3) (hw : Below W.heap.size W W1) : IsS36 w0 W1 g f0 f1 f2 f3 := h.grown (grown_of_below hw none) (by simp)
theorem IsS36.alloc {w0 W : World} {g : Nat} {f0 : Int} {f1 : Int} {f2 : Int} {f3 : Int} (h : IsS36 w0 W g f0 f1 f2 f3) (o : Obj) : IsS36 w0 (W.alloc o) g f0 f1 f2 f3 := h.below (below_alloc (Below.refl _ _) o)
theorem IsS36.drewN {w0 W : World} {g : Nat} {f0 : Int} {f1 : Int} {f2 : Int} {f3 : Int} (h : IsS36 w0 W g f0 f1 f2 f3) (m : Nat) : IsS36 w0 (W.drewN m) g f0 f1 f2 f3 := h
theorem IsS36.drew {w0 W : World} {g : Nat} {f0 : Int} {f1 : Int} {f2 : Int} {f3 : Int} (h : IsS36 w0 W g f0 f1 f2 f3) : IsS36 w0 W.drew g f0 f1 f2 f3 := h
theorem IsS36.at_ {w0 W : World} {g : Nat} {f0 : Int} {f1 : Int} {f2 : Int} {f3 : Int} {w' : World} {m : Nat} (hq : W.drewN m = w') (h : IsS36 w0 W g f0 f1 f2 f3) : IsS36 w0 w' g f0 f1 f2 f3 := by subst hq; exact IsS36.drewN h m
theorem IsS36.apart {w0 W : World} {g : Nat} {f0 : Int} {f1 : Int} {f2 : Int} {f3 : Int} {α : Type} {d : Kd α} {e : Nat} {base : Nat} {ok : Nat → Prop} {v : Value} {xs : List α} (h : IsS36 w0 W g f0 f1 f2 f3) (ho : d.R e W base ok v xs) (ht : ∀ q, q ∈ e :: d.E → q ≠ 36) : d.R e W base (fun k => ok k ∧ k ≠ g) v xs := by
 obtain ⟨hb, hg⟩ := h
 exact Kd.R_types ho hb ht
theorem IsS36.own_ne {w0 W : World} {g : Nat} {f0 : Int} {f1 : Int} {f2 : Int} {f3 : Int} {α : Type} {d : Kd α} {e : Nat} {base : Nat} {ok : Nat → Prop} {v : Value} {xs : List α} (h : IsS36 w0 W g f0 f1 f2 f3) (ho : d.R e W base ok v xs) (ht : e ≠ 36) : some g ≠ v.ownBlock := by
 obtain ⟨hb, hg⟩ := h
 exact Kd.R_ne ho hb ht
theorem IsS36.apartQ {w0 W : World} {g : Nat} {f0 : Int} {f1 : Int} {f2 : Int} {f3 : Int} {α : Type} {d : Kd α} {e : Nat} {base : Nat} {ok : Nat → Prop} {v : Value} {xs : List α} (h : IsS36 w0 W g f0 f1 f2 f3) (ho : d.Q e W base ok v xs) (ht : ∀ q, q ∈ e :: d.E → q ≠ 36) : d.Q e W base (fun k => ok k ∧ k ≠ g) v xs := by
 obtain ⟨hb, hg⟩ := h
 exact Kd.Q_types ho hb ht
theorem IsS36.own_neQ {w0 W : World} {g : Nat} {f0 : Int} {f1 : Int} {f2 : Int} {f3 : Int} {α : Type} {d : Kd α} {e : Nat} {base : Nat} {ok : Nat → Prop} {v : Value} {xs : List α} (h : IsS36 w0 W g f0 f1 f2 f3) (ho : d.Q e W base ok v xs) (ht : e ≠ 36) : some g ≠ v.ownBlock := by
 obtain ⟨hb, hg⟩ := h
 exact Kd.Q_ne ho hb ht
theorem IsS36.apartS {w0 W : World} {g : Nat} {f0 : Int} {f1 : Int} {f2 : Int} {f3 : Int} {α : Type} {d : Kd α} {e : Nat} {base : Nat} {ok : Nat → Prop} {v : Value} {xs : List α} (h : IsS36 w0 W g f0 f1 f2 f3) (ho : d.S e W base ok v xs) (ht : ∀ q, q ∈ e :: d.E → q ≠ 36) : d.S e W base (fun k => ok k ∧ k ≠ g) v xs := by
 obtain ⟨hb, hg⟩ := h
 exact Kd.S_types ho hb ht
theorem IsS36.own_neS {w0 W : World} {g : Nat} {f0 : Int} {f1 : Int} {f2 : Int} {f3 : Int} {α : Type} {d : Kd α} {e : Nat} {base : Nat} {ok : Nat → Prop} {v : Value} {xs : List α} (h : IsS36 w0 W g f0 f1 f2 f3) (ho : d.S e W base ok v xs) (ht : e ≠ 36) : some g ≠ v.ownBlock := by
 obtain ⟨hb, hg⟩ := h
 exact Kd.S_ne ho hb ht
theorem IsS36.lt {w0 W : World} {g : Nat} {f0 : Int} {f1 : Int} {f2 : Int} {f3 : Int} (h : IsS36 w0 W g f0 f1 f2 f3) : g < W.heap.size := by
 obtain ⟨hb, hg⟩ := h
 exact blk_lt hb
theorem IsS36.ge {w0 W : World} {g : Nat} {f0 : Int} {f1 : Int} {f2 : Int} {f3 : Int} (h : IsS36 w0 W g f0 f1 f2 f3) : w0.heap.size ≤ g := by
 obtain ⟨hb, hg⟩ := h
 exact hg
theorem IsS36.ne_blk {w0 W : World} {g : Nat} {f0 : Int} {f1 : Int} {f2 : Int} {f3 : Int} {a : Nat} {cs : Array Value} {t : TypeId} {fr : Nat × Nat} (h : IsS36 w0 W g f0 f1 f2 f3) (hb2 : W.heap[a]? = some (.cells cs t fr)) (ht : t ≠ 36) : g ≠ a := by
 obtain ⟨hb, hg⟩ := h
 rintro rfl
 rw [hb] at hb2
 injection hb2 with hb2
 injection hb2 with _ ht2
 exact ht ht2.symm
theorem IsS36.far {w0 W : World} {g : Nat} {f0 : Int} {f1 : Int} {f2 : Int} {f3 : Int} {p : Addr} (h : IsS36 w0 W g f0 f1 f2 f3) (hne : g ≠ p.block) (u : Value) : IsS36 w0 (W.setCell p u) g f0 f1 f2 f3 := by
 obtain ⟨hb, hg⟩ := h
 exact ⟨blk_far hb hne u, hg⟩
theorem cellS36_0 {W : World} {g : Nat} {f0 : Int} {f1 : Int} {f2 : Int} {f3 : Int} (h : W.heap[g]? = some (.cells #[.int .i64 f0, .int .i64 f1, .int .i64 f2, .int .i64 f3] 36 (0, 0))) : W.cell? ⟨g, 0, none⟩ = some (.int .i64 f0) := (blk_cell h 0).trans rfl
theorem IsS36.set_0 {w0 W : World} {g : Nat} {f0 : Int} {f1 : Int} {f2 : Int} {f3 : Int} (h : IsS36 w0 W g f0 f1 f2 f3) (x : Int) : IsS36 w0 (W.setCell ⟨g, 0, none⟩ (.int .i64 x)) g x f1 f2 f3 := by
 obtain ⟨hb, hg⟩ := h
 exact ⟨by simpa using blk_set hb 0 (.int .i64 x), hg⟩
theorem cellS36_1 {W : World} {g : Nat} {f0 : Int} {f1 : Int} {f2 : Int} {f3 : Int} (h : W.heap[g]? = some (.cells #[.int .i64 f0, .int .i64 f1, .int .i64 f2, .int .i64 f3] 36 (0, 0))) : W.cell? ⟨g, 1, none⟩ = some (.int .i64 f1) := (blk_cell h 1).trans rfl
theorem IsS36.set_1 {w0 W : World} {g : Nat} {f0 : Int} {f1 : Int} {f2 : Int} {f3 : Int} (h : IsS36 w0 W g f0 f1 f2 f3) (x : Int) : IsS36 w0 (W.setCell ⟨g, 1, none⟩ (.int .i64 x)) g f0 x f2 f3 := by
 obtain ⟨hb, hg⟩ := h
 exact ⟨by simpa using blk_set hb 1 (.int .i64 x), hg⟩
theorem cellS36_2 {W : World} {g : Nat} {f0 : Int} {f1 : Int} {f2 : Int} {f3 : Int} (h : W.heap[g]? = some (.cells #[.int .i64 f0, .int .i64 f1, .int .i64 f2, .int .i64 f3] 36 (0, 0))) : W.cell? ⟨g, 2, none⟩ = some (.int .i64 f2) := (blk_cell h 2).trans rfl
theorem IsS36.set_2 {w0 W : World} {g : Nat} {f0 : Int} {f1 : Int} {f2 : Int} {f3 : Int} (h : IsS36 w0 W g f0 f1 f2 f3) (x : Int) : IsS36 w0 (W.setCell ⟨g, 2, none⟩ (.int .i64 x)) g f0 f1 x f3 := by
 obtain ⟨hb, hg⟩ := h
 exact ⟨by simpa using blk_set hb 2 (.int .i64 x), hg⟩
theorem cellS36_3 {W : World} {g : Nat} {f0 : Int} {f1 : Int} {f2 : Int} {f3 : Int} (h : W.heap[g]? = some (.cells #[.int .i64 f0, .int .i64 f1, .int .i64 f2, .int .i64 f3] 36 (0, 0))) : W.cell? ⟨g, 3, none⟩ = some (.int .i64 f3) := (blk_cell h 3).trans rfl
theorem IsS36.set_3 {w0 W : World} {g : Nat} {f0 : Int} {f1 : Int} {f2 : Int} {f3 : Int} (h : IsS36 w0 W g f0 f1 f2 f3) (x : Int) : IsS36 w0 (W.setCell ⟨g, 3, none⟩ (.int .i64 x)) g f0 f1 f2 x := by
 obtain ⟨hb, hg⟩ := h
 exact ⟨by simpa using blk_set hb 3 (.int .i64 x), hg⟩
theorem IsS36.new (w0 W : World) (f0 : Int) (f1 : Int) (f2 : Int) (f3 : Int) (hB : Below w0.heap.size w0 W) : IsS36 w0 (W.alloc (.cells #[.int .i64 f0, .int .i64 f1, .int .i64 f2, .int .i64 f3] 36)) W.heap.size f0 f1 f2 f3 := ⟨by simpa using heap_alloc_new W _, hB.size⟩

/-! ### spec_l05Link: function 21 -/
def spec_l05Link.f (s0_0 : Int) (s0_1 : Int) (s0_2 : Int) (s0_3 : Int) : Option (Bool × Int × Int × Int × Int) := if s0_0 = 2 then ((spec_l00In.f s0_1 0 2).bind fun t148 => (if t148 = true then ((spec_l00In.f s0_2 0 2).bind fun t149 => (if t149 = true then ((spec_l00In.f s0_3 0 4).bind fun t150 => (some (t150, s0_0, s0_1, s0_2, s0_3))) else (some (false, s0_0, s0_1, s0_2, s0_3)))) else (some (false, s0_0, s0_1, s0_2, s0_3)))) else (if s0_0 = 4 then ((spec_l00In.f s0_1 0 2).bind fun t151 => (if t151 = true then ((spec_l00In.f s0_2 0 2).bind fun t152 => (if t152 = true then ((spec_l00In.f s0_3 0 4).bind fun t153 => (some (t153, s0_0, s0_1, s0_2, s0_3))) else (some (false, s0_0, s0_1, s0_2, s0_3)))) else (some (false, s0_0, s0_1, s0_2, s0_3)))) else (some (false, s0_0, s0_1, s0_2, s0_3)))
set_option maxHeartbeats 8000000 in
set_option maxRecDepth 100000 in
theorem spec_l05Link.calls (g : Nat) (s0_0 : Int) (s0_1 : Int) (s0_2 : Int) (s0_3 : Int) (r1 : Bool) (r2 : Int) (r3 : Int) (r4 : Int) (r5 : Int) (w0 w : World) (hI : IsS36 w0 w g s0_0 s0_1 s0_2 s0_3) (hB : Below w0.heap.size w0 w) (h : spec_l05Link.f s0_0 s0_1 s0_2 s0_3 = some (r1, r2, r3, r4, r5)) :
  Calls Tryd.prog 21 #[.pointer (some ⟨g, 0, none⟩)] w fun e w' => e = .returned (.bool r1) ∧ IsS36 w0 w' g r2 r3 r4 r5 ∧ Below w0.heap.size w0 w' ∧ KeepBut w w' g none := by
 have HI0 := Aside0.mk hI
 have HK := Aside0.mk (KeepBut.refl w g none)
 have HL := Aside0.mk hB.size
 clear hI
 have HW0 := Aside0.mk hB.size
 have HB := Aside0.mk hB
 clear hB
 have H : (if s0_0 = 2 then ((spec_l00In.f s0_1 0 2).bind fun t148 => (if t148 = true then ((spec_l00In.f s0_2 0 2).bind fun t149 => (if t149 = true then ((spec_l00In.f s0_3 0 4).bind fun t150 => (some (t150, s0_0, s0_1, s0_2, s0_3))) else (some (false, s0_0, s0_1, s0_2, s0_3)))) else (some (false, s0_0, s0_1, s0_2, s0_3)))) else (if s0_0 = 4 then ((spec_l00In.f s0_1 0 2).bind fun t151 => (if t151 = true then ((spec_l00In.f s0_2 0 2).bind fun t152 => (if t152 = true then ((spec_l00In.f s0_3 0 4).bind fun t153 => (some (t153, s0_0, s0_1, s0_2, s0_3))) else (some (false, s0_0, s0_1, s0_2, s0_3)))) else (some (false, s0_0, s0_1, s0_2, s0_3)))) else (some (false, s0_0, s0_1, s0_2, s0_3)))) = some (r1, r2, r3, r4, r5) := h
 clear h
 by_cases c2 : s0_0 = 2
 ·rw [if_pos c2] at H
  have c2b0 : (s0_0 == 2) = true := beq_iff_eq.mpr c2
  have c2b1 : (s0_0 != 2) = false := bne_eq_false_iff_eq.mpr c2
  clear c2
  replace H := Option.bind_eq_some_iff.mp H
  obtain ⟨t148, A30, H⟩ := H
  replace H : (if t148 = true then ((spec_l00In.f s0_2 0 2).bind fun t149 => (if t149 = true then ((spec_l00In.f s0_3 0 4).bind fun t150 => (some (t150, s0_0, s0_1, s0_2, s0_3))) else (some (false, s0_0, s0_1, s0_2, s0_3)))) else (some (false, s0_0, s0_1, s0_2, s0_3))) = some (r1, r2, r3, r4, r5) := H
  have A3 := Aside0.mk A30
  clear A30
  by_cases c4 : t148 = true
  ·subst c4
   have H1 : ((spec_l00In.f s0_2 0 2).bind fun t149 => (if t149 = true then ((spec_l00In.f s0_3 0 4).bind fun t150 => (some (t150, s0_0, s0_1, s0_2, s0_3))) else (some (false, s0_0, s0_1, s0_2, s0_3)))) = some (r1, r2, r3, r4, r5) := by rw [if_pos rfl] at H; exact H
   clear H
   have H := H1
   clear H1
   replace H := Option.bind_eq_some_iff.mp H
   obtain ⟨t149, A50, H⟩ := H
   replace H : (if t149 = true then ((spec_l00In.f s0_3 0 4).bind fun t150 => (some (t150, s0_0, s0_1, s0_2, s0_3))) else (some (false, s0_0, s0_1, s0_2, s0_3))) = some (r1, r2, r3, r4, r5) := H
   have A5 := Aside0.mk A50
   clear A50
   by_cases c6 : t149 = true
   ·subst c6
    have H1 : ((spec_l00In.f s0_3 0 4).bind fun t150 => (some (t150, s0_0, s0_1, s0_2, s0_3))) = some (r1, r2, r3, r4, r5) := by rw [if_pos rfl] at H; exact H
    clear H
    have H := H1
    clear H1
    replace H := Option.bind_eq_some_iff.mp H
    obtain ⟨t150, A70, H⟩ := H
    replace H : (some (t150, s0_0, s0_1, s0_2, s0_3)) = some (r1, r2, r3, r4, r5) := H
    have A7 := Aside0.mk A70
    clear A70
    simp only [Option.some.injEq, Prod.mk.injEq] at H
    obtain ⟨rfl, rfl, rfl, rfl, rfl⟩ := H
    obtain ⟨HGz8, hgz8⟩ := HI0.out
    have hcz8_0 := cellS36_0 HGz8
    have hcz8_1 := cellS36_1 HGz8
    have hcz8_2 := cellS36_2 HGz8
    have hcz8_3 := cellS36_3 HGz8
    have hfz8_0 := blk_frozen HGz8 0
    have hfz8_1 := blk_frozen HGz8 1
    have hfz8_2 := blk_frozen HGz8 2
    have hfz8_3 := blk_frozen HGz8 3
    clear HGz8 hgz8
    go_enter Tryd.func21, Tryd.ntmps21
    go_wp2_with (first | (go_at_call 29; (with_reducible refine (spec_l00In.calls s0_1 0 2 true _ A3.out).mono ?_); rintro e w' ⟨rfl, ⟨nd, rfl⟩⟩) | (go_at_call 29; (with_reducible refine (spec_l00In.calls s0_2 0 2 true _ A5.out).mono ?_); rintro e w' ⟨rfl, ⟨nd, rfl⟩⟩) | (go_at_call 29; (with_reducible refine (spec_l00In.calls s0_3 0 4 t150 _ A7.out).mono ?_); rintro e w' ⟨rfl, ⟨nd, rfl⟩⟩))
    go_ret
    exact ⟨by first | rfl | (simp [errW_none, errW_some] <;> rfl) | (simp [*, errW_none, errW_some] <;> rfl), by repeat (first | (with_reducible first | exact HI0.out | apply IsS36.alloc | apply IsS36.drewN | apply IsS36.drew | apply IsS36.set_0 | apply IsS36.set_1 | apply IsS36.set_2 | apply IsS36.set_3) | exact HI0.out), by repeat (first | (with_reducible first | exact HB.out | apply below_alloc | apply pw_below_drewN | apply below_drew1 | refine below_set ?_ (IsS36.ge HI0.out)) | exact HB.out), by repeat (first | (with_reducible first | exact HK.out | apply KeepBut.set_ | apply keep_drewN | apply keep_drew | apply keep_alloc) | exact HK.out)⟩
   ·replace c6 := Bool.eq_false_iff.mpr c6
    subst c6
    have H1 : (some (false, s0_0, s0_1, s0_2, s0_3)) = some (r1, r2, r3, r4, r5) := by rw [if_neg (show ¬ (false = true) by decide)] at H; exact H
    clear H
    have H := H1
    clear H1
    simp only [Option.some.injEq, Prod.mk.injEq] at H
    obtain ⟨rfl, rfl, rfl, rfl, rfl⟩ := H
    obtain ⟨HGz9, hgz9⟩ := HI0.out
    have hcz9_0 := cellS36_0 HGz9
    have hcz9_1 := cellS36_1 HGz9
    have hcz9_2 := cellS36_2 HGz9
    have hcz9_3 := cellS36_3 HGz9
    have hfz9_0 := blk_frozen HGz9 0
    have hfz9_1 := blk_frozen HGz9 1
    have hfz9_2 := blk_frozen HGz9 2
    have hfz9_3 := blk_frozen HGz9 3
    clear HGz9 hgz9
    go_enter Tryd.func21, Tryd.ntmps21
    go_wp2_with (first | (go_at_call 29; (with_reducible refine (spec_l00In.calls s0_1 0 2 true _ A3.out).mono ?_); rintro e w' ⟨rfl, ⟨nd, rfl⟩⟩) | (go_at_call 29; (with_reducible refine (spec_l00In.calls s0_2 0 2 false _ A5.out).mono ?_); rintro e w' ⟨rfl, ⟨nd, rfl⟩⟩))
    go_ret
    exact ⟨by first | rfl | (simp [errW_none, errW_some] <;> rfl) | (simp [*, errW_none, errW_some] <;> rfl), by repeat (first | (with_reducible first | exact HI0.out | apply IsS36.alloc | apply IsS36.drewN | apply IsS36.drew | apply IsS36.set_0 | apply IsS36.set_1 | apply IsS36.set_2 | apply IsS36.set_3) | exact HI0.out), by repeat (first | (with_reducible first | exact HB.out | apply below_alloc | apply pw_below_drewN | apply below_drew1 | refine below_set ?_ (IsS36.ge HI0.out)) | exact HB.out), by repeat (first | (with_reducible first | exact HK.out | apply KeepBut.set_ | apply keep_drewN | apply keep_drew | apply keep_alloc) | exact HK.out)⟩
  ·replace c4 := Bool.eq_false_iff.mpr c4
   subst c4
   have H1 : (some (false, s0_0, s0_1, s0_2, s0_3)) = some (r1, r2, r3, r4, r5) := by rw [if_neg (show ¬ (false = true) by decide)] at H; exact H
   clear H
   have H := H1
   clear H1
   simp only [Option.some.injEq, Prod.mk.injEq] at H
   obtain ⟨rfl, rfl, rfl, rfl, rfl⟩ := H
   obtain ⟨HGz10, hgz10⟩ := HI0.out
   have hcz10_0 := cellS36_0 HGz10
   have hcz10_1 := cellS36_1 HGz10
   have hcz10_2 := cellS36_2 HGz10
   have hcz10_3 := cellS36_3 HGz10
   have hfz10_0 := blk_frozen HGz10 0
   have hfz10_1 := blk_frozen HGz10 1
   have hfz10_2 := blk_frozen HGz10 2
   have hfz10_3 := blk_frozen HGz10 3
   clear HGz10 hgz10
   go_enter Tryd.func21, Tryd.ntmps21
   go_wp2_with (first | (go_at_call 29; (with_reducible refine (spec_l00In.calls s0_1 0 2 false _ A3.out).mono ?_); rintro e w' ⟨rfl, ⟨nd, rfl⟩⟩))
   go_ret
   exact ⟨by first | rfl | (simp [errW_none, errW_some] <;> rfl) | (simp [*, errW_none, errW_some] <;> rfl), by repeat (first | (with_reducible first | exact HI0.out | apply IsS36.alloc | apply IsS36.drewN | apply IsS36.drew | apply IsS36.set_0 | apply IsS36.set_1 | apply IsS36.set_2 | apply IsS36.set_3) | exact HI0.out), by repeat (first | (with_reducible first | exact HB.out | apply below_alloc | apply pw_below_drewN | apply below_drew1 | refine below_set ?_ (IsS36.ge HI0.out)) | exact HB.out), by repeat (first | (with_reducible first | exact HK.out | apply KeepBut.set_ | apply keep_drewN | apply keep_drew | apply keep_alloc) | exact HK.out)⟩
 ·rw [if_neg c2] at H
  have c2b0 : (s0_0 == 2) = false := beq_eq_false_iff_ne.mpr c2
  have c2b1 : (s0_0 != 2) = true := bne_iff_ne.mpr c2
  by_cases c11 : s0_0 = 4
  ·rw [if_pos c11] at H
   have c11b0 : (s0_0 == 4) = true := beq_iff_eq.mpr c11
   have c11b1 : (s0_0 != 4) = false := bne_eq_false_iff_eq.mpr c11
   clear c11
   replace H := Option.bind_eq_some_iff.mp H
   obtain ⟨t151, A120, H⟩ := H
   replace H : (if t151 = true then ((spec_l00In.f s0_2 0 2).bind fun t152 => (if t152 = true then ((spec_l00In.f s0_3 0 4).bind fun t153 => (some (t153, s0_0, s0_1, s0_2, s0_3))) else (some (false, s0_0, s0_1, s0_2, s0_3)))) else (some (false, s0_0, s0_1, s0_2, s0_3))) = some (r1, r2, r3, r4, r5) := H
   have A12 := Aside0.mk A120
   clear A120
   by_cases c13 : t151 = true
   ·subst c13
    have H1 : ((spec_l00In.f s0_2 0 2).bind fun t152 => (if t152 = true then ((spec_l00In.f s0_3 0 4).bind fun t153 => (some (t153, s0_0, s0_1, s0_2, s0_3))) else (some (false, s0_0, s0_1, s0_2, s0_3)))) = some (r1, r2, r3, r4, r5) := by rw [if_pos rfl] at H; exact H
    clear H
    have H := H1
    clear H1
    replace H := Option.bind_eq_some_iff.mp H
    obtain ⟨t152, A140, H⟩ := H
    replace H : (if t152 = true then ((spec_l00In.f s0_3 0 4).bind fun t153 => (some (t153, s0_0, s0_1, s0_2, s0_3))) else (some (false, s0_0, s0_1, s0_2, s0_3))) = some (r1, r2, r3, r4, r5) := H
    have A14 := Aside0.mk A140
    clear A140
    by_cases c15 : t152 = true
    ·subst c15
     have H1 : ((spec_l00In.f s0_3 0 4).bind fun t153 => (some (t153, s0_0, s0_1, s0_2, s0_3))) = some (r1, r2, r3, r4, r5) := by rw [if_pos rfl] at H; exact H
     clear H
     have H := H1
     clear H1
     replace H := Option.bind_eq_some_iff.mp H
     obtain ⟨t153, A160, H⟩ := H
     replace H : (some (t153, s0_0, s0_1, s0_2, s0_3)) = some (r1, r2, r3, r4, r5) := H
     have A16 := Aside0.mk A160
     clear A160
     simp only [Option.some.injEq, Prod.mk.injEq] at H
     obtain ⟨rfl, rfl, rfl, rfl, rfl⟩ := H
     obtain ⟨HGz17, hgz17⟩ := HI0.out
     have hcz17_0 := cellS36_0 HGz17
     have hcz17_1 := cellS36_1 HGz17
     have hcz17_2 := cellS36_2 HGz17
     have hcz17_3 := cellS36_3 HGz17
     have hfz17_0 := blk_frozen HGz17 0
     have hfz17_1 := blk_frozen HGz17 1
     have hfz17_2 := blk_frozen HGz17 2
     have hfz17_3 := blk_frozen HGz17 3
     clear HGz17 hgz17
     go_enter Tryd.func21, Tryd.ntmps21
     go_wp2_with (first | (go_at_call 29; (with_reducible refine (spec_l00In.calls s0_1 0 2 true _ A12.out).mono ?_); rintro e w' ⟨rfl, ⟨nd, rfl⟩⟩) | (go_at_call 29; (with_reducible refine (spec_l00In.calls s0_2 0 2 true _ A14.out).mono ?_); rintro e w' ⟨rfl, ⟨nd, rfl⟩⟩) | (go_at_call 29; (with_reducible refine (spec_l00In.calls s0_3 0 4 t153 _ A16.out).mono ?_); rintro e w' ⟨rfl, ⟨nd, rfl⟩⟩))
     go_ret
     exact ⟨by first | rfl | (simp [errW_none, errW_some] <;> rfl) | (simp [*, errW_none, errW_some] <;> rfl), by repeat (first | (with_reducible first | exact HI0.out | apply IsS36.alloc | apply IsS36.drewN | apply IsS36.drew | apply IsS36.set_0 | apply IsS36.set_1 | apply IsS36.set_2 | apply IsS36.set_3) | exact HI0.out), by repeat (first | (with_reducible first | exact HB.out | apply below_alloc | apply pw_below_drewN | apply below_drew1 | refine below_set ?_ (IsS36.ge HI0.out)) | exact HB.out), by repeat (first | (with_reducible first | exact HK.out | apply KeepBut.set_ | apply keep_drewN | apply keep_drew | apply keep_alloc) | exact HK.out)⟩
    ·replace c15 := Bool.eq_false_iff.mpr c15
     subst c15
     have H1 : (some (false, s0_0, s0_1, s0_2, s0_3)) = some (r1, r2, r3, r4, r5) := by rw [if_neg (show ¬ (false = true) by decide)] at H; exact H
     clear H
     have H := H1
     clear H1
     simp only [Option.some.injEq, Prod.mk.injEq] at H
     obtain ⟨rfl, rfl, rfl, rfl, rfl⟩ := H
     obtain ⟨HGz18, hgz18⟩ := HI0.out
     have hcz18_0 := cellS36_0 HGz18
     have hcz18_1 := cellS36_1 HGz18
     have hcz18_2 := cellS36_2 HGz18
     have hcz18_3 := cellS36_3 HGz18
     have hfz18_0 := blk_frozen HGz18 0
     have hfz18_1 := blk_frozen HGz18 1
     have hfz18_2 := blk_frozen HGz18 2
     have hfz18_3 := blk_frozen HGz18 3
     clear HGz18 hgz18
     go_enter Tryd.func21, Tryd.ntmps21
     go_wp2_with (first | (go_at_call 29; (with_reducible refine (spec_l00In.calls s0_1 0 2 true _ A12.out).mono ?_); rintro e w' ⟨rfl, ⟨nd, rfl⟩⟩) | (go_at_call 29; (with_reducible refine (spec_l00In.calls s0_2 0 2 false _ A14.out).mono ?_); rintro e w' ⟨rfl, ⟨nd, rfl⟩⟩))
     go_ret
     exact ⟨by first | rfl | (simp [errW_none, errW_some] <;> rfl) | (simp [*, errW_none, errW_some] <;> rfl), by repeat (first | (with_reducible first | exact HI0.out | apply IsS36.alloc | apply IsS36.drewN | apply IsS36.drew | apply IsS36.set_0 | apply IsS36.set_1 | apply IsS36.set_2 | apply IsS36.set_3) | exact HI0.out), by repeat (first | (with_reducible first | exact HB.out | apply below_alloc | apply pw_below_drewN | apply below_drew1 | refine below_set ?_ (IsS36.ge HI0.out)) | exact HB.out), by repeat (first | (with_reducible first | exact HK.out | apply KeepBut.set_ | apply keep_drewN | apply keep_drew | apply keep_alloc) | exact HK.out)⟩
   ·replace c13 := Bool.eq_false_iff.mpr c13
    subst c13
    have H1 : (some (false, s0_0, s0_1, s0_2, s0_3)) = some (r1, r2, r3, r4, r5) := by rw [if_neg (show ¬ (false = true) by decide)] at H; exact H
    clear H
    have H := H1
    clear H1
    simp only [Option.some.injEq, Prod.mk.injEq] at H
    obtain ⟨rfl, rfl, rfl, rfl, rfl⟩ := H
    obtain ⟨HGz19, hgz19⟩ := HI0.out
    have hcz19_0 := cellS36_0 HGz19
    have hcz19_1 := cellS36_1 HGz19
    have hcz19_2 := cellS36_2 HGz19
    have hcz19_3 := cellS36_3 HGz19
    have hfz19_0 := blk_frozen HGz19 0
    have hfz19_1 := blk_frozen HGz19 1
    have hfz19_2 := blk_frozen HGz19 2
    have hfz19_3 := blk_frozen HGz19 3
    clear HGz19 hgz19
    go_enter Tryd.func21, Tryd.ntmps21
    go_wp2_with (first | (go_at_call 29; (with_reducible refine (spec_l00In.calls s0_1 0 2 false _ A12.out).mono ?_); rintro e w' ⟨rfl, ⟨nd, rfl⟩⟩))
    go_ret
    exact ⟨by first | rfl | (simp [errW_none, errW_some] <;> rfl) | (simp [*, errW_none, errW_some] <;> rfl), by repeat (first | (with_reducible first | exact HI0.out | apply IsS36.alloc | apply IsS36.drewN | apply IsS36.drew | apply IsS36.set_0 | apply IsS36.set_1 | apply IsS36.set_2 | apply IsS36.set_3) | exact HI0.out), by repeat (first | (with_reducible first | exact HB.out | apply below_alloc | apply pw_below_drewN | apply below_drew1 | refine below_set ?_ (IsS36.ge HI0.out)) | exact HB.out), by repeat (first | (with_reducible first | exact HK.out | apply KeepBut.set_ | apply keep_drewN | apply keep_drew | apply keep_alloc) | exact HK.out)⟩
  ·rw [if_neg c11] at H
   have c11b0 : (s0_0 == 4) = false := beq_eq_false_iff_ne.mpr c11
   have c11b1 : (s0_0 != 4) = true := bne_iff_ne.mpr c11
   simp only [Option.some.injEq, Prod.mk.injEq] at H
   obtain ⟨rfl, rfl, rfl, rfl, rfl⟩ := H
   obtain ⟨HGz20, hgz20⟩ := HI0.out
   have hcz20_0 := cellS36_0 HGz20
   have hcz20_1 := cellS36_1 HGz20
   have hcz20_2 := cellS36_2 HGz20
   have hcz20_3 := cellS36_3 HGz20
   have hfz20_0 := blk_frozen HGz20 0
   have hfz20_1 := blk_frozen HGz20 1
   have hfz20_2 := blk_frozen HGz20 2
   have hfz20_3 := blk_frozen HGz20 3
   clear HGz20 hgz20
   go_enter Tryd.func21, Tryd.ntmps21
   go_wp2
   go_ret
   exact ⟨by first | rfl | (simp [errW_none, errW_some] <;> rfl) | (simp [*, errW_none, errW_some] <;> rfl), by repeat (first | (with_reducible first | exact HI0.out | apply IsS36.alloc | apply IsS36.drewN | apply IsS36.drew | apply IsS36.set_0 | apply IsS36.set_1 | apply IsS36.set_2 | apply IsS36.set_3) | exact HI0.out), by repeat (first | (with_reducible first | exact HB.out | apply below_alloc | apply pw_below_drewN | apply below_drew1 | refine below_set ?_ (IsS36.ge HI0.out)) | exact HB.out), by repeat (first | (with_reducible first | exact HK.out | apply KeepBut.set_ | apply keep_drewN | apply keep_drew | apply keep_alloc) | exact HK.out)⟩

end Go.Proofs.YteccfnppbonniaaDoor.Pa

namespace Go.Proofs.YteccfnppbonniaaDoor.Pa
open Go.RowKit Go.Proofs.YteccfnppbonniaaDoorW.PrintWords Go.Proofs.YteccfnppbonniaaDoorW.PrintLast Go.Proofs.YteccfnppbonniaaDoorW.PrintMore
attribute [local go_sem] max2_int min2_int max_two min_two max_three min_three max_four min_four   -- for this text's walks alone
set_option linter.unusedVariables false
set_option linter.unusedSimpArgs false

/-! ### spec_l05Begin: function 22 -/
def spec_l05Begin.f  : Option (Int × Int × Int × Int × Int × Int × Int × Int × Int × Int × Int × Int) := some (0, 0, 0, (-1), 0, 0, 0, 0, 0, 0, 2, 0)
set_option maxHeartbeats 8000000 in
set_option maxRecDepth 100000 in
theorem spec_l05Begin.calls  (r1 : Int) (r2 : Int) (r3 : Int) (r4 : Int) (r5 : Int) (r6 : Int) (r7 : Int) (r8 : Int) (r9 : Int) (r10 : Int) (r11 : Int) (r12 : Int) (w : World) (h : spec_l05Begin.f  = some (r1, r2, r3, r4, r5, r6, r7, r8, r9, r10, r11, r12)) :
  Calls Tryd.prog 22 #[] w fun e w' => e = .returned (.agg #[.int .i64 r1, .int .i64 r2, .int .i64 r3, .int .i64 r4, .int .i64 r5, .int .i64 r6, .int .i64 r7, .int .i64 r8, .int .i64 r9, .int .i64 r10, .int .i64 r11, .int .i64 r12]) ∧ Below w.heap.size w w' := by
 have hu53 := Tryd.underlying53
 have HB := Aside0.mk (Below.refl w.heap.size w)
 have H : (some (0, 0, 0, (-1), 0, 0, 0, 0, 0, 0, 2, 0)) = some (r1, r2, r3, r4, r5, r6, r7, r8, r9, r10, r11, r12) := h
 clear h
 simp only [Option.some.injEq, Prod.mk.injEq] at H
 obtain ⟨rfl, rfl, rfl, rfl, rfl, rfl, rfl, rfl, rfl, rfl, rfl, rfl⟩ := H
 go_enter Tryd.func22, Tryd.ntmps22
 go_wp2_with (first | ((with_reducible refine gate_dst (N := 0) rfl ?_); refine box_event ?hg (N := 0) ?hd (cs := #[.int .i64 0, .int .i64 0, .int .i64 0, .int .i64 0, .int .i64 0, .int .i64 0, .int .i64 0, .int .i64 0, .int .i64 0, .int .i64 0, .int .i64 0, .int .i64 0]) (t := 53) ?hr ?_; (case hd => rfl); (case hg => rfl); (case hr => first | (go_simp; done) | (go_simp; rfl)); intro gb154 hg w1 hbox hb; have n0_ := Aside0.mk (below_step (by repeat (first | (with_reducible first | exact HB.out | apply below_alloc | apply pw_below_drewN | apply below_drew1) | exact HB.out)) hb); have n1_ := Aside0.mk (hbox); have n2_ := Aside0.mk ((by rw [hg]; exact (below_size (by repeat (first | (with_reducible first | exact HB.out | apply below_alloc | apply pw_below_drewN | apply below_drew1) | exact HB.out))) : w.heap.size ≤ gb154)); have n3_ := Aside0.mk ((by rw [hg]; exact (below_size (by repeat (first | (with_reducible first | exact HB.out | apply below_alloc | apply pw_below_drewN | apply below_drew1) | exact HB.out))) : w.heap.size ≤ gb154)); clear HB; have HB := n0_; have BK154 := n1_; have GW154 := n2_; have GE154 := n3_; clear n0_ n1_ n2_ n3_; clear hb hbox hg; have hcz2_0 : w1.cell? ⟨gb154, 0, none⟩ = some (.int .i64 0) := (blk_cell BK154.out 0).trans rfl; have hcz2_1 : w1.cell? ⟨gb154, 1, none⟩ = some (.int .i64 0) := (blk_cell BK154.out 1).trans rfl; have hcz2_2 : w1.cell? ⟨gb154, 2, none⟩ = some (.int .i64 0) := (blk_cell BK154.out 2).trans rfl; have hcz2_3 : w1.cell? ⟨gb154, 3, none⟩ = some (.int .i64 0) := (blk_cell BK154.out 3).trans rfl; have hcz2_4 : w1.cell? ⟨gb154, 4, none⟩ = some (.int .i64 0) := (blk_cell BK154.out 4).trans rfl; have hcz2_5 : w1.cell? ⟨gb154, 5, none⟩ = some (.int .i64 0) := (blk_cell BK154.out 5).trans rfl; have hcz2_6 : w1.cell? ⟨gb154, 6, none⟩ = some (.int .i64 0) := (blk_cell BK154.out 6).trans rfl; have hcz2_7 : w1.cell? ⟨gb154, 7, none⟩ = some (.int .i64 0) := (blk_cell BK154.out 7).trans rfl; have hcz2_8 : w1.cell? ⟨gb154, 8, none⟩ = some (.int .i64 0) := (blk_cell BK154.out 8).trans rfl; have hcz2_9 : w1.cell? ⟨gb154, 9, none⟩ = some (.int .i64 0) := (blk_cell BK154.out 9).trans rfl; have hcz2_10 : w1.cell? ⟨gb154, 10, none⟩ = some (.int .i64 0) := (blk_cell BK154.out 10).trans rfl; have hcz2_11 : w1.cell? ⟨gb154, 11, none⟩ = some (.int .i64 0) := (blk_cell BK154.out 11).trans rfl; have hfz2_0 := blk_frozen BK154.out 0; have hfz2_1 := blk_frozen BK154.out 1; have hfz2_2 := blk_frozen BK154.out 2; have hfz2_3 := blk_frozen BK154.out 3; have hfz2_4 := blk_frozen BK154.out 4; have hfz2_5 := blk_frozen BK154.out 5; have hfz2_6 := blk_frozen BK154.out 6; have hfz2_7 := blk_frozen BK154.out 7; have hfz2_8 := blk_frozen BK154.out 8; have hfz2_9 := blk_frozen BK154.out 9; have hfz2_10 := blk_frozen BK154.out 10; have hfz2_11 := blk_frozen BK154.out 11))
 refine bodyPost_ret (results_cell_row rfl _ _ gb154 53 #[.int .i64 0, .int .i64 0, .int .i64 0, .int .i64 (-1), .int .i64 0, .int .i64 0, .int .i64 0, .int .i64 0, .int .i64 0, .int .i64 0, .int .i64 2, .int .i64 0] (0, 0) _ rfl (by (with_reducible repeat (first | refine blk_drewN ?_ _ | refine blk_drew ?_ | refine blk_alloc ?_ _)); refine blk_put (cs := #[.int .i64 0, .int .i64 0, .int .i64 0, .int .i64 (-1), .int .i64 0, .int .i64 0, .int .i64 0, .int .i64 0, .int .i64 0, .int .i64 0, .int .i64 2, .int .i64 0]) ?_ 11 _ rfl; (with_reducible repeat (first | refine blk_drewN ?_ _ | refine blk_drew ?_ | refine blk_alloc ?_ _)); refine blk_put (cs := #[.int .i64 0, .int .i64 0, .int .i64 0, .int .i64 (-1), .int .i64 0, .int .i64 0, .int .i64 0, .int .i64 0, .int .i64 0, .int .i64 0, .int .i64 0, .int .i64 0]) ?_ 10 _ rfl; (with_reducible repeat (first | refine blk_drewN ?_ _ | refine blk_drew ?_ | refine blk_alloc ?_ _)); refine blk_put (cs := #[.int .i64 0, .int .i64 0, .int .i64 0, .int .i64 (-1), .int .i64 0, .int .i64 0, .int .i64 0, .int .i64 0, .int .i64 0, .int .i64 0, .int .i64 0, .int .i64 0]) ?_ 9 _ rfl; (with_reducible repeat (first | refine blk_drewN ?_ _ | refine blk_drew ?_ | refine blk_alloc ?_ _)); refine blk_put (cs := #[.int .i64 0, .int .i64 0, .int .i64 0, .int .i64 (-1), .int .i64 0, .int .i64 0, .int .i64 0, .int .i64 0, .int .i64 0, .int .i64 0, .int .i64 0, .int .i64 0]) ?_ 8 _ rfl; (with_reducible repeat (first | refine blk_drewN ?_ _ | refine blk_drew ?_ | refine blk_alloc ?_ _)); refine blk_put (cs := #[.int .i64 0, .int .i64 0, .int .i64 0, .int .i64 (-1), .int .i64 0, .int .i64 0, .int .i64 0, .int .i64 0, .int .i64 0, .int .i64 0, .int .i64 0, .int .i64 0]) ?_ 7 _ rfl; (with_reducible repeat (first | refine blk_drewN ?_ _ | refine blk_drew ?_ | refine blk_alloc ?_ _)); refine blk_put (cs := #[.int .i64 0, .int .i64 0, .int .i64 0, .int .i64 (-1), .int .i64 0, .int .i64 0, .int .i64 0, .int .i64 0, .int .i64 0, .int .i64 0, .int .i64 0, .int .i64 0]) ?_ 6 _ rfl; (with_reducible repeat (first | refine blk_drewN ?_ _ | refine blk_drew ?_ | refine blk_alloc ?_ _)); refine blk_put (cs := #[.int .i64 0, .int .i64 0, .int .i64 0, .int .i64 (-1), .int .i64 0, .int .i64 0, .int .i64 0, .int .i64 0, .int .i64 0, .int .i64 0, .int .i64 0, .int .i64 0]) ?_ 5 _ rfl; (with_reducible repeat (first | refine blk_drewN ?_ _ | refine blk_drew ?_ | refine blk_alloc ?_ _)); refine blk_put (cs := #[.int .i64 0, .int .i64 0, .int .i64 0, .int .i64 (-1), .int .i64 0, .int .i64 0, .int .i64 0, .int .i64 0, .int .i64 0, .int .i64 0, .int .i64 0, .int .i64 0]) ?_ 4 _ rfl; (with_reducible repeat (first | refine blk_drewN ?_ _ | refine blk_drew ?_ | refine blk_alloc ?_ _)); refine blk_put (cs := #[.int .i64 0, .int .i64 0, .int .i64 0, .int .i64 0, .int .i64 0, .int .i64 0, .int .i64 0, .int .i64 0, .int .i64 0, .int .i64 0, .int .i64 0, .int .i64 0]) ?_ 3 _ rfl; (with_reducible repeat (first | refine blk_drewN ?_ _ | refine blk_drew ?_ | refine blk_alloc ?_ _)); refine blk_put (cs := #[.int .i64 0, .int .i64 0, .int .i64 0, .int .i64 0, .int .i64 0, .int .i64 0, .int .i64 0, .int .i64 0, .int .i64 0, .int .i64 0, .int .i64 0, .int .i64 0]) ?_ 2 _ rfl; (with_reducible repeat (first | refine blk_drewN ?_ _ | refine blk_drew ?_ | refine blk_alloc ?_ _)); refine blk_put (cs := #[.int .i64 0, .int .i64 0, .int .i64 0, .int .i64 0, .int .i64 0, .int .i64 0, .int .i64 0, .int .i64 0, .int .i64 0, .int .i64 0, .int .i64 0, .int .i64 0]) ?_ 1 _ rfl; (with_reducible repeat (first | refine blk_drewN ?_ _ | refine blk_drew ?_ | refine blk_alloc ?_ _)); refine blk_put (cs := #[.int .i64 0, .int .i64 0, .int .i64 0, .int .i64 0, .int .i64 0, .int .i64 0, .int .i64 0, .int .i64 0, .int .i64 0, .int .i64 0, .int .i64 0, .int .i64 0]) ?_ 0 _ rfl; (with_reducible repeat (first | refine blk_drewN ?_ _ | refine blk_drew ?_ | refine blk_alloc ?_ _)); exact BK154.out) Tryd.underlying53 rfl (by kernel_rfl)) rfl ?_
 exact ⟨by first | rfl | (simp [errW_none, errW_some] <;> rfl) | (simp [*, errW_none, errW_some] <;> rfl), by repeat (first | (with_reducible first | exact HB.out | apply below_alloc | apply pw_below_drewN | apply below_drew1 | refine below_set ?_ GE154.out) | exact HB.out)⟩

end Go.Proofs.YteccfnppbonniaaDoor.Pa

namespace Go.Proofs.YteccfnppbonniaaDoor.Pa
open Go.RowKit Go.Proofs.YteccfnppbonniaaDoorW.PrintWords Go.Proofs.YteccfnppbonniaaDoorW.PrintLast Go.Proofs.YteccfnppbonniaaDoorW.PrintMore
attribute [local go_sem] max2_int min2_int max_two min_two max_three min_three max_four min_four   -- for this text's walks alone
set_option linter.unusedVariables false
set_option linter.unusedSimpArgs false

/-! ### spec_l05Seen: function 36 -/
def spec_l05Seen.f (a0 : Int) (a1 : Int) (a2 : Int) : Option (Int × Int) := if a0 = 0 then (some (a2, 0)) else (if 0 ≤ (IntKind.u64.wrap (wrap64 (a0 - 1))) then (if 0 ≤ (IntKind.u64.wrap (a0)) then (some (Go.bits .and .i64 (shr .i64 a1 (IntKind.u64.wrap (wrap64 (a0 - 1)))) 1, Go.bits .and .i64 (Go.bits .or .i64 (wrap64 (a1 * 2)) a2) (wrap64 ((shl .i64 1 (IntKind.u64.wrap (a0))) - 1)))) else (none)) else (none))
set_option maxHeartbeats 8000000 in
set_option maxRecDepth 100000 in
theorem spec_l05Seen.calls (a0 : Int) (a1 : Int) (a2 : Int) (r1 : Int) (r2 : Int) (w : World) (h : spec_l05Seen.f a0 a1 a2 = some (r1, r2)) :
  Calls Tryd.prog 36 #[.int .i64 a0, .int .i64 a1, .int .i64 a2] w fun e w' => e = .returned (.tuple #[.int .i64 r1, .int .i64 r2]) ∧ Drawn0 w w' := by
 have H : (if a0 = 0 then (some (a2, 0)) else (if 0 ≤ (IntKind.u64.wrap (wrap64 (a0 - 1))) then (if 0 ≤ (IntKind.u64.wrap (a0)) then (some (Go.bits .and .i64 (shr .i64 a1 (IntKind.u64.wrap (wrap64 (a0 - 1)))) 1, Go.bits .and .i64 (Go.bits .or .i64 (wrap64 (a1 * 2)) a2) (wrap64 ((shl .i64 1 (IntKind.u64.wrap (a0))) - 1)))) else (none)) else (none))) = some (r1, r2) := h
 clear h
 by_cases c4 : a0 = 0
 ·rw [if_pos c4] at H
  have c4b0 : (a0 == 0) = true := beq_iff_eq.mpr c4
  have c4b1 : (a0 != 0) = false := bne_eq_false_iff_eq.mpr c4
  clear c4
  simp only [Option.some.injEq, Prod.mk.injEq] at H
  obtain ⟨rfl, rfl⟩ := H
  go_enter Tryd.func36, Tryd.ntmps36
  go_wp2
  go_ret2
  exact ⟨by first | rfl | (simp; done) | (simp [*]; done), by repeat (first | exact Drawn0.refl _ | apply Drawn0.step)⟩
 ·rw [if_neg c4] at H
  have c4b0 : (a0 == 0) = false := beq_eq_false_iff_ne.mpr c4
  have c4b1 : (a0 != 0) = true := bne_iff_ne.mpr c4
  obtain ⟨ji5, hji5⟩ : ∃ j_ : Int, (IntKind.u64.wrap (wrap64 (a0 - 1))) = j_ := ⟨_, rfl⟩
  replace H : (if 0 ≤ (ji5) then (if 0 ≤ (IntKind.u64.wrap (a0)) then (some (Go.bits .and .i64 (shr .i64 a1 (ji5)) 1, Go.bits .and .i64 (Go.bits .or .i64 (wrap64 (a1 * 2)) a2) (wrap64 ((shl .i64 1 (IntKind.u64.wrap (a0))) - 1)))) else (none)) else (none)) = some (r1, r2) := by first | (rw [hji5] at H; exact H) | (simp only [hji5] at H ⊢; exact H)
  by_cases c6 : 0 ≤ (ji5)
  ·rw [if_pos c6] at H
   have c6b0 := eq_true c6
   have c6b1 : decide (0 ≤ (ji5)) = true := decide_eq_true c6
   clear c6
   obtain ⟨ji7, hji7⟩ : ∃ j_ : Int, (shr .i64 a1 (ji5)) = j_ := ⟨_, rfl⟩
   replace H : (if 0 ≤ (IntKind.u64.wrap (a0)) then (some (Go.bits .and .i64 (ji7) 1, Go.bits .and .i64 (Go.bits .or .i64 (wrap64 (a1 * 2)) a2) (wrap64 ((shl .i64 1 (IntKind.u64.wrap (a0))) - 1)))) else (none)) = some (r1, r2) := by first | (rw [hji7] at H; exact H) | (simp only [hji7] at H ⊢; exact H)
   have hji7_ : (a1 / 2 ^ min (ji5).toNat 64) = ji7 := hji7
   have hji7z : (ji5) ≤ 64 → (a1 / 2 ^ (ji5).toNat) = ji7 := shr_small hji7
   obtain ⟨ji8, hji8⟩ : ∃ j_ : Int, (IntKind.u64.wrap (a0)) = j_ := ⟨_, rfl⟩
   replace H : (if 0 ≤ (ji8) then (some (Go.bits .and .i64 (ji7) 1, Go.bits .and .i64 (Go.bits .or .i64 (wrap64 (a1 * 2)) a2) (wrap64 ((shl .i64 1 (ji8)) - 1)))) else (none)) = some (r1, r2) := by first | (rw [hji8] at H; exact H) | (simp only [hji8] at H ⊢; exact H)
   by_cases c9 : 0 ≤ (ji8)
   ·rw [if_pos c9] at H
    have c9b0 := eq_true c9
    have c9b1 : decide (0 ≤ (ji8)) = true := decide_eq_true c9
    clear c9
    obtain ⟨ji10, hji10⟩ : ∃ j_ : Int, (shl .i64 1 (ji8)) = j_ := ⟨_, rfl⟩
    replace H : (some (Go.bits .and .i64 (ji7) 1, Go.bits .and .i64 (Go.bits .or .i64 (wrap64 (a1 * 2)) a2) (wrap64 ((ji10) - 1)))) = some (r1, r2) := by first | (rw [hji10] at H; exact H) | (simp only [hji10] at H ⊢; exact H)
    have hji10_ : (IntKind.i64.wrap (1 * 2 ^ min (ji8).toNat 64)) = ji10 := hji10
    have hji10z : (ji8) ≤ 64 → (IntKind.i64.wrap (1 * 2 ^ (ji8).toNat)) = ji10 := shl_small hji10
    have hji10u : (IntKind.i64.wrap (2 ^ min (ji8).toNat 64)) = ji10 := by have h_ := hji10_; rw [Int.one_mul] at h_; exact h_
    have hji10v : (ji8) ≤ 64 → (IntKind.i64.wrap (2 ^ (ji8).toNat)) = ji10 := fun hle_ => by have h_ := hji10z hle_; rw [Int.one_mul] at h_; exact h_
    have hji10y : (wrap64 (1 * 2 ^ min (ji8).toNat 64)) = ji10 := (i64_w _).symm.trans hji10_
    have hji10x : (ji8) ≤ 64 → (wrap64 (1 * 2 ^ (ji8).toNat)) = ji10 := fun h_ => (i64_w _).symm.trans (hji10z h_)
    simp only [Option.some.injEq, Prod.mk.injEq] at H
    obtain ⟨rfl, rfl⟩ := H
    go_enter Tryd.func36, Tryd.ntmps36
    go_wp2
    go_ret2
    exact ⟨by first | rfl | (simp; done) | (simp only [← hji5, ← hji7, ← hji8, ← hji10] <;> (first | rfl | simp)) | (simp [*]; done), by repeat (first | exact Drawn0.refl _ | apply Drawn0.step)⟩
   ·rw [if_neg c9] at H
    exact absurd H (by simp)
  ·rw [if_neg c6] at H
   exact absurd H (by simp)

end Go.Proofs.YteccfnppbonniaaDoor.Pa

