-- Written for this claim by a program of this session.
import Derived.Test.YteccfnppbonniaaDoorPax0
import Derived.Test.YteccfnppbonniaaDoorCoreL2
namespace Go.Proofs.YteccfnppbonniaaDoor.Pa
open Go.RowKit Go.Proofs.YteccfnppbonniaaDoorW.PrintWords Go.Proofs.YteccfnppbonniaaDoorW.PrintLast Go.Proofs.YteccfnppbonniaaDoorW.PrintMore
attribute [local go_sem] max2_int min2_int max_two min_two max_three min_three max_four min_four   -- for this text's walks alone
set_option linter.unusedVariables false
set_option linter.unusedSimpArgs false

/-! ### AUX linkD -/
def spec_linkSend.T0 : Bool × List (List Nat × List Nat) := (true, [([], []), ([0], [0]), ([1], [1]), ([2], [2]), ([], []), ([4], [4]), ([5], [5]), ([6], [6]), ([], []), ([8], [8]), ([9], [9]), ([10], [10]), ([3, 7, 11], [3, 7, 11]), ([12], [12]), ([13], [13]), ([13], [13]), ([14, 12, 0, 1, 2, 3, 4, 5, 6, 7, 8, 9, 10, 11, 12, 13, 14], [14]), ([15, 16, 0, 1, 2, 3, 4, 5, 6, 7, 8, 9, 10, 11, 12, 13, 14, 15, 16], [15])])
def spec_linkSend.B0 : List Nat := [0, 1, 3, 7, 0, 16, 48, 112, 0, 256, 768, 1792, 4095, 8191, 16383, 16383, 32767, 131071]
theorem spec_linkSend.tab0 : rtab .any (opsOf Tryd.f23 0) = spec_linkSend.T0 := by kernel_rfl
theorem spec_linkSend.bits0 : waitsOk spec_linkSend.T0.2 spec_linkSend.B0 = true := by kernel_rfl
/-- What is on its way comes on, behind a step of the sender. -/
def advS (x3 x4 x5 : Int) : Int × Int × Int := if 0 < x4 then (if wrap64 (x4 - 1) = 0 then (x5, wrap64 (x4 - 1), 0) else (x3, wrap64 (x4 - 1), x5)) else (x3, x4, x5)
/-- What the sender does: its side, the next word, the place, how far, what comes. -/
def actS (l0 l2 l3 sn x0 x2 a3 a4 a5 : Int) : Int × Int × Int × Int × Int :=
 if l0 = 4 ∧ x0 = 1 then (if sn = 1 then (0, x2, a3, a4, a5) else (x0, x2, a3, a4, a5))
 else if sn = x0 ∧ ¬ x2 = l3 then (if l2 = 0 then (wrap64 (1 - x0), wrap64 (x2 + 1), x2, a4, a5) else (wrap64 (1 - x0), wrap64 (x2 + 1), a3, l2, x2)) else (x0, x2, a3, a4, a5)
set_option maxHeartbeats 12000000 in
set_option maxRecDepth 100000 in
theorem l05Send.calls (gl gx : Nat) (x0 x1 x2 x3 x4 x5 x6 x7 x8 x9 x10 x11 l0 l1 l2 l3 sn rw_ : Int) (z0 z2 z3 z4 z5 : Int) (w : World) (hne : gl ≠ gx) (hl : w.heap[gl]? = some (.cells #[.int .i64 l0, .int .i64 l1, .int .i64 l2, .int .i64 l3] 36 (0, 0))) (hx : w.heap[gx]? = some (.cells #[.int .i64 x0, .int .i64 x1, .int .i64 x2, .int .i64 x3, .int .i64 x4, .int .i64 x5, .int .i64 x6, .int .i64 x7, .int .i64 x8, .int .i64 x9, .int .i64 x10, .int .i64 x11] 53 (0, 0))) (hs : spec_l05Seen.f l1 x6 x1 = some (sn, rw_)) (h : actS l0 l2 l3 sn x0 x2 (advS x3 x4 x5).1 (advS x3 x4 x5).2.1 (advS x3 x4 x5).2.2 = (z0, z2, z3, z4, z5)) :
  Calls Tryd.prog 23 #[.pointer (some ⟨gl, 0, none⟩), .pointer (some ⟨gx, 0, none⟩)] w fun e w' => e = .returned (.tuple #[]) ∧ w'.heap[gx]? = some (.cells #[.int .i64 z0, .int .i64 x1, .int .i64 z2, .int .i64 z3, .int .i64 z4, .int .i64 z5, .int .i64 rw_, .int .i64 x7, .int .i64 x8, .int .i64 x9, .int .i64 x10, .int .i64 x11] 53 (0, 0)) ∧ Kept w w' (fun b => b = gx) ∧ Below 0 w w' := by
 have hu := Tryd.underlying53
 have hu2 := Tryd.underlying36
 have HX := Aside0.mk hx; have HL := Aside0.mk hl; have HNE := Aside0.mk hne; have HSN := Aside0.mk hs; have KP : Aside0 (Kept w w (fun b => b = gx)) := ⟨Kept.refl _ _⟩; have HZ : Aside0 (Below 0 w w) := ⟨Below.refl _ _⟩
 clear hx hl hne hs
 go_enter Tryd.func23, Tryd.ntmps23
 go_wp2_with (fail)
 have hb : Below w.heap.size w w.drew := below_drew1 (Below.refl _ _)
 replace KP := Aside0.mk (Kept.then_ KP.out (Kept.of_below hb (fun b => b = gx)) (fun b hb => .inl hb)); replace HX := Aside0.mk (blk_below HX.out hb); replace HL := Aside0.mk (blk_below HL.out hb); replace HZ := Aside0.mk (Below.trans HZ.out (Below.mono hb (Nat.zero_le _)))
 clear hb
 refine start_ (n := 18) (S := fun w' => True) (ds := []) #[false, false, false, false, false, false, false, false, false, false, false, false, false, false, false, false, false, false] (by kernel_rfl) rfl rfl trivial (fun hHeld => ?_)
 refine with_tabW spec_linkSend.tab0 spec_linkSend.bits0 (fun HT_ HW_ => ?_)
 generalize w.drew = wk_ at KP HX HL HZ hHeld ⊢
 refine pure_ (i := 0) (N := some 7) (v := ?_) (a' := ?_) #[true, false, false, false, false, false, false, false, false, false, false, false, false, false, false, false, false, false] rfl rfl (any_of HT_.out (by kernel_rfl)) (fun _ _ _ h => h) (Or.inl ⟨by rfl, ?_⟩) ?_ ?_
 rotate_left
 ·intro w'
  go_simp
  with_reducible rfl
 rotate_left
 ·simp only [Act.put, List.setIfInBounds_toArray, List.set_cons_zero, List.set_cons_succ, i64_w, i32_w]
  rfl
 refine pure_ (i := 4) (N := some 11) (v := ?_) (a' := ?_) #[true, false, false, false, true, false, false, false, false, false, false, false, false, false, false, false, false, false] rfl rfl (any_of HT_.out (by kernel_rfl)) (fun _ _ _ h => h) (Or.inl ⟨by rfl, ?_⟩) ?_ ?_
 rotate_left
 ·intro w'
  go_simp
  with_reducible rfl
 rotate_left
 ·simp only [Act.put, List.setIfInBounds_toArray, List.set_cons_zero, List.set_cons_succ, i64_w, i32_w]
  rfl
 refine pure_ (i := 8) (N := some 15) (v := ?_) (a' := ?_) #[true, false, false, false, true, false, false, false, true, false, false, false, false, false, false, false, false, false] rfl rfl (any_of HT_.out (by kernel_rfl)) (fun _ _ _ h => h) (Or.inl ⟨by rfl, ?_⟩) ?_ ?_
 rotate_left
 ·intro w'
  go_simp
  with_reducible rfl
 rotate_left
 ·simp only [Act.put, List.setIfInBounds_toArray, List.set_cons_zero, List.set_cons_succ, i64_w, i32_w]
  rfl
 refine inv_at [1, 2, 3, 5, 6, 7, 9, 10, 11, 12, 13, 14, 15, 16, 17] (fun a0_ b a w' => a = putSel a0_ b [(1, 8, .pointer (some ⟨gl, 0, none⟩)), (2, 9, .pointer (some ⟨gl, 1, none⟩)), (3, 10, .int .i64 l1), (5, 12, .pointer (some ⟨gx, 0, none⟩)), (6, 13, .pointer (some ⟨gx, 6, none⟩)), (7, 14, .int .i64 x6), (9, 16, .pointer (some ⟨gx, 0, none⟩)), (10, 17, .pointer (some ⟨gx, 1, none⟩)), (11, 18, .int .i64 x1), (12, 19, .tuple #[.int .i64 sn, .int .i64 rw_]), (13, 6, .tuple #[.int .i64 sn, .int .i64 rw_]), (14, 20, .int .i64 sn), (15, 21, .int .i64 rw_), (16, 4, .int .i64 sn), (17, 5, .int .i64 rw_)] ∧ (Below 0 w w') ∧ (Kept w w' (fun b => b = gx)) ∧ (w'.heap[gx]? = some (.cells #[.int .i64 x0, .int .i64 x1, .int .i64 x2, .int .i64 x3, .int .i64 x4, .int .i64 x5, .int .i64 x6, .int .i64 x7, .int .i64 x8, .int .i64 x9, .int .i64 x10, .int .i64 x11] 53 (0, 0))) ∧ (w'.heap[gl]? = some (.cells #[.int .i64 l0, .int .i64 l1, .int .i64 l2, .int .i64 l3] 36 (0, 0)))) HT_.out HW_.out (by kernel_rfl) (by kernel_rfl) ?_ ?_ ?_
 ·exact ⟨by simp only [putSel, Bool.false_eq_true, if_false], HZ.out, KP.out, HX.out, HL.out⟩
 ·skip
  clear HL HX HZ KP
  refine steps_cons ?_ ?_
  ·rintro b a w' ⟨ha, Q_HZ, Q_KP, Q_HX, Q_HL⟩ hb_ hon hoff
   refine ⟨_, rfl, fun K hK => ?_⟩
   have e7 : a.tmps[7]? = some (.pointer (some ⟨gl, 0, none⟩)) := by rw [ha]; exact (putSel_off rfl).trans rfl
   replace ha := Aside0.mk ha
   have HZ := Aside0.mk Q_HZ
   have KP := Aside0.mk Q_KP
   have HX := Aside0.mk Q_HX
   have HL := Aside0.mk Q_HL
   refine value_ (w1 := w') (v := .pointer (some ⟨gl, 0, none⟩)) (by rfl) rfl ?_ ?_
   ·go_simp
    (try simp only [i64_w])
    try rfl
   refine hK.out _ _ ⟨(by rw [ha.out]; exact putSel_upk 0 hb_ rfl rfl rfl), Q_HZ, Q_KP, Q_HX, Q_HL⟩
  refine steps_cons ?_ ?_
  ·rintro b a w' ⟨ha, Q_HZ, Q_KP, Q_HX, Q_HL⟩ hb_ hon hoff
   refine ⟨_, rfl, fun K hK => ?_⟩
   have e8 : a.tmps[8]? = some (.pointer (some ⟨gl, 0, none⟩)) := by rw [ha]; exact putSel_on (e := (1, 8, .pointer (some ⟨gl, 0, none⟩))) 0 rfl rfl (hon 1 (by kernel_rfl)) rfl
   replace ha := Aside0.mk ha
   have HZ := Aside0.mk Q_HZ
   have KP := Aside0.mk Q_KP
   have HX := Aside0.mk Q_HX
   have HL := Aside0.mk Q_HL
   refine value_ (w1 := w') (v := .pointer (some ⟨gl, 1, none⟩)) (by rfl) rfl ?_ ?_
   ·go_simp
    (try simp only [i64_w])
    try rfl
   refine hK.out _ _ ⟨(by rw [ha.out]; exact putSel_upk 1 hb_ rfl rfl rfl), Q_HZ, Q_KP, Q_HX, Q_HL⟩
  refine steps_cons ?_ ?_
  ·rintro b a w' ⟨ha, Q_HZ, Q_KP, Q_HX, Q_HL⟩ hb_ hon hoff
   refine ⟨_, rfl, fun K hK => ?_⟩
   have e9 : a.tmps[9]? = some (.pointer (some ⟨gl, 1, none⟩)) := by rw [ha]; exact putSel_on (e := (2, 9, .pointer (some ⟨gl, 1, none⟩))) 1 rfl rfl (hon 2 (by kernel_rfl)) rfl
   replace ha := Aside0.mk ha
   have HZ := Aside0.mk Q_HZ
   have KP := Aside0.mk Q_KP
   have HX := Aside0.mk Q_HX
   have HL := Aside0.mk Q_HL
   have hc1_ : w'.cell? ⟨gl, 1, none⟩ = some (.int .i64 l1) := (blk_cell HL.out 1).trans rfl
   refine value_ (w1 := w') (v := .int .i64 l1) (by rfl) rfl ?_ ?_
   ·go_simp
    (try simp only [i64_w])
    try rfl
   refine hK.out _ _ ⟨(by rw [ha.out]; exact putSel_upk 2 hb_ rfl rfl rfl), Q_HZ, Q_KP, Q_HX, Q_HL⟩
  refine steps_cons ?_ ?_
  ·rintro b a w' ⟨ha, Q_HZ, Q_KP, Q_HX, Q_HL⟩ hb_ hon hoff
   refine ⟨_, rfl, fun K hK => ?_⟩
   have e11 : a.tmps[11]? = some (.pointer (some ⟨gx, 0, none⟩)) := by rw [ha]; exact (putSel_off rfl).trans rfl
   replace ha := Aside0.mk ha
   have HZ := Aside0.mk Q_HZ
   have KP := Aside0.mk Q_KP
   have HX := Aside0.mk Q_HX
   have HL := Aside0.mk Q_HL
   refine value_ (w1 := w') (v := .pointer (some ⟨gx, 0, none⟩)) (by rfl) rfl ?_ ?_
   ·go_simp
    (try simp only [i64_w])
    try rfl
   refine hK.out _ _ ⟨(by rw [ha.out]; exact putSel_upk 3 hb_ rfl rfl rfl), Q_HZ, Q_KP, Q_HX, Q_HL⟩
  refine steps_cons ?_ ?_
  ·rintro b a w' ⟨ha, Q_HZ, Q_KP, Q_HX, Q_HL⟩ hb_ hon hoff
   refine ⟨_, rfl, fun K hK => ?_⟩
   have e12 : a.tmps[12]? = some (.pointer (some ⟨gx, 0, none⟩)) := by rw [ha]; exact putSel_on (e := (5, 12, .pointer (some ⟨gx, 0, none⟩))) 3 rfl rfl (hon 5 (by kernel_rfl)) rfl
   replace ha := Aside0.mk ha
   have HZ := Aside0.mk Q_HZ
   have KP := Aside0.mk Q_KP
   have HX := Aside0.mk Q_HX
   have HL := Aside0.mk Q_HL
   refine value_ (w1 := w') (v := .pointer (some ⟨gx, 6, none⟩)) (by rfl) rfl ?_ ?_
   ·go_simp
    (try simp only [i64_w])
    try rfl
   refine hK.out _ _ ⟨(by rw [ha.out]; exact putSel_upk 4 hb_ rfl rfl rfl), Q_HZ, Q_KP, Q_HX, Q_HL⟩
  refine steps_cons ?_ ?_
  ·rintro b a w' ⟨ha, Q_HZ, Q_KP, Q_HX, Q_HL⟩ hb_ hon hoff
   refine ⟨_, rfl, fun K hK => ?_⟩
   have e13 : a.tmps[13]? = some (.pointer (some ⟨gx, 6, none⟩)) := by rw [ha]; exact putSel_on (e := (6, 13, .pointer (some ⟨gx, 6, none⟩))) 4 rfl rfl (hon 6 (by kernel_rfl)) rfl
   replace ha := Aside0.mk ha
   have HZ := Aside0.mk Q_HZ
   have KP := Aside0.mk Q_KP
   have HX := Aside0.mk Q_HX
   have HL := Aside0.mk Q_HL
   have hc6_ : w'.cell? ⟨gx, 6, none⟩ = some (.int .i64 x6) := (blk_cell HX.out 6).trans rfl
   refine value_ (w1 := w') (v := .int .i64 x6) (by rfl) rfl ?_ ?_
   ·go_simp
    (try simp only [i64_w])
    try rfl
   refine hK.out _ _ ⟨(by rw [ha.out]; exact putSel_upk 5 hb_ rfl rfl rfl), Q_HZ, Q_KP, Q_HX, Q_HL⟩
  refine steps_cons ?_ ?_
  ·rintro b a w' ⟨ha, Q_HZ, Q_KP, Q_HX, Q_HL⟩ hb_ hon hoff
   refine ⟨_, rfl, fun K hK => ?_⟩
   have e15 : a.tmps[15]? = some (.pointer (some ⟨gx, 0, none⟩)) := by rw [ha]; exact (putSel_off rfl).trans rfl
   replace ha := Aside0.mk ha
   have HZ := Aside0.mk Q_HZ
   have KP := Aside0.mk Q_KP
   have HX := Aside0.mk Q_HX
   have HL := Aside0.mk Q_HL
   refine value_ (w1 := w') (v := .pointer (some ⟨gx, 0, none⟩)) (by rfl) rfl ?_ ?_
   ·go_simp
    (try simp only [i64_w])
    try rfl
   refine hK.out _ _ ⟨(by rw [ha.out]; exact putSel_upk 6 hb_ rfl rfl rfl), Q_HZ, Q_KP, Q_HX, Q_HL⟩
  refine steps_cons ?_ ?_
  ·rintro b a w' ⟨ha, Q_HZ, Q_KP, Q_HX, Q_HL⟩ hb_ hon hoff
   refine ⟨_, rfl, fun K hK => ?_⟩
   have e16 : a.tmps[16]? = some (.pointer (some ⟨gx, 0, none⟩)) := by rw [ha]; exact putSel_on (e := (9, 16, .pointer (some ⟨gx, 0, none⟩))) 6 rfl rfl (hon 9 (by kernel_rfl)) rfl
   replace ha := Aside0.mk ha
   have HZ := Aside0.mk Q_HZ
   have KP := Aside0.mk Q_KP
   have HX := Aside0.mk Q_HX
   have HL := Aside0.mk Q_HL
   refine value_ (w1 := w') (v := .pointer (some ⟨gx, 1, none⟩)) (by rfl) rfl ?_ ?_
   ·go_simp
    (try simp only [i64_w])
    try rfl
   refine hK.out _ _ ⟨(by rw [ha.out]; exact putSel_upk 7 hb_ rfl rfl rfl), Q_HZ, Q_KP, Q_HX, Q_HL⟩
  refine steps_cons ?_ ?_
  ·rintro b a w' ⟨ha, Q_HZ, Q_KP, Q_HX, Q_HL⟩ hb_ hon hoff
   refine ⟨_, rfl, fun K hK => ?_⟩
   have e17 : a.tmps[17]? = some (.pointer (some ⟨gx, 1, none⟩)) := by rw [ha]; exact putSel_on (e := (10, 17, .pointer (some ⟨gx, 1, none⟩))) 7 rfl rfl (hon 10 (by kernel_rfl)) rfl
   replace ha := Aside0.mk ha
   have HZ := Aside0.mk Q_HZ
   have KP := Aside0.mk Q_KP
   have HX := Aside0.mk Q_HX
   have HL := Aside0.mk Q_HL
   have hc1_ : w'.cell? ⟨gx, 1, none⟩ = some (.int .i64 x1) := (blk_cell HX.out 1).trans rfl
   refine value_ (w1 := w') (v := .int .i64 x1) (by rfl) rfl ?_ ?_
   ·go_simp
    (try simp only [i64_w])
    try rfl
   refine hK.out _ _ ⟨(by rw [ha.out]; exact putSel_upk 8 hb_ rfl rfl rfl), Q_HZ, Q_KP, Q_HX, Q_HL⟩
  refine steps_cons ?_ ?_
  ·rintro b a w' ⟨ha, Q_HZ, Q_KP, Q_HX, Q_HL⟩ hb_ hon hoff
   refine ⟨_, rfl, fun K hK => ?_⟩
   have e10 : a.tmps[10]? = some (.int .i64 l1) := by rw [ha]; exact putSel_on (e := (3, 10, .int .i64 l1)) 2 rfl rfl (hon 3 (by kernel_rfl)) rfl
   have e14 : a.tmps[14]? = some (.int .i64 x6) := by rw [ha]; exact putSel_on (e := (7, 14, .int .i64 x6)) 5 rfl rfl (hon 7 (by kernel_rfl)) rfl
   have e18 : a.tmps[18]? = some (.int .i64 x1) := by rw [ha]; exact putSel_on (e := (11, 18, .int .i64 x1)) 8 rfl rfl (hon 11 (by kernel_rfl)) rfl
   replace ha := Aside0.mk ha
   have HZ := Aside0.mk Q_HZ
   have KP := Aside0.mk Q_KP
   have HX := Aside0.mk Q_HX
   have HL := Aside0.mk Q_HL
   refine goes_ Tryd.func36 (by kernel_rfl) rfl #[.int .i64 l1, .int .i64 x6, .int .i64 x1] (by rfl) rfl rfl (by first | (simp only [List.map_toArray, List.map_cons, List.map_nil, Act.eval, Array.getD_eq_getD_getElem?, Option.getD_some, e10, e14, e18]; done) | (simp only [List.map_toArray, List.map_cons, List.map_nil, Act.eval, Array.getD_eq_getD_getElem?, Option.getD_some, e10, e14, e18]; rfl)) ?_
   refine (spec_l05Seen.calls l1 x6 x1 sn rw_ w' HSN.out).mono ?_
   rintro e w5 ⟨rfl, hb⟩
   obtain ⟨nd_, rfl⟩ := hb
   have hb := pw_below_drewN (Below.refl w'.heap.size w') nd_
   refine ⟨_, rfl, ?_⟩
   refine hK.out _ _ ⟨(by rw [ha.out]; exact putSel_upk 9 hb_ rfl rfl rfl), Below.trans HZ.out (Below.mono hb (Nat.zero_le _)), Kept.then_ KP.out (Kept.of_below hb (fun b => b = gx)) (fun b hb => .inl hb), blk_below HX.out hb, blk_below HL.out hb⟩
  refine steps_cons ?_ ?_
  ·rintro b a w' ⟨ha, Q_HZ, Q_KP, Q_HX, Q_HL⟩ hb_ hon hoff
   refine ⟨_, rfl, fun K hK => ?_⟩
   have e19 : a.tmps[19]? = some (.tuple #[.int .i64 sn, .int .i64 rw_]) := by rw [ha]; exact putSel_on (e := (12, 19, .tuple #[.int .i64 sn, .int .i64 rw_])) 9 rfl rfl (hon 12 (by kernel_rfl)) rfl
   replace ha := Aside0.mk ha
   have HZ := Aside0.mk Q_HZ
   have KP := Aside0.mk Q_KP
   have HX := Aside0.mk Q_HX
   have HL := Aside0.mk Q_HL
   refine value_ (w1 := w') (v := .tuple #[.int .i64 sn, .int .i64 rw_]) (by rfl) rfl ?_ ?_
   ·go_simp
    (try simp only [i64_w])
    try rfl
   refine hK.out _ _ ⟨(by rw [ha.out]; exact putSel_upk 10 hb_ rfl rfl rfl), Q_HZ, Q_KP, Q_HX, Q_HL⟩
  refine steps_cons ?_ ?_
  ·rintro b a w' ⟨ha, Q_HZ, Q_KP, Q_HX, Q_HL⟩ hb_ hon hoff
   refine ⟨_, rfl, fun K hK => ?_⟩
   have e6 : a.tmps[6]? = some (.tuple #[.int .i64 sn, .int .i64 rw_]) := by rw [ha]; exact putSel_on (e := (13, 6, .tuple #[.int .i64 sn, .int .i64 rw_])) 10 rfl rfl (hon 13 (by kernel_rfl)) rfl
   replace ha := Aside0.mk ha
   have HZ := Aside0.mk Q_HZ
   have KP := Aside0.mk Q_KP
   have HX := Aside0.mk Q_HX
   have HL := Aside0.mk Q_HL
   refine value_ (w1 := w') (v := .int .i64 sn) (by rfl) rfl ?_ ?_
   ·go_simp
    (try simp only [i64_w])
    try rfl
   refine hK.out _ _ ⟨(by rw [ha.out]; exact putSel_upk 11 hb_ rfl rfl rfl), Q_HZ, Q_KP, Q_HX, Q_HL⟩
  refine steps_cons ?_ ?_
  ·rintro b a w' ⟨ha, Q_HZ, Q_KP, Q_HX, Q_HL⟩ hb_ hon hoff
   refine ⟨_, rfl, fun K hK => ?_⟩
   have e6 : a.tmps[6]? = some (.tuple #[.int .i64 sn, .int .i64 rw_]) := by rw [ha]; exact putSel_on (e := (13, 6, .tuple #[.int .i64 sn, .int .i64 rw_])) 10 rfl rfl (hon 13 (by kernel_rfl)) rfl
   replace ha := Aside0.mk ha
   have HZ := Aside0.mk Q_HZ
   have KP := Aside0.mk Q_KP
   have HX := Aside0.mk Q_HX
   have HL := Aside0.mk Q_HL
   refine value_ (w1 := w') (v := .int .i64 rw_) (by rfl) rfl ?_ ?_
   ·go_simp
    (try simp only [i64_w])
    try rfl
   refine hK.out _ _ ⟨(by rw [ha.out]; exact putSel_upk 12 hb_ rfl rfl rfl), Q_HZ, Q_KP, Q_HX, Q_HL⟩
  refine steps_cons ?_ ?_
  ·rintro b a w' ⟨ha, Q_HZ, Q_KP, Q_HX, Q_HL⟩ hb_ hon hoff
   refine ⟨_, rfl, fun K hK => ?_⟩
   have e20 : a.tmps[20]? = some (.int .i64 sn) := by rw [ha]; exact putSel_on (e := (14, 20, .int .i64 sn)) 11 rfl rfl (hon 14 (by kernel_rfl)) rfl
   replace ha := Aside0.mk ha
   have HZ := Aside0.mk Q_HZ
   have KP := Aside0.mk Q_KP
   have HX := Aside0.mk Q_HX
   have HL := Aside0.mk Q_HL
   refine value_ (w1 := w') (v := .int .i64 sn) (by rfl) rfl ?_ ?_
   ·go_simp
    (try simp only [i64_w])
    try rfl
   refine hK.out _ _ ⟨(by rw [ha.out]; exact putSel_upk 13 hb_ rfl rfl rfl), Q_HZ, Q_KP, Q_HX, Q_HL⟩
  refine steps_cons ?_ ?_
  ·rintro b a w' ⟨ha, Q_HZ, Q_KP, Q_HX, Q_HL⟩ hb_ hon hoff
   refine ⟨_, rfl, fun K hK => ?_⟩
   have e21 : a.tmps[21]? = some (.int .i64 rw_) := by rw [ha]; exact putSel_on (e := (15, 21, .int .i64 rw_)) 12 rfl rfl (hon 15 (by kernel_rfl)) rfl
   replace ha := Aside0.mk ha
   have HZ := Aside0.mk Q_HZ
   have KP := Aside0.mk Q_KP
   have HX := Aside0.mk Q_HX
   have HL := Aside0.mk Q_HL
   refine value_ (w1 := w') (v := .int .i64 rw_) (by rfl) rfl ?_ ?_
   ·go_simp
    (try simp only [i64_w])
    try rfl
   refine hK.out _ _ ⟨(by rw [ha.out]; exact putSel_upk 14 hb_ rfl rfl rfl), Q_HZ, Q_KP, Q_HX, Q_HL⟩
  exact steps_nil
 rintro b a w1 hall ⟨ha, Q_HZ, Q_KP, Q_HX, Q_HL⟩
 clear HL HX HZ KP
 have hb1_ := hall 1 (by kernel_rfl)
 have hb2_ := hall 2 (by kernel_rfl)
 have hb3_ := hall 3 (by kernel_rfl)
 have hb5_ := hall 5 (by kernel_rfl)
 have hb6_ := hall 6 (by kernel_rfl)
 have hb7_ := hall 7 (by kernel_rfl)
 have hb9_ := hall 9 (by kernel_rfl)
 have hb10_ := hall 10 (by kernel_rfl)
 have hb11_ := hall 11 (by kernel_rfl)
 have hb12_ := hall 12 (by kernel_rfl)
 have hb13_ := hall 13 (by kernel_rfl)
 have hb14_ := hall 14 (by kernel_rfl)
 have hb15_ := hall 15 (by kernel_rfl)
 have hb16_ := hall 16 (by kernel_rfl)
 have hb17_ := hall 17 (by kernel_rfl)
 subst ha
 simp only [putSel, hb1_, hb2_, hb3_, hb5_, hb6_, hb7_, hb9_, hb10_, hb11_, hb12_, hb13_, hb14_, hb15_, hb16_, hb17_, if_true, Act.put, List.setIfInBounds_toArray, List.set_cons_zero, List.set_cons_succ]
 have HZ := Aside0.mk Q_HZ
 clear Q_HZ
 have KP := Aside0.mk Q_KP
 clear Q_KP
 have HX := Aside0.mk Q_HX
 clear Q_HX
 have HL := Aside0.mk Q_HL
 clear Q_HL
 clear hall hb1_ hb2_ hb3_ hb5_ hb6_ hb7_ hb9_ hb10_ hb11_ hb12_ hb13_ hb14_ hb15_ hb16_ hb17_
 clear HSN
 have c0 : w1.cell? ⟨gx, 0, none⟩ = some (.int .i64 x0) := (blk_cell HX.out 0).trans rfl
 have c2 : w1.cell? ⟨gx, 2, none⟩ = some (.int .i64 x2) := (blk_cell HX.out 2).trans rfl
 have c3 : w1.cell? ⟨gx, 3, none⟩ = some (.int .i64 x3) := (blk_cell HX.out 3).trans rfl
 have c4 : w1.cell? ⟨gx, 4, none⟩ = some (.int .i64 x4) := (blk_cell HX.out 4).trans rfl
 have c5 : w1.cell? ⟨gx, 5, none⟩ = some (.int .i64 x5) := (blk_cell HX.out 5).trans rfl
 have c6 : w1.cell? ⟨gx, 6, none⟩ = some (.int .i64 x6) := (blk_cell HX.out 6).trans rfl
 have d0 : w1.cell? ⟨gl, 0, none⟩ = some (.int .i64 l0) := (blk_cell HL.out 0).trans rfl
 have d2 : w1.cell? ⟨gl, 2, none⟩ = some (.int .i64 l2) := (blk_cell HL.out 2).trans rfl
 have d3 : w1.cell? ⟨gl, 3, none⟩ = some (.int .i64 l3) := (blk_cell HL.out 3).trans rfl
 have f0 := blk_frozen HX.out 0
 have f2 := blk_frozen HX.out 2
 have f3 := blk_frozen HX.out 3
 have f4 := blk_frozen HX.out 4
 have f5 := blk_frozen HX.out 5
 have f6 := blk_frozen HX.out 6
 have hne_ := HNE.out
 unfold advS at h
 have hf : (0 < x4 ∧ wrap64 (x4 - 1) = 0) ∨ (0 < x4 ∧ ¬ wrap64 (x4 - 1) = 0) ∨ ¬ 0 < x4 := by rcases Classical.em (0 < x4) with h1 | h1 <;> rcases Classical.em (wrap64 (x4 - 1) = 0) with h2 | h2 <;> simp [h1, h2]
 rcases hf with ⟨h1, h2⟩ | ⟨h1, h2⟩ | h1
 ·rw [if_pos h1, if_pos h2] at h
  dsimp only at h
  unfold actS at h
  have g1 : decide (x4 > 0) = true := decide_eq_true h1
  have g2 : decide (0 < x4) = true := decide_eq_true h1
  have g3 : (wrap64 (x4 - 1) == 0) = true := beq_iff_eq.mpr h2
  clear h1 h2
  rcases Classical.em (l0 = 4) with h1 | h1
  ·rcases Classical.em (x0 = 1) with h2 | h2
   ·rw [if_pos ⟨h1, h2⟩] at h
    have p1 : (l0 == 4) = true := beq_iff_eq.mpr h1
    have p2 : (x0 == 1) = true := beq_iff_eq.mpr h2
    clear h1 h2
    rcases Classical.em (sn = 1) with h3 | h3
    ·skip
     rw [if_pos h3] at h
     simp only [Prod.mk.injEq] at h
     have EH := Aside0.mk h
     have p3 : (sn == 1) = true := beq_iff_eq.mpr h3
     clear h3
     clear h
     go_wp2_with (fail)
     clear c0 c2 c3 c4 c5 c6 d0 d2 d3 f0 f2 f3 f4 f5 f6
     replace KP := Aside0.mk (Kept.setCell KP.out (p := ⟨gx, 6, none⟩) (.inl rfl) (.int .i64 rw_))
     replace HZ := Aside0.mk (Below.setCell HZ.out (p := ⟨gx, 6, none⟩) (Nat.zero_le _) (.int .i64 rw_))
     replace HL := Aside0.mk (blk_far HL.out (p := ⟨gx, 6, none⟩) HNE.out (.int .i64 rw_))
     replace HX := Aside0.mk (blk_put (cs := #[.int .i64 x0, .int .i64 x1, .int .i64 x2, .int .i64 x3, .int .i64 x4, .int .i64 x5, .int .i64 x6, .int .i64 x7, .int .i64 x8, .int .i64 x9, .int .i64 x10, .int .i64 x11]) (cs' := #[.int .i64 x0, .int .i64 x1, .int .i64 x2, .int .i64 x3, .int .i64 x4, .int .i64 x5, .int .i64 rw_, .int .i64 x7, .int .i64 x8, .int .i64 x9, .int .i64 x10, .int .i64 x11]) HX.out 6 (.int .i64 rw_) rfl)
     replace KP := Aside0.mk (Kept.setCell KP.out (p := ⟨gx, 4, none⟩) (.inl rfl) (.int .i64 (wrap64 (x4 - 1))))
     replace HZ := Aside0.mk (Below.setCell HZ.out (p := ⟨gx, 4, none⟩) (Nat.zero_le _) (.int .i64 (wrap64 (x4 - 1))))
     replace HL := Aside0.mk (blk_far HL.out (p := ⟨gx, 4, none⟩) HNE.out (.int .i64 (wrap64 (x4 - 1))))
     replace HX := Aside0.mk (blk_put (cs := #[.int .i64 x0, .int .i64 x1, .int .i64 x2, .int .i64 x3, .int .i64 x4, .int .i64 x5, .int .i64 rw_, .int .i64 x7, .int .i64 x8, .int .i64 x9, .int .i64 x10, .int .i64 x11]) (cs' := #[.int .i64 x0, .int .i64 x1, .int .i64 x2, .int .i64 x3, .int .i64 (wrap64 (x4 - 1)), .int .i64 x5, .int .i64 rw_, .int .i64 x7, .int .i64 x8, .int .i64 x9, .int .i64 x10, .int .i64 x11]) HX.out 4 (.int .i64 (wrap64 (x4 - 1))) rfl)
     replace KP := Aside0.mk (Kept.setCell KP.out (p := ⟨gx, 3, none⟩) (.inl rfl) (.int .i64 x5))
     replace HZ := Aside0.mk (Below.setCell HZ.out (p := ⟨gx, 3, none⟩) (Nat.zero_le _) (.int .i64 x5))
     replace HL := Aside0.mk (blk_far HL.out (p := ⟨gx, 3, none⟩) HNE.out (.int .i64 x5))
     replace HX := Aside0.mk (blk_put (cs := #[.int .i64 x0, .int .i64 x1, .int .i64 x2, .int .i64 x3, .int .i64 (wrap64 (x4 - 1)), .int .i64 x5, .int .i64 rw_, .int .i64 x7, .int .i64 x8, .int .i64 x9, .int .i64 x10, .int .i64 x11]) (cs' := #[.int .i64 x0, .int .i64 x1, .int .i64 x2, .int .i64 x5, .int .i64 (wrap64 (x4 - 1)), .int .i64 x5, .int .i64 rw_, .int .i64 x7, .int .i64 x8, .int .i64 x9, .int .i64 x10, .int .i64 x11]) HX.out 3 (.int .i64 x5) rfl)
     replace KP := Aside0.mk (Kept.setCell KP.out (p := ⟨gx, 5, none⟩) (.inl rfl) (.int .i64 0))
     replace HZ := Aside0.mk (Below.setCell HZ.out (p := ⟨gx, 5, none⟩) (Nat.zero_le _) (.int .i64 0))
     replace HL := Aside0.mk (blk_far HL.out (p := ⟨gx, 5, none⟩) HNE.out (.int .i64 0))
     replace HX := Aside0.mk (blk_put (cs := #[.int .i64 x0, .int .i64 x1, .int .i64 x2, .int .i64 x5, .int .i64 (wrap64 (x4 - 1)), .int .i64 x5, .int .i64 rw_, .int .i64 x7, .int .i64 x8, .int .i64 x9, .int .i64 x10, .int .i64 x11]) (cs' := #[.int .i64 x0, .int .i64 x1, .int .i64 x2, .int .i64 x5, .int .i64 (wrap64 (x4 - 1)), .int .i64 0, .int .i64 rw_, .int .i64 x7, .int .i64 x8, .int .i64 x9, .int .i64 x10, .int .i64 x11]) HX.out 5 (.int .i64 0) rfl)
     replace KP := Aside0.mk (Kept.setCell KP.out (p := ⟨gx, 0, none⟩) (.inl rfl) (.int .i64 0))
     replace HZ := Aside0.mk (Below.setCell HZ.out (p := ⟨gx, 0, none⟩) (Nat.zero_le _) (.int .i64 0))
     replace HL := Aside0.mk (blk_far HL.out (p := ⟨gx, 0, none⟩) HNE.out (.int .i64 0))
     replace HX := Aside0.mk (blk_put (cs := #[.int .i64 x0, .int .i64 x1, .int .i64 x2, .int .i64 x5, .int .i64 (wrap64 (x4 - 1)), .int .i64 0, .int .i64 rw_, .int .i64 x7, .int .i64 x8, .int .i64 x9, .int .i64 x10, .int .i64 x11]) (cs' := #[.int .i64 0, .int .i64 x1, .int .i64 x2, .int .i64 x5, .int .i64 (wrap64 (x4 - 1)), .int .i64 0, .int .i64 rw_, .int .i64 x7, .int .i64 x8, .int .i64 x9, .int .i64 x10, .int .i64 x11]) HX.out 0 (.int .i64 0) rfl)
     generalize (((((w1.setCell ⟨gx, 6, none⟩ (.int .i64 rw_)).setCell ⟨gx, 4, none⟩ (.int .i64 (wrap64 (x4 - 1)))).setCell ⟨gx, 3, none⟩ (.int .i64 x5)).setCell ⟨gx, 5, none⟩ (.int .i64 0)).setCell ⟨gx, 0, none⟩ (.int .i64 0)) = w9 at KP HX HL HZ ⊢
     first | go_end0 | ((try simp only [Exit.inBlock, Exit.then]); refine bodyPost_ret (results_none rfl _ _ _) rfl ?_)
     obtain ⟨e0, e2, e3, e4, e5⟩ := EH.out
     exact ⟨rfl, by rw [← e0, ← e2, ← e3, ← e4, ← e5]; exact HX.out, KP.out, HZ.out⟩
    ·skip
     rw [if_neg h3] at h
     simp only [Prod.mk.injEq] at h
     have EH := Aside0.mk h
     have p3 : (sn == 1) = false := beq_eq_false_iff_ne.mpr h3
     clear h3
     clear h
     go_wp2_with (fail)
     clear c0 c2 c3 c4 c5 c6 d0 d2 d3 f0 f2 f3 f4 f5 f6
     replace KP := Aside0.mk (Kept.setCell KP.out (p := ⟨gx, 6, none⟩) (.inl rfl) (.int .i64 rw_))
     replace HZ := Aside0.mk (Below.setCell HZ.out (p := ⟨gx, 6, none⟩) (Nat.zero_le _) (.int .i64 rw_))
     replace HL := Aside0.mk (blk_far HL.out (p := ⟨gx, 6, none⟩) HNE.out (.int .i64 rw_))
     replace HX := Aside0.mk (blk_put (cs := #[.int .i64 x0, .int .i64 x1, .int .i64 x2, .int .i64 x3, .int .i64 x4, .int .i64 x5, .int .i64 x6, .int .i64 x7, .int .i64 x8, .int .i64 x9, .int .i64 x10, .int .i64 x11]) (cs' := #[.int .i64 x0, .int .i64 x1, .int .i64 x2, .int .i64 x3, .int .i64 x4, .int .i64 x5, .int .i64 rw_, .int .i64 x7, .int .i64 x8, .int .i64 x9, .int .i64 x10, .int .i64 x11]) HX.out 6 (.int .i64 rw_) rfl)
     replace KP := Aside0.mk (Kept.setCell KP.out (p := ⟨gx, 4, none⟩) (.inl rfl) (.int .i64 (wrap64 (x4 - 1))))
     replace HZ := Aside0.mk (Below.setCell HZ.out (p := ⟨gx, 4, none⟩) (Nat.zero_le _) (.int .i64 (wrap64 (x4 - 1))))
     replace HL := Aside0.mk (blk_far HL.out (p := ⟨gx, 4, none⟩) HNE.out (.int .i64 (wrap64 (x4 - 1))))
     replace HX := Aside0.mk (blk_put (cs := #[.int .i64 x0, .int .i64 x1, .int .i64 x2, .int .i64 x3, .int .i64 x4, .int .i64 x5, .int .i64 rw_, .int .i64 x7, .int .i64 x8, .int .i64 x9, .int .i64 x10, .int .i64 x11]) (cs' := #[.int .i64 x0, .int .i64 x1, .int .i64 x2, .int .i64 x3, .int .i64 (wrap64 (x4 - 1)), .int .i64 x5, .int .i64 rw_, .int .i64 x7, .int .i64 x8, .int .i64 x9, .int .i64 x10, .int .i64 x11]) HX.out 4 (.int .i64 (wrap64 (x4 - 1))) rfl)
     replace KP := Aside0.mk (Kept.setCell KP.out (p := ⟨gx, 3, none⟩) (.inl rfl) (.int .i64 x5))
     replace HZ := Aside0.mk (Below.setCell HZ.out (p := ⟨gx, 3, none⟩) (Nat.zero_le _) (.int .i64 x5))
     replace HL := Aside0.mk (blk_far HL.out (p := ⟨gx, 3, none⟩) HNE.out (.int .i64 x5))
     replace HX := Aside0.mk (blk_put (cs := #[.int .i64 x0, .int .i64 x1, .int .i64 x2, .int .i64 x3, .int .i64 (wrap64 (x4 - 1)), .int .i64 x5, .int .i64 rw_, .int .i64 x7, .int .i64 x8, .int .i64 x9, .int .i64 x10, .int .i64 x11]) (cs' := #[.int .i64 x0, .int .i64 x1, .int .i64 x2, .int .i64 x5, .int .i64 (wrap64 (x4 - 1)), .int .i64 x5, .int .i64 rw_, .int .i64 x7, .int .i64 x8, .int .i64 x9, .int .i64 x10, .int .i64 x11]) HX.out 3 (.int .i64 x5) rfl)
     replace KP := Aside0.mk (Kept.setCell KP.out (p := ⟨gx, 5, none⟩) (.inl rfl) (.int .i64 0))
     replace HZ := Aside0.mk (Below.setCell HZ.out (p := ⟨gx, 5, none⟩) (Nat.zero_le _) (.int .i64 0))
     replace HL := Aside0.mk (blk_far HL.out (p := ⟨gx, 5, none⟩) HNE.out (.int .i64 0))
     replace HX := Aside0.mk (blk_put (cs := #[.int .i64 x0, .int .i64 x1, .int .i64 x2, .int .i64 x5, .int .i64 (wrap64 (x4 - 1)), .int .i64 x5, .int .i64 rw_, .int .i64 x7, .int .i64 x8, .int .i64 x9, .int .i64 x10, .int .i64 x11]) (cs' := #[.int .i64 x0, .int .i64 x1, .int .i64 x2, .int .i64 x5, .int .i64 (wrap64 (x4 - 1)), .int .i64 0, .int .i64 rw_, .int .i64 x7, .int .i64 x8, .int .i64 x9, .int .i64 x10, .int .i64 x11]) HX.out 5 (.int .i64 0) rfl)
     generalize ((((w1.setCell ⟨gx, 6, none⟩ (.int .i64 rw_)).setCell ⟨gx, 4, none⟩ (.int .i64 (wrap64 (x4 - 1)))).setCell ⟨gx, 3, none⟩ (.int .i64 x5)).setCell ⟨gx, 5, none⟩ (.int .i64 0)) = w9 at KP HX HL HZ ⊢
     first | go_end0 | ((try simp only [Exit.inBlock, Exit.then]); refine bodyPost_ret (results_none rfl _ _ _) rfl ?_)
     obtain ⟨e0, e2, e3, e4, e5⟩ := EH.out
     exact ⟨rfl, by rw [← e0, ← e2, ← e3, ← e4, ← e5]; exact HX.out, KP.out, HZ.out⟩
   ·rw [if_neg (fun h_ => h2 h_.2)] at h
    have p1 : (l0 == 4) = true := beq_iff_eq.mpr h1
    have p2 : (x0 == 1) = false := beq_eq_false_iff_ne.mpr h2
    clear h1 h2
    rcases Classical.em (sn = x0) with h3 | h3
    ·rcases Classical.em (x2 = l3) with h4 | h4
     ·skip
      rw [if_neg (show ¬ (sn = x0 ∧ ¬ x2 = l3) from fun h_ => h_.2 h4)] at h
      simp only [Prod.mk.injEq] at h
      have EH := Aside0.mk h
      have p3 : (sn != x0) = false := bne_eq_false_iff_eq.mpr h3
      have p4 : (x2 == l3) = true := beq_iff_eq.mpr h4
      clear h3 h4
      clear h
      go_wp2_with (fail)
      clear c0 c2 c3 c4 c5 c6 d0 d2 d3 f0 f2 f3 f4 f5 f6
      replace KP := Aside0.mk (Kept.setCell KP.out (p := ⟨gx, 6, none⟩) (.inl rfl) (.int .i64 rw_))
      replace HZ := Aside0.mk (Below.setCell HZ.out (p := ⟨gx, 6, none⟩) (Nat.zero_le _) (.int .i64 rw_))
      replace HL := Aside0.mk (blk_far HL.out (p := ⟨gx, 6, none⟩) HNE.out (.int .i64 rw_))
      replace HX := Aside0.mk (blk_put (cs := #[.int .i64 x0, .int .i64 x1, .int .i64 x2, .int .i64 x3, .int .i64 x4, .int .i64 x5, .int .i64 x6, .int .i64 x7, .int .i64 x8, .int .i64 x9, .int .i64 x10, .int .i64 x11]) (cs' := #[.int .i64 x0, .int .i64 x1, .int .i64 x2, .int .i64 x3, .int .i64 x4, .int .i64 x5, .int .i64 rw_, .int .i64 x7, .int .i64 x8, .int .i64 x9, .int .i64 x10, .int .i64 x11]) HX.out 6 (.int .i64 rw_) rfl)
      replace KP := Aside0.mk (Kept.setCell KP.out (p := ⟨gx, 4, none⟩) (.inl rfl) (.int .i64 (wrap64 (x4 - 1))))
      replace HZ := Aside0.mk (Below.setCell HZ.out (p := ⟨gx, 4, none⟩) (Nat.zero_le _) (.int .i64 (wrap64 (x4 - 1))))
      replace HL := Aside0.mk (blk_far HL.out (p := ⟨gx, 4, none⟩) HNE.out (.int .i64 (wrap64 (x4 - 1))))
      replace HX := Aside0.mk (blk_put (cs := #[.int .i64 x0, .int .i64 x1, .int .i64 x2, .int .i64 x3, .int .i64 x4, .int .i64 x5, .int .i64 rw_, .int .i64 x7, .int .i64 x8, .int .i64 x9, .int .i64 x10, .int .i64 x11]) (cs' := #[.int .i64 x0, .int .i64 x1, .int .i64 x2, .int .i64 x3, .int .i64 (wrap64 (x4 - 1)), .int .i64 x5, .int .i64 rw_, .int .i64 x7, .int .i64 x8, .int .i64 x9, .int .i64 x10, .int .i64 x11]) HX.out 4 (.int .i64 (wrap64 (x4 - 1))) rfl)
      replace KP := Aside0.mk (Kept.setCell KP.out (p := ⟨gx, 3, none⟩) (.inl rfl) (.int .i64 x5))
      replace HZ := Aside0.mk (Below.setCell HZ.out (p := ⟨gx, 3, none⟩) (Nat.zero_le _) (.int .i64 x5))
      replace HL := Aside0.mk (blk_far HL.out (p := ⟨gx, 3, none⟩) HNE.out (.int .i64 x5))
      replace HX := Aside0.mk (blk_put (cs := #[.int .i64 x0, .int .i64 x1, .int .i64 x2, .int .i64 x3, .int .i64 (wrap64 (x4 - 1)), .int .i64 x5, .int .i64 rw_, .int .i64 x7, .int .i64 x8, .int .i64 x9, .int .i64 x10, .int .i64 x11]) (cs' := #[.int .i64 x0, .int .i64 x1, .int .i64 x2, .int .i64 x5, .int .i64 (wrap64 (x4 - 1)), .int .i64 x5, .int .i64 rw_, .int .i64 x7, .int .i64 x8, .int .i64 x9, .int .i64 x10, .int .i64 x11]) HX.out 3 (.int .i64 x5) rfl)
      replace KP := Aside0.mk (Kept.setCell KP.out (p := ⟨gx, 5, none⟩) (.inl rfl) (.int .i64 0))
      replace HZ := Aside0.mk (Below.setCell HZ.out (p := ⟨gx, 5, none⟩) (Nat.zero_le _) (.int .i64 0))
      replace HL := Aside0.mk (blk_far HL.out (p := ⟨gx, 5, none⟩) HNE.out (.int .i64 0))
      replace HX := Aside0.mk (blk_put (cs := #[.int .i64 x0, .int .i64 x1, .int .i64 x2, .int .i64 x5, .int .i64 (wrap64 (x4 - 1)), .int .i64 x5, .int .i64 rw_, .int .i64 x7, .int .i64 x8, .int .i64 x9, .int .i64 x10, .int .i64 x11]) (cs' := #[.int .i64 x0, .int .i64 x1, .int .i64 x2, .int .i64 x5, .int .i64 (wrap64 (x4 - 1)), .int .i64 0, .int .i64 rw_, .int .i64 x7, .int .i64 x8, .int .i64 x9, .int .i64 x10, .int .i64 x11]) HX.out 5 (.int .i64 0) rfl)
      generalize ((((w1.setCell ⟨gx, 6, none⟩ (.int .i64 rw_)).setCell ⟨gx, 4, none⟩ (.int .i64 (wrap64 (x4 - 1)))).setCell ⟨gx, 3, none⟩ (.int .i64 x5)).setCell ⟨gx, 5, none⟩ (.int .i64 0)) = w2 at KP HX HL HZ ⊢
      have c0 : w2.cell? ⟨gx, 0, none⟩ = some (.int .i64 x0) := (blk_cell HX.out 0).trans rfl
      have c2 : w2.cell? ⟨gx, 2, none⟩ = some (.int .i64 x2) := (blk_cell HX.out 2).trans rfl
      have c3 : w2.cell? ⟨gx, 3, none⟩ = some (.int .i64 x5) := (blk_cell HX.out 3).trans rfl
      have c4 : w2.cell? ⟨gx, 4, none⟩ = some (.int .i64 (wrap64 (x4 - 1))) := (blk_cell HX.out 4).trans rfl
      have c5 : w2.cell? ⟨gx, 5, none⟩ = some (.int .i64 0) := (blk_cell HX.out 5).trans rfl
      have c6 : w2.cell? ⟨gx, 6, none⟩ = some (.int .i64 rw_) := (blk_cell HX.out 6).trans rfl
      have d0 : w2.cell? ⟨gl, 0, none⟩ = some (.int .i64 l0) := (blk_cell HL.out 0).trans rfl
      have d2 : w2.cell? ⟨gl, 2, none⟩ = some (.int .i64 l2) := (blk_cell HL.out 2).trans rfl
      have d3 : w2.cell? ⟨gl, 3, none⟩ = some (.int .i64 l3) := (blk_cell HL.out 3).trans rfl
      have f0 := blk_frozen HX.out 0
      have f2 := blk_frozen HX.out 2
      have f3 := blk_frozen HX.out 3
      have f4 := blk_frozen HX.out 4
      have f5 := blk_frozen HX.out 5
      have f6 := blk_frozen HX.out 6
      go_quiet (fail)
      have hb := pw_below_drewN (Below.refl w2.heap.size w2) nq
      replace KP := Aside0.mk (Kept.then_ KP.out (Kept.of_below hb (fun b => b = gx)) (fun b hb => .inl hb)); replace HX := Aside0.mk (blk_below HX.out hb); replace HL := Aside0.mk (blk_below HL.out hb); replace HZ := Aside0.mk (Below.trans HZ.out (Below.mono hb (Nat.zero_le _)))
      clear hb
      generalize w2.drewN nq = w3 at KP HX HL HZ ⊢
      clear c0 c2 c3 c4 c5 c6 d0 d2 d3 f0 f2 f3 f4 f5 f6
      go_wp2_with (fail)
      first | go_end0 | ((try simp only [Exit.inBlock, Exit.then]); refine bodyPost_ret (results_none rfl _ _ _) rfl ?_)
      obtain ⟨e0, e2, e3, e4, e5⟩ := EH.out
      exact ⟨rfl, by rw [← e0, ← e2, ← e3, ← e4, ← e5]; exact HX.out, KP.out, HZ.out⟩
     ·rw [if_pos (show sn = x0 ∧ ¬ x2 = l3 from ⟨h3, h4⟩)] at h
      rcases Classical.em (l2 = 0) with h5 | h5
      ·skip
       rw [if_pos h5] at h
       simp only [Prod.mk.injEq] at h
       have EH := Aside0.mk h
       have p3 : (sn != x0) = false := bne_eq_false_iff_eq.mpr h3
       have p4 : (x2 == l3) = false := beq_eq_false_iff_ne.mpr h4
       have p5 : (l2 == 0) = true := beq_iff_eq.mpr h5
       clear h3 h4 h5
       clear h
       go_wp2_with (fail)
       clear c0 c2 c3 c4 c5 c6 d0 d2 d3 f0 f2 f3 f4 f5 f6
       replace KP := Aside0.mk (Kept.setCell KP.out (p := ⟨gx, 6, none⟩) (.inl rfl) (.int .i64 rw_))
       replace HZ := Aside0.mk (Below.setCell HZ.out (p := ⟨gx, 6, none⟩) (Nat.zero_le _) (.int .i64 rw_))
       replace HL := Aside0.mk (blk_far HL.out (p := ⟨gx, 6, none⟩) HNE.out (.int .i64 rw_))
       replace HX := Aside0.mk (blk_put (cs := #[.int .i64 x0, .int .i64 x1, .int .i64 x2, .int .i64 x3, .int .i64 x4, .int .i64 x5, .int .i64 x6, .int .i64 x7, .int .i64 x8, .int .i64 x9, .int .i64 x10, .int .i64 x11]) (cs' := #[.int .i64 x0, .int .i64 x1, .int .i64 x2, .int .i64 x3, .int .i64 x4, .int .i64 x5, .int .i64 rw_, .int .i64 x7, .int .i64 x8, .int .i64 x9, .int .i64 x10, .int .i64 x11]) HX.out 6 (.int .i64 rw_) rfl)
       replace KP := Aside0.mk (Kept.setCell KP.out (p := ⟨gx, 4, none⟩) (.inl rfl) (.int .i64 (wrap64 (x4 - 1))))
       replace HZ := Aside0.mk (Below.setCell HZ.out (p := ⟨gx, 4, none⟩) (Nat.zero_le _) (.int .i64 (wrap64 (x4 - 1))))
       replace HL := Aside0.mk (blk_far HL.out (p := ⟨gx, 4, none⟩) HNE.out (.int .i64 (wrap64 (x4 - 1))))
       replace HX := Aside0.mk (blk_put (cs := #[.int .i64 x0, .int .i64 x1, .int .i64 x2, .int .i64 x3, .int .i64 x4, .int .i64 x5, .int .i64 rw_, .int .i64 x7, .int .i64 x8, .int .i64 x9, .int .i64 x10, .int .i64 x11]) (cs' := #[.int .i64 x0, .int .i64 x1, .int .i64 x2, .int .i64 x3, .int .i64 (wrap64 (x4 - 1)), .int .i64 x5, .int .i64 rw_, .int .i64 x7, .int .i64 x8, .int .i64 x9, .int .i64 x10, .int .i64 x11]) HX.out 4 (.int .i64 (wrap64 (x4 - 1))) rfl)
       replace KP := Aside0.mk (Kept.setCell KP.out (p := ⟨gx, 3, none⟩) (.inl rfl) (.int .i64 x5))
       replace HZ := Aside0.mk (Below.setCell HZ.out (p := ⟨gx, 3, none⟩) (Nat.zero_le _) (.int .i64 x5))
       replace HL := Aside0.mk (blk_far HL.out (p := ⟨gx, 3, none⟩) HNE.out (.int .i64 x5))
       replace HX := Aside0.mk (blk_put (cs := #[.int .i64 x0, .int .i64 x1, .int .i64 x2, .int .i64 x3, .int .i64 (wrap64 (x4 - 1)), .int .i64 x5, .int .i64 rw_, .int .i64 x7, .int .i64 x8, .int .i64 x9, .int .i64 x10, .int .i64 x11]) (cs' := #[.int .i64 x0, .int .i64 x1, .int .i64 x2, .int .i64 x5, .int .i64 (wrap64 (x4 - 1)), .int .i64 x5, .int .i64 rw_, .int .i64 x7, .int .i64 x8, .int .i64 x9, .int .i64 x10, .int .i64 x11]) HX.out 3 (.int .i64 x5) rfl)
       replace KP := Aside0.mk (Kept.setCell KP.out (p := ⟨gx, 5, none⟩) (.inl rfl) (.int .i64 0))
       replace HZ := Aside0.mk (Below.setCell HZ.out (p := ⟨gx, 5, none⟩) (Nat.zero_le _) (.int .i64 0))
       replace HL := Aside0.mk (blk_far HL.out (p := ⟨gx, 5, none⟩) HNE.out (.int .i64 0))
       replace HX := Aside0.mk (blk_put (cs := #[.int .i64 x0, .int .i64 x1, .int .i64 x2, .int .i64 x5, .int .i64 (wrap64 (x4 - 1)), .int .i64 x5, .int .i64 rw_, .int .i64 x7, .int .i64 x8, .int .i64 x9, .int .i64 x10, .int .i64 x11]) (cs' := #[.int .i64 x0, .int .i64 x1, .int .i64 x2, .int .i64 x5, .int .i64 (wrap64 (x4 - 1)), .int .i64 0, .int .i64 rw_, .int .i64 x7, .int .i64 x8, .int .i64 x9, .int .i64 x10, .int .i64 x11]) HX.out 5 (.int .i64 0) rfl)
       generalize ((((w1.setCell ⟨gx, 6, none⟩ (.int .i64 rw_)).setCell ⟨gx, 4, none⟩ (.int .i64 (wrap64 (x4 - 1)))).setCell ⟨gx, 3, none⟩ (.int .i64 x5)).setCell ⟨gx, 5, none⟩ (.int .i64 0)) = w2 at KP HX HL HZ ⊢
       have c0 : w2.cell? ⟨gx, 0, none⟩ = some (.int .i64 x0) := (blk_cell HX.out 0).trans rfl
       have c2 : w2.cell? ⟨gx, 2, none⟩ = some (.int .i64 x2) := (blk_cell HX.out 2).trans rfl
       have c3 : w2.cell? ⟨gx, 3, none⟩ = some (.int .i64 x5) := (blk_cell HX.out 3).trans rfl
       have c4 : w2.cell? ⟨gx, 4, none⟩ = some (.int .i64 (wrap64 (x4 - 1))) := (blk_cell HX.out 4).trans rfl
       have c5 : w2.cell? ⟨gx, 5, none⟩ = some (.int .i64 0) := (blk_cell HX.out 5).trans rfl
       have c6 : w2.cell? ⟨gx, 6, none⟩ = some (.int .i64 rw_) := (blk_cell HX.out 6).trans rfl
       have d0 : w2.cell? ⟨gl, 0, none⟩ = some (.int .i64 l0) := (blk_cell HL.out 0).trans rfl
       have d2 : w2.cell? ⟨gl, 2, none⟩ = some (.int .i64 l2) := (blk_cell HL.out 2).trans rfl
       have d3 : w2.cell? ⟨gl, 3, none⟩ = some (.int .i64 l3) := (blk_cell HL.out 3).trans rfl
       have f0 := blk_frozen HX.out 0
       have f2 := blk_frozen HX.out 2
       have f3 := blk_frozen HX.out 3
       have f4 := blk_frozen HX.out 4
       have f5 := blk_frozen HX.out 5
       have f6 := blk_frozen HX.out 6
       go_quiet (fail)
       have hb := pw_below_drewN (Below.refl w2.heap.size w2) nq
       replace KP := Aside0.mk (Kept.then_ KP.out (Kept.of_below hb (fun b => b = gx)) (fun b hb => .inl hb)); replace HX := Aside0.mk (blk_below HX.out hb); replace HL := Aside0.mk (blk_below HL.out hb); replace HZ := Aside0.mk (Below.trans HZ.out (Below.mono hb (Nat.zero_le _)))
       clear hb
       generalize w2.drewN nq = w3 at KP HX HL HZ ⊢
       clear c0 c2 c3 c4 c5 c6 d0 d2 d3 f0 f2 f3 f4 f5 f6
       have c0 : w3.cell? ⟨gx, 0, none⟩ = some (.int .i64 x0) := (blk_cell HX.out 0).trans rfl
       have c2 : w3.cell? ⟨gx, 2, none⟩ = some (.int .i64 x2) := (blk_cell HX.out 2).trans rfl
       have c3 : w3.cell? ⟨gx, 3, none⟩ = some (.int .i64 x5) := (blk_cell HX.out 3).trans rfl
       have c4 : w3.cell? ⟨gx, 4, none⟩ = some (.int .i64 (wrap64 (x4 - 1))) := (blk_cell HX.out 4).trans rfl
       have c5 : w3.cell? ⟨gx, 5, none⟩ = some (.int .i64 0) := (blk_cell HX.out 5).trans rfl
       have c6 : w3.cell? ⟨gx, 6, none⟩ = some (.int .i64 rw_) := (blk_cell HX.out 6).trans rfl
       have d0 : w3.cell? ⟨gl, 0, none⟩ = some (.int .i64 l0) := (blk_cell HL.out 0).trans rfl
       have d2 : w3.cell? ⟨gl, 2, none⟩ = some (.int .i64 l2) := (blk_cell HL.out 2).trans rfl
       have d3 : w3.cell? ⟨gl, 3, none⟩ = some (.int .i64 l3) := (blk_cell HL.out 3).trans rfl
       have f0 := blk_frozen HX.out 0
       have f2 := blk_frozen HX.out 2
       have f3 := blk_frozen HX.out 3
       have f4 := blk_frozen HX.out 4
       have f5 := blk_frozen HX.out 5
       have f6 := blk_frozen HX.out 6
       go_wp2_with (fail)
       clear c0 c2 c3 c4 c5 c6 d0 d2 d3 f0 f2 f3 f4 f5 f6
       replace KP := Aside0.mk (Kept.setCell KP.out (p := ⟨gx, 0, none⟩) (.inl rfl) (.int .i64 (wrap64 (1 - x0))))
       replace HZ := Aside0.mk (Below.setCell HZ.out (p := ⟨gx, 0, none⟩) (Nat.zero_le _) (.int .i64 (wrap64 (1 - x0))))
       replace HL := Aside0.mk (blk_far HL.out (p := ⟨gx, 0, none⟩) HNE.out (.int .i64 (wrap64 (1 - x0))))
       replace HX := Aside0.mk (blk_put (cs := #[.int .i64 x0, .int .i64 x1, .int .i64 x2, .int .i64 x5, .int .i64 (wrap64 (x4 - 1)), .int .i64 0, .int .i64 rw_, .int .i64 x7, .int .i64 x8, .int .i64 x9, .int .i64 x10, .int .i64 x11]) (cs' := #[.int .i64 (wrap64 (1 - x0)), .int .i64 x1, .int .i64 x2, .int .i64 x5, .int .i64 (wrap64 (x4 - 1)), .int .i64 0, .int .i64 rw_, .int .i64 x7, .int .i64 x8, .int .i64 x9, .int .i64 x10, .int .i64 x11]) HX.out 0 (.int .i64 (wrap64 (1 - x0))) rfl)
       replace KP := Aside0.mk (Kept.setCell KP.out (p := ⟨gx, 3, none⟩) (.inl rfl) (.int .i64 x2))
       replace HZ := Aside0.mk (Below.setCell HZ.out (p := ⟨gx, 3, none⟩) (Nat.zero_le _) (.int .i64 x2))
       replace HL := Aside0.mk (blk_far HL.out (p := ⟨gx, 3, none⟩) HNE.out (.int .i64 x2))
       replace HX := Aside0.mk (blk_put (cs := #[.int .i64 (wrap64 (1 - x0)), .int .i64 x1, .int .i64 x2, .int .i64 x5, .int .i64 (wrap64 (x4 - 1)), .int .i64 0, .int .i64 rw_, .int .i64 x7, .int .i64 x8, .int .i64 x9, .int .i64 x10, .int .i64 x11]) (cs' := #[.int .i64 (wrap64 (1 - x0)), .int .i64 x1, .int .i64 x2, .int .i64 x2, .int .i64 (wrap64 (x4 - 1)), .int .i64 0, .int .i64 rw_, .int .i64 x7, .int .i64 x8, .int .i64 x9, .int .i64 x10, .int .i64 x11]) HX.out 3 (.int .i64 x2) rfl)
       replace KP := Aside0.mk (Kept.setCell KP.out (p := ⟨gx, 2, none⟩) (.inl rfl) (.int .i64 (wrap64 (x2 + 1))))
       replace HZ := Aside0.mk (Below.setCell HZ.out (p := ⟨gx, 2, none⟩) (Nat.zero_le _) (.int .i64 (wrap64 (x2 + 1))))
       replace HL := Aside0.mk (blk_far HL.out (p := ⟨gx, 2, none⟩) HNE.out (.int .i64 (wrap64 (x2 + 1))))
       replace HX := Aside0.mk (blk_put (cs := #[.int .i64 (wrap64 (1 - x0)), .int .i64 x1, .int .i64 x2, .int .i64 x2, .int .i64 (wrap64 (x4 - 1)), .int .i64 0, .int .i64 rw_, .int .i64 x7, .int .i64 x8, .int .i64 x9, .int .i64 x10, .int .i64 x11]) (cs' := #[.int .i64 (wrap64 (1 - x0)), .int .i64 x1, .int .i64 (wrap64 (x2 + 1)), .int .i64 x2, .int .i64 (wrap64 (x4 - 1)), .int .i64 0, .int .i64 rw_, .int .i64 x7, .int .i64 x8, .int .i64 x9, .int .i64 x10, .int .i64 x11]) HX.out 2 (.int .i64 (wrap64 (x2 + 1))) rfl)
       generalize (((w3.setCell ⟨gx, 0, none⟩ (.int .i64 (wrap64 (1 - x0)))).setCell ⟨gx, 3, none⟩ (.int .i64 x2)).setCell ⟨gx, 2, none⟩ (.int .i64 (wrap64 (x2 + 1)))) = w9 at KP HX HL HZ ⊢
       first | go_end0 | ((try simp only [Exit.inBlock, Exit.then]); refine bodyPost_ret (results_none rfl _ _ _) rfl ?_)
       obtain ⟨e0, e2, e3, e4, e5⟩ := EH.out
       exact ⟨rfl, by rw [← e0, ← e2, ← e3, ← e4, ← e5]; exact HX.out, KP.out, HZ.out⟩
      ·skip
       rw [if_neg h5] at h
       simp only [Prod.mk.injEq] at h
       have EH := Aside0.mk h
       have p3 : (sn != x0) = false := bne_eq_false_iff_eq.mpr h3
       have p4 : (x2 == l3) = false := beq_eq_false_iff_ne.mpr h4
       have p5 : (l2 == 0) = false := beq_eq_false_iff_ne.mpr h5
       clear h3 h4 h5
       clear h
       go_wp2_with (fail)
       clear c0 c2 c3 c4 c5 c6 d0 d2 d3 f0 f2 f3 f4 f5 f6
       replace KP := Aside0.mk (Kept.setCell KP.out (p := ⟨gx, 6, none⟩) (.inl rfl) (.int .i64 rw_))
       replace HZ := Aside0.mk (Below.setCell HZ.out (p := ⟨gx, 6, none⟩) (Nat.zero_le _) (.int .i64 rw_))
       replace HL := Aside0.mk (blk_far HL.out (p := ⟨gx, 6, none⟩) HNE.out (.int .i64 rw_))
       replace HX := Aside0.mk (blk_put (cs := #[.int .i64 x0, .int .i64 x1, .int .i64 x2, .int .i64 x3, .int .i64 x4, .int .i64 x5, .int .i64 x6, .int .i64 x7, .int .i64 x8, .int .i64 x9, .int .i64 x10, .int .i64 x11]) (cs' := #[.int .i64 x0, .int .i64 x1, .int .i64 x2, .int .i64 x3, .int .i64 x4, .int .i64 x5, .int .i64 rw_, .int .i64 x7, .int .i64 x8, .int .i64 x9, .int .i64 x10, .int .i64 x11]) HX.out 6 (.int .i64 rw_) rfl)
       replace KP := Aside0.mk (Kept.setCell KP.out (p := ⟨gx, 4, none⟩) (.inl rfl) (.int .i64 (wrap64 (x4 - 1))))
       replace HZ := Aside0.mk (Below.setCell HZ.out (p := ⟨gx, 4, none⟩) (Nat.zero_le _) (.int .i64 (wrap64 (x4 - 1))))
       replace HL := Aside0.mk (blk_far HL.out (p := ⟨gx, 4, none⟩) HNE.out (.int .i64 (wrap64 (x4 - 1))))
       replace HX := Aside0.mk (blk_put (cs := #[.int .i64 x0, .int .i64 x1, .int .i64 x2, .int .i64 x3, .int .i64 x4, .int .i64 x5, .int .i64 rw_, .int .i64 x7, .int .i64 x8, .int .i64 x9, .int .i64 x10, .int .i64 x11]) (cs' := #[.int .i64 x0, .int .i64 x1, .int .i64 x2, .int .i64 x3, .int .i64 (wrap64 (x4 - 1)), .int .i64 x5, .int .i64 rw_, .int .i64 x7, .int .i64 x8, .int .i64 x9, .int .i64 x10, .int .i64 x11]) HX.out 4 (.int .i64 (wrap64 (x4 - 1))) rfl)
       replace KP := Aside0.mk (Kept.setCell KP.out (p := ⟨gx, 3, none⟩) (.inl rfl) (.int .i64 x5))
       replace HZ := Aside0.mk (Below.setCell HZ.out (p := ⟨gx, 3, none⟩) (Nat.zero_le _) (.int .i64 x5))
       replace HL := Aside0.mk (blk_far HL.out (p := ⟨gx, 3, none⟩) HNE.out (.int .i64 x5))
       replace HX := Aside0.mk (blk_put (cs := #[.int .i64 x0, .int .i64 x1, .int .i64 x2, .int .i64 x3, .int .i64 (wrap64 (x4 - 1)), .int .i64 x5, .int .i64 rw_, .int .i64 x7, .int .i64 x8, .int .i64 x9, .int .i64 x10, .int .i64 x11]) (cs' := #[.int .i64 x0, .int .i64 x1, .int .i64 x2, .int .i64 x5, .int .i64 (wrap64 (x4 - 1)), .int .i64 x5, .int .i64 rw_, .int .i64 x7, .int .i64 x8, .int .i64 x9, .int .i64 x10, .int .i64 x11]) HX.out 3 (.int .i64 x5) rfl)
       replace KP := Aside0.mk (Kept.setCell KP.out (p := ⟨gx, 5, none⟩) (.inl rfl) (.int .i64 0))
       replace HZ := Aside0.mk (Below.setCell HZ.out (p := ⟨gx, 5, none⟩) (Nat.zero_le _) (.int .i64 0))
       replace HL := Aside0.mk (blk_far HL.out (p := ⟨gx, 5, none⟩) HNE.out (.int .i64 0))
       replace HX := Aside0.mk (blk_put (cs := #[.int .i64 x0, .int .i64 x1, .int .i64 x2, .int .i64 x5, .int .i64 (wrap64 (x4 - 1)), .int .i64 x5, .int .i64 rw_, .int .i64 x7, .int .i64 x8, .int .i64 x9, .int .i64 x10, .int .i64 x11]) (cs' := #[.int .i64 x0, .int .i64 x1, .int .i64 x2, .int .i64 x5, .int .i64 (wrap64 (x4 - 1)), .int .i64 0, .int .i64 rw_, .int .i64 x7, .int .i64 x8, .int .i64 x9, .int .i64 x10, .int .i64 x11]) HX.out 5 (.int .i64 0) rfl)
       generalize ((((w1.setCell ⟨gx, 6, none⟩ (.int .i64 rw_)).setCell ⟨gx, 4, none⟩ (.int .i64 (wrap64 (x4 - 1)))).setCell ⟨gx, 3, none⟩ (.int .i64 x5)).setCell ⟨gx, 5, none⟩ (.int .i64 0)) = w2 at KP HX HL HZ ⊢
       have c0 : w2.cell? ⟨gx, 0, none⟩ = some (.int .i64 x0) := (blk_cell HX.out 0).trans rfl
       have c2 : w2.cell? ⟨gx, 2, none⟩ = some (.int .i64 x2) := (blk_cell HX.out 2).trans rfl
       have c3 : w2.cell? ⟨gx, 3, none⟩ = some (.int .i64 x5) := (blk_cell HX.out 3).trans rfl
       have c4 : w2.cell? ⟨gx, 4, none⟩ = some (.int .i64 (wrap64 (x4 - 1))) := (blk_cell HX.out 4).trans rfl
       have c5 : w2.cell? ⟨gx, 5, none⟩ = some (.int .i64 0) := (blk_cell HX.out 5).trans rfl
       have c6 : w2.cell? ⟨gx, 6, none⟩ = some (.int .i64 rw_) := (blk_cell HX.out 6).trans rfl
       have d0 : w2.cell? ⟨gl, 0, none⟩ = some (.int .i64 l0) := (blk_cell HL.out 0).trans rfl
       have d2 : w2.cell? ⟨gl, 2, none⟩ = some (.int .i64 l2) := (blk_cell HL.out 2).trans rfl
       have d3 : w2.cell? ⟨gl, 3, none⟩ = some (.int .i64 l3) := (blk_cell HL.out 3).trans rfl
       have f0 := blk_frozen HX.out 0
       have f2 := blk_frozen HX.out 2
       have f3 := blk_frozen HX.out 3
       have f4 := blk_frozen HX.out 4
       have f5 := blk_frozen HX.out 5
       have f6 := blk_frozen HX.out 6
       go_quiet (fail)
       have hb := pw_below_drewN (Below.refl w2.heap.size w2) nq
       replace KP := Aside0.mk (Kept.then_ KP.out (Kept.of_below hb (fun b => b = gx)) (fun b hb => .inl hb)); replace HX := Aside0.mk (blk_below HX.out hb); replace HL := Aside0.mk (blk_below HL.out hb); replace HZ := Aside0.mk (Below.trans HZ.out (Below.mono hb (Nat.zero_le _)))
       clear hb
       generalize w2.drewN nq = w3 at KP HX HL HZ ⊢
       clear c0 c2 c3 c4 c5 c6 d0 d2 d3 f0 f2 f3 f4 f5 f6
       have c0 : w3.cell? ⟨gx, 0, none⟩ = some (.int .i64 x0) := (blk_cell HX.out 0).trans rfl
       have c2 : w3.cell? ⟨gx, 2, none⟩ = some (.int .i64 x2) := (blk_cell HX.out 2).trans rfl
       have c3 : w3.cell? ⟨gx, 3, none⟩ = some (.int .i64 x5) := (blk_cell HX.out 3).trans rfl
       have c4 : w3.cell? ⟨gx, 4, none⟩ = some (.int .i64 (wrap64 (x4 - 1))) := (blk_cell HX.out 4).trans rfl
       have c5 : w3.cell? ⟨gx, 5, none⟩ = some (.int .i64 0) := (blk_cell HX.out 5).trans rfl
       have c6 : w3.cell? ⟨gx, 6, none⟩ = some (.int .i64 rw_) := (blk_cell HX.out 6).trans rfl
       have d0 : w3.cell? ⟨gl, 0, none⟩ = some (.int .i64 l0) := (blk_cell HL.out 0).trans rfl
       have d2 : w3.cell? ⟨gl, 2, none⟩ = some (.int .i64 l2) := (blk_cell HL.out 2).trans rfl
       have d3 : w3.cell? ⟨gl, 3, none⟩ = some (.int .i64 l3) := (blk_cell HL.out 3).trans rfl
       have f0 := blk_frozen HX.out 0
       have f2 := blk_frozen HX.out 2
       have f3 := blk_frozen HX.out 3
       have f4 := blk_frozen HX.out 4
       have f5 := blk_frozen HX.out 5
       have f6 := blk_frozen HX.out 6
       go_wp2_with (fail)
       clear c0 c2 c3 c4 c5 c6 d0 d2 d3 f0 f2 f3 f4 f5 f6
       replace KP := Aside0.mk (Kept.setCell KP.out (p := ⟨gx, 0, none⟩) (.inl rfl) (.int .i64 (wrap64 (1 - x0))))
       replace HZ := Aside0.mk (Below.setCell HZ.out (p := ⟨gx, 0, none⟩) (Nat.zero_le _) (.int .i64 (wrap64 (1 - x0))))
       replace HL := Aside0.mk (blk_far HL.out (p := ⟨gx, 0, none⟩) HNE.out (.int .i64 (wrap64 (1 - x0))))
       replace HX := Aside0.mk (blk_put (cs := #[.int .i64 x0, .int .i64 x1, .int .i64 x2, .int .i64 x5, .int .i64 (wrap64 (x4 - 1)), .int .i64 0, .int .i64 rw_, .int .i64 x7, .int .i64 x8, .int .i64 x9, .int .i64 x10, .int .i64 x11]) (cs' := #[.int .i64 (wrap64 (1 - x0)), .int .i64 x1, .int .i64 x2, .int .i64 x5, .int .i64 (wrap64 (x4 - 1)), .int .i64 0, .int .i64 rw_, .int .i64 x7, .int .i64 x8, .int .i64 x9, .int .i64 x10, .int .i64 x11]) HX.out 0 (.int .i64 (wrap64 (1 - x0))) rfl)
       replace KP := Aside0.mk (Kept.setCell KP.out (p := ⟨gx, 4, none⟩) (.inl rfl) (.int .i64 l2))
       replace HZ := Aside0.mk (Below.setCell HZ.out (p := ⟨gx, 4, none⟩) (Nat.zero_le _) (.int .i64 l2))
       replace HL := Aside0.mk (blk_far HL.out (p := ⟨gx, 4, none⟩) HNE.out (.int .i64 l2))
       replace HX := Aside0.mk (blk_put (cs := #[.int .i64 (wrap64 (1 - x0)), .int .i64 x1, .int .i64 x2, .int .i64 x5, .int .i64 (wrap64 (x4 - 1)), .int .i64 0, .int .i64 rw_, .int .i64 x7, .int .i64 x8, .int .i64 x9, .int .i64 x10, .int .i64 x11]) (cs' := #[.int .i64 (wrap64 (1 - x0)), .int .i64 x1, .int .i64 x2, .int .i64 x5, .int .i64 l2, .int .i64 0, .int .i64 rw_, .int .i64 x7, .int .i64 x8, .int .i64 x9, .int .i64 x10, .int .i64 x11]) HX.out 4 (.int .i64 l2) rfl)
       replace KP := Aside0.mk (Kept.setCell KP.out (p := ⟨gx, 5, none⟩) (.inl rfl) (.int .i64 x2))
       replace HZ := Aside0.mk (Below.setCell HZ.out (p := ⟨gx, 5, none⟩) (Nat.zero_le _) (.int .i64 x2))
       replace HL := Aside0.mk (blk_far HL.out (p := ⟨gx, 5, none⟩) HNE.out (.int .i64 x2))
       replace HX := Aside0.mk (blk_put (cs := #[.int .i64 (wrap64 (1 - x0)), .int .i64 x1, .int .i64 x2, .int .i64 x5, .int .i64 l2, .int .i64 0, .int .i64 rw_, .int .i64 x7, .int .i64 x8, .int .i64 x9, .int .i64 x10, .int .i64 x11]) (cs' := #[.int .i64 (wrap64 (1 - x0)), .int .i64 x1, .int .i64 x2, .int .i64 x5, .int .i64 l2, .int .i64 x2, .int .i64 rw_, .int .i64 x7, .int .i64 x8, .int .i64 x9, .int .i64 x10, .int .i64 x11]) HX.out 5 (.int .i64 x2) rfl)
       replace KP := Aside0.mk (Kept.setCell KP.out (p := ⟨gx, 2, none⟩) (.inl rfl) (.int .i64 (wrap64 (x2 + 1))))
       replace HZ := Aside0.mk (Below.setCell HZ.out (p := ⟨gx, 2, none⟩) (Nat.zero_le _) (.int .i64 (wrap64 (x2 + 1))))
       replace HL := Aside0.mk (blk_far HL.out (p := ⟨gx, 2, none⟩) HNE.out (.int .i64 (wrap64 (x2 + 1))))
       replace HX := Aside0.mk (blk_put (cs := #[.int .i64 (wrap64 (1 - x0)), .int .i64 x1, .int .i64 x2, .int .i64 x5, .int .i64 l2, .int .i64 x2, .int .i64 rw_, .int .i64 x7, .int .i64 x8, .int .i64 x9, .int .i64 x10, .int .i64 x11]) (cs' := #[.int .i64 (wrap64 (1 - x0)), .int .i64 x1, .int .i64 (wrap64 (x2 + 1)), .int .i64 x5, .int .i64 l2, .int .i64 x2, .int .i64 rw_, .int .i64 x7, .int .i64 x8, .int .i64 x9, .int .i64 x10, .int .i64 x11]) HX.out 2 (.int .i64 (wrap64 (x2 + 1))) rfl)
       generalize ((((w3.setCell ⟨gx, 0, none⟩ (.int .i64 (wrap64 (1 - x0)))).setCell ⟨gx, 4, none⟩ (.int .i64 l2)).setCell ⟨gx, 5, none⟩ (.int .i64 x2)).setCell ⟨gx, 2, none⟩ (.int .i64 (wrap64 (x2 + 1)))) = w9 at KP HX HL HZ ⊢
       first | go_end0 | ((try simp only [Exit.inBlock, Exit.then]); refine bodyPost_ret (results_none rfl _ _ _) rfl ?_)
       obtain ⟨e0, e2, e3, e4, e5⟩ := EH.out
       exact ⟨rfl, by rw [← e0, ← e2, ← e3, ← e4, ← e5]; exact HX.out, KP.out, HZ.out⟩
    ·skip
     rw [if_neg (show ¬ (sn = x0 ∧ ¬ x2 = l3) from fun h_ => h3 h_.1)] at h
     simp only [Prod.mk.injEq] at h
     have EH := Aside0.mk h
     have p3 : (sn != x0) = true := bne_iff_ne.mpr h3
     clear h3
     clear h
     go_wp2_with (fail)
     clear c0 c2 c3 c4 c5 c6 d0 d2 d3 f0 f2 f3 f4 f5 f6
     replace KP := Aside0.mk (Kept.setCell KP.out (p := ⟨gx, 6, none⟩) (.inl rfl) (.int .i64 rw_))
     replace HZ := Aside0.mk (Below.setCell HZ.out (p := ⟨gx, 6, none⟩) (Nat.zero_le _) (.int .i64 rw_))
     replace HL := Aside0.mk (blk_far HL.out (p := ⟨gx, 6, none⟩) HNE.out (.int .i64 rw_))
     replace HX := Aside0.mk (blk_put (cs := #[.int .i64 x0, .int .i64 x1, .int .i64 x2, .int .i64 x3, .int .i64 x4, .int .i64 x5, .int .i64 x6, .int .i64 x7, .int .i64 x8, .int .i64 x9, .int .i64 x10, .int .i64 x11]) (cs' := #[.int .i64 x0, .int .i64 x1, .int .i64 x2, .int .i64 x3, .int .i64 x4, .int .i64 x5, .int .i64 rw_, .int .i64 x7, .int .i64 x8, .int .i64 x9, .int .i64 x10, .int .i64 x11]) HX.out 6 (.int .i64 rw_) rfl)
     replace KP := Aside0.mk (Kept.setCell KP.out (p := ⟨gx, 4, none⟩) (.inl rfl) (.int .i64 (wrap64 (x4 - 1))))
     replace HZ := Aside0.mk (Below.setCell HZ.out (p := ⟨gx, 4, none⟩) (Nat.zero_le _) (.int .i64 (wrap64 (x4 - 1))))
     replace HL := Aside0.mk (blk_far HL.out (p := ⟨gx, 4, none⟩) HNE.out (.int .i64 (wrap64 (x4 - 1))))
     replace HX := Aside0.mk (blk_put (cs := #[.int .i64 x0, .int .i64 x1, .int .i64 x2, .int .i64 x3, .int .i64 x4, .int .i64 x5, .int .i64 rw_, .int .i64 x7, .int .i64 x8, .int .i64 x9, .int .i64 x10, .int .i64 x11]) (cs' := #[.int .i64 x0, .int .i64 x1, .int .i64 x2, .int .i64 x3, .int .i64 (wrap64 (x4 - 1)), .int .i64 x5, .int .i64 rw_, .int .i64 x7, .int .i64 x8, .int .i64 x9, .int .i64 x10, .int .i64 x11]) HX.out 4 (.int .i64 (wrap64 (x4 - 1))) rfl)
     replace KP := Aside0.mk (Kept.setCell KP.out (p := ⟨gx, 3, none⟩) (.inl rfl) (.int .i64 x5))
     replace HZ := Aside0.mk (Below.setCell HZ.out (p := ⟨gx, 3, none⟩) (Nat.zero_le _) (.int .i64 x5))
     replace HL := Aside0.mk (blk_far HL.out (p := ⟨gx, 3, none⟩) HNE.out (.int .i64 x5))
     replace HX := Aside0.mk (blk_put (cs := #[.int .i64 x0, .int .i64 x1, .int .i64 x2, .int .i64 x3, .int .i64 (wrap64 (x4 - 1)), .int .i64 x5, .int .i64 rw_, .int .i64 x7, .int .i64 x8, .int .i64 x9, .int .i64 x10, .int .i64 x11]) (cs' := #[.int .i64 x0, .int .i64 x1, .int .i64 x2, .int .i64 x5, .int .i64 (wrap64 (x4 - 1)), .int .i64 x5, .int .i64 rw_, .int .i64 x7, .int .i64 x8, .int .i64 x9, .int .i64 x10, .int .i64 x11]) HX.out 3 (.int .i64 x5) rfl)
     replace KP := Aside0.mk (Kept.setCell KP.out (p := ⟨gx, 5, none⟩) (.inl rfl) (.int .i64 0))
     replace HZ := Aside0.mk (Below.setCell HZ.out (p := ⟨gx, 5, none⟩) (Nat.zero_le _) (.int .i64 0))
     replace HL := Aside0.mk (blk_far HL.out (p := ⟨gx, 5, none⟩) HNE.out (.int .i64 0))
     replace HX := Aside0.mk (blk_put (cs := #[.int .i64 x0, .int .i64 x1, .int .i64 x2, .int .i64 x5, .int .i64 (wrap64 (x4 - 1)), .int .i64 x5, .int .i64 rw_, .int .i64 x7, .int .i64 x8, .int .i64 x9, .int .i64 x10, .int .i64 x11]) (cs' := #[.int .i64 x0, .int .i64 x1, .int .i64 x2, .int .i64 x5, .int .i64 (wrap64 (x4 - 1)), .int .i64 0, .int .i64 rw_, .int .i64 x7, .int .i64 x8, .int .i64 x9, .int .i64 x10, .int .i64 x11]) HX.out 5 (.int .i64 0) rfl)
     generalize ((((w1.setCell ⟨gx, 6, none⟩ (.int .i64 rw_)).setCell ⟨gx, 4, none⟩ (.int .i64 (wrap64 (x4 - 1)))).setCell ⟨gx, 3, none⟩ (.int .i64 x5)).setCell ⟨gx, 5, none⟩ (.int .i64 0)) = w2 at KP HX HL HZ ⊢
     have c0 : w2.cell? ⟨gx, 0, none⟩ = some (.int .i64 x0) := (blk_cell HX.out 0).trans rfl
     have c2 : w2.cell? ⟨gx, 2, none⟩ = some (.int .i64 x2) := (blk_cell HX.out 2).trans rfl
     have c3 : w2.cell? ⟨gx, 3, none⟩ = some (.int .i64 x5) := (blk_cell HX.out 3).trans rfl
     have c4 : w2.cell? ⟨gx, 4, none⟩ = some (.int .i64 (wrap64 (x4 - 1))) := (blk_cell HX.out 4).trans rfl
     have c5 : w2.cell? ⟨gx, 5, none⟩ = some (.int .i64 0) := (blk_cell HX.out 5).trans rfl
     have c6 : w2.cell? ⟨gx, 6, none⟩ = some (.int .i64 rw_) := (blk_cell HX.out 6).trans rfl
     have d0 : w2.cell? ⟨gl, 0, none⟩ = some (.int .i64 l0) := (blk_cell HL.out 0).trans rfl
     have d2 : w2.cell? ⟨gl, 2, none⟩ = some (.int .i64 l2) := (blk_cell HL.out 2).trans rfl
     have d3 : w2.cell? ⟨gl, 3, none⟩ = some (.int .i64 l3) := (blk_cell HL.out 3).trans rfl
     have f0 := blk_frozen HX.out 0
     have f2 := blk_frozen HX.out 2
     have f3 := blk_frozen HX.out 3
     have f4 := blk_frozen HX.out 4
     have f5 := blk_frozen HX.out 5
     have f6 := blk_frozen HX.out 6
     go_quiet (fail)
     have hb := pw_below_drewN (Below.refl w2.heap.size w2) nq
     replace KP := Aside0.mk (Kept.then_ KP.out (Kept.of_below hb (fun b => b = gx)) (fun b hb => .inl hb)); replace HX := Aside0.mk (blk_below HX.out hb); replace HL := Aside0.mk (blk_below HL.out hb); replace HZ := Aside0.mk (Below.trans HZ.out (Below.mono hb (Nat.zero_le _)))
     clear hb
     generalize w2.drewN nq = w3 at KP HX HL HZ ⊢
     clear c0 c2 c3 c4 c5 c6 d0 d2 d3 f0 f2 f3 f4 f5 f6
     go_wp2_with (fail)
     first | go_end0 | ((try simp only [Exit.inBlock, Exit.then]); refine bodyPost_ret (results_none rfl _ _ _) rfl ?_)
     obtain ⟨e0, e2, e3, e4, e5⟩ := EH.out
     exact ⟨rfl, by rw [← e0, ← e2, ← e3, ← e4, ← e5]; exact HX.out, KP.out, HZ.out⟩
  ·rw [if_neg (fun h_ => h1 h_.1)] at h
   have p1 : (l0 == 4) = false := beq_eq_false_iff_ne.mpr h1
   clear h1
   rcases Classical.em (sn = x0) with h3 | h3
   ·rcases Classical.em (x2 = l3) with h4 | h4
    ·skip
     rw [if_neg (show ¬ (sn = x0 ∧ ¬ x2 = l3) from fun h_ => h_.2 h4)] at h
     simp only [Prod.mk.injEq] at h
     have EH := Aside0.mk h
     have p3 : (sn != x0) = false := bne_eq_false_iff_eq.mpr h3
     have p4 : (x2 == l3) = true := beq_iff_eq.mpr h4
     clear h3 h4
     clear h
     go_wp2_with (fail)
     clear c0 c2 c3 c4 c5 c6 d0 d2 d3 f0 f2 f3 f4 f5 f6
     replace KP := Aside0.mk (Kept.setCell KP.out (p := ⟨gx, 6, none⟩) (.inl rfl) (.int .i64 rw_))
     replace HZ := Aside0.mk (Below.setCell HZ.out (p := ⟨gx, 6, none⟩) (Nat.zero_le _) (.int .i64 rw_))
     replace HL := Aside0.mk (blk_far HL.out (p := ⟨gx, 6, none⟩) HNE.out (.int .i64 rw_))
     replace HX := Aside0.mk (blk_put (cs := #[.int .i64 x0, .int .i64 x1, .int .i64 x2, .int .i64 x3, .int .i64 x4, .int .i64 x5, .int .i64 x6, .int .i64 x7, .int .i64 x8, .int .i64 x9, .int .i64 x10, .int .i64 x11]) (cs' := #[.int .i64 x0, .int .i64 x1, .int .i64 x2, .int .i64 x3, .int .i64 x4, .int .i64 x5, .int .i64 rw_, .int .i64 x7, .int .i64 x8, .int .i64 x9, .int .i64 x10, .int .i64 x11]) HX.out 6 (.int .i64 rw_) rfl)
     replace KP := Aside0.mk (Kept.setCell KP.out (p := ⟨gx, 4, none⟩) (.inl rfl) (.int .i64 (wrap64 (x4 - 1))))
     replace HZ := Aside0.mk (Below.setCell HZ.out (p := ⟨gx, 4, none⟩) (Nat.zero_le _) (.int .i64 (wrap64 (x4 - 1))))
     replace HL := Aside0.mk (blk_far HL.out (p := ⟨gx, 4, none⟩) HNE.out (.int .i64 (wrap64 (x4 - 1))))
     replace HX := Aside0.mk (blk_put (cs := #[.int .i64 x0, .int .i64 x1, .int .i64 x2, .int .i64 x3, .int .i64 x4, .int .i64 x5, .int .i64 rw_, .int .i64 x7, .int .i64 x8, .int .i64 x9, .int .i64 x10, .int .i64 x11]) (cs' := #[.int .i64 x0, .int .i64 x1, .int .i64 x2, .int .i64 x3, .int .i64 (wrap64 (x4 - 1)), .int .i64 x5, .int .i64 rw_, .int .i64 x7, .int .i64 x8, .int .i64 x9, .int .i64 x10, .int .i64 x11]) HX.out 4 (.int .i64 (wrap64 (x4 - 1))) rfl)
     replace KP := Aside0.mk (Kept.setCell KP.out (p := ⟨gx, 3, none⟩) (.inl rfl) (.int .i64 x5))
     replace HZ := Aside0.mk (Below.setCell HZ.out (p := ⟨gx, 3, none⟩) (Nat.zero_le _) (.int .i64 x5))
     replace HL := Aside0.mk (blk_far HL.out (p := ⟨gx, 3, none⟩) HNE.out (.int .i64 x5))
     replace HX := Aside0.mk (blk_put (cs := #[.int .i64 x0, .int .i64 x1, .int .i64 x2, .int .i64 x3, .int .i64 (wrap64 (x4 - 1)), .int .i64 x5, .int .i64 rw_, .int .i64 x7, .int .i64 x8, .int .i64 x9, .int .i64 x10, .int .i64 x11]) (cs' := #[.int .i64 x0, .int .i64 x1, .int .i64 x2, .int .i64 x5, .int .i64 (wrap64 (x4 - 1)), .int .i64 x5, .int .i64 rw_, .int .i64 x7, .int .i64 x8, .int .i64 x9, .int .i64 x10, .int .i64 x11]) HX.out 3 (.int .i64 x5) rfl)
     replace KP := Aside0.mk (Kept.setCell KP.out (p := ⟨gx, 5, none⟩) (.inl rfl) (.int .i64 0))
     replace HZ := Aside0.mk (Below.setCell HZ.out (p := ⟨gx, 5, none⟩) (Nat.zero_le _) (.int .i64 0))
     replace HL := Aside0.mk (blk_far HL.out (p := ⟨gx, 5, none⟩) HNE.out (.int .i64 0))
     replace HX := Aside0.mk (blk_put (cs := #[.int .i64 x0, .int .i64 x1, .int .i64 x2, .int .i64 x5, .int .i64 (wrap64 (x4 - 1)), .int .i64 x5, .int .i64 rw_, .int .i64 x7, .int .i64 x8, .int .i64 x9, .int .i64 x10, .int .i64 x11]) (cs' := #[.int .i64 x0, .int .i64 x1, .int .i64 x2, .int .i64 x5, .int .i64 (wrap64 (x4 - 1)), .int .i64 0, .int .i64 rw_, .int .i64 x7, .int .i64 x8, .int .i64 x9, .int .i64 x10, .int .i64 x11]) HX.out 5 (.int .i64 0) rfl)
     generalize ((((w1.setCell ⟨gx, 6, none⟩ (.int .i64 rw_)).setCell ⟨gx, 4, none⟩ (.int .i64 (wrap64 (x4 - 1)))).setCell ⟨gx, 3, none⟩ (.int .i64 x5)).setCell ⟨gx, 5, none⟩ (.int .i64 0)) = w2 at KP HX HL HZ ⊢
     have c0 : w2.cell? ⟨gx, 0, none⟩ = some (.int .i64 x0) := (blk_cell HX.out 0).trans rfl
     have c2 : w2.cell? ⟨gx, 2, none⟩ = some (.int .i64 x2) := (blk_cell HX.out 2).trans rfl
     have c3 : w2.cell? ⟨gx, 3, none⟩ = some (.int .i64 x5) := (blk_cell HX.out 3).trans rfl
     have c4 : w2.cell? ⟨gx, 4, none⟩ = some (.int .i64 (wrap64 (x4 - 1))) := (blk_cell HX.out 4).trans rfl
     have c5 : w2.cell? ⟨gx, 5, none⟩ = some (.int .i64 0) := (blk_cell HX.out 5).trans rfl
     have c6 : w2.cell? ⟨gx, 6, none⟩ = some (.int .i64 rw_) := (blk_cell HX.out 6).trans rfl
     have d0 : w2.cell? ⟨gl, 0, none⟩ = some (.int .i64 l0) := (blk_cell HL.out 0).trans rfl
     have d2 : w2.cell? ⟨gl, 2, none⟩ = some (.int .i64 l2) := (blk_cell HL.out 2).trans rfl
     have d3 : w2.cell? ⟨gl, 3, none⟩ = some (.int .i64 l3) := (blk_cell HL.out 3).trans rfl
     have f0 := blk_frozen HX.out 0
     have f2 := blk_frozen HX.out 2
     have f3 := blk_frozen HX.out 3
     have f4 := blk_frozen HX.out 4
     have f5 := blk_frozen HX.out 5
     have f6 := blk_frozen HX.out 6
     go_quiet (fail)
     have hb := pw_below_drewN (Below.refl w2.heap.size w2) nq
     replace KP := Aside0.mk (Kept.then_ KP.out (Kept.of_below hb (fun b => b = gx)) (fun b hb => .inl hb)); replace HX := Aside0.mk (blk_below HX.out hb); replace HL := Aside0.mk (blk_below HL.out hb); replace HZ := Aside0.mk (Below.trans HZ.out (Below.mono hb (Nat.zero_le _)))
     clear hb
     generalize w2.drewN nq = w3 at KP HX HL HZ ⊢
     clear c0 c2 c3 c4 c5 c6 d0 d2 d3 f0 f2 f3 f4 f5 f6
     go_wp2_with (fail)
     first | go_end0 | ((try simp only [Exit.inBlock, Exit.then]); refine bodyPost_ret (results_none rfl _ _ _) rfl ?_)
     obtain ⟨e0, e2, e3, e4, e5⟩ := EH.out
     exact ⟨rfl, by rw [← e0, ← e2, ← e3, ← e4, ← e5]; exact HX.out, KP.out, HZ.out⟩
    ·rw [if_pos (show sn = x0 ∧ ¬ x2 = l3 from ⟨h3, h4⟩)] at h
     rcases Classical.em (l2 = 0) with h5 | h5
     ·skip
      rw [if_pos h5] at h
      simp only [Prod.mk.injEq] at h
      have EH := Aside0.mk h
      have p3 : (sn != x0) = false := bne_eq_false_iff_eq.mpr h3
      have p4 : (x2 == l3) = false := beq_eq_false_iff_ne.mpr h4
      have p5 : (l2 == 0) = true := beq_iff_eq.mpr h5
      clear h3 h4 h5
      clear h
      go_wp2_with (fail)
      clear c0 c2 c3 c4 c5 c6 d0 d2 d3 f0 f2 f3 f4 f5 f6
      replace KP := Aside0.mk (Kept.setCell KP.out (p := ⟨gx, 6, none⟩) (.inl rfl) (.int .i64 rw_))
      replace HZ := Aside0.mk (Below.setCell HZ.out (p := ⟨gx, 6, none⟩) (Nat.zero_le _) (.int .i64 rw_))
      replace HL := Aside0.mk (blk_far HL.out (p := ⟨gx, 6, none⟩) HNE.out (.int .i64 rw_))
      replace HX := Aside0.mk (blk_put (cs := #[.int .i64 x0, .int .i64 x1, .int .i64 x2, .int .i64 x3, .int .i64 x4, .int .i64 x5, .int .i64 x6, .int .i64 x7, .int .i64 x8, .int .i64 x9, .int .i64 x10, .int .i64 x11]) (cs' := #[.int .i64 x0, .int .i64 x1, .int .i64 x2, .int .i64 x3, .int .i64 x4, .int .i64 x5, .int .i64 rw_, .int .i64 x7, .int .i64 x8, .int .i64 x9, .int .i64 x10, .int .i64 x11]) HX.out 6 (.int .i64 rw_) rfl)
      replace KP := Aside0.mk (Kept.setCell KP.out (p := ⟨gx, 4, none⟩) (.inl rfl) (.int .i64 (wrap64 (x4 - 1))))
      replace HZ := Aside0.mk (Below.setCell HZ.out (p := ⟨gx, 4, none⟩) (Nat.zero_le _) (.int .i64 (wrap64 (x4 - 1))))
      replace HL := Aside0.mk (blk_far HL.out (p := ⟨gx, 4, none⟩) HNE.out (.int .i64 (wrap64 (x4 - 1))))
      replace HX := Aside0.mk (blk_put (cs := #[.int .i64 x0, .int .i64 x1, .int .i64 x2, .int .i64 x3, .int .i64 x4, .int .i64 x5, .int .i64 rw_, .int .i64 x7, .int .i64 x8, .int .i64 x9, .int .i64 x10, .int .i64 x11]) (cs' := #[.int .i64 x0, .int .i64 x1, .int .i64 x2, .int .i64 x3, .int .i64 (wrap64 (x4 - 1)), .int .i64 x5, .int .i64 rw_, .int .i64 x7, .int .i64 x8, .int .i64 x9, .int .i64 x10, .int .i64 x11]) HX.out 4 (.int .i64 (wrap64 (x4 - 1))) rfl)
      replace KP := Aside0.mk (Kept.setCell KP.out (p := ⟨gx, 3, none⟩) (.inl rfl) (.int .i64 x5))
      replace HZ := Aside0.mk (Below.setCell HZ.out (p := ⟨gx, 3, none⟩) (Nat.zero_le _) (.int .i64 x5))
      replace HL := Aside0.mk (blk_far HL.out (p := ⟨gx, 3, none⟩) HNE.out (.int .i64 x5))
      replace HX := Aside0.mk (blk_put (cs := #[.int .i64 x0, .int .i64 x1, .int .i64 x2, .int .i64 x3, .int .i64 (wrap64 (x4 - 1)), .int .i64 x5, .int .i64 rw_, .int .i64 x7, .int .i64 x8, .int .i64 x9, .int .i64 x10, .int .i64 x11]) (cs' := #[.int .i64 x0, .int .i64 x1, .int .i64 x2, .int .i64 x5, .int .i64 (wrap64 (x4 - 1)), .int .i64 x5, .int .i64 rw_, .int .i64 x7, .int .i64 x8, .int .i64 x9, .int .i64 x10, .int .i64 x11]) HX.out 3 (.int .i64 x5) rfl)
      replace KP := Aside0.mk (Kept.setCell KP.out (p := ⟨gx, 5, none⟩) (.inl rfl) (.int .i64 0))
      replace HZ := Aside0.mk (Below.setCell HZ.out (p := ⟨gx, 5, none⟩) (Nat.zero_le _) (.int .i64 0))
      replace HL := Aside0.mk (blk_far HL.out (p := ⟨gx, 5, none⟩) HNE.out (.int .i64 0))
      replace HX := Aside0.mk (blk_put (cs := #[.int .i64 x0, .int .i64 x1, .int .i64 x2, .int .i64 x5, .int .i64 (wrap64 (x4 - 1)), .int .i64 x5, .int .i64 rw_, .int .i64 x7, .int .i64 x8, .int .i64 x9, .int .i64 x10, .int .i64 x11]) (cs' := #[.int .i64 x0, .int .i64 x1, .int .i64 x2, .int .i64 x5, .int .i64 (wrap64 (x4 - 1)), .int .i64 0, .int .i64 rw_, .int .i64 x7, .int .i64 x8, .int .i64 x9, .int .i64 x10, .int .i64 x11]) HX.out 5 (.int .i64 0) rfl)
      generalize ((((w1.setCell ⟨gx, 6, none⟩ (.int .i64 rw_)).setCell ⟨gx, 4, none⟩ (.int .i64 (wrap64 (x4 - 1)))).setCell ⟨gx, 3, none⟩ (.int .i64 x5)).setCell ⟨gx, 5, none⟩ (.int .i64 0)) = w2 at KP HX HL HZ ⊢
      have c0 : w2.cell? ⟨gx, 0, none⟩ = some (.int .i64 x0) := (blk_cell HX.out 0).trans rfl
      have c2 : w2.cell? ⟨gx, 2, none⟩ = some (.int .i64 x2) := (blk_cell HX.out 2).trans rfl
      have c3 : w2.cell? ⟨gx, 3, none⟩ = some (.int .i64 x5) := (blk_cell HX.out 3).trans rfl
      have c4 : w2.cell? ⟨gx, 4, none⟩ = some (.int .i64 (wrap64 (x4 - 1))) := (blk_cell HX.out 4).trans rfl
      have c5 : w2.cell? ⟨gx, 5, none⟩ = some (.int .i64 0) := (blk_cell HX.out 5).trans rfl
      have c6 : w2.cell? ⟨gx, 6, none⟩ = some (.int .i64 rw_) := (blk_cell HX.out 6).trans rfl
      have d0 : w2.cell? ⟨gl, 0, none⟩ = some (.int .i64 l0) := (blk_cell HL.out 0).trans rfl
      have d2 : w2.cell? ⟨gl, 2, none⟩ = some (.int .i64 l2) := (blk_cell HL.out 2).trans rfl
      have d3 : w2.cell? ⟨gl, 3, none⟩ = some (.int .i64 l3) := (blk_cell HL.out 3).trans rfl
      have f0 := blk_frozen HX.out 0
      have f2 := blk_frozen HX.out 2
      have f3 := blk_frozen HX.out 3
      have f4 := blk_frozen HX.out 4
      have f5 := blk_frozen HX.out 5
      have f6 := blk_frozen HX.out 6
      go_quiet (fail)
      have hb := pw_below_drewN (Below.refl w2.heap.size w2) nq
      replace KP := Aside0.mk (Kept.then_ KP.out (Kept.of_below hb (fun b => b = gx)) (fun b hb => .inl hb)); replace HX := Aside0.mk (blk_below HX.out hb); replace HL := Aside0.mk (blk_below HL.out hb); replace HZ := Aside0.mk (Below.trans HZ.out (Below.mono hb (Nat.zero_le _)))
      clear hb
      generalize w2.drewN nq = w3 at KP HX HL HZ ⊢
      clear c0 c2 c3 c4 c5 c6 d0 d2 d3 f0 f2 f3 f4 f5 f6
      have c0 : w3.cell? ⟨gx, 0, none⟩ = some (.int .i64 x0) := (blk_cell HX.out 0).trans rfl
      have c2 : w3.cell? ⟨gx, 2, none⟩ = some (.int .i64 x2) := (blk_cell HX.out 2).trans rfl
      have c3 : w3.cell? ⟨gx, 3, none⟩ = some (.int .i64 x5) := (blk_cell HX.out 3).trans rfl
      have c4 : w3.cell? ⟨gx, 4, none⟩ = some (.int .i64 (wrap64 (x4 - 1))) := (blk_cell HX.out 4).trans rfl
      have c5 : w3.cell? ⟨gx, 5, none⟩ = some (.int .i64 0) := (blk_cell HX.out 5).trans rfl
      have c6 : w3.cell? ⟨gx, 6, none⟩ = some (.int .i64 rw_) := (blk_cell HX.out 6).trans rfl
      have d0 : w3.cell? ⟨gl, 0, none⟩ = some (.int .i64 l0) := (blk_cell HL.out 0).trans rfl
      have d2 : w3.cell? ⟨gl, 2, none⟩ = some (.int .i64 l2) := (blk_cell HL.out 2).trans rfl
      have d3 : w3.cell? ⟨gl, 3, none⟩ = some (.int .i64 l3) := (blk_cell HL.out 3).trans rfl
      have f0 := blk_frozen HX.out 0
      have f2 := blk_frozen HX.out 2
      have f3 := blk_frozen HX.out 3
      have f4 := blk_frozen HX.out 4
      have f5 := blk_frozen HX.out 5
      have f6 := blk_frozen HX.out 6
      go_wp2_with (fail)
      clear c0 c2 c3 c4 c5 c6 d0 d2 d3 f0 f2 f3 f4 f5 f6
      replace KP := Aside0.mk (Kept.setCell KP.out (p := ⟨gx, 0, none⟩) (.inl rfl) (.int .i64 (wrap64 (1 - x0))))
      replace HZ := Aside0.mk (Below.setCell HZ.out (p := ⟨gx, 0, none⟩) (Nat.zero_le _) (.int .i64 (wrap64 (1 - x0))))
      replace HL := Aside0.mk (blk_far HL.out (p := ⟨gx, 0, none⟩) HNE.out (.int .i64 (wrap64 (1 - x0))))
      replace HX := Aside0.mk (blk_put (cs := #[.int .i64 x0, .int .i64 x1, .int .i64 x2, .int .i64 x5, .int .i64 (wrap64 (x4 - 1)), .int .i64 0, .int .i64 rw_, .int .i64 x7, .int .i64 x8, .int .i64 x9, .int .i64 x10, .int .i64 x11]) (cs' := #[.int .i64 (wrap64 (1 - x0)), .int .i64 x1, .int .i64 x2, .int .i64 x5, .int .i64 (wrap64 (x4 - 1)), .int .i64 0, .int .i64 rw_, .int .i64 x7, .int .i64 x8, .int .i64 x9, .int .i64 x10, .int .i64 x11]) HX.out 0 (.int .i64 (wrap64 (1 - x0))) rfl)
      replace KP := Aside0.mk (Kept.setCell KP.out (p := ⟨gx, 3, none⟩) (.inl rfl) (.int .i64 x2))
      replace HZ := Aside0.mk (Below.setCell HZ.out (p := ⟨gx, 3, none⟩) (Nat.zero_le _) (.int .i64 x2))
      replace HL := Aside0.mk (blk_far HL.out (p := ⟨gx, 3, none⟩) HNE.out (.int .i64 x2))
      replace HX := Aside0.mk (blk_put (cs := #[.int .i64 (wrap64 (1 - x0)), .int .i64 x1, .int .i64 x2, .int .i64 x5, .int .i64 (wrap64 (x4 - 1)), .int .i64 0, .int .i64 rw_, .int .i64 x7, .int .i64 x8, .int .i64 x9, .int .i64 x10, .int .i64 x11]) (cs' := #[.int .i64 (wrap64 (1 - x0)), .int .i64 x1, .int .i64 x2, .int .i64 x2, .int .i64 (wrap64 (x4 - 1)), .int .i64 0, .int .i64 rw_, .int .i64 x7, .int .i64 x8, .int .i64 x9, .int .i64 x10, .int .i64 x11]) HX.out 3 (.int .i64 x2) rfl)
      replace KP := Aside0.mk (Kept.setCell KP.out (p := ⟨gx, 2, none⟩) (.inl rfl) (.int .i64 (wrap64 (x2 + 1))))
      replace HZ := Aside0.mk (Below.setCell HZ.out (p := ⟨gx, 2, none⟩) (Nat.zero_le _) (.int .i64 (wrap64 (x2 + 1))))
      replace HL := Aside0.mk (blk_far HL.out (p := ⟨gx, 2, none⟩) HNE.out (.int .i64 (wrap64 (x2 + 1))))
      replace HX := Aside0.mk (blk_put (cs := #[.int .i64 (wrap64 (1 - x0)), .int .i64 x1, .int .i64 x2, .int .i64 x2, .int .i64 (wrap64 (x4 - 1)), .int .i64 0, .int .i64 rw_, .int .i64 x7, .int .i64 x8, .int .i64 x9, .int .i64 x10, .int .i64 x11]) (cs' := #[.int .i64 (wrap64 (1 - x0)), .int .i64 x1, .int .i64 (wrap64 (x2 + 1)), .int .i64 x2, .int .i64 (wrap64 (x4 - 1)), .int .i64 0, .int .i64 rw_, .int .i64 x7, .int .i64 x8, .int .i64 x9, .int .i64 x10, .int .i64 x11]) HX.out 2 (.int .i64 (wrap64 (x2 + 1))) rfl)
      generalize (((w3.setCell ⟨gx, 0, none⟩ (.int .i64 (wrap64 (1 - x0)))).setCell ⟨gx, 3, none⟩ (.int .i64 x2)).setCell ⟨gx, 2, none⟩ (.int .i64 (wrap64 (x2 + 1)))) = w9 at KP HX HL HZ ⊢
      first | go_end0 | ((try simp only [Exit.inBlock, Exit.then]); refine bodyPost_ret (results_none rfl _ _ _) rfl ?_)
      obtain ⟨e0, e2, e3, e4, e5⟩ := EH.out
      exact ⟨rfl, by rw [← e0, ← e2, ← e3, ← e4, ← e5]; exact HX.out, KP.out, HZ.out⟩
     ·skip
      rw [if_neg h5] at h
      simp only [Prod.mk.injEq] at h
      have EH := Aside0.mk h
      have p3 : (sn != x0) = false := bne_eq_false_iff_eq.mpr h3
      have p4 : (x2 == l3) = false := beq_eq_false_iff_ne.mpr h4
      have p5 : (l2 == 0) = false := beq_eq_false_iff_ne.mpr h5
      clear h3 h4 h5
      clear h
      go_wp2_with (fail)
      clear c0 c2 c3 c4 c5 c6 d0 d2 d3 f0 f2 f3 f4 f5 f6
      replace KP := Aside0.mk (Kept.setCell KP.out (p := ⟨gx, 6, none⟩) (.inl rfl) (.int .i64 rw_))
      replace HZ := Aside0.mk (Below.setCell HZ.out (p := ⟨gx, 6, none⟩) (Nat.zero_le _) (.int .i64 rw_))
      replace HL := Aside0.mk (blk_far HL.out (p := ⟨gx, 6, none⟩) HNE.out (.int .i64 rw_))
      replace HX := Aside0.mk (blk_put (cs := #[.int .i64 x0, .int .i64 x1, .int .i64 x2, .int .i64 x3, .int .i64 x4, .int .i64 x5, .int .i64 x6, .int .i64 x7, .int .i64 x8, .int .i64 x9, .int .i64 x10, .int .i64 x11]) (cs' := #[.int .i64 x0, .int .i64 x1, .int .i64 x2, .int .i64 x3, .int .i64 x4, .int .i64 x5, .int .i64 rw_, .int .i64 x7, .int .i64 x8, .int .i64 x9, .int .i64 x10, .int .i64 x11]) HX.out 6 (.int .i64 rw_) rfl)
      replace KP := Aside0.mk (Kept.setCell KP.out (p := ⟨gx, 4, none⟩) (.inl rfl) (.int .i64 (wrap64 (x4 - 1))))
      replace HZ := Aside0.mk (Below.setCell HZ.out (p := ⟨gx, 4, none⟩) (Nat.zero_le _) (.int .i64 (wrap64 (x4 - 1))))
      replace HL := Aside0.mk (blk_far HL.out (p := ⟨gx, 4, none⟩) HNE.out (.int .i64 (wrap64 (x4 - 1))))
      replace HX := Aside0.mk (blk_put (cs := #[.int .i64 x0, .int .i64 x1, .int .i64 x2, .int .i64 x3, .int .i64 x4, .int .i64 x5, .int .i64 rw_, .int .i64 x7, .int .i64 x8, .int .i64 x9, .int .i64 x10, .int .i64 x11]) (cs' := #[.int .i64 x0, .int .i64 x1, .int .i64 x2, .int .i64 x3, .int .i64 (wrap64 (x4 - 1)), .int .i64 x5, .int .i64 rw_, .int .i64 x7, .int .i64 x8, .int .i64 x9, .int .i64 x10, .int .i64 x11]) HX.out 4 (.int .i64 (wrap64 (x4 - 1))) rfl)
      replace KP := Aside0.mk (Kept.setCell KP.out (p := ⟨gx, 3, none⟩) (.inl rfl) (.int .i64 x5))
      replace HZ := Aside0.mk (Below.setCell HZ.out (p := ⟨gx, 3, none⟩) (Nat.zero_le _) (.int .i64 x5))
      replace HL := Aside0.mk (blk_far HL.out (p := ⟨gx, 3, none⟩) HNE.out (.int .i64 x5))
      replace HX := Aside0.mk (blk_put (cs := #[.int .i64 x0, .int .i64 x1, .int .i64 x2, .int .i64 x3, .int .i64 (wrap64 (x4 - 1)), .int .i64 x5, .int .i64 rw_, .int .i64 x7, .int .i64 x8, .int .i64 x9, .int .i64 x10, .int .i64 x11]) (cs' := #[.int .i64 x0, .int .i64 x1, .int .i64 x2, .int .i64 x5, .int .i64 (wrap64 (x4 - 1)), .int .i64 x5, .int .i64 rw_, .int .i64 x7, .int .i64 x8, .int .i64 x9, .int .i64 x10, .int .i64 x11]) HX.out 3 (.int .i64 x5) rfl)
      replace KP := Aside0.mk (Kept.setCell KP.out (p := ⟨gx, 5, none⟩) (.inl rfl) (.int .i64 0))
      replace HZ := Aside0.mk (Below.setCell HZ.out (p := ⟨gx, 5, none⟩) (Nat.zero_le _) (.int .i64 0))
      replace HL := Aside0.mk (blk_far HL.out (p := ⟨gx, 5, none⟩) HNE.out (.int .i64 0))
      replace HX := Aside0.mk (blk_put (cs := #[.int .i64 x0, .int .i64 x1, .int .i64 x2, .int .i64 x5, .int .i64 (wrap64 (x4 - 1)), .int .i64 x5, .int .i64 rw_, .int .i64 x7, .int .i64 x8, .int .i64 x9, .int .i64 x10, .int .i64 x11]) (cs' := #[.int .i64 x0, .int .i64 x1, .int .i64 x2, .int .i64 x5, .int .i64 (wrap64 (x4 - 1)), .int .i64 0, .int .i64 rw_, .int .i64 x7, .int .i64 x8, .int .i64 x9, .int .i64 x10, .int .i64 x11]) HX.out 5 (.int .i64 0) rfl)
      generalize ((((w1.setCell ⟨gx, 6, none⟩ (.int .i64 rw_)).setCell ⟨gx, 4, none⟩ (.int .i64 (wrap64 (x4 - 1)))).setCell ⟨gx, 3, none⟩ (.int .i64 x5)).setCell ⟨gx, 5, none⟩ (.int .i64 0)) = w2 at KP HX HL HZ ⊢
      have c0 : w2.cell? ⟨gx, 0, none⟩ = some (.int .i64 x0) := (blk_cell HX.out 0).trans rfl
      have c2 : w2.cell? ⟨gx, 2, none⟩ = some (.int .i64 x2) := (blk_cell HX.out 2).trans rfl
      have c3 : w2.cell? ⟨gx, 3, none⟩ = some (.int .i64 x5) := (blk_cell HX.out 3).trans rfl
      have c4 : w2.cell? ⟨gx, 4, none⟩ = some (.int .i64 (wrap64 (x4 - 1))) := (blk_cell HX.out 4).trans rfl
      have c5 : w2.cell? ⟨gx, 5, none⟩ = some (.int .i64 0) := (blk_cell HX.out 5).trans rfl
      have c6 : w2.cell? ⟨gx, 6, none⟩ = some (.int .i64 rw_) := (blk_cell HX.out 6).trans rfl
      have d0 : w2.cell? ⟨gl, 0, none⟩ = some (.int .i64 l0) := (blk_cell HL.out 0).trans rfl
      have d2 : w2.cell? ⟨gl, 2, none⟩ = some (.int .i64 l2) := (blk_cell HL.out 2).trans rfl
      have d3 : w2.cell? ⟨gl, 3, none⟩ = some (.int .i64 l3) := (blk_cell HL.out 3).trans rfl
      have f0 := blk_frozen HX.out 0
      have f2 := blk_frozen HX.out 2
      have f3 := blk_frozen HX.out 3
      have f4 := blk_frozen HX.out 4
      have f5 := blk_frozen HX.out 5
      have f6 := blk_frozen HX.out 6
      go_quiet (fail)
      have hb := pw_below_drewN (Below.refl w2.heap.size w2) nq
      replace KP := Aside0.mk (Kept.then_ KP.out (Kept.of_below hb (fun b => b = gx)) (fun b hb => .inl hb)); replace HX := Aside0.mk (blk_below HX.out hb); replace HL := Aside0.mk (blk_below HL.out hb); replace HZ := Aside0.mk (Below.trans HZ.out (Below.mono hb (Nat.zero_le _)))
      clear hb
      generalize w2.drewN nq = w3 at KP HX HL HZ ⊢
      clear c0 c2 c3 c4 c5 c6 d0 d2 d3 f0 f2 f3 f4 f5 f6
      have c0 : w3.cell? ⟨gx, 0, none⟩ = some (.int .i64 x0) := (blk_cell HX.out 0).trans rfl
      have c2 : w3.cell? ⟨gx, 2, none⟩ = some (.int .i64 x2) := (blk_cell HX.out 2).trans rfl
      have c3 : w3.cell? ⟨gx, 3, none⟩ = some (.int .i64 x5) := (blk_cell HX.out 3).trans rfl
      have c4 : w3.cell? ⟨gx, 4, none⟩ = some (.int .i64 (wrap64 (x4 - 1))) := (blk_cell HX.out 4).trans rfl
      have c5 : w3.cell? ⟨gx, 5, none⟩ = some (.int .i64 0) := (blk_cell HX.out 5).trans rfl
      have c6 : w3.cell? ⟨gx, 6, none⟩ = some (.int .i64 rw_) := (blk_cell HX.out 6).trans rfl
      have d0 : w3.cell? ⟨gl, 0, none⟩ = some (.int .i64 l0) := (blk_cell HL.out 0).trans rfl
      have d2 : w3.cell? ⟨gl, 2, none⟩ = some (.int .i64 l2) := (blk_cell HL.out 2).trans rfl
      have d3 : w3.cell? ⟨gl, 3, none⟩ = some (.int .i64 l3) := (blk_cell HL.out 3).trans rfl
      have f0 := blk_frozen HX.out 0
      have f2 := blk_frozen HX.out 2
      have f3 := blk_frozen HX.out 3
      have f4 := blk_frozen HX.out 4
      have f5 := blk_frozen HX.out 5
      have f6 := blk_frozen HX.out 6
      go_wp2_with (fail)
      clear c0 c2 c3 c4 c5 c6 d0 d2 d3 f0 f2 f3 f4 f5 f6
      replace KP := Aside0.mk (Kept.setCell KP.out (p := ⟨gx, 0, none⟩) (.inl rfl) (.int .i64 (wrap64 (1 - x0))))
      replace HZ := Aside0.mk (Below.setCell HZ.out (p := ⟨gx, 0, none⟩) (Nat.zero_le _) (.int .i64 (wrap64 (1 - x0))))
      replace HL := Aside0.mk (blk_far HL.out (p := ⟨gx, 0, none⟩) HNE.out (.int .i64 (wrap64 (1 - x0))))
      replace HX := Aside0.mk (blk_put (cs := #[.int .i64 x0, .int .i64 x1, .int .i64 x2, .int .i64 x5, .int .i64 (wrap64 (x4 - 1)), .int .i64 0, .int .i64 rw_, .int .i64 x7, .int .i64 x8, .int .i64 x9, .int .i64 x10, .int .i64 x11]) (cs' := #[.int .i64 (wrap64 (1 - x0)), .int .i64 x1, .int .i64 x2, .int .i64 x5, .int .i64 (wrap64 (x4 - 1)), .int .i64 0, .int .i64 rw_, .int .i64 x7, .int .i64 x8, .int .i64 x9, .int .i64 x10, .int .i64 x11]) HX.out 0 (.int .i64 (wrap64 (1 - x0))) rfl)
      replace KP := Aside0.mk (Kept.setCell KP.out (p := ⟨gx, 4, none⟩) (.inl rfl) (.int .i64 l2))
      replace HZ := Aside0.mk (Below.setCell HZ.out (p := ⟨gx, 4, none⟩) (Nat.zero_le _) (.int .i64 l2))
      replace HL := Aside0.mk (blk_far HL.out (p := ⟨gx, 4, none⟩) HNE.out (.int .i64 l2))
      replace HX := Aside0.mk (blk_put (cs := #[.int .i64 (wrap64 (1 - x0)), .int .i64 x1, .int .i64 x2, .int .i64 x5, .int .i64 (wrap64 (x4 - 1)), .int .i64 0, .int .i64 rw_, .int .i64 x7, .int .i64 x8, .int .i64 x9, .int .i64 x10, .int .i64 x11]) (cs' := #[.int .i64 (wrap64 (1 - x0)), .int .i64 x1, .int .i64 x2, .int .i64 x5, .int .i64 l2, .int .i64 0, .int .i64 rw_, .int .i64 x7, .int .i64 x8, .int .i64 x9, .int .i64 x10, .int .i64 x11]) HX.out 4 (.int .i64 l2) rfl)
      replace KP := Aside0.mk (Kept.setCell KP.out (p := ⟨gx, 5, none⟩) (.inl rfl) (.int .i64 x2))
      replace HZ := Aside0.mk (Below.setCell HZ.out (p := ⟨gx, 5, none⟩) (Nat.zero_le _) (.int .i64 x2))
      replace HL := Aside0.mk (blk_far HL.out (p := ⟨gx, 5, none⟩) HNE.out (.int .i64 x2))
      replace HX := Aside0.mk (blk_put (cs := #[.int .i64 (wrap64 (1 - x0)), .int .i64 x1, .int .i64 x2, .int .i64 x5, .int .i64 l2, .int .i64 0, .int .i64 rw_, .int .i64 x7, .int .i64 x8, .int .i64 x9, .int .i64 x10, .int .i64 x11]) (cs' := #[.int .i64 (wrap64 (1 - x0)), .int .i64 x1, .int .i64 x2, .int .i64 x5, .int .i64 l2, .int .i64 x2, .int .i64 rw_, .int .i64 x7, .int .i64 x8, .int .i64 x9, .int .i64 x10, .int .i64 x11]) HX.out 5 (.int .i64 x2) rfl)
      replace KP := Aside0.mk (Kept.setCell KP.out (p := ⟨gx, 2, none⟩) (.inl rfl) (.int .i64 (wrap64 (x2 + 1))))
      replace HZ := Aside0.mk (Below.setCell HZ.out (p := ⟨gx, 2, none⟩) (Nat.zero_le _) (.int .i64 (wrap64 (x2 + 1))))
      replace HL := Aside0.mk (blk_far HL.out (p := ⟨gx, 2, none⟩) HNE.out (.int .i64 (wrap64 (x2 + 1))))
      replace HX := Aside0.mk (blk_put (cs := #[.int .i64 (wrap64 (1 - x0)), .int .i64 x1, .int .i64 x2, .int .i64 x5, .int .i64 l2, .int .i64 x2, .int .i64 rw_, .int .i64 x7, .int .i64 x8, .int .i64 x9, .int .i64 x10, .int .i64 x11]) (cs' := #[.int .i64 (wrap64 (1 - x0)), .int .i64 x1, .int .i64 (wrap64 (x2 + 1)), .int .i64 x5, .int .i64 l2, .int .i64 x2, .int .i64 rw_, .int .i64 x7, .int .i64 x8, .int .i64 x9, .int .i64 x10, .int .i64 x11]) HX.out 2 (.int .i64 (wrap64 (x2 + 1))) rfl)
      generalize ((((w3.setCell ⟨gx, 0, none⟩ (.int .i64 (wrap64 (1 - x0)))).setCell ⟨gx, 4, none⟩ (.int .i64 l2)).setCell ⟨gx, 5, none⟩ (.int .i64 x2)).setCell ⟨gx, 2, none⟩ (.int .i64 (wrap64 (x2 + 1)))) = w9 at KP HX HL HZ ⊢
      first | go_end0 | ((try simp only [Exit.inBlock, Exit.then]); refine bodyPost_ret (results_none rfl _ _ _) rfl ?_)
      obtain ⟨e0, e2, e3, e4, e5⟩ := EH.out
      exact ⟨rfl, by rw [← e0, ← e2, ← e3, ← e4, ← e5]; exact HX.out, KP.out, HZ.out⟩
   ·skip
    rw [if_neg (show ¬ (sn = x0 ∧ ¬ x2 = l3) from fun h_ => h3 h_.1)] at h
    simp only [Prod.mk.injEq] at h
    have EH := Aside0.mk h
    have p3 : (sn != x0) = true := bne_iff_ne.mpr h3
    clear h3
    clear h
    go_wp2_with (fail)
    clear c0 c2 c3 c4 c5 c6 d0 d2 d3 f0 f2 f3 f4 f5 f6
    replace KP := Aside0.mk (Kept.setCell KP.out (p := ⟨gx, 6, none⟩) (.inl rfl) (.int .i64 rw_))
    replace HZ := Aside0.mk (Below.setCell HZ.out (p := ⟨gx, 6, none⟩) (Nat.zero_le _) (.int .i64 rw_))
    replace HL := Aside0.mk (blk_far HL.out (p := ⟨gx, 6, none⟩) HNE.out (.int .i64 rw_))
    replace HX := Aside0.mk (blk_put (cs := #[.int .i64 x0, .int .i64 x1, .int .i64 x2, .int .i64 x3, .int .i64 x4, .int .i64 x5, .int .i64 x6, .int .i64 x7, .int .i64 x8, .int .i64 x9, .int .i64 x10, .int .i64 x11]) (cs' := #[.int .i64 x0, .int .i64 x1, .int .i64 x2, .int .i64 x3, .int .i64 x4, .int .i64 x5, .int .i64 rw_, .int .i64 x7, .int .i64 x8, .int .i64 x9, .int .i64 x10, .int .i64 x11]) HX.out 6 (.int .i64 rw_) rfl)
    replace KP := Aside0.mk (Kept.setCell KP.out (p := ⟨gx, 4, none⟩) (.inl rfl) (.int .i64 (wrap64 (x4 - 1))))
    replace HZ := Aside0.mk (Below.setCell HZ.out (p := ⟨gx, 4, none⟩) (Nat.zero_le _) (.int .i64 (wrap64 (x4 - 1))))
    replace HL := Aside0.mk (blk_far HL.out (p := ⟨gx, 4, none⟩) HNE.out (.int .i64 (wrap64 (x4 - 1))))
    replace HX := Aside0.mk (blk_put (cs := #[.int .i64 x0, .int .i64 x1, .int .i64 x2, .int .i64 x3, .int .i64 x4, .int .i64 x5, .int .i64 rw_, .int .i64 x7, .int .i64 x8, .int .i64 x9, .int .i64 x10, .int .i64 x11]) (cs' := #[.int .i64 x0, .int .i64 x1, .int .i64 x2, .int .i64 x3, .int .i64 (wrap64 (x4 - 1)), .int .i64 x5, .int .i64 rw_, .int .i64 x7, .int .i64 x8, .int .i64 x9, .int .i64 x10, .int .i64 x11]) HX.out 4 (.int .i64 (wrap64 (x4 - 1))) rfl)
    replace KP := Aside0.mk (Kept.setCell KP.out (p := ⟨gx, 3, none⟩) (.inl rfl) (.int .i64 x5))
    replace HZ := Aside0.mk (Below.setCell HZ.out (p := ⟨gx, 3, none⟩) (Nat.zero_le _) (.int .i64 x5))
    replace HL := Aside0.mk (blk_far HL.out (p := ⟨gx, 3, none⟩) HNE.out (.int .i64 x5))
    replace HX := Aside0.mk (blk_put (cs := #[.int .i64 x0, .int .i64 x1, .int .i64 x2, .int .i64 x3, .int .i64 (wrap64 (x4 - 1)), .int .i64 x5, .int .i64 rw_, .int .i64 x7, .int .i64 x8, .int .i64 x9, .int .i64 x10, .int .i64 x11]) (cs' := #[.int .i64 x0, .int .i64 x1, .int .i64 x2, .int .i64 x5, .int .i64 (wrap64 (x4 - 1)), .int .i64 x5, .int .i64 rw_, .int .i64 x7, .int .i64 x8, .int .i64 x9, .int .i64 x10, .int .i64 x11]) HX.out 3 (.int .i64 x5) rfl)
    replace KP := Aside0.mk (Kept.setCell KP.out (p := ⟨gx, 5, none⟩) (.inl rfl) (.int .i64 0))
    replace HZ := Aside0.mk (Below.setCell HZ.out (p := ⟨gx, 5, none⟩) (Nat.zero_le _) (.int .i64 0))
    replace HL := Aside0.mk (blk_far HL.out (p := ⟨gx, 5, none⟩) HNE.out (.int .i64 0))
    replace HX := Aside0.mk (blk_put (cs := #[.int .i64 x0, .int .i64 x1, .int .i64 x2, .int .i64 x5, .int .i64 (wrap64 (x4 - 1)), .int .i64 x5, .int .i64 rw_, .int .i64 x7, .int .i64 x8, .int .i64 x9, .int .i64 x10, .int .i64 x11]) (cs' := #[.int .i64 x0, .int .i64 x1, .int .i64 x2, .int .i64 x5, .int .i64 (wrap64 (x4 - 1)), .int .i64 0, .int .i64 rw_, .int .i64 x7, .int .i64 x8, .int .i64 x9, .int .i64 x10, .int .i64 x11]) HX.out 5 (.int .i64 0) rfl)
    generalize ((((w1.setCell ⟨gx, 6, none⟩ (.int .i64 rw_)).setCell ⟨gx, 4, none⟩ (.int .i64 (wrap64 (x4 - 1)))).setCell ⟨gx, 3, none⟩ (.int .i64 x5)).setCell ⟨gx, 5, none⟩ (.int .i64 0)) = w2 at KP HX HL HZ ⊢
    have c0 : w2.cell? ⟨gx, 0, none⟩ = some (.int .i64 x0) := (blk_cell HX.out 0).trans rfl
    have c2 : w2.cell? ⟨gx, 2, none⟩ = some (.int .i64 x2) := (blk_cell HX.out 2).trans rfl
    have c3 : w2.cell? ⟨gx, 3, none⟩ = some (.int .i64 x5) := (blk_cell HX.out 3).trans rfl
    have c4 : w2.cell? ⟨gx, 4, none⟩ = some (.int .i64 (wrap64 (x4 - 1))) := (blk_cell HX.out 4).trans rfl
    have c5 : w2.cell? ⟨gx, 5, none⟩ = some (.int .i64 0) := (blk_cell HX.out 5).trans rfl
    have c6 : w2.cell? ⟨gx, 6, none⟩ = some (.int .i64 rw_) := (blk_cell HX.out 6).trans rfl
    have d0 : w2.cell? ⟨gl, 0, none⟩ = some (.int .i64 l0) := (blk_cell HL.out 0).trans rfl
    have d2 : w2.cell? ⟨gl, 2, none⟩ = some (.int .i64 l2) := (blk_cell HL.out 2).trans rfl
    have d3 : w2.cell? ⟨gl, 3, none⟩ = some (.int .i64 l3) := (blk_cell HL.out 3).trans rfl
    have f0 := blk_frozen HX.out 0
    have f2 := blk_frozen HX.out 2
    have f3 := blk_frozen HX.out 3
    have f4 := blk_frozen HX.out 4
    have f5 := blk_frozen HX.out 5
    have f6 := blk_frozen HX.out 6
    go_quiet (fail)
    have hb := pw_below_drewN (Below.refl w2.heap.size w2) nq
    replace KP := Aside0.mk (Kept.then_ KP.out (Kept.of_below hb (fun b => b = gx)) (fun b hb => .inl hb)); replace HX := Aside0.mk (blk_below HX.out hb); replace HL := Aside0.mk (blk_below HL.out hb); replace HZ := Aside0.mk (Below.trans HZ.out (Below.mono hb (Nat.zero_le _)))
    clear hb
    generalize w2.drewN nq = w3 at KP HX HL HZ ⊢
    clear c0 c2 c3 c4 c5 c6 d0 d2 d3 f0 f2 f3 f4 f5 f6
    go_wp2_with (fail)
    first | go_end0 | ((try simp only [Exit.inBlock, Exit.then]); refine bodyPost_ret (results_none rfl _ _ _) rfl ?_)
    obtain ⟨e0, e2, e3, e4, e5⟩ := EH.out
    exact ⟨rfl, by rw [← e0, ← e2, ← e3, ← e4, ← e5]; exact HX.out, KP.out, HZ.out⟩
 ·rw [if_pos h1, if_neg h2] at h
  dsimp only at h
  unfold actS at h
  have g1 : decide (x4 > 0) = true := decide_eq_true h1
  have g2 : decide (0 < x4) = true := decide_eq_true h1
  have g3 : (wrap64 (x4 - 1) == 0) = false := beq_eq_false_iff_ne.mpr h2
  clear h1 h2
  rcases Classical.em (l0 = 4) with h1 | h1
  ·rcases Classical.em (x0 = 1) with h2 | h2
   ·rw [if_pos ⟨h1, h2⟩] at h
    have p1 : (l0 == 4) = true := beq_iff_eq.mpr h1
    have p2 : (x0 == 1) = true := beq_iff_eq.mpr h2
    clear h1 h2
    rcases Classical.em (sn = 1) with h3 | h3
    ·skip
     rw [if_pos h3] at h
     simp only [Prod.mk.injEq] at h
     have EH := Aside0.mk h
     have p3 : (sn == 1) = true := beq_iff_eq.mpr h3
     clear h3
     clear h
     go_wp2_with (fail)
     clear c0 c2 c3 c4 c5 c6 d0 d2 d3 f0 f2 f3 f4 f5 f6
     replace KP := Aside0.mk (Kept.setCell KP.out (p := ⟨gx, 6, none⟩) (.inl rfl) (.int .i64 rw_))
     replace HZ := Aside0.mk (Below.setCell HZ.out (p := ⟨gx, 6, none⟩) (Nat.zero_le _) (.int .i64 rw_))
     replace HL := Aside0.mk (blk_far HL.out (p := ⟨gx, 6, none⟩) HNE.out (.int .i64 rw_))
     replace HX := Aside0.mk (blk_put (cs := #[.int .i64 x0, .int .i64 x1, .int .i64 x2, .int .i64 x3, .int .i64 x4, .int .i64 x5, .int .i64 x6, .int .i64 x7, .int .i64 x8, .int .i64 x9, .int .i64 x10, .int .i64 x11]) (cs' := #[.int .i64 x0, .int .i64 x1, .int .i64 x2, .int .i64 x3, .int .i64 x4, .int .i64 x5, .int .i64 rw_, .int .i64 x7, .int .i64 x8, .int .i64 x9, .int .i64 x10, .int .i64 x11]) HX.out 6 (.int .i64 rw_) rfl)
     replace KP := Aside0.mk (Kept.setCell KP.out (p := ⟨gx, 4, none⟩) (.inl rfl) (.int .i64 (wrap64 (x4 - 1))))
     replace HZ := Aside0.mk (Below.setCell HZ.out (p := ⟨gx, 4, none⟩) (Nat.zero_le _) (.int .i64 (wrap64 (x4 - 1))))
     replace HL := Aside0.mk (blk_far HL.out (p := ⟨gx, 4, none⟩) HNE.out (.int .i64 (wrap64 (x4 - 1))))
     replace HX := Aside0.mk (blk_put (cs := #[.int .i64 x0, .int .i64 x1, .int .i64 x2, .int .i64 x3, .int .i64 x4, .int .i64 x5, .int .i64 rw_, .int .i64 x7, .int .i64 x8, .int .i64 x9, .int .i64 x10, .int .i64 x11]) (cs' := #[.int .i64 x0, .int .i64 x1, .int .i64 x2, .int .i64 x3, .int .i64 (wrap64 (x4 - 1)), .int .i64 x5, .int .i64 rw_, .int .i64 x7, .int .i64 x8, .int .i64 x9, .int .i64 x10, .int .i64 x11]) HX.out 4 (.int .i64 (wrap64 (x4 - 1))) rfl)
     replace KP := Aside0.mk (Kept.setCell KP.out (p := ⟨gx, 0, none⟩) (.inl rfl) (.int .i64 0))
     replace HZ := Aside0.mk (Below.setCell HZ.out (p := ⟨gx, 0, none⟩) (Nat.zero_le _) (.int .i64 0))
     replace HL := Aside0.mk (blk_far HL.out (p := ⟨gx, 0, none⟩) HNE.out (.int .i64 0))
     replace HX := Aside0.mk (blk_put (cs := #[.int .i64 x0, .int .i64 x1, .int .i64 x2, .int .i64 x3, .int .i64 (wrap64 (x4 - 1)), .int .i64 x5, .int .i64 rw_, .int .i64 x7, .int .i64 x8, .int .i64 x9, .int .i64 x10, .int .i64 x11]) (cs' := #[.int .i64 0, .int .i64 x1, .int .i64 x2, .int .i64 x3, .int .i64 (wrap64 (x4 - 1)), .int .i64 x5, .int .i64 rw_, .int .i64 x7, .int .i64 x8, .int .i64 x9, .int .i64 x10, .int .i64 x11]) HX.out 0 (.int .i64 0) rfl)
     generalize (((w1.setCell ⟨gx, 6, none⟩ (.int .i64 rw_)).setCell ⟨gx, 4, none⟩ (.int .i64 (wrap64 (x4 - 1)))).setCell ⟨gx, 0, none⟩ (.int .i64 0)) = w9 at KP HX HL HZ ⊢
     first | go_end0 | ((try simp only [Exit.inBlock, Exit.then]); refine bodyPost_ret (results_none rfl _ _ _) rfl ?_)
     obtain ⟨e0, e2, e3, e4, e5⟩ := EH.out
     exact ⟨rfl, by rw [← e0, ← e2, ← e3, ← e4, ← e5]; exact HX.out, KP.out, HZ.out⟩
    ·skip
     rw [if_neg h3] at h
     simp only [Prod.mk.injEq] at h
     have EH := Aside0.mk h
     have p3 : (sn == 1) = false := beq_eq_false_iff_ne.mpr h3
     clear h3
     clear h
     go_wp2_with (fail)
     clear c0 c2 c3 c4 c5 c6 d0 d2 d3 f0 f2 f3 f4 f5 f6
     replace KP := Aside0.mk (Kept.setCell KP.out (p := ⟨gx, 6, none⟩) (.inl rfl) (.int .i64 rw_))
     replace HZ := Aside0.mk (Below.setCell HZ.out (p := ⟨gx, 6, none⟩) (Nat.zero_le _) (.int .i64 rw_))
     replace HL := Aside0.mk (blk_far HL.out (p := ⟨gx, 6, none⟩) HNE.out (.int .i64 rw_))
     replace HX := Aside0.mk (blk_put (cs := #[.int .i64 x0, .int .i64 x1, .int .i64 x2, .int .i64 x3, .int .i64 x4, .int .i64 x5, .int .i64 x6, .int .i64 x7, .int .i64 x8, .int .i64 x9, .int .i64 x10, .int .i64 x11]) (cs' := #[.int .i64 x0, .int .i64 x1, .int .i64 x2, .int .i64 x3, .int .i64 x4, .int .i64 x5, .int .i64 rw_, .int .i64 x7, .int .i64 x8, .int .i64 x9, .int .i64 x10, .int .i64 x11]) HX.out 6 (.int .i64 rw_) rfl)
     replace KP := Aside0.mk (Kept.setCell KP.out (p := ⟨gx, 4, none⟩) (.inl rfl) (.int .i64 (wrap64 (x4 - 1))))
     replace HZ := Aside0.mk (Below.setCell HZ.out (p := ⟨gx, 4, none⟩) (Nat.zero_le _) (.int .i64 (wrap64 (x4 - 1))))
     replace HL := Aside0.mk (blk_far HL.out (p := ⟨gx, 4, none⟩) HNE.out (.int .i64 (wrap64 (x4 - 1))))
     replace HX := Aside0.mk (blk_put (cs := #[.int .i64 x0, .int .i64 x1, .int .i64 x2, .int .i64 x3, .int .i64 x4, .int .i64 x5, .int .i64 rw_, .int .i64 x7, .int .i64 x8, .int .i64 x9, .int .i64 x10, .int .i64 x11]) (cs' := #[.int .i64 x0, .int .i64 x1, .int .i64 x2, .int .i64 x3, .int .i64 (wrap64 (x4 - 1)), .int .i64 x5, .int .i64 rw_, .int .i64 x7, .int .i64 x8, .int .i64 x9, .int .i64 x10, .int .i64 x11]) HX.out 4 (.int .i64 (wrap64 (x4 - 1))) rfl)
     generalize ((w1.setCell ⟨gx, 6, none⟩ (.int .i64 rw_)).setCell ⟨gx, 4, none⟩ (.int .i64 (wrap64 (x4 - 1)))) = w9 at KP HX HL HZ ⊢
     first | go_end0 | ((try simp only [Exit.inBlock, Exit.then]); refine bodyPost_ret (results_none rfl _ _ _) rfl ?_)
     obtain ⟨e0, e2, e3, e4, e5⟩ := EH.out
     exact ⟨rfl, by rw [← e0, ← e2, ← e3, ← e4, ← e5]; exact HX.out, KP.out, HZ.out⟩
   ·rw [if_neg (fun h_ => h2 h_.2)] at h
    have p1 : (l0 == 4) = true := beq_iff_eq.mpr h1
    have p2 : (x0 == 1) = false := beq_eq_false_iff_ne.mpr h2
    clear h1 h2
    rcases Classical.em (sn = x0) with h3 | h3
    ·rcases Classical.em (x2 = l3) with h4 | h4
     ·skip
      rw [if_neg (show ¬ (sn = x0 ∧ ¬ x2 = l3) from fun h_ => h_.2 h4)] at h
      simp only [Prod.mk.injEq] at h
      have EH := Aside0.mk h
      have p3 : (sn != x0) = false := bne_eq_false_iff_eq.mpr h3
      have p4 : (x2 == l3) = true := beq_iff_eq.mpr h4
      clear h3 h4
      clear h
      go_wp2_with (fail)
      clear c0 c2 c3 c4 c5 c6 d0 d2 d3 f0 f2 f3 f4 f5 f6
      replace KP := Aside0.mk (Kept.setCell KP.out (p := ⟨gx, 6, none⟩) (.inl rfl) (.int .i64 rw_))
      replace HZ := Aside0.mk (Below.setCell HZ.out (p := ⟨gx, 6, none⟩) (Nat.zero_le _) (.int .i64 rw_))
      replace HL := Aside0.mk (blk_far HL.out (p := ⟨gx, 6, none⟩) HNE.out (.int .i64 rw_))
      replace HX := Aside0.mk (blk_put (cs := #[.int .i64 x0, .int .i64 x1, .int .i64 x2, .int .i64 x3, .int .i64 x4, .int .i64 x5, .int .i64 x6, .int .i64 x7, .int .i64 x8, .int .i64 x9, .int .i64 x10, .int .i64 x11]) (cs' := #[.int .i64 x0, .int .i64 x1, .int .i64 x2, .int .i64 x3, .int .i64 x4, .int .i64 x5, .int .i64 rw_, .int .i64 x7, .int .i64 x8, .int .i64 x9, .int .i64 x10, .int .i64 x11]) HX.out 6 (.int .i64 rw_) rfl)
      replace KP := Aside0.mk (Kept.setCell KP.out (p := ⟨gx, 4, none⟩) (.inl rfl) (.int .i64 (wrap64 (x4 - 1))))
      replace HZ := Aside0.mk (Below.setCell HZ.out (p := ⟨gx, 4, none⟩) (Nat.zero_le _) (.int .i64 (wrap64 (x4 - 1))))
      replace HL := Aside0.mk (blk_far HL.out (p := ⟨gx, 4, none⟩) HNE.out (.int .i64 (wrap64 (x4 - 1))))
      replace HX := Aside0.mk (blk_put (cs := #[.int .i64 x0, .int .i64 x1, .int .i64 x2, .int .i64 x3, .int .i64 x4, .int .i64 x5, .int .i64 rw_, .int .i64 x7, .int .i64 x8, .int .i64 x9, .int .i64 x10, .int .i64 x11]) (cs' := #[.int .i64 x0, .int .i64 x1, .int .i64 x2, .int .i64 x3, .int .i64 (wrap64 (x4 - 1)), .int .i64 x5, .int .i64 rw_, .int .i64 x7, .int .i64 x8, .int .i64 x9, .int .i64 x10, .int .i64 x11]) HX.out 4 (.int .i64 (wrap64 (x4 - 1))) rfl)
      generalize ((w1.setCell ⟨gx, 6, none⟩ (.int .i64 rw_)).setCell ⟨gx, 4, none⟩ (.int .i64 (wrap64 (x4 - 1)))) = w2 at KP HX HL HZ ⊢
      have c0 : w2.cell? ⟨gx, 0, none⟩ = some (.int .i64 x0) := (blk_cell HX.out 0).trans rfl
      have c2 : w2.cell? ⟨gx, 2, none⟩ = some (.int .i64 x2) := (blk_cell HX.out 2).trans rfl
      have c3 : w2.cell? ⟨gx, 3, none⟩ = some (.int .i64 x3) := (blk_cell HX.out 3).trans rfl
      have c4 : w2.cell? ⟨gx, 4, none⟩ = some (.int .i64 (wrap64 (x4 - 1))) := (blk_cell HX.out 4).trans rfl
      have c5 : w2.cell? ⟨gx, 5, none⟩ = some (.int .i64 x5) := (blk_cell HX.out 5).trans rfl
      have c6 : w2.cell? ⟨gx, 6, none⟩ = some (.int .i64 rw_) := (blk_cell HX.out 6).trans rfl
      have d0 : w2.cell? ⟨gl, 0, none⟩ = some (.int .i64 l0) := (blk_cell HL.out 0).trans rfl
      have d2 : w2.cell? ⟨gl, 2, none⟩ = some (.int .i64 l2) := (blk_cell HL.out 2).trans rfl
      have d3 : w2.cell? ⟨gl, 3, none⟩ = some (.int .i64 l3) := (blk_cell HL.out 3).trans rfl
      have f0 := blk_frozen HX.out 0
      have f2 := blk_frozen HX.out 2
      have f3 := blk_frozen HX.out 3
      have f4 := blk_frozen HX.out 4
      have f5 := blk_frozen HX.out 5
      have f6 := blk_frozen HX.out 6
      go_quiet (fail)
      have hb := pw_below_drewN (Below.refl w2.heap.size w2) nq
      replace KP := Aside0.mk (Kept.then_ KP.out (Kept.of_below hb (fun b => b = gx)) (fun b hb => .inl hb)); replace HX := Aside0.mk (blk_below HX.out hb); replace HL := Aside0.mk (blk_below HL.out hb); replace HZ := Aside0.mk (Below.trans HZ.out (Below.mono hb (Nat.zero_le _)))
      clear hb
      generalize w2.drewN nq = w3 at KP HX HL HZ ⊢
      clear c0 c2 c3 c4 c5 c6 d0 d2 d3 f0 f2 f3 f4 f5 f6
      go_wp2_with (fail)
      first | go_end0 | ((try simp only [Exit.inBlock, Exit.then]); refine bodyPost_ret (results_none rfl _ _ _) rfl ?_)
      obtain ⟨e0, e2, e3, e4, e5⟩ := EH.out
      exact ⟨rfl, by rw [← e0, ← e2, ← e3, ← e4, ← e5]; exact HX.out, KP.out, HZ.out⟩
     ·rw [if_pos (show sn = x0 ∧ ¬ x2 = l3 from ⟨h3, h4⟩)] at h
      rcases Classical.em (l2 = 0) with h5 | h5
      ·skip
       rw [if_pos h5] at h
       simp only [Prod.mk.injEq] at h
       have EH := Aside0.mk h
       have p3 : (sn != x0) = false := bne_eq_false_iff_eq.mpr h3
       have p4 : (x2 == l3) = false := beq_eq_false_iff_ne.mpr h4
       have p5 : (l2 == 0) = true := beq_iff_eq.mpr h5
       clear h3 h4 h5
       clear h
       go_wp2_with (fail)
       clear c0 c2 c3 c4 c5 c6 d0 d2 d3 f0 f2 f3 f4 f5 f6
       replace KP := Aside0.mk (Kept.setCell KP.out (p := ⟨gx, 6, none⟩) (.inl rfl) (.int .i64 rw_))
       replace HZ := Aside0.mk (Below.setCell HZ.out (p := ⟨gx, 6, none⟩) (Nat.zero_le _) (.int .i64 rw_))
       replace HL := Aside0.mk (blk_far HL.out (p := ⟨gx, 6, none⟩) HNE.out (.int .i64 rw_))
       replace HX := Aside0.mk (blk_put (cs := #[.int .i64 x0, .int .i64 x1, .int .i64 x2, .int .i64 x3, .int .i64 x4, .int .i64 x5, .int .i64 x6, .int .i64 x7, .int .i64 x8, .int .i64 x9, .int .i64 x10, .int .i64 x11]) (cs' := #[.int .i64 x0, .int .i64 x1, .int .i64 x2, .int .i64 x3, .int .i64 x4, .int .i64 x5, .int .i64 rw_, .int .i64 x7, .int .i64 x8, .int .i64 x9, .int .i64 x10, .int .i64 x11]) HX.out 6 (.int .i64 rw_) rfl)
       replace KP := Aside0.mk (Kept.setCell KP.out (p := ⟨gx, 4, none⟩) (.inl rfl) (.int .i64 (wrap64 (x4 - 1))))
       replace HZ := Aside0.mk (Below.setCell HZ.out (p := ⟨gx, 4, none⟩) (Nat.zero_le _) (.int .i64 (wrap64 (x4 - 1))))
       replace HL := Aside0.mk (blk_far HL.out (p := ⟨gx, 4, none⟩) HNE.out (.int .i64 (wrap64 (x4 - 1))))
       replace HX := Aside0.mk (blk_put (cs := #[.int .i64 x0, .int .i64 x1, .int .i64 x2, .int .i64 x3, .int .i64 x4, .int .i64 x5, .int .i64 rw_, .int .i64 x7, .int .i64 x8, .int .i64 x9, .int .i64 x10, .int .i64 x11]) (cs' := #[.int .i64 x0, .int .i64 x1, .int .i64 x2, .int .i64 x3, .int .i64 (wrap64 (x4 - 1)), .int .i64 x5, .int .i64 rw_, .int .i64 x7, .int .i64 x8, .int .i64 x9, .int .i64 x10, .int .i64 x11]) HX.out 4 (.int .i64 (wrap64 (x4 - 1))) rfl)
       generalize ((w1.setCell ⟨gx, 6, none⟩ (.int .i64 rw_)).setCell ⟨gx, 4, none⟩ (.int .i64 (wrap64 (x4 - 1)))) = w2 at KP HX HL HZ ⊢
       have c0 : w2.cell? ⟨gx, 0, none⟩ = some (.int .i64 x0) := (blk_cell HX.out 0).trans rfl
       have c2 : w2.cell? ⟨gx, 2, none⟩ = some (.int .i64 x2) := (blk_cell HX.out 2).trans rfl
       have c3 : w2.cell? ⟨gx, 3, none⟩ = some (.int .i64 x3) := (blk_cell HX.out 3).trans rfl
       have c4 : w2.cell? ⟨gx, 4, none⟩ = some (.int .i64 (wrap64 (x4 - 1))) := (blk_cell HX.out 4).trans rfl
       have c5 : w2.cell? ⟨gx, 5, none⟩ = some (.int .i64 x5) := (blk_cell HX.out 5).trans rfl
       have c6 : w2.cell? ⟨gx, 6, none⟩ = some (.int .i64 rw_) := (blk_cell HX.out 6).trans rfl
       have d0 : w2.cell? ⟨gl, 0, none⟩ = some (.int .i64 l0) := (blk_cell HL.out 0).trans rfl
       have d2 : w2.cell? ⟨gl, 2, none⟩ = some (.int .i64 l2) := (blk_cell HL.out 2).trans rfl
       have d3 : w2.cell? ⟨gl, 3, none⟩ = some (.int .i64 l3) := (blk_cell HL.out 3).trans rfl
       have f0 := blk_frozen HX.out 0
       have f2 := blk_frozen HX.out 2
       have f3 := blk_frozen HX.out 3
       have f4 := blk_frozen HX.out 4
       have f5 := blk_frozen HX.out 5
       have f6 := blk_frozen HX.out 6
       go_quiet (fail)
       have hb := pw_below_drewN (Below.refl w2.heap.size w2) nq
       replace KP := Aside0.mk (Kept.then_ KP.out (Kept.of_below hb (fun b => b = gx)) (fun b hb => .inl hb)); replace HX := Aside0.mk (blk_below HX.out hb); replace HL := Aside0.mk (blk_below HL.out hb); replace HZ := Aside0.mk (Below.trans HZ.out (Below.mono hb (Nat.zero_le _)))
       clear hb
       generalize w2.drewN nq = w3 at KP HX HL HZ ⊢
       clear c0 c2 c3 c4 c5 c6 d0 d2 d3 f0 f2 f3 f4 f5 f6
       have c0 : w3.cell? ⟨gx, 0, none⟩ = some (.int .i64 x0) := (blk_cell HX.out 0).trans rfl
       have c2 : w3.cell? ⟨gx, 2, none⟩ = some (.int .i64 x2) := (blk_cell HX.out 2).trans rfl
       have c3 : w3.cell? ⟨gx, 3, none⟩ = some (.int .i64 x3) := (blk_cell HX.out 3).trans rfl
       have c4 : w3.cell? ⟨gx, 4, none⟩ = some (.int .i64 (wrap64 (x4 - 1))) := (blk_cell HX.out 4).trans rfl
       have c5 : w3.cell? ⟨gx, 5, none⟩ = some (.int .i64 x5) := (blk_cell HX.out 5).trans rfl
       have c6 : w3.cell? ⟨gx, 6, none⟩ = some (.int .i64 rw_) := (blk_cell HX.out 6).trans rfl
       have d0 : w3.cell? ⟨gl, 0, none⟩ = some (.int .i64 l0) := (blk_cell HL.out 0).trans rfl
       have d2 : w3.cell? ⟨gl, 2, none⟩ = some (.int .i64 l2) := (blk_cell HL.out 2).trans rfl
       have d3 : w3.cell? ⟨gl, 3, none⟩ = some (.int .i64 l3) := (blk_cell HL.out 3).trans rfl
       have f0 := blk_frozen HX.out 0
       have f2 := blk_frozen HX.out 2
       have f3 := blk_frozen HX.out 3
       have f4 := blk_frozen HX.out 4
       have f5 := blk_frozen HX.out 5
       have f6 := blk_frozen HX.out 6
       go_wp2_with (fail)
       clear c0 c2 c3 c4 c5 c6 d0 d2 d3 f0 f2 f3 f4 f5 f6
       replace KP := Aside0.mk (Kept.setCell KP.out (p := ⟨gx, 0, none⟩) (.inl rfl) (.int .i64 (wrap64 (1 - x0))))
       replace HZ := Aside0.mk (Below.setCell HZ.out (p := ⟨gx, 0, none⟩) (Nat.zero_le _) (.int .i64 (wrap64 (1 - x0))))
       replace HL := Aside0.mk (blk_far HL.out (p := ⟨gx, 0, none⟩) HNE.out (.int .i64 (wrap64 (1 - x0))))
       replace HX := Aside0.mk (blk_put (cs := #[.int .i64 x0, .int .i64 x1, .int .i64 x2, .int .i64 x3, .int .i64 (wrap64 (x4 - 1)), .int .i64 x5, .int .i64 rw_, .int .i64 x7, .int .i64 x8, .int .i64 x9, .int .i64 x10, .int .i64 x11]) (cs' := #[.int .i64 (wrap64 (1 - x0)), .int .i64 x1, .int .i64 x2, .int .i64 x3, .int .i64 (wrap64 (x4 - 1)), .int .i64 x5, .int .i64 rw_, .int .i64 x7, .int .i64 x8, .int .i64 x9, .int .i64 x10, .int .i64 x11]) HX.out 0 (.int .i64 (wrap64 (1 - x0))) rfl)
       replace KP := Aside0.mk (Kept.setCell KP.out (p := ⟨gx, 3, none⟩) (.inl rfl) (.int .i64 x2))
       replace HZ := Aside0.mk (Below.setCell HZ.out (p := ⟨gx, 3, none⟩) (Nat.zero_le _) (.int .i64 x2))
       replace HL := Aside0.mk (blk_far HL.out (p := ⟨gx, 3, none⟩) HNE.out (.int .i64 x2))
       replace HX := Aside0.mk (blk_put (cs := #[.int .i64 (wrap64 (1 - x0)), .int .i64 x1, .int .i64 x2, .int .i64 x3, .int .i64 (wrap64 (x4 - 1)), .int .i64 x5, .int .i64 rw_, .int .i64 x7, .int .i64 x8, .int .i64 x9, .int .i64 x10, .int .i64 x11]) (cs' := #[.int .i64 (wrap64 (1 - x0)), .int .i64 x1, .int .i64 x2, .int .i64 x2, .int .i64 (wrap64 (x4 - 1)), .int .i64 x5, .int .i64 rw_, .int .i64 x7, .int .i64 x8, .int .i64 x9, .int .i64 x10, .int .i64 x11]) HX.out 3 (.int .i64 x2) rfl)
       replace KP := Aside0.mk (Kept.setCell KP.out (p := ⟨gx, 2, none⟩) (.inl rfl) (.int .i64 (wrap64 (x2 + 1))))
       replace HZ := Aside0.mk (Below.setCell HZ.out (p := ⟨gx, 2, none⟩) (Nat.zero_le _) (.int .i64 (wrap64 (x2 + 1))))
       replace HL := Aside0.mk (blk_far HL.out (p := ⟨gx, 2, none⟩) HNE.out (.int .i64 (wrap64 (x2 + 1))))
       replace HX := Aside0.mk (blk_put (cs := #[.int .i64 (wrap64 (1 - x0)), .int .i64 x1, .int .i64 x2, .int .i64 x2, .int .i64 (wrap64 (x4 - 1)), .int .i64 x5, .int .i64 rw_, .int .i64 x7, .int .i64 x8, .int .i64 x9, .int .i64 x10, .int .i64 x11]) (cs' := #[.int .i64 (wrap64 (1 - x0)), .int .i64 x1, .int .i64 (wrap64 (x2 + 1)), .int .i64 x2, .int .i64 (wrap64 (x4 - 1)), .int .i64 x5, .int .i64 rw_, .int .i64 x7, .int .i64 x8, .int .i64 x9, .int .i64 x10, .int .i64 x11]) HX.out 2 (.int .i64 (wrap64 (x2 + 1))) rfl)
       generalize (((w3.setCell ⟨gx, 0, none⟩ (.int .i64 (wrap64 (1 - x0)))).setCell ⟨gx, 3, none⟩ (.int .i64 x2)).setCell ⟨gx, 2, none⟩ (.int .i64 (wrap64 (x2 + 1)))) = w9 at KP HX HL HZ ⊢
       first | go_end0 | ((try simp only [Exit.inBlock, Exit.then]); refine bodyPost_ret (results_none rfl _ _ _) rfl ?_)
       obtain ⟨e0, e2, e3, e4, e5⟩ := EH.out
       exact ⟨rfl, by rw [← e0, ← e2, ← e3, ← e4, ← e5]; exact HX.out, KP.out, HZ.out⟩
      ·skip
       rw [if_neg h5] at h
       simp only [Prod.mk.injEq] at h
       have EH := Aside0.mk h
       have p3 : (sn != x0) = false := bne_eq_false_iff_eq.mpr h3
       have p4 : (x2 == l3) = false := beq_eq_false_iff_ne.mpr h4
       have p5 : (l2 == 0) = false := beq_eq_false_iff_ne.mpr h5
       clear h3 h4 h5
       clear h
       go_wp2_with (fail)
       clear c0 c2 c3 c4 c5 c6 d0 d2 d3 f0 f2 f3 f4 f5 f6
       replace KP := Aside0.mk (Kept.setCell KP.out (p := ⟨gx, 6, none⟩) (.inl rfl) (.int .i64 rw_))
       replace HZ := Aside0.mk (Below.setCell HZ.out (p := ⟨gx, 6, none⟩) (Nat.zero_le _) (.int .i64 rw_))
       replace HL := Aside0.mk (blk_far HL.out (p := ⟨gx, 6, none⟩) HNE.out (.int .i64 rw_))
       replace HX := Aside0.mk (blk_put (cs := #[.int .i64 x0, .int .i64 x1, .int .i64 x2, .int .i64 x3, .int .i64 x4, .int .i64 x5, .int .i64 x6, .int .i64 x7, .int .i64 x8, .int .i64 x9, .int .i64 x10, .int .i64 x11]) (cs' := #[.int .i64 x0, .int .i64 x1, .int .i64 x2, .int .i64 x3, .int .i64 x4, .int .i64 x5, .int .i64 rw_, .int .i64 x7, .int .i64 x8, .int .i64 x9, .int .i64 x10, .int .i64 x11]) HX.out 6 (.int .i64 rw_) rfl)
       replace KP := Aside0.mk (Kept.setCell KP.out (p := ⟨gx, 4, none⟩) (.inl rfl) (.int .i64 (wrap64 (x4 - 1))))
       replace HZ := Aside0.mk (Below.setCell HZ.out (p := ⟨gx, 4, none⟩) (Nat.zero_le _) (.int .i64 (wrap64 (x4 - 1))))
       replace HL := Aside0.mk (blk_far HL.out (p := ⟨gx, 4, none⟩) HNE.out (.int .i64 (wrap64 (x4 - 1))))
       replace HX := Aside0.mk (blk_put (cs := #[.int .i64 x0, .int .i64 x1, .int .i64 x2, .int .i64 x3, .int .i64 x4, .int .i64 x5, .int .i64 rw_, .int .i64 x7, .int .i64 x8, .int .i64 x9, .int .i64 x10, .int .i64 x11]) (cs' := #[.int .i64 x0, .int .i64 x1, .int .i64 x2, .int .i64 x3, .int .i64 (wrap64 (x4 - 1)), .int .i64 x5, .int .i64 rw_, .int .i64 x7, .int .i64 x8, .int .i64 x9, .int .i64 x10, .int .i64 x11]) HX.out 4 (.int .i64 (wrap64 (x4 - 1))) rfl)
       generalize ((w1.setCell ⟨gx, 6, none⟩ (.int .i64 rw_)).setCell ⟨gx, 4, none⟩ (.int .i64 (wrap64 (x4 - 1)))) = w2 at KP HX HL HZ ⊢
       have c0 : w2.cell? ⟨gx, 0, none⟩ = some (.int .i64 x0) := (blk_cell HX.out 0).trans rfl
       have c2 : w2.cell? ⟨gx, 2, none⟩ = some (.int .i64 x2) := (blk_cell HX.out 2).trans rfl
       have c3 : w2.cell? ⟨gx, 3, none⟩ = some (.int .i64 x3) := (blk_cell HX.out 3).trans rfl
       have c4 : w2.cell? ⟨gx, 4, none⟩ = some (.int .i64 (wrap64 (x4 - 1))) := (blk_cell HX.out 4).trans rfl
       have c5 : w2.cell? ⟨gx, 5, none⟩ = some (.int .i64 x5) := (blk_cell HX.out 5).trans rfl
       have c6 : w2.cell? ⟨gx, 6, none⟩ = some (.int .i64 rw_) := (blk_cell HX.out 6).trans rfl
       have d0 : w2.cell? ⟨gl, 0, none⟩ = some (.int .i64 l0) := (blk_cell HL.out 0).trans rfl
       have d2 : w2.cell? ⟨gl, 2, none⟩ = some (.int .i64 l2) := (blk_cell HL.out 2).trans rfl
       have d3 : w2.cell? ⟨gl, 3, none⟩ = some (.int .i64 l3) := (blk_cell HL.out 3).trans rfl
       have f0 := blk_frozen HX.out 0
       have f2 := blk_frozen HX.out 2
       have f3 := blk_frozen HX.out 3
       have f4 := blk_frozen HX.out 4
       have f5 := blk_frozen HX.out 5
       have f6 := blk_frozen HX.out 6
       go_quiet (fail)
       have hb := pw_below_drewN (Below.refl w2.heap.size w2) nq
       replace KP := Aside0.mk (Kept.then_ KP.out (Kept.of_below hb (fun b => b = gx)) (fun b hb => .inl hb)); replace HX := Aside0.mk (blk_below HX.out hb); replace HL := Aside0.mk (blk_below HL.out hb); replace HZ := Aside0.mk (Below.trans HZ.out (Below.mono hb (Nat.zero_le _)))
       clear hb
       generalize w2.drewN nq = w3 at KP HX HL HZ ⊢
       clear c0 c2 c3 c4 c5 c6 d0 d2 d3 f0 f2 f3 f4 f5 f6
       have c0 : w3.cell? ⟨gx, 0, none⟩ = some (.int .i64 x0) := (blk_cell HX.out 0).trans rfl
       have c2 : w3.cell? ⟨gx, 2, none⟩ = some (.int .i64 x2) := (blk_cell HX.out 2).trans rfl
       have c3 : w3.cell? ⟨gx, 3, none⟩ = some (.int .i64 x3) := (blk_cell HX.out 3).trans rfl
       have c4 : w3.cell? ⟨gx, 4, none⟩ = some (.int .i64 (wrap64 (x4 - 1))) := (blk_cell HX.out 4).trans rfl
       have c5 : w3.cell? ⟨gx, 5, none⟩ = some (.int .i64 x5) := (blk_cell HX.out 5).trans rfl
       have c6 : w3.cell? ⟨gx, 6, none⟩ = some (.int .i64 rw_) := (blk_cell HX.out 6).trans rfl
       have d0 : w3.cell? ⟨gl, 0, none⟩ = some (.int .i64 l0) := (blk_cell HL.out 0).trans rfl
       have d2 : w3.cell? ⟨gl, 2, none⟩ = some (.int .i64 l2) := (blk_cell HL.out 2).trans rfl
       have d3 : w3.cell? ⟨gl, 3, none⟩ = some (.int .i64 l3) := (blk_cell HL.out 3).trans rfl
       have f0 := blk_frozen HX.out 0
       have f2 := blk_frozen HX.out 2
       have f3 := blk_frozen HX.out 3
       have f4 := blk_frozen HX.out 4
       have f5 := blk_frozen HX.out 5
       have f6 := blk_frozen HX.out 6
       go_wp2_with (fail)
       clear c0 c2 c3 c4 c5 c6 d0 d2 d3 f0 f2 f3 f4 f5 f6
       replace KP := Aside0.mk (Kept.setCell KP.out (p := ⟨gx, 0, none⟩) (.inl rfl) (.int .i64 (wrap64 (1 - x0))))
       replace HZ := Aside0.mk (Below.setCell HZ.out (p := ⟨gx, 0, none⟩) (Nat.zero_le _) (.int .i64 (wrap64 (1 - x0))))
       replace HL := Aside0.mk (blk_far HL.out (p := ⟨gx, 0, none⟩) HNE.out (.int .i64 (wrap64 (1 - x0))))
       replace HX := Aside0.mk (blk_put (cs := #[.int .i64 x0, .int .i64 x1, .int .i64 x2, .int .i64 x3, .int .i64 (wrap64 (x4 - 1)), .int .i64 x5, .int .i64 rw_, .int .i64 x7, .int .i64 x8, .int .i64 x9, .int .i64 x10, .int .i64 x11]) (cs' := #[.int .i64 (wrap64 (1 - x0)), .int .i64 x1, .int .i64 x2, .int .i64 x3, .int .i64 (wrap64 (x4 - 1)), .int .i64 x5, .int .i64 rw_, .int .i64 x7, .int .i64 x8, .int .i64 x9, .int .i64 x10, .int .i64 x11]) HX.out 0 (.int .i64 (wrap64 (1 - x0))) rfl)
       replace KP := Aside0.mk (Kept.setCell KP.out (p := ⟨gx, 4, none⟩) (.inl rfl) (.int .i64 l2))
       replace HZ := Aside0.mk (Below.setCell HZ.out (p := ⟨gx, 4, none⟩) (Nat.zero_le _) (.int .i64 l2))
       replace HL := Aside0.mk (blk_far HL.out (p := ⟨gx, 4, none⟩) HNE.out (.int .i64 l2))
       replace HX := Aside0.mk (blk_put (cs := #[.int .i64 (wrap64 (1 - x0)), .int .i64 x1, .int .i64 x2, .int .i64 x3, .int .i64 (wrap64 (x4 - 1)), .int .i64 x5, .int .i64 rw_, .int .i64 x7, .int .i64 x8, .int .i64 x9, .int .i64 x10, .int .i64 x11]) (cs' := #[.int .i64 (wrap64 (1 - x0)), .int .i64 x1, .int .i64 x2, .int .i64 x3, .int .i64 l2, .int .i64 x5, .int .i64 rw_, .int .i64 x7, .int .i64 x8, .int .i64 x9, .int .i64 x10, .int .i64 x11]) HX.out 4 (.int .i64 l2) rfl)
       replace KP := Aside0.mk (Kept.setCell KP.out (p := ⟨gx, 5, none⟩) (.inl rfl) (.int .i64 x2))
       replace HZ := Aside0.mk (Below.setCell HZ.out (p := ⟨gx, 5, none⟩) (Nat.zero_le _) (.int .i64 x2))
       replace HL := Aside0.mk (blk_far HL.out (p := ⟨gx, 5, none⟩) HNE.out (.int .i64 x2))
       replace HX := Aside0.mk (blk_put (cs := #[.int .i64 (wrap64 (1 - x0)), .int .i64 x1, .int .i64 x2, .int .i64 x3, .int .i64 l2, .int .i64 x5, .int .i64 rw_, .int .i64 x7, .int .i64 x8, .int .i64 x9, .int .i64 x10, .int .i64 x11]) (cs' := #[.int .i64 (wrap64 (1 - x0)), .int .i64 x1, .int .i64 x2, .int .i64 x3, .int .i64 l2, .int .i64 x2, .int .i64 rw_, .int .i64 x7, .int .i64 x8, .int .i64 x9, .int .i64 x10, .int .i64 x11]) HX.out 5 (.int .i64 x2) rfl)
       replace KP := Aside0.mk (Kept.setCell KP.out (p := ⟨gx, 2, none⟩) (.inl rfl) (.int .i64 (wrap64 (x2 + 1))))
       replace HZ := Aside0.mk (Below.setCell HZ.out (p := ⟨gx, 2, none⟩) (Nat.zero_le _) (.int .i64 (wrap64 (x2 + 1))))
       replace HL := Aside0.mk (blk_far HL.out (p := ⟨gx, 2, none⟩) HNE.out (.int .i64 (wrap64 (x2 + 1))))
       replace HX := Aside0.mk (blk_put (cs := #[.int .i64 (wrap64 (1 - x0)), .int .i64 x1, .int .i64 x2, .int .i64 x3, .int .i64 l2, .int .i64 x2, .int .i64 rw_, .int .i64 x7, .int .i64 x8, .int .i64 x9, .int .i64 x10, .int .i64 x11]) (cs' := #[.int .i64 (wrap64 (1 - x0)), .int .i64 x1, .int .i64 (wrap64 (x2 + 1)), .int .i64 x3, .int .i64 l2, .int .i64 x2, .int .i64 rw_, .int .i64 x7, .int .i64 x8, .int .i64 x9, .int .i64 x10, .int .i64 x11]) HX.out 2 (.int .i64 (wrap64 (x2 + 1))) rfl)
       generalize ((((w3.setCell ⟨gx, 0, none⟩ (.int .i64 (wrap64 (1 - x0)))).setCell ⟨gx, 4, none⟩ (.int .i64 l2)).setCell ⟨gx, 5, none⟩ (.int .i64 x2)).setCell ⟨gx, 2, none⟩ (.int .i64 (wrap64 (x2 + 1)))) = w9 at KP HX HL HZ ⊢
       first | go_end0 | ((try simp only [Exit.inBlock, Exit.then]); refine bodyPost_ret (results_none rfl _ _ _) rfl ?_)
       obtain ⟨e0, e2, e3, e4, e5⟩ := EH.out
       exact ⟨rfl, by rw [← e0, ← e2, ← e3, ← e4, ← e5]; exact HX.out, KP.out, HZ.out⟩
    ·skip
     rw [if_neg (show ¬ (sn = x0 ∧ ¬ x2 = l3) from fun h_ => h3 h_.1)] at h
     simp only [Prod.mk.injEq] at h
     have EH := Aside0.mk h
     have p3 : (sn != x0) = true := bne_iff_ne.mpr h3
     clear h3
     clear h
     go_wp2_with (fail)
     clear c0 c2 c3 c4 c5 c6 d0 d2 d3 f0 f2 f3 f4 f5 f6
     replace KP := Aside0.mk (Kept.setCell KP.out (p := ⟨gx, 6, none⟩) (.inl rfl) (.int .i64 rw_))
     replace HZ := Aside0.mk (Below.setCell HZ.out (p := ⟨gx, 6, none⟩) (Nat.zero_le _) (.int .i64 rw_))
     replace HL := Aside0.mk (blk_far HL.out (p := ⟨gx, 6, none⟩) HNE.out (.int .i64 rw_))
     replace HX := Aside0.mk (blk_put (cs := #[.int .i64 x0, .int .i64 x1, .int .i64 x2, .int .i64 x3, .int .i64 x4, .int .i64 x5, .int .i64 x6, .int .i64 x7, .int .i64 x8, .int .i64 x9, .int .i64 x10, .int .i64 x11]) (cs' := #[.int .i64 x0, .int .i64 x1, .int .i64 x2, .int .i64 x3, .int .i64 x4, .int .i64 x5, .int .i64 rw_, .int .i64 x7, .int .i64 x8, .int .i64 x9, .int .i64 x10, .int .i64 x11]) HX.out 6 (.int .i64 rw_) rfl)
     replace KP := Aside0.mk (Kept.setCell KP.out (p := ⟨gx, 4, none⟩) (.inl rfl) (.int .i64 (wrap64 (x4 - 1))))
     replace HZ := Aside0.mk (Below.setCell HZ.out (p := ⟨gx, 4, none⟩) (Nat.zero_le _) (.int .i64 (wrap64 (x4 - 1))))
     replace HL := Aside0.mk (blk_far HL.out (p := ⟨gx, 4, none⟩) HNE.out (.int .i64 (wrap64 (x4 - 1))))
     replace HX := Aside0.mk (blk_put (cs := #[.int .i64 x0, .int .i64 x1, .int .i64 x2, .int .i64 x3, .int .i64 x4, .int .i64 x5, .int .i64 rw_, .int .i64 x7, .int .i64 x8, .int .i64 x9, .int .i64 x10, .int .i64 x11]) (cs' := #[.int .i64 x0, .int .i64 x1, .int .i64 x2, .int .i64 x3, .int .i64 (wrap64 (x4 - 1)), .int .i64 x5, .int .i64 rw_, .int .i64 x7, .int .i64 x8, .int .i64 x9, .int .i64 x10, .int .i64 x11]) HX.out 4 (.int .i64 (wrap64 (x4 - 1))) rfl)
     generalize ((w1.setCell ⟨gx, 6, none⟩ (.int .i64 rw_)).setCell ⟨gx, 4, none⟩ (.int .i64 (wrap64 (x4 - 1)))) = w2 at KP HX HL HZ ⊢
     have c0 : w2.cell? ⟨gx, 0, none⟩ = some (.int .i64 x0) := (blk_cell HX.out 0).trans rfl
     have c2 : w2.cell? ⟨gx, 2, none⟩ = some (.int .i64 x2) := (blk_cell HX.out 2).trans rfl
     have c3 : w2.cell? ⟨gx, 3, none⟩ = some (.int .i64 x3) := (blk_cell HX.out 3).trans rfl
     have c4 : w2.cell? ⟨gx, 4, none⟩ = some (.int .i64 (wrap64 (x4 - 1))) := (blk_cell HX.out 4).trans rfl
     have c5 : w2.cell? ⟨gx, 5, none⟩ = some (.int .i64 x5) := (blk_cell HX.out 5).trans rfl
     have c6 : w2.cell? ⟨gx, 6, none⟩ = some (.int .i64 rw_) := (blk_cell HX.out 6).trans rfl
     have d0 : w2.cell? ⟨gl, 0, none⟩ = some (.int .i64 l0) := (blk_cell HL.out 0).trans rfl
     have d2 : w2.cell? ⟨gl, 2, none⟩ = some (.int .i64 l2) := (blk_cell HL.out 2).trans rfl
     have d3 : w2.cell? ⟨gl, 3, none⟩ = some (.int .i64 l3) := (blk_cell HL.out 3).trans rfl
     have f0 := blk_frozen HX.out 0
     have f2 := blk_frozen HX.out 2
     have f3 := blk_frozen HX.out 3
     have f4 := blk_frozen HX.out 4
     have f5 := blk_frozen HX.out 5
     have f6 := blk_frozen HX.out 6
     go_quiet (fail)
     have hb := pw_below_drewN (Below.refl w2.heap.size w2) nq
     replace KP := Aside0.mk (Kept.then_ KP.out (Kept.of_below hb (fun b => b = gx)) (fun b hb => .inl hb)); replace HX := Aside0.mk (blk_below HX.out hb); replace HL := Aside0.mk (blk_below HL.out hb); replace HZ := Aside0.mk (Below.trans HZ.out (Below.mono hb (Nat.zero_le _)))
     clear hb
     generalize w2.drewN nq = w3 at KP HX HL HZ ⊢
     clear c0 c2 c3 c4 c5 c6 d0 d2 d3 f0 f2 f3 f4 f5 f6
     go_wp2_with (fail)
     first | go_end0 | ((try simp only [Exit.inBlock, Exit.then]); refine bodyPost_ret (results_none rfl _ _ _) rfl ?_)
     obtain ⟨e0, e2, e3, e4, e5⟩ := EH.out
     exact ⟨rfl, by rw [← e0, ← e2, ← e3, ← e4, ← e5]; exact HX.out, KP.out, HZ.out⟩
  ·rw [if_neg (fun h_ => h1 h_.1)] at h
   have p1 : (l0 == 4) = false := beq_eq_false_iff_ne.mpr h1
   clear h1
   rcases Classical.em (sn = x0) with h3 | h3
   ·rcases Classical.em (x2 = l3) with h4 | h4
    ·skip
     rw [if_neg (show ¬ (sn = x0 ∧ ¬ x2 = l3) from fun h_ => h_.2 h4)] at h
     simp only [Prod.mk.injEq] at h
     have EH := Aside0.mk h
     have p3 : (sn != x0) = false := bne_eq_false_iff_eq.mpr h3
     have p4 : (x2 == l3) = true := beq_iff_eq.mpr h4
     clear h3 h4
     clear h
     go_wp2_with (fail)
     clear c0 c2 c3 c4 c5 c6 d0 d2 d3 f0 f2 f3 f4 f5 f6
     replace KP := Aside0.mk (Kept.setCell KP.out (p := ⟨gx, 6, none⟩) (.inl rfl) (.int .i64 rw_))
     replace HZ := Aside0.mk (Below.setCell HZ.out (p := ⟨gx, 6, none⟩) (Nat.zero_le _) (.int .i64 rw_))
     replace HL := Aside0.mk (blk_far HL.out (p := ⟨gx, 6, none⟩) HNE.out (.int .i64 rw_))
     replace HX := Aside0.mk (blk_put (cs := #[.int .i64 x0, .int .i64 x1, .int .i64 x2, .int .i64 x3, .int .i64 x4, .int .i64 x5, .int .i64 x6, .int .i64 x7, .int .i64 x8, .int .i64 x9, .int .i64 x10, .int .i64 x11]) (cs' := #[.int .i64 x0, .int .i64 x1, .int .i64 x2, .int .i64 x3, .int .i64 x4, .int .i64 x5, .int .i64 rw_, .int .i64 x7, .int .i64 x8, .int .i64 x9, .int .i64 x10, .int .i64 x11]) HX.out 6 (.int .i64 rw_) rfl)
     replace KP := Aside0.mk (Kept.setCell KP.out (p := ⟨gx, 4, none⟩) (.inl rfl) (.int .i64 (wrap64 (x4 - 1))))
     replace HZ := Aside0.mk (Below.setCell HZ.out (p := ⟨gx, 4, none⟩) (Nat.zero_le _) (.int .i64 (wrap64 (x4 - 1))))
     replace HL := Aside0.mk (blk_far HL.out (p := ⟨gx, 4, none⟩) HNE.out (.int .i64 (wrap64 (x4 - 1))))
     replace HX := Aside0.mk (blk_put (cs := #[.int .i64 x0, .int .i64 x1, .int .i64 x2, .int .i64 x3, .int .i64 x4, .int .i64 x5, .int .i64 rw_, .int .i64 x7, .int .i64 x8, .int .i64 x9, .int .i64 x10, .int .i64 x11]) (cs' := #[.int .i64 x0, .int .i64 x1, .int .i64 x2, .int .i64 x3, .int .i64 (wrap64 (x4 - 1)), .int .i64 x5, .int .i64 rw_, .int .i64 x7, .int .i64 x8, .int .i64 x9, .int .i64 x10, .int .i64 x11]) HX.out 4 (.int .i64 (wrap64 (x4 - 1))) rfl)
     generalize ((w1.setCell ⟨gx, 6, none⟩ (.int .i64 rw_)).setCell ⟨gx, 4, none⟩ (.int .i64 (wrap64 (x4 - 1)))) = w2 at KP HX HL HZ ⊢
     have c0 : w2.cell? ⟨gx, 0, none⟩ = some (.int .i64 x0) := (blk_cell HX.out 0).trans rfl
     have c2 : w2.cell? ⟨gx, 2, none⟩ = some (.int .i64 x2) := (blk_cell HX.out 2).trans rfl
     have c3 : w2.cell? ⟨gx, 3, none⟩ = some (.int .i64 x3) := (blk_cell HX.out 3).trans rfl
     have c4 : w2.cell? ⟨gx, 4, none⟩ = some (.int .i64 (wrap64 (x4 - 1))) := (blk_cell HX.out 4).trans rfl
     have c5 : w2.cell? ⟨gx, 5, none⟩ = some (.int .i64 x5) := (blk_cell HX.out 5).trans rfl
     have c6 : w2.cell? ⟨gx, 6, none⟩ = some (.int .i64 rw_) := (blk_cell HX.out 6).trans rfl
     have d0 : w2.cell? ⟨gl, 0, none⟩ = some (.int .i64 l0) := (blk_cell HL.out 0).trans rfl
     have d2 : w2.cell? ⟨gl, 2, none⟩ = some (.int .i64 l2) := (blk_cell HL.out 2).trans rfl
     have d3 : w2.cell? ⟨gl, 3, none⟩ = some (.int .i64 l3) := (blk_cell HL.out 3).trans rfl
     have f0 := blk_frozen HX.out 0
     have f2 := blk_frozen HX.out 2
     have f3 := blk_frozen HX.out 3
     have f4 := blk_frozen HX.out 4
     have f5 := blk_frozen HX.out 5
     have f6 := blk_frozen HX.out 6
     go_quiet (fail)
     have hb := pw_below_drewN (Below.refl w2.heap.size w2) nq
     replace KP := Aside0.mk (Kept.then_ KP.out (Kept.of_below hb (fun b => b = gx)) (fun b hb => .inl hb)); replace HX := Aside0.mk (blk_below HX.out hb); replace HL := Aside0.mk (blk_below HL.out hb); replace HZ := Aside0.mk (Below.trans HZ.out (Below.mono hb (Nat.zero_le _)))
     clear hb
     generalize w2.drewN nq = w3 at KP HX HL HZ ⊢
     clear c0 c2 c3 c4 c5 c6 d0 d2 d3 f0 f2 f3 f4 f5 f6
     go_wp2_with (fail)
     first | go_end0 | ((try simp only [Exit.inBlock, Exit.then]); refine bodyPost_ret (results_none rfl _ _ _) rfl ?_)
     obtain ⟨e0, e2, e3, e4, e5⟩ := EH.out
     exact ⟨rfl, by rw [← e0, ← e2, ← e3, ← e4, ← e5]; exact HX.out, KP.out, HZ.out⟩
    ·rw [if_pos (show sn = x0 ∧ ¬ x2 = l3 from ⟨h3, h4⟩)] at h
     rcases Classical.em (l2 = 0) with h5 | h5
     ·skip
      rw [if_pos h5] at h
      simp only [Prod.mk.injEq] at h
      have EH := Aside0.mk h
      have p3 : (sn != x0) = false := bne_eq_false_iff_eq.mpr h3
      have p4 : (x2 == l3) = false := beq_eq_false_iff_ne.mpr h4
      have p5 : (l2 == 0) = true := beq_iff_eq.mpr h5
      clear h3 h4 h5
      clear h
      go_wp2_with (fail)
      clear c0 c2 c3 c4 c5 c6 d0 d2 d3 f0 f2 f3 f4 f5 f6
      replace KP := Aside0.mk (Kept.setCell KP.out (p := ⟨gx, 6, none⟩) (.inl rfl) (.int .i64 rw_))
      replace HZ := Aside0.mk (Below.setCell HZ.out (p := ⟨gx, 6, none⟩) (Nat.zero_le _) (.int .i64 rw_))
      replace HL := Aside0.mk (blk_far HL.out (p := ⟨gx, 6, none⟩) HNE.out (.int .i64 rw_))
      replace HX := Aside0.mk (blk_put (cs := #[.int .i64 x0, .int .i64 x1, .int .i64 x2, .int .i64 x3, .int .i64 x4, .int .i64 x5, .int .i64 x6, .int .i64 x7, .int .i64 x8, .int .i64 x9, .int .i64 x10, .int .i64 x11]) (cs' := #[.int .i64 x0, .int .i64 x1, .int .i64 x2, .int .i64 x3, .int .i64 x4, .int .i64 x5, .int .i64 rw_, .int .i64 x7, .int .i64 x8, .int .i64 x9, .int .i64 x10, .int .i64 x11]) HX.out 6 (.int .i64 rw_) rfl)
      replace KP := Aside0.mk (Kept.setCell KP.out (p := ⟨gx, 4, none⟩) (.inl rfl) (.int .i64 (wrap64 (x4 - 1))))
      replace HZ := Aside0.mk (Below.setCell HZ.out (p := ⟨gx, 4, none⟩) (Nat.zero_le _) (.int .i64 (wrap64 (x4 - 1))))
      replace HL := Aside0.mk (blk_far HL.out (p := ⟨gx, 4, none⟩) HNE.out (.int .i64 (wrap64 (x4 - 1))))
      replace HX := Aside0.mk (blk_put (cs := #[.int .i64 x0, .int .i64 x1, .int .i64 x2, .int .i64 x3, .int .i64 x4, .int .i64 x5, .int .i64 rw_, .int .i64 x7, .int .i64 x8, .int .i64 x9, .int .i64 x10, .int .i64 x11]) (cs' := #[.int .i64 x0, .int .i64 x1, .int .i64 x2, .int .i64 x3, .int .i64 (wrap64 (x4 - 1)), .int .i64 x5, .int .i64 rw_, .int .i64 x7, .int .i64 x8, .int .i64 x9, .int .i64 x10, .int .i64 x11]) HX.out 4 (.int .i64 (wrap64 (x4 - 1))) rfl)
      generalize ((w1.setCell ⟨gx, 6, none⟩ (.int .i64 rw_)).setCell ⟨gx, 4, none⟩ (.int .i64 (wrap64 (x4 - 1)))) = w2 at KP HX HL HZ ⊢
      have c0 : w2.cell? ⟨gx, 0, none⟩ = some (.int .i64 x0) := (blk_cell HX.out 0).trans rfl
      have c2 : w2.cell? ⟨gx, 2, none⟩ = some (.int .i64 x2) := (blk_cell HX.out 2).trans rfl
      have c3 : w2.cell? ⟨gx, 3, none⟩ = some (.int .i64 x3) := (blk_cell HX.out 3).trans rfl
      have c4 : w2.cell? ⟨gx, 4, none⟩ = some (.int .i64 (wrap64 (x4 - 1))) := (blk_cell HX.out 4).trans rfl
      have c5 : w2.cell? ⟨gx, 5, none⟩ = some (.int .i64 x5) := (blk_cell HX.out 5).trans rfl
      have c6 : w2.cell? ⟨gx, 6, none⟩ = some (.int .i64 rw_) := (blk_cell HX.out 6).trans rfl
      have d0 : w2.cell? ⟨gl, 0, none⟩ = some (.int .i64 l0) := (blk_cell HL.out 0).trans rfl
      have d2 : w2.cell? ⟨gl, 2, none⟩ = some (.int .i64 l2) := (blk_cell HL.out 2).trans rfl
      have d3 : w2.cell? ⟨gl, 3, none⟩ = some (.int .i64 l3) := (blk_cell HL.out 3).trans rfl
      have f0 := blk_frozen HX.out 0
      have f2 := blk_frozen HX.out 2
      have f3 := blk_frozen HX.out 3
      have f4 := blk_frozen HX.out 4
      have f5 := blk_frozen HX.out 5
      have f6 := blk_frozen HX.out 6
      go_quiet (fail)
      have hb := pw_below_drewN (Below.refl w2.heap.size w2) nq
      replace KP := Aside0.mk (Kept.then_ KP.out (Kept.of_below hb (fun b => b = gx)) (fun b hb => .inl hb)); replace HX := Aside0.mk (blk_below HX.out hb); replace HL := Aside0.mk (blk_below HL.out hb); replace HZ := Aside0.mk (Below.trans HZ.out (Below.mono hb (Nat.zero_le _)))
      clear hb
      generalize w2.drewN nq = w3 at KP HX HL HZ ⊢
      clear c0 c2 c3 c4 c5 c6 d0 d2 d3 f0 f2 f3 f4 f5 f6
      have c0 : w3.cell? ⟨gx, 0, none⟩ = some (.int .i64 x0) := (blk_cell HX.out 0).trans rfl
      have c2 : w3.cell? ⟨gx, 2, none⟩ = some (.int .i64 x2) := (blk_cell HX.out 2).trans rfl
      have c3 : w3.cell? ⟨gx, 3, none⟩ = some (.int .i64 x3) := (blk_cell HX.out 3).trans rfl
      have c4 : w3.cell? ⟨gx, 4, none⟩ = some (.int .i64 (wrap64 (x4 - 1))) := (blk_cell HX.out 4).trans rfl
      have c5 : w3.cell? ⟨gx, 5, none⟩ = some (.int .i64 x5) := (blk_cell HX.out 5).trans rfl
      have c6 : w3.cell? ⟨gx, 6, none⟩ = some (.int .i64 rw_) := (blk_cell HX.out 6).trans rfl
      have d0 : w3.cell? ⟨gl, 0, none⟩ = some (.int .i64 l0) := (blk_cell HL.out 0).trans rfl
      have d2 : w3.cell? ⟨gl, 2, none⟩ = some (.int .i64 l2) := (blk_cell HL.out 2).trans rfl
      have d3 : w3.cell? ⟨gl, 3, none⟩ = some (.int .i64 l3) := (blk_cell HL.out 3).trans rfl
      have f0 := blk_frozen HX.out 0
      have f2 := blk_frozen HX.out 2
      have f3 := blk_frozen HX.out 3
      have f4 := blk_frozen HX.out 4
      have f5 := blk_frozen HX.out 5
      have f6 := blk_frozen HX.out 6
      go_wp2_with (fail)
      clear c0 c2 c3 c4 c5 c6 d0 d2 d3 f0 f2 f3 f4 f5 f6
      replace KP := Aside0.mk (Kept.setCell KP.out (p := ⟨gx, 0, none⟩) (.inl rfl) (.int .i64 (wrap64 (1 - x0))))
      replace HZ := Aside0.mk (Below.setCell HZ.out (p := ⟨gx, 0, none⟩) (Nat.zero_le _) (.int .i64 (wrap64 (1 - x0))))
      replace HL := Aside0.mk (blk_far HL.out (p := ⟨gx, 0, none⟩) HNE.out (.int .i64 (wrap64 (1 - x0))))
      replace HX := Aside0.mk (blk_put (cs := #[.int .i64 x0, .int .i64 x1, .int .i64 x2, .int .i64 x3, .int .i64 (wrap64 (x4 - 1)), .int .i64 x5, .int .i64 rw_, .int .i64 x7, .int .i64 x8, .int .i64 x9, .int .i64 x10, .int .i64 x11]) (cs' := #[.int .i64 (wrap64 (1 - x0)), .int .i64 x1, .int .i64 x2, .int .i64 x3, .int .i64 (wrap64 (x4 - 1)), .int .i64 x5, .int .i64 rw_, .int .i64 x7, .int .i64 x8, .int .i64 x9, .int .i64 x10, .int .i64 x11]) HX.out 0 (.int .i64 (wrap64 (1 - x0))) rfl)
      replace KP := Aside0.mk (Kept.setCell KP.out (p := ⟨gx, 3, none⟩) (.inl rfl) (.int .i64 x2))
      replace HZ := Aside0.mk (Below.setCell HZ.out (p := ⟨gx, 3, none⟩) (Nat.zero_le _) (.int .i64 x2))
      replace HL := Aside0.mk (blk_far HL.out (p := ⟨gx, 3, none⟩) HNE.out (.int .i64 x2))
      replace HX := Aside0.mk (blk_put (cs := #[.int .i64 (wrap64 (1 - x0)), .int .i64 x1, .int .i64 x2, .int .i64 x3, .int .i64 (wrap64 (x4 - 1)), .int .i64 x5, .int .i64 rw_, .int .i64 x7, .int .i64 x8, .int .i64 x9, .int .i64 x10, .int .i64 x11]) (cs' := #[.int .i64 (wrap64 (1 - x0)), .int .i64 x1, .int .i64 x2, .int .i64 x2, .int .i64 (wrap64 (x4 - 1)), .int .i64 x5, .int .i64 rw_, .int .i64 x7, .int .i64 x8, .int .i64 x9, .int .i64 x10, .int .i64 x11]) HX.out 3 (.int .i64 x2) rfl)
      replace KP := Aside0.mk (Kept.setCell KP.out (p := ⟨gx, 2, none⟩) (.inl rfl) (.int .i64 (wrap64 (x2 + 1))))
      replace HZ := Aside0.mk (Below.setCell HZ.out (p := ⟨gx, 2, none⟩) (Nat.zero_le _) (.int .i64 (wrap64 (x2 + 1))))
      replace HL := Aside0.mk (blk_far HL.out (p := ⟨gx, 2, none⟩) HNE.out (.int .i64 (wrap64 (x2 + 1))))
      replace HX := Aside0.mk (blk_put (cs := #[.int .i64 (wrap64 (1 - x0)), .int .i64 x1, .int .i64 x2, .int .i64 x2, .int .i64 (wrap64 (x4 - 1)), .int .i64 x5, .int .i64 rw_, .int .i64 x7, .int .i64 x8, .int .i64 x9, .int .i64 x10, .int .i64 x11]) (cs' := #[.int .i64 (wrap64 (1 - x0)), .int .i64 x1, .int .i64 (wrap64 (x2 + 1)), .int .i64 x2, .int .i64 (wrap64 (x4 - 1)), .int .i64 x5, .int .i64 rw_, .int .i64 x7, .int .i64 x8, .int .i64 x9, .int .i64 x10, .int .i64 x11]) HX.out 2 (.int .i64 (wrap64 (x2 + 1))) rfl)
      generalize (((w3.setCell ⟨gx, 0, none⟩ (.int .i64 (wrap64 (1 - x0)))).setCell ⟨gx, 3, none⟩ (.int .i64 x2)).setCell ⟨gx, 2, none⟩ (.int .i64 (wrap64 (x2 + 1)))) = w9 at KP HX HL HZ ⊢
      first | go_end0 | ((try simp only [Exit.inBlock, Exit.then]); refine bodyPost_ret (results_none rfl _ _ _) rfl ?_)
      obtain ⟨e0, e2, e3, e4, e5⟩ := EH.out
      exact ⟨rfl, by rw [← e0, ← e2, ← e3, ← e4, ← e5]; exact HX.out, KP.out, HZ.out⟩
     ·skip
      rw [if_neg h5] at h
      simp only [Prod.mk.injEq] at h
      have EH := Aside0.mk h
      have p3 : (sn != x0) = false := bne_eq_false_iff_eq.mpr h3
      have p4 : (x2 == l3) = false := beq_eq_false_iff_ne.mpr h4
      have p5 : (l2 == 0) = false := beq_eq_false_iff_ne.mpr h5
      clear h3 h4 h5
      clear h
      go_wp2_with (fail)
      clear c0 c2 c3 c4 c5 c6 d0 d2 d3 f0 f2 f3 f4 f5 f6
      replace KP := Aside0.mk (Kept.setCell KP.out (p := ⟨gx, 6, none⟩) (.inl rfl) (.int .i64 rw_))
      replace HZ := Aside0.mk (Below.setCell HZ.out (p := ⟨gx, 6, none⟩) (Nat.zero_le _) (.int .i64 rw_))
      replace HL := Aside0.mk (blk_far HL.out (p := ⟨gx, 6, none⟩) HNE.out (.int .i64 rw_))
      replace HX := Aside0.mk (blk_put (cs := #[.int .i64 x0, .int .i64 x1, .int .i64 x2, .int .i64 x3, .int .i64 x4, .int .i64 x5, .int .i64 x6, .int .i64 x7, .int .i64 x8, .int .i64 x9, .int .i64 x10, .int .i64 x11]) (cs' := #[.int .i64 x0, .int .i64 x1, .int .i64 x2, .int .i64 x3, .int .i64 x4, .int .i64 x5, .int .i64 rw_, .int .i64 x7, .int .i64 x8, .int .i64 x9, .int .i64 x10, .int .i64 x11]) HX.out 6 (.int .i64 rw_) rfl)
      replace KP := Aside0.mk (Kept.setCell KP.out (p := ⟨gx, 4, none⟩) (.inl rfl) (.int .i64 (wrap64 (x4 - 1))))
      replace HZ := Aside0.mk (Below.setCell HZ.out (p := ⟨gx, 4, none⟩) (Nat.zero_le _) (.int .i64 (wrap64 (x4 - 1))))
      replace HL := Aside0.mk (blk_far HL.out (p := ⟨gx, 4, none⟩) HNE.out (.int .i64 (wrap64 (x4 - 1))))
      replace HX := Aside0.mk (blk_put (cs := #[.int .i64 x0, .int .i64 x1, .int .i64 x2, .int .i64 x3, .int .i64 x4, .int .i64 x5, .int .i64 rw_, .int .i64 x7, .int .i64 x8, .int .i64 x9, .int .i64 x10, .int .i64 x11]) (cs' := #[.int .i64 x0, .int .i64 x1, .int .i64 x2, .int .i64 x3, .int .i64 (wrap64 (x4 - 1)), .int .i64 x5, .int .i64 rw_, .int .i64 x7, .int .i64 x8, .int .i64 x9, .int .i64 x10, .int .i64 x11]) HX.out 4 (.int .i64 (wrap64 (x4 - 1))) rfl)
      generalize ((w1.setCell ⟨gx, 6, none⟩ (.int .i64 rw_)).setCell ⟨gx, 4, none⟩ (.int .i64 (wrap64 (x4 - 1)))) = w2 at KP HX HL HZ ⊢
      have c0 : w2.cell? ⟨gx, 0, none⟩ = some (.int .i64 x0) := (blk_cell HX.out 0).trans rfl
      have c2 : w2.cell? ⟨gx, 2, none⟩ = some (.int .i64 x2) := (blk_cell HX.out 2).trans rfl
      have c3 : w2.cell? ⟨gx, 3, none⟩ = some (.int .i64 x3) := (blk_cell HX.out 3).trans rfl
      have c4 : w2.cell? ⟨gx, 4, none⟩ = some (.int .i64 (wrap64 (x4 - 1))) := (blk_cell HX.out 4).trans rfl
      have c5 : w2.cell? ⟨gx, 5, none⟩ = some (.int .i64 x5) := (blk_cell HX.out 5).trans rfl
      have c6 : w2.cell? ⟨gx, 6, none⟩ = some (.int .i64 rw_) := (blk_cell HX.out 6).trans rfl
      have d0 : w2.cell? ⟨gl, 0, none⟩ = some (.int .i64 l0) := (blk_cell HL.out 0).trans rfl
      have d2 : w2.cell? ⟨gl, 2, none⟩ = some (.int .i64 l2) := (blk_cell HL.out 2).trans rfl
      have d3 : w2.cell? ⟨gl, 3, none⟩ = some (.int .i64 l3) := (blk_cell HL.out 3).trans rfl
      have f0 := blk_frozen HX.out 0
      have f2 := blk_frozen HX.out 2
      have f3 := blk_frozen HX.out 3
      have f4 := blk_frozen HX.out 4
      have f5 := blk_frozen HX.out 5
      have f6 := blk_frozen HX.out 6
      go_quiet (fail)
      have hb := pw_below_drewN (Below.refl w2.heap.size w2) nq
      replace KP := Aside0.mk (Kept.then_ KP.out (Kept.of_below hb (fun b => b = gx)) (fun b hb => .inl hb)); replace HX := Aside0.mk (blk_below HX.out hb); replace HL := Aside0.mk (blk_below HL.out hb); replace HZ := Aside0.mk (Below.trans HZ.out (Below.mono hb (Nat.zero_le _)))
      clear hb
      generalize w2.drewN nq = w3 at KP HX HL HZ ⊢
      clear c0 c2 c3 c4 c5 c6 d0 d2 d3 f0 f2 f3 f4 f5 f6
      have c0 : w3.cell? ⟨gx, 0, none⟩ = some (.int .i64 x0) := (blk_cell HX.out 0).trans rfl
      have c2 : w3.cell? ⟨gx, 2, none⟩ = some (.int .i64 x2) := (blk_cell HX.out 2).trans rfl
      have c3 : w3.cell? ⟨gx, 3, none⟩ = some (.int .i64 x3) := (blk_cell HX.out 3).trans rfl
      have c4 : w3.cell? ⟨gx, 4, none⟩ = some (.int .i64 (wrap64 (x4 - 1))) := (blk_cell HX.out 4).trans rfl
      have c5 : w3.cell? ⟨gx, 5, none⟩ = some (.int .i64 x5) := (blk_cell HX.out 5).trans rfl
      have c6 : w3.cell? ⟨gx, 6, none⟩ = some (.int .i64 rw_) := (blk_cell HX.out 6).trans rfl
      have d0 : w3.cell? ⟨gl, 0, none⟩ = some (.int .i64 l0) := (blk_cell HL.out 0).trans rfl
      have d2 : w3.cell? ⟨gl, 2, none⟩ = some (.int .i64 l2) := (blk_cell HL.out 2).trans rfl
      have d3 : w3.cell? ⟨gl, 3, none⟩ = some (.int .i64 l3) := (blk_cell HL.out 3).trans rfl
      have f0 := blk_frozen HX.out 0
      have f2 := blk_frozen HX.out 2
      have f3 := blk_frozen HX.out 3
      have f4 := blk_frozen HX.out 4
      have f5 := blk_frozen HX.out 5
      have f6 := blk_frozen HX.out 6
      go_wp2_with (fail)
      clear c0 c2 c3 c4 c5 c6 d0 d2 d3 f0 f2 f3 f4 f5 f6
      replace KP := Aside0.mk (Kept.setCell KP.out (p := ⟨gx, 0, none⟩) (.inl rfl) (.int .i64 (wrap64 (1 - x0))))
      replace HZ := Aside0.mk (Below.setCell HZ.out (p := ⟨gx, 0, none⟩) (Nat.zero_le _) (.int .i64 (wrap64 (1 - x0))))
      replace HL := Aside0.mk (blk_far HL.out (p := ⟨gx, 0, none⟩) HNE.out (.int .i64 (wrap64 (1 - x0))))
      replace HX := Aside0.mk (blk_put (cs := #[.int .i64 x0, .int .i64 x1, .int .i64 x2, .int .i64 x3, .int .i64 (wrap64 (x4 - 1)), .int .i64 x5, .int .i64 rw_, .int .i64 x7, .int .i64 x8, .int .i64 x9, .int .i64 x10, .int .i64 x11]) (cs' := #[.int .i64 (wrap64 (1 - x0)), .int .i64 x1, .int .i64 x2, .int .i64 x3, .int .i64 (wrap64 (x4 - 1)), .int .i64 x5, .int .i64 rw_, .int .i64 x7, .int .i64 x8, .int .i64 x9, .int .i64 x10, .int .i64 x11]) HX.out 0 (.int .i64 (wrap64 (1 - x0))) rfl)
      replace KP := Aside0.mk (Kept.setCell KP.out (p := ⟨gx, 4, none⟩) (.inl rfl) (.int .i64 l2))
      replace HZ := Aside0.mk (Below.setCell HZ.out (p := ⟨gx, 4, none⟩) (Nat.zero_le _) (.int .i64 l2))
      replace HL := Aside0.mk (blk_far HL.out (p := ⟨gx, 4, none⟩) HNE.out (.int .i64 l2))
      replace HX := Aside0.mk (blk_put (cs := #[.int .i64 (wrap64 (1 - x0)), .int .i64 x1, .int .i64 x2, .int .i64 x3, .int .i64 (wrap64 (x4 - 1)), .int .i64 x5, .int .i64 rw_, .int .i64 x7, .int .i64 x8, .int .i64 x9, .int .i64 x10, .int .i64 x11]) (cs' := #[.int .i64 (wrap64 (1 - x0)), .int .i64 x1, .int .i64 x2, .int .i64 x3, .int .i64 l2, .int .i64 x5, .int .i64 rw_, .int .i64 x7, .int .i64 x8, .int .i64 x9, .int .i64 x10, .int .i64 x11]) HX.out 4 (.int .i64 l2) rfl)
      replace KP := Aside0.mk (Kept.setCell KP.out (p := ⟨gx, 5, none⟩) (.inl rfl) (.int .i64 x2))
      replace HZ := Aside0.mk (Below.setCell HZ.out (p := ⟨gx, 5, none⟩) (Nat.zero_le _) (.int .i64 x2))
      replace HL := Aside0.mk (blk_far HL.out (p := ⟨gx, 5, none⟩) HNE.out (.int .i64 x2))
      replace HX := Aside0.mk (blk_put (cs := #[.int .i64 (wrap64 (1 - x0)), .int .i64 x1, .int .i64 x2, .int .i64 x3, .int .i64 l2, .int .i64 x5, .int .i64 rw_, .int .i64 x7, .int .i64 x8, .int .i64 x9, .int .i64 x10, .int .i64 x11]) (cs' := #[.int .i64 (wrap64 (1 - x0)), .int .i64 x1, .int .i64 x2, .int .i64 x3, .int .i64 l2, .int .i64 x2, .int .i64 rw_, .int .i64 x7, .int .i64 x8, .int .i64 x9, .int .i64 x10, .int .i64 x11]) HX.out 5 (.int .i64 x2) rfl)
      replace KP := Aside0.mk (Kept.setCell KP.out (p := ⟨gx, 2, none⟩) (.inl rfl) (.int .i64 (wrap64 (x2 + 1))))
      replace HZ := Aside0.mk (Below.setCell HZ.out (p := ⟨gx, 2, none⟩) (Nat.zero_le _) (.int .i64 (wrap64 (x2 + 1))))
      replace HL := Aside0.mk (blk_far HL.out (p := ⟨gx, 2, none⟩) HNE.out (.int .i64 (wrap64 (x2 + 1))))
      replace HX := Aside0.mk (blk_put (cs := #[.int .i64 (wrap64 (1 - x0)), .int .i64 x1, .int .i64 x2, .int .i64 x3, .int .i64 l2, .int .i64 x2, .int .i64 rw_, .int .i64 x7, .int .i64 x8, .int .i64 x9, .int .i64 x10, .int .i64 x11]) (cs' := #[.int .i64 (wrap64 (1 - x0)), .int .i64 x1, .int .i64 (wrap64 (x2 + 1)), .int .i64 x3, .int .i64 l2, .int .i64 x2, .int .i64 rw_, .int .i64 x7, .int .i64 x8, .int .i64 x9, .int .i64 x10, .int .i64 x11]) HX.out 2 (.int .i64 (wrap64 (x2 + 1))) rfl)
      generalize ((((w3.setCell ⟨gx, 0, none⟩ (.int .i64 (wrap64 (1 - x0)))).setCell ⟨gx, 4, none⟩ (.int .i64 l2)).setCell ⟨gx, 5, none⟩ (.int .i64 x2)).setCell ⟨gx, 2, none⟩ (.int .i64 (wrap64 (x2 + 1)))) = w9 at KP HX HL HZ ⊢
      first | go_end0 | ((try simp only [Exit.inBlock, Exit.then]); refine bodyPost_ret (results_none rfl _ _ _) rfl ?_)
      obtain ⟨e0, e2, e3, e4, e5⟩ := EH.out
      exact ⟨rfl, by rw [← e0, ← e2, ← e3, ← e4, ← e5]; exact HX.out, KP.out, HZ.out⟩
   ·skip
    rw [if_neg (show ¬ (sn = x0 ∧ ¬ x2 = l3) from fun h_ => h3 h_.1)] at h
    simp only [Prod.mk.injEq] at h
    have EH := Aside0.mk h
    have p3 : (sn != x0) = true := bne_iff_ne.mpr h3
    clear h3
    clear h
    go_wp2_with (fail)
    clear c0 c2 c3 c4 c5 c6 d0 d2 d3 f0 f2 f3 f4 f5 f6
    replace KP := Aside0.mk (Kept.setCell KP.out (p := ⟨gx, 6, none⟩) (.inl rfl) (.int .i64 rw_))
    replace HZ := Aside0.mk (Below.setCell HZ.out (p := ⟨gx, 6, none⟩) (Nat.zero_le _) (.int .i64 rw_))
    replace HL := Aside0.mk (blk_far HL.out (p := ⟨gx, 6, none⟩) HNE.out (.int .i64 rw_))
    replace HX := Aside0.mk (blk_put (cs := #[.int .i64 x0, .int .i64 x1, .int .i64 x2, .int .i64 x3, .int .i64 x4, .int .i64 x5, .int .i64 x6, .int .i64 x7, .int .i64 x8, .int .i64 x9, .int .i64 x10, .int .i64 x11]) (cs' := #[.int .i64 x0, .int .i64 x1, .int .i64 x2, .int .i64 x3, .int .i64 x4, .int .i64 x5, .int .i64 rw_, .int .i64 x7, .int .i64 x8, .int .i64 x9, .int .i64 x10, .int .i64 x11]) HX.out 6 (.int .i64 rw_) rfl)
    replace KP := Aside0.mk (Kept.setCell KP.out (p := ⟨gx, 4, none⟩) (.inl rfl) (.int .i64 (wrap64 (x4 - 1))))
    replace HZ := Aside0.mk (Below.setCell HZ.out (p := ⟨gx, 4, none⟩) (Nat.zero_le _) (.int .i64 (wrap64 (x4 - 1))))
    replace HL := Aside0.mk (blk_far HL.out (p := ⟨gx, 4, none⟩) HNE.out (.int .i64 (wrap64 (x4 - 1))))
    replace HX := Aside0.mk (blk_put (cs := #[.int .i64 x0, .int .i64 x1, .int .i64 x2, .int .i64 x3, .int .i64 x4, .int .i64 x5, .int .i64 rw_, .int .i64 x7, .int .i64 x8, .int .i64 x9, .int .i64 x10, .int .i64 x11]) (cs' := #[.int .i64 x0, .int .i64 x1, .int .i64 x2, .int .i64 x3, .int .i64 (wrap64 (x4 - 1)), .int .i64 x5, .int .i64 rw_, .int .i64 x7, .int .i64 x8, .int .i64 x9, .int .i64 x10, .int .i64 x11]) HX.out 4 (.int .i64 (wrap64 (x4 - 1))) rfl)
    generalize ((w1.setCell ⟨gx, 6, none⟩ (.int .i64 rw_)).setCell ⟨gx, 4, none⟩ (.int .i64 (wrap64 (x4 - 1)))) = w2 at KP HX HL HZ ⊢
    have c0 : w2.cell? ⟨gx, 0, none⟩ = some (.int .i64 x0) := (blk_cell HX.out 0).trans rfl
    have c2 : w2.cell? ⟨gx, 2, none⟩ = some (.int .i64 x2) := (blk_cell HX.out 2).trans rfl
    have c3 : w2.cell? ⟨gx, 3, none⟩ = some (.int .i64 x3) := (blk_cell HX.out 3).trans rfl
    have c4 : w2.cell? ⟨gx, 4, none⟩ = some (.int .i64 (wrap64 (x4 - 1))) := (blk_cell HX.out 4).trans rfl
    have c5 : w2.cell? ⟨gx, 5, none⟩ = some (.int .i64 x5) := (blk_cell HX.out 5).trans rfl
    have c6 : w2.cell? ⟨gx, 6, none⟩ = some (.int .i64 rw_) := (blk_cell HX.out 6).trans rfl
    have d0 : w2.cell? ⟨gl, 0, none⟩ = some (.int .i64 l0) := (blk_cell HL.out 0).trans rfl
    have d2 : w2.cell? ⟨gl, 2, none⟩ = some (.int .i64 l2) := (blk_cell HL.out 2).trans rfl
    have d3 : w2.cell? ⟨gl, 3, none⟩ = some (.int .i64 l3) := (blk_cell HL.out 3).trans rfl
    have f0 := blk_frozen HX.out 0
    have f2 := blk_frozen HX.out 2
    have f3 := blk_frozen HX.out 3
    have f4 := blk_frozen HX.out 4
    have f5 := blk_frozen HX.out 5
    have f6 := blk_frozen HX.out 6
    go_quiet (fail)
    have hb := pw_below_drewN (Below.refl w2.heap.size w2) nq
    replace KP := Aside0.mk (Kept.then_ KP.out (Kept.of_below hb (fun b => b = gx)) (fun b hb => .inl hb)); replace HX := Aside0.mk (blk_below HX.out hb); replace HL := Aside0.mk (blk_below HL.out hb); replace HZ := Aside0.mk (Below.trans HZ.out (Below.mono hb (Nat.zero_le _)))
    clear hb
    generalize w2.drewN nq = w3 at KP HX HL HZ ⊢
    clear c0 c2 c3 c4 c5 c6 d0 d2 d3 f0 f2 f3 f4 f5 f6
    go_wp2_with (fail)
    first | go_end0 | ((try simp only [Exit.inBlock, Exit.then]); refine bodyPost_ret (results_none rfl _ _ _) rfl ?_)
    obtain ⟨e0, e2, e3, e4, e5⟩ := EH.out
    exact ⟨rfl, by rw [← e0, ← e2, ← e3, ← e4, ← e5]; exact HX.out, KP.out, HZ.out⟩
 ·rw [if_neg h1] at h
  dsimp only at h
  unfold actS at h
  have g1 : decide (x4 > 0) = false := decide_eq_false h1
  have g2 : decide (0 < x4) = false := decide_eq_false h1
  clear h1
  rcases Classical.em (l0 = 4) with h1 | h1
  ·rcases Classical.em (x0 = 1) with h2 | h2
   ·rw [if_pos ⟨h1, h2⟩] at h
    have p1 : (l0 == 4) = true := beq_iff_eq.mpr h1
    have p2 : (x0 == 1) = true := beq_iff_eq.mpr h2
    clear h1 h2
    rcases Classical.em (sn = 1) with h3 | h3
    ·skip
     rw [if_pos h3] at h
     simp only [Prod.mk.injEq] at h
     have EH := Aside0.mk h
     have p3 : (sn == 1) = true := beq_iff_eq.mpr h3
     clear h3
     clear h
     go_wp2_with (fail)
     clear c0 c2 c3 c4 c5 c6 d0 d2 d3 f0 f2 f3 f4 f5 f6
     replace KP := Aside0.mk (Kept.setCell KP.out (p := ⟨gx, 6, none⟩) (.inl rfl) (.int .i64 rw_))
     replace HZ := Aside0.mk (Below.setCell HZ.out (p := ⟨gx, 6, none⟩) (Nat.zero_le _) (.int .i64 rw_))
     replace HL := Aside0.mk (blk_far HL.out (p := ⟨gx, 6, none⟩) HNE.out (.int .i64 rw_))
     replace HX := Aside0.mk (blk_put (cs := #[.int .i64 x0, .int .i64 x1, .int .i64 x2, .int .i64 x3, .int .i64 x4, .int .i64 x5, .int .i64 x6, .int .i64 x7, .int .i64 x8, .int .i64 x9, .int .i64 x10, .int .i64 x11]) (cs' := #[.int .i64 x0, .int .i64 x1, .int .i64 x2, .int .i64 x3, .int .i64 x4, .int .i64 x5, .int .i64 rw_, .int .i64 x7, .int .i64 x8, .int .i64 x9, .int .i64 x10, .int .i64 x11]) HX.out 6 (.int .i64 rw_) rfl)
     replace KP := Aside0.mk (Kept.setCell KP.out (p := ⟨gx, 0, none⟩) (.inl rfl) (.int .i64 0))
     replace HZ := Aside0.mk (Below.setCell HZ.out (p := ⟨gx, 0, none⟩) (Nat.zero_le _) (.int .i64 0))
     replace HL := Aside0.mk (blk_far HL.out (p := ⟨gx, 0, none⟩) HNE.out (.int .i64 0))
     replace HX := Aside0.mk (blk_put (cs := #[.int .i64 x0, .int .i64 x1, .int .i64 x2, .int .i64 x3, .int .i64 x4, .int .i64 x5, .int .i64 rw_, .int .i64 x7, .int .i64 x8, .int .i64 x9, .int .i64 x10, .int .i64 x11]) (cs' := #[.int .i64 0, .int .i64 x1, .int .i64 x2, .int .i64 x3, .int .i64 x4, .int .i64 x5, .int .i64 rw_, .int .i64 x7, .int .i64 x8, .int .i64 x9, .int .i64 x10, .int .i64 x11]) HX.out 0 (.int .i64 0) rfl)
     generalize ((w1.setCell ⟨gx, 6, none⟩ (.int .i64 rw_)).setCell ⟨gx, 0, none⟩ (.int .i64 0)) = w9 at KP HX HL HZ ⊢
     first | go_end0 | ((try simp only [Exit.inBlock, Exit.then]); refine bodyPost_ret (results_none rfl _ _ _) rfl ?_)
     obtain ⟨e0, e2, e3, e4, e5⟩ := EH.out
     exact ⟨rfl, by rw [← e0, ← e2, ← e3, ← e4, ← e5]; exact HX.out, KP.out, HZ.out⟩
    ·skip
     rw [if_neg h3] at h
     simp only [Prod.mk.injEq] at h
     have EH := Aside0.mk h
     have p3 : (sn == 1) = false := beq_eq_false_iff_ne.mpr h3
     clear h3
     clear h
     go_wp2_with (fail)
     clear c0 c2 c3 c4 c5 c6 d0 d2 d3 f0 f2 f3 f4 f5 f6
     replace KP := Aside0.mk (Kept.setCell KP.out (p := ⟨gx, 6, none⟩) (.inl rfl) (.int .i64 rw_))
     replace HZ := Aside0.mk (Below.setCell HZ.out (p := ⟨gx, 6, none⟩) (Nat.zero_le _) (.int .i64 rw_))
     replace HL := Aside0.mk (blk_far HL.out (p := ⟨gx, 6, none⟩) HNE.out (.int .i64 rw_))
     replace HX := Aside0.mk (blk_put (cs := #[.int .i64 x0, .int .i64 x1, .int .i64 x2, .int .i64 x3, .int .i64 x4, .int .i64 x5, .int .i64 x6, .int .i64 x7, .int .i64 x8, .int .i64 x9, .int .i64 x10, .int .i64 x11]) (cs' := #[.int .i64 x0, .int .i64 x1, .int .i64 x2, .int .i64 x3, .int .i64 x4, .int .i64 x5, .int .i64 rw_, .int .i64 x7, .int .i64 x8, .int .i64 x9, .int .i64 x10, .int .i64 x11]) HX.out 6 (.int .i64 rw_) rfl)
     generalize (w1.setCell ⟨gx, 6, none⟩ (.int .i64 rw_)) = w9 at KP HX HL HZ ⊢
     first | go_end0 | ((try simp only [Exit.inBlock, Exit.then]); refine bodyPost_ret (results_none rfl _ _ _) rfl ?_)
     obtain ⟨e0, e2, e3, e4, e5⟩ := EH.out
     exact ⟨rfl, by rw [← e0, ← e2, ← e3, ← e4, ← e5]; exact HX.out, KP.out, HZ.out⟩
   ·rw [if_neg (fun h_ => h2 h_.2)] at h
    have p1 : (l0 == 4) = true := beq_iff_eq.mpr h1
    have p2 : (x0 == 1) = false := beq_eq_false_iff_ne.mpr h2
    clear h1 h2
    rcases Classical.em (sn = x0) with h3 | h3
    ·rcases Classical.em (x2 = l3) with h4 | h4
     ·skip
      rw [if_neg (show ¬ (sn = x0 ∧ ¬ x2 = l3) from fun h_ => h_.2 h4)] at h
      simp only [Prod.mk.injEq] at h
      have EH := Aside0.mk h
      have p3 : (sn != x0) = false := bne_eq_false_iff_eq.mpr h3
      have p4 : (x2 == l3) = true := beq_iff_eq.mpr h4
      clear h3 h4
      clear h
      go_wp2_with (fail)
      clear c0 c2 c3 c4 c5 c6 d0 d2 d3 f0 f2 f3 f4 f5 f6
      replace KP := Aside0.mk (Kept.setCell KP.out (p := ⟨gx, 6, none⟩) (.inl rfl) (.int .i64 rw_))
      replace HZ := Aside0.mk (Below.setCell HZ.out (p := ⟨gx, 6, none⟩) (Nat.zero_le _) (.int .i64 rw_))
      replace HL := Aside0.mk (blk_far HL.out (p := ⟨gx, 6, none⟩) HNE.out (.int .i64 rw_))
      replace HX := Aside0.mk (blk_put (cs := #[.int .i64 x0, .int .i64 x1, .int .i64 x2, .int .i64 x3, .int .i64 x4, .int .i64 x5, .int .i64 x6, .int .i64 x7, .int .i64 x8, .int .i64 x9, .int .i64 x10, .int .i64 x11]) (cs' := #[.int .i64 x0, .int .i64 x1, .int .i64 x2, .int .i64 x3, .int .i64 x4, .int .i64 x5, .int .i64 rw_, .int .i64 x7, .int .i64 x8, .int .i64 x9, .int .i64 x10, .int .i64 x11]) HX.out 6 (.int .i64 rw_) rfl)
      generalize (w1.setCell ⟨gx, 6, none⟩ (.int .i64 rw_)) = w2 at KP HX HL HZ ⊢
      have c0 : w2.cell? ⟨gx, 0, none⟩ = some (.int .i64 x0) := (blk_cell HX.out 0).trans rfl
      have c2 : w2.cell? ⟨gx, 2, none⟩ = some (.int .i64 x2) := (blk_cell HX.out 2).trans rfl
      have c3 : w2.cell? ⟨gx, 3, none⟩ = some (.int .i64 x3) := (blk_cell HX.out 3).trans rfl
      have c4 : w2.cell? ⟨gx, 4, none⟩ = some (.int .i64 x4) := (blk_cell HX.out 4).trans rfl
      have c5 : w2.cell? ⟨gx, 5, none⟩ = some (.int .i64 x5) := (blk_cell HX.out 5).trans rfl
      have c6 : w2.cell? ⟨gx, 6, none⟩ = some (.int .i64 rw_) := (blk_cell HX.out 6).trans rfl
      have d0 : w2.cell? ⟨gl, 0, none⟩ = some (.int .i64 l0) := (blk_cell HL.out 0).trans rfl
      have d2 : w2.cell? ⟨gl, 2, none⟩ = some (.int .i64 l2) := (blk_cell HL.out 2).trans rfl
      have d3 : w2.cell? ⟨gl, 3, none⟩ = some (.int .i64 l3) := (blk_cell HL.out 3).trans rfl
      have f0 := blk_frozen HX.out 0
      have f2 := blk_frozen HX.out 2
      have f3 := blk_frozen HX.out 3
      have f4 := blk_frozen HX.out 4
      have f5 := blk_frozen HX.out 5
      have f6 := blk_frozen HX.out 6
      go_quiet (fail)
      have hb := pw_below_drewN (Below.refl w2.heap.size w2) nq
      replace KP := Aside0.mk (Kept.then_ KP.out (Kept.of_below hb (fun b => b = gx)) (fun b hb => .inl hb)); replace HX := Aside0.mk (blk_below HX.out hb); replace HL := Aside0.mk (blk_below HL.out hb); replace HZ := Aside0.mk (Below.trans HZ.out (Below.mono hb (Nat.zero_le _)))
      clear hb
      generalize w2.drewN nq = w3 at KP HX HL HZ ⊢
      clear c0 c2 c3 c4 c5 c6 d0 d2 d3 f0 f2 f3 f4 f5 f6
      go_wp2_with (fail)
      first | go_end0 | ((try simp only [Exit.inBlock, Exit.then]); refine bodyPost_ret (results_none rfl _ _ _) rfl ?_)
      obtain ⟨e0, e2, e3, e4, e5⟩ := EH.out
      exact ⟨rfl, by rw [← e0, ← e2, ← e3, ← e4, ← e5]; exact HX.out, KP.out, HZ.out⟩
     ·rw [if_pos (show sn = x0 ∧ ¬ x2 = l3 from ⟨h3, h4⟩)] at h
      rcases Classical.em (l2 = 0) with h5 | h5
      ·skip
       rw [if_pos h5] at h
       simp only [Prod.mk.injEq] at h
       have EH := Aside0.mk h
       have p3 : (sn != x0) = false := bne_eq_false_iff_eq.mpr h3
       have p4 : (x2 == l3) = false := beq_eq_false_iff_ne.mpr h4
       have p5 : (l2 == 0) = true := beq_iff_eq.mpr h5
       clear h3 h4 h5
       clear h
       go_wp2_with (fail)
       clear c0 c2 c3 c4 c5 c6 d0 d2 d3 f0 f2 f3 f4 f5 f6
       replace KP := Aside0.mk (Kept.setCell KP.out (p := ⟨gx, 6, none⟩) (.inl rfl) (.int .i64 rw_))
       replace HZ := Aside0.mk (Below.setCell HZ.out (p := ⟨gx, 6, none⟩) (Nat.zero_le _) (.int .i64 rw_))
       replace HL := Aside0.mk (blk_far HL.out (p := ⟨gx, 6, none⟩) HNE.out (.int .i64 rw_))
       replace HX := Aside0.mk (blk_put (cs := #[.int .i64 x0, .int .i64 x1, .int .i64 x2, .int .i64 x3, .int .i64 x4, .int .i64 x5, .int .i64 x6, .int .i64 x7, .int .i64 x8, .int .i64 x9, .int .i64 x10, .int .i64 x11]) (cs' := #[.int .i64 x0, .int .i64 x1, .int .i64 x2, .int .i64 x3, .int .i64 x4, .int .i64 x5, .int .i64 rw_, .int .i64 x7, .int .i64 x8, .int .i64 x9, .int .i64 x10, .int .i64 x11]) HX.out 6 (.int .i64 rw_) rfl)
       generalize (w1.setCell ⟨gx, 6, none⟩ (.int .i64 rw_)) = w2 at KP HX HL HZ ⊢
       have c0 : w2.cell? ⟨gx, 0, none⟩ = some (.int .i64 x0) := (blk_cell HX.out 0).trans rfl
       have c2 : w2.cell? ⟨gx, 2, none⟩ = some (.int .i64 x2) := (blk_cell HX.out 2).trans rfl
       have c3 : w2.cell? ⟨gx, 3, none⟩ = some (.int .i64 x3) := (blk_cell HX.out 3).trans rfl
       have c4 : w2.cell? ⟨gx, 4, none⟩ = some (.int .i64 x4) := (blk_cell HX.out 4).trans rfl
       have c5 : w2.cell? ⟨gx, 5, none⟩ = some (.int .i64 x5) := (blk_cell HX.out 5).trans rfl
       have c6 : w2.cell? ⟨gx, 6, none⟩ = some (.int .i64 rw_) := (blk_cell HX.out 6).trans rfl
       have d0 : w2.cell? ⟨gl, 0, none⟩ = some (.int .i64 l0) := (blk_cell HL.out 0).trans rfl
       have d2 : w2.cell? ⟨gl, 2, none⟩ = some (.int .i64 l2) := (blk_cell HL.out 2).trans rfl
       have d3 : w2.cell? ⟨gl, 3, none⟩ = some (.int .i64 l3) := (blk_cell HL.out 3).trans rfl
       have f0 := blk_frozen HX.out 0
       have f2 := blk_frozen HX.out 2
       have f3 := blk_frozen HX.out 3
       have f4 := blk_frozen HX.out 4
       have f5 := blk_frozen HX.out 5
       have f6 := blk_frozen HX.out 6
       go_quiet (fail)
       have hb := pw_below_drewN (Below.refl w2.heap.size w2) nq
       replace KP := Aside0.mk (Kept.then_ KP.out (Kept.of_below hb (fun b => b = gx)) (fun b hb => .inl hb)); replace HX := Aside0.mk (blk_below HX.out hb); replace HL := Aside0.mk (blk_below HL.out hb); replace HZ := Aside0.mk (Below.trans HZ.out (Below.mono hb (Nat.zero_le _)))
       clear hb
       generalize w2.drewN nq = w3 at KP HX HL HZ ⊢
       clear c0 c2 c3 c4 c5 c6 d0 d2 d3 f0 f2 f3 f4 f5 f6
       have c0 : w3.cell? ⟨gx, 0, none⟩ = some (.int .i64 x0) := (blk_cell HX.out 0).trans rfl
       have c2 : w3.cell? ⟨gx, 2, none⟩ = some (.int .i64 x2) := (blk_cell HX.out 2).trans rfl
       have c3 : w3.cell? ⟨gx, 3, none⟩ = some (.int .i64 x3) := (blk_cell HX.out 3).trans rfl
       have c4 : w3.cell? ⟨gx, 4, none⟩ = some (.int .i64 x4) := (blk_cell HX.out 4).trans rfl
       have c5 : w3.cell? ⟨gx, 5, none⟩ = some (.int .i64 x5) := (blk_cell HX.out 5).trans rfl
       have c6 : w3.cell? ⟨gx, 6, none⟩ = some (.int .i64 rw_) := (blk_cell HX.out 6).trans rfl
       have d0 : w3.cell? ⟨gl, 0, none⟩ = some (.int .i64 l0) := (blk_cell HL.out 0).trans rfl
       have d2 : w3.cell? ⟨gl, 2, none⟩ = some (.int .i64 l2) := (blk_cell HL.out 2).trans rfl
       have d3 : w3.cell? ⟨gl, 3, none⟩ = some (.int .i64 l3) := (blk_cell HL.out 3).trans rfl
       have f0 := blk_frozen HX.out 0
       have f2 := blk_frozen HX.out 2
       have f3 := blk_frozen HX.out 3
       have f4 := blk_frozen HX.out 4
       have f5 := blk_frozen HX.out 5
       have f6 := blk_frozen HX.out 6
       go_wp2_with (fail)
       clear c0 c2 c3 c4 c5 c6 d0 d2 d3 f0 f2 f3 f4 f5 f6
       replace KP := Aside0.mk (Kept.setCell KP.out (p := ⟨gx, 0, none⟩) (.inl rfl) (.int .i64 (wrap64 (1 - x0))))
       replace HZ := Aside0.mk (Below.setCell HZ.out (p := ⟨gx, 0, none⟩) (Nat.zero_le _) (.int .i64 (wrap64 (1 - x0))))
       replace HL := Aside0.mk (blk_far HL.out (p := ⟨gx, 0, none⟩) HNE.out (.int .i64 (wrap64 (1 - x0))))
       replace HX := Aside0.mk (blk_put (cs := #[.int .i64 x0, .int .i64 x1, .int .i64 x2, .int .i64 x3, .int .i64 x4, .int .i64 x5, .int .i64 rw_, .int .i64 x7, .int .i64 x8, .int .i64 x9, .int .i64 x10, .int .i64 x11]) (cs' := #[.int .i64 (wrap64 (1 - x0)), .int .i64 x1, .int .i64 x2, .int .i64 x3, .int .i64 x4, .int .i64 x5, .int .i64 rw_, .int .i64 x7, .int .i64 x8, .int .i64 x9, .int .i64 x10, .int .i64 x11]) HX.out 0 (.int .i64 (wrap64 (1 - x0))) rfl)
       replace KP := Aside0.mk (Kept.setCell KP.out (p := ⟨gx, 3, none⟩) (.inl rfl) (.int .i64 x2))
       replace HZ := Aside0.mk (Below.setCell HZ.out (p := ⟨gx, 3, none⟩) (Nat.zero_le _) (.int .i64 x2))
       replace HL := Aside0.mk (blk_far HL.out (p := ⟨gx, 3, none⟩) HNE.out (.int .i64 x2))
       replace HX := Aside0.mk (blk_put (cs := #[.int .i64 (wrap64 (1 - x0)), .int .i64 x1, .int .i64 x2, .int .i64 x3, .int .i64 x4, .int .i64 x5, .int .i64 rw_, .int .i64 x7, .int .i64 x8, .int .i64 x9, .int .i64 x10, .int .i64 x11]) (cs' := #[.int .i64 (wrap64 (1 - x0)), .int .i64 x1, .int .i64 x2, .int .i64 x2, .int .i64 x4, .int .i64 x5, .int .i64 rw_, .int .i64 x7, .int .i64 x8, .int .i64 x9, .int .i64 x10, .int .i64 x11]) HX.out 3 (.int .i64 x2) rfl)
       replace KP := Aside0.mk (Kept.setCell KP.out (p := ⟨gx, 2, none⟩) (.inl rfl) (.int .i64 (wrap64 (x2 + 1))))
       replace HZ := Aside0.mk (Below.setCell HZ.out (p := ⟨gx, 2, none⟩) (Nat.zero_le _) (.int .i64 (wrap64 (x2 + 1))))
       replace HL := Aside0.mk (blk_far HL.out (p := ⟨gx, 2, none⟩) HNE.out (.int .i64 (wrap64 (x2 + 1))))
       replace HX := Aside0.mk (blk_put (cs := #[.int .i64 (wrap64 (1 - x0)), .int .i64 x1, .int .i64 x2, .int .i64 x2, .int .i64 x4, .int .i64 x5, .int .i64 rw_, .int .i64 x7, .int .i64 x8, .int .i64 x9, .int .i64 x10, .int .i64 x11]) (cs' := #[.int .i64 (wrap64 (1 - x0)), .int .i64 x1, .int .i64 (wrap64 (x2 + 1)), .int .i64 x2, .int .i64 x4, .int .i64 x5, .int .i64 rw_, .int .i64 x7, .int .i64 x8, .int .i64 x9, .int .i64 x10, .int .i64 x11]) HX.out 2 (.int .i64 (wrap64 (x2 + 1))) rfl)
       generalize (((w3.setCell ⟨gx, 0, none⟩ (.int .i64 (wrap64 (1 - x0)))).setCell ⟨gx, 3, none⟩ (.int .i64 x2)).setCell ⟨gx, 2, none⟩ (.int .i64 (wrap64 (x2 + 1)))) = w9 at KP HX HL HZ ⊢
       first | go_end0 | ((try simp only [Exit.inBlock, Exit.then]); refine bodyPost_ret (results_none rfl _ _ _) rfl ?_)
       obtain ⟨e0, e2, e3, e4, e5⟩ := EH.out
       exact ⟨rfl, by rw [← e0, ← e2, ← e3, ← e4, ← e5]; exact HX.out, KP.out, HZ.out⟩
      ·skip
       rw [if_neg h5] at h
       simp only [Prod.mk.injEq] at h
       have EH := Aside0.mk h
       have p3 : (sn != x0) = false := bne_eq_false_iff_eq.mpr h3
       have p4 : (x2 == l3) = false := beq_eq_false_iff_ne.mpr h4
       have p5 : (l2 == 0) = false := beq_eq_false_iff_ne.mpr h5
       clear h3 h4 h5
       clear h
       go_wp2_with (fail)
       clear c0 c2 c3 c4 c5 c6 d0 d2 d3 f0 f2 f3 f4 f5 f6
       replace KP := Aside0.mk (Kept.setCell KP.out (p := ⟨gx, 6, none⟩) (.inl rfl) (.int .i64 rw_))
       replace HZ := Aside0.mk (Below.setCell HZ.out (p := ⟨gx, 6, none⟩) (Nat.zero_le _) (.int .i64 rw_))
       replace HL := Aside0.mk (blk_far HL.out (p := ⟨gx, 6, none⟩) HNE.out (.int .i64 rw_))
       replace HX := Aside0.mk (blk_put (cs := #[.int .i64 x0, .int .i64 x1, .int .i64 x2, .int .i64 x3, .int .i64 x4, .int .i64 x5, .int .i64 x6, .int .i64 x7, .int .i64 x8, .int .i64 x9, .int .i64 x10, .int .i64 x11]) (cs' := #[.int .i64 x0, .int .i64 x1, .int .i64 x2, .int .i64 x3, .int .i64 x4, .int .i64 x5, .int .i64 rw_, .int .i64 x7, .int .i64 x8, .int .i64 x9, .int .i64 x10, .int .i64 x11]) HX.out 6 (.int .i64 rw_) rfl)
       generalize (w1.setCell ⟨gx, 6, none⟩ (.int .i64 rw_)) = w2 at KP HX HL HZ ⊢
       have c0 : w2.cell? ⟨gx, 0, none⟩ = some (.int .i64 x0) := (blk_cell HX.out 0).trans rfl
       have c2 : w2.cell? ⟨gx, 2, none⟩ = some (.int .i64 x2) := (blk_cell HX.out 2).trans rfl
       have c3 : w2.cell? ⟨gx, 3, none⟩ = some (.int .i64 x3) := (blk_cell HX.out 3).trans rfl
       have c4 : w2.cell? ⟨gx, 4, none⟩ = some (.int .i64 x4) := (blk_cell HX.out 4).trans rfl
       have c5 : w2.cell? ⟨gx, 5, none⟩ = some (.int .i64 x5) := (blk_cell HX.out 5).trans rfl
       have c6 : w2.cell? ⟨gx, 6, none⟩ = some (.int .i64 rw_) := (blk_cell HX.out 6).trans rfl
       have d0 : w2.cell? ⟨gl, 0, none⟩ = some (.int .i64 l0) := (blk_cell HL.out 0).trans rfl
       have d2 : w2.cell? ⟨gl, 2, none⟩ = some (.int .i64 l2) := (blk_cell HL.out 2).trans rfl
       have d3 : w2.cell? ⟨gl, 3, none⟩ = some (.int .i64 l3) := (blk_cell HL.out 3).trans rfl
       have f0 := blk_frozen HX.out 0
       have f2 := blk_frozen HX.out 2
       have f3 := blk_frozen HX.out 3
       have f4 := blk_frozen HX.out 4
       have f5 := blk_frozen HX.out 5
       have f6 := blk_frozen HX.out 6
       go_quiet (fail)
       have hb := pw_below_drewN (Below.refl w2.heap.size w2) nq
       replace KP := Aside0.mk (Kept.then_ KP.out (Kept.of_below hb (fun b => b = gx)) (fun b hb => .inl hb)); replace HX := Aside0.mk (blk_below HX.out hb); replace HL := Aside0.mk (blk_below HL.out hb); replace HZ := Aside0.mk (Below.trans HZ.out (Below.mono hb (Nat.zero_le _)))
       clear hb
       generalize w2.drewN nq = w3 at KP HX HL HZ ⊢
       clear c0 c2 c3 c4 c5 c6 d0 d2 d3 f0 f2 f3 f4 f5 f6
       have c0 : w3.cell? ⟨gx, 0, none⟩ = some (.int .i64 x0) := (blk_cell HX.out 0).trans rfl
       have c2 : w3.cell? ⟨gx, 2, none⟩ = some (.int .i64 x2) := (blk_cell HX.out 2).trans rfl
       have c3 : w3.cell? ⟨gx, 3, none⟩ = some (.int .i64 x3) := (blk_cell HX.out 3).trans rfl
       have c4 : w3.cell? ⟨gx, 4, none⟩ = some (.int .i64 x4) := (blk_cell HX.out 4).trans rfl
       have c5 : w3.cell? ⟨gx, 5, none⟩ = some (.int .i64 x5) := (blk_cell HX.out 5).trans rfl
       have c6 : w3.cell? ⟨gx, 6, none⟩ = some (.int .i64 rw_) := (blk_cell HX.out 6).trans rfl
       have d0 : w3.cell? ⟨gl, 0, none⟩ = some (.int .i64 l0) := (blk_cell HL.out 0).trans rfl
       have d2 : w3.cell? ⟨gl, 2, none⟩ = some (.int .i64 l2) := (blk_cell HL.out 2).trans rfl
       have d3 : w3.cell? ⟨gl, 3, none⟩ = some (.int .i64 l3) := (blk_cell HL.out 3).trans rfl
       have f0 := blk_frozen HX.out 0
       have f2 := blk_frozen HX.out 2
       have f3 := blk_frozen HX.out 3
       have f4 := blk_frozen HX.out 4
       have f5 := blk_frozen HX.out 5
       have f6 := blk_frozen HX.out 6
       go_wp2_with (fail)
       clear c0 c2 c3 c4 c5 c6 d0 d2 d3 f0 f2 f3 f4 f5 f6
       replace KP := Aside0.mk (Kept.setCell KP.out (p := ⟨gx, 0, none⟩) (.inl rfl) (.int .i64 (wrap64 (1 - x0))))
       replace HZ := Aside0.mk (Below.setCell HZ.out (p := ⟨gx, 0, none⟩) (Nat.zero_le _) (.int .i64 (wrap64 (1 - x0))))
       replace HL := Aside0.mk (blk_far HL.out (p := ⟨gx, 0, none⟩) HNE.out (.int .i64 (wrap64 (1 - x0))))
       replace HX := Aside0.mk (blk_put (cs := #[.int .i64 x0, .int .i64 x1, .int .i64 x2, .int .i64 x3, .int .i64 x4, .int .i64 x5, .int .i64 rw_, .int .i64 x7, .int .i64 x8, .int .i64 x9, .int .i64 x10, .int .i64 x11]) (cs' := #[.int .i64 (wrap64 (1 - x0)), .int .i64 x1, .int .i64 x2, .int .i64 x3, .int .i64 x4, .int .i64 x5, .int .i64 rw_, .int .i64 x7, .int .i64 x8, .int .i64 x9, .int .i64 x10, .int .i64 x11]) HX.out 0 (.int .i64 (wrap64 (1 - x0))) rfl)
       replace KP := Aside0.mk (Kept.setCell KP.out (p := ⟨gx, 4, none⟩) (.inl rfl) (.int .i64 l2))
       replace HZ := Aside0.mk (Below.setCell HZ.out (p := ⟨gx, 4, none⟩) (Nat.zero_le _) (.int .i64 l2))
       replace HL := Aside0.mk (blk_far HL.out (p := ⟨gx, 4, none⟩) HNE.out (.int .i64 l2))
       replace HX := Aside0.mk (blk_put (cs := #[.int .i64 (wrap64 (1 - x0)), .int .i64 x1, .int .i64 x2, .int .i64 x3, .int .i64 x4, .int .i64 x5, .int .i64 rw_, .int .i64 x7, .int .i64 x8, .int .i64 x9, .int .i64 x10, .int .i64 x11]) (cs' := #[.int .i64 (wrap64 (1 - x0)), .int .i64 x1, .int .i64 x2, .int .i64 x3, .int .i64 l2, .int .i64 x5, .int .i64 rw_, .int .i64 x7, .int .i64 x8, .int .i64 x9, .int .i64 x10, .int .i64 x11]) HX.out 4 (.int .i64 l2) rfl)
       replace KP := Aside0.mk (Kept.setCell KP.out (p := ⟨gx, 5, none⟩) (.inl rfl) (.int .i64 x2))
       replace HZ := Aside0.mk (Below.setCell HZ.out (p := ⟨gx, 5, none⟩) (Nat.zero_le _) (.int .i64 x2))
       replace HL := Aside0.mk (blk_far HL.out (p := ⟨gx, 5, none⟩) HNE.out (.int .i64 x2))
       replace HX := Aside0.mk (blk_put (cs := #[.int .i64 (wrap64 (1 - x0)), .int .i64 x1, .int .i64 x2, .int .i64 x3, .int .i64 l2, .int .i64 x5, .int .i64 rw_, .int .i64 x7, .int .i64 x8, .int .i64 x9, .int .i64 x10, .int .i64 x11]) (cs' := #[.int .i64 (wrap64 (1 - x0)), .int .i64 x1, .int .i64 x2, .int .i64 x3, .int .i64 l2, .int .i64 x2, .int .i64 rw_, .int .i64 x7, .int .i64 x8, .int .i64 x9, .int .i64 x10, .int .i64 x11]) HX.out 5 (.int .i64 x2) rfl)
       replace KP := Aside0.mk (Kept.setCell KP.out (p := ⟨gx, 2, none⟩) (.inl rfl) (.int .i64 (wrap64 (x2 + 1))))
       replace HZ := Aside0.mk (Below.setCell HZ.out (p := ⟨gx, 2, none⟩) (Nat.zero_le _) (.int .i64 (wrap64 (x2 + 1))))
       replace HL := Aside0.mk (blk_far HL.out (p := ⟨gx, 2, none⟩) HNE.out (.int .i64 (wrap64 (x2 + 1))))
       replace HX := Aside0.mk (blk_put (cs := #[.int .i64 (wrap64 (1 - x0)), .int .i64 x1, .int .i64 x2, .int .i64 x3, .int .i64 l2, .int .i64 x2, .int .i64 rw_, .int .i64 x7, .int .i64 x8, .int .i64 x9, .int .i64 x10, .int .i64 x11]) (cs' := #[.int .i64 (wrap64 (1 - x0)), .int .i64 x1, .int .i64 (wrap64 (x2 + 1)), .int .i64 x3, .int .i64 l2, .int .i64 x2, .int .i64 rw_, .int .i64 x7, .int .i64 x8, .int .i64 x9, .int .i64 x10, .int .i64 x11]) HX.out 2 (.int .i64 (wrap64 (x2 + 1))) rfl)
       generalize ((((w3.setCell ⟨gx, 0, none⟩ (.int .i64 (wrap64 (1 - x0)))).setCell ⟨gx, 4, none⟩ (.int .i64 l2)).setCell ⟨gx, 5, none⟩ (.int .i64 x2)).setCell ⟨gx, 2, none⟩ (.int .i64 (wrap64 (x2 + 1)))) = w9 at KP HX HL HZ ⊢
       first | go_end0 | ((try simp only [Exit.inBlock, Exit.then]); refine bodyPost_ret (results_none rfl _ _ _) rfl ?_)
       obtain ⟨e0, e2, e3, e4, e5⟩ := EH.out
       exact ⟨rfl, by rw [← e0, ← e2, ← e3, ← e4, ← e5]; exact HX.out, KP.out, HZ.out⟩
    ·skip
     rw [if_neg (show ¬ (sn = x0 ∧ ¬ x2 = l3) from fun h_ => h3 h_.1)] at h
     simp only [Prod.mk.injEq] at h
     have EH := Aside0.mk h
     have p3 : (sn != x0) = true := bne_iff_ne.mpr h3
     clear h3
     clear h
     go_wp2_with (fail)
     clear c0 c2 c3 c4 c5 c6 d0 d2 d3 f0 f2 f3 f4 f5 f6
     replace KP := Aside0.mk (Kept.setCell KP.out (p := ⟨gx, 6, none⟩) (.inl rfl) (.int .i64 rw_))
     replace HZ := Aside0.mk (Below.setCell HZ.out (p := ⟨gx, 6, none⟩) (Nat.zero_le _) (.int .i64 rw_))
     replace HL := Aside0.mk (blk_far HL.out (p := ⟨gx, 6, none⟩) HNE.out (.int .i64 rw_))
     replace HX := Aside0.mk (blk_put (cs := #[.int .i64 x0, .int .i64 x1, .int .i64 x2, .int .i64 x3, .int .i64 x4, .int .i64 x5, .int .i64 x6, .int .i64 x7, .int .i64 x8, .int .i64 x9, .int .i64 x10, .int .i64 x11]) (cs' := #[.int .i64 x0, .int .i64 x1, .int .i64 x2, .int .i64 x3, .int .i64 x4, .int .i64 x5, .int .i64 rw_, .int .i64 x7, .int .i64 x8, .int .i64 x9, .int .i64 x10, .int .i64 x11]) HX.out 6 (.int .i64 rw_) rfl)
     generalize (w1.setCell ⟨gx, 6, none⟩ (.int .i64 rw_)) = w2 at KP HX HL HZ ⊢
     have c0 : w2.cell? ⟨gx, 0, none⟩ = some (.int .i64 x0) := (blk_cell HX.out 0).trans rfl
     have c2 : w2.cell? ⟨gx, 2, none⟩ = some (.int .i64 x2) := (blk_cell HX.out 2).trans rfl
     have c3 : w2.cell? ⟨gx, 3, none⟩ = some (.int .i64 x3) := (blk_cell HX.out 3).trans rfl
     have c4 : w2.cell? ⟨gx, 4, none⟩ = some (.int .i64 x4) := (blk_cell HX.out 4).trans rfl
     have c5 : w2.cell? ⟨gx, 5, none⟩ = some (.int .i64 x5) := (blk_cell HX.out 5).trans rfl
     have c6 : w2.cell? ⟨gx, 6, none⟩ = some (.int .i64 rw_) := (blk_cell HX.out 6).trans rfl
     have d0 : w2.cell? ⟨gl, 0, none⟩ = some (.int .i64 l0) := (blk_cell HL.out 0).trans rfl
     have d2 : w2.cell? ⟨gl, 2, none⟩ = some (.int .i64 l2) := (blk_cell HL.out 2).trans rfl
     have d3 : w2.cell? ⟨gl, 3, none⟩ = some (.int .i64 l3) := (blk_cell HL.out 3).trans rfl
     have f0 := blk_frozen HX.out 0
     have f2 := blk_frozen HX.out 2
     have f3 := blk_frozen HX.out 3
     have f4 := blk_frozen HX.out 4
     have f5 := blk_frozen HX.out 5
     have f6 := blk_frozen HX.out 6
     go_quiet (fail)
     have hb := pw_below_drewN (Below.refl w2.heap.size w2) nq
     replace KP := Aside0.mk (Kept.then_ KP.out (Kept.of_below hb (fun b => b = gx)) (fun b hb => .inl hb)); replace HX := Aside0.mk (blk_below HX.out hb); replace HL := Aside0.mk (blk_below HL.out hb); replace HZ := Aside0.mk (Below.trans HZ.out (Below.mono hb (Nat.zero_le _)))
     clear hb
     generalize w2.drewN nq = w3 at KP HX HL HZ ⊢
     clear c0 c2 c3 c4 c5 c6 d0 d2 d3 f0 f2 f3 f4 f5 f6
     go_wp2_with (fail)
     first | go_end0 | ((try simp only [Exit.inBlock, Exit.then]); refine bodyPost_ret (results_none rfl _ _ _) rfl ?_)
     obtain ⟨e0, e2, e3, e4, e5⟩ := EH.out
     exact ⟨rfl, by rw [← e0, ← e2, ← e3, ← e4, ← e5]; exact HX.out, KP.out, HZ.out⟩
  ·rw [if_neg (fun h_ => h1 h_.1)] at h
   have p1 : (l0 == 4) = false := beq_eq_false_iff_ne.mpr h1
   clear h1
   rcases Classical.em (sn = x0) with h3 | h3
   ·rcases Classical.em (x2 = l3) with h4 | h4
    ·skip
     rw [if_neg (show ¬ (sn = x0 ∧ ¬ x2 = l3) from fun h_ => h_.2 h4)] at h
     simp only [Prod.mk.injEq] at h
     have EH := Aside0.mk h
     have p3 : (sn != x0) = false := bne_eq_false_iff_eq.mpr h3
     have p4 : (x2 == l3) = true := beq_iff_eq.mpr h4
     clear h3 h4
     clear h
     go_wp2_with (fail)
     clear c0 c2 c3 c4 c5 c6 d0 d2 d3 f0 f2 f3 f4 f5 f6
     replace KP := Aside0.mk (Kept.setCell KP.out (p := ⟨gx, 6, none⟩) (.inl rfl) (.int .i64 rw_))
     replace HZ := Aside0.mk (Below.setCell HZ.out (p := ⟨gx, 6, none⟩) (Nat.zero_le _) (.int .i64 rw_))
     replace HL := Aside0.mk (blk_far HL.out (p := ⟨gx, 6, none⟩) HNE.out (.int .i64 rw_))
     replace HX := Aside0.mk (blk_put (cs := #[.int .i64 x0, .int .i64 x1, .int .i64 x2, .int .i64 x3, .int .i64 x4, .int .i64 x5, .int .i64 x6, .int .i64 x7, .int .i64 x8, .int .i64 x9, .int .i64 x10, .int .i64 x11]) (cs' := #[.int .i64 x0, .int .i64 x1, .int .i64 x2, .int .i64 x3, .int .i64 x4, .int .i64 x5, .int .i64 rw_, .int .i64 x7, .int .i64 x8, .int .i64 x9, .int .i64 x10, .int .i64 x11]) HX.out 6 (.int .i64 rw_) rfl)
     generalize (w1.setCell ⟨gx, 6, none⟩ (.int .i64 rw_)) = w2 at KP HX HL HZ ⊢
     have c0 : w2.cell? ⟨gx, 0, none⟩ = some (.int .i64 x0) := (blk_cell HX.out 0).trans rfl
     have c2 : w2.cell? ⟨gx, 2, none⟩ = some (.int .i64 x2) := (blk_cell HX.out 2).trans rfl
     have c3 : w2.cell? ⟨gx, 3, none⟩ = some (.int .i64 x3) := (blk_cell HX.out 3).trans rfl
     have c4 : w2.cell? ⟨gx, 4, none⟩ = some (.int .i64 x4) := (blk_cell HX.out 4).trans rfl
     have c5 : w2.cell? ⟨gx, 5, none⟩ = some (.int .i64 x5) := (blk_cell HX.out 5).trans rfl
     have c6 : w2.cell? ⟨gx, 6, none⟩ = some (.int .i64 rw_) := (blk_cell HX.out 6).trans rfl
     have d0 : w2.cell? ⟨gl, 0, none⟩ = some (.int .i64 l0) := (blk_cell HL.out 0).trans rfl
     have d2 : w2.cell? ⟨gl, 2, none⟩ = some (.int .i64 l2) := (blk_cell HL.out 2).trans rfl
     have d3 : w2.cell? ⟨gl, 3, none⟩ = some (.int .i64 l3) := (blk_cell HL.out 3).trans rfl
     have f0 := blk_frozen HX.out 0
     have f2 := blk_frozen HX.out 2
     have f3 := blk_frozen HX.out 3
     have f4 := blk_frozen HX.out 4
     have f5 := blk_frozen HX.out 5
     have f6 := blk_frozen HX.out 6
     go_quiet (fail)
     have hb := pw_below_drewN (Below.refl w2.heap.size w2) nq
     replace KP := Aside0.mk (Kept.then_ KP.out (Kept.of_below hb (fun b => b = gx)) (fun b hb => .inl hb)); replace HX := Aside0.mk (blk_below HX.out hb); replace HL := Aside0.mk (blk_below HL.out hb); replace HZ := Aside0.mk (Below.trans HZ.out (Below.mono hb (Nat.zero_le _)))
     clear hb
     generalize w2.drewN nq = w3 at KP HX HL HZ ⊢
     clear c0 c2 c3 c4 c5 c6 d0 d2 d3 f0 f2 f3 f4 f5 f6
     go_wp2_with (fail)
     first | go_end0 | ((try simp only [Exit.inBlock, Exit.then]); refine bodyPost_ret (results_none rfl _ _ _) rfl ?_)
     obtain ⟨e0, e2, e3, e4, e5⟩ := EH.out
     exact ⟨rfl, by rw [← e0, ← e2, ← e3, ← e4, ← e5]; exact HX.out, KP.out, HZ.out⟩
    ·rw [if_pos (show sn = x0 ∧ ¬ x2 = l3 from ⟨h3, h4⟩)] at h
     rcases Classical.em (l2 = 0) with h5 | h5
     ·skip
      rw [if_pos h5] at h
      simp only [Prod.mk.injEq] at h
      have EH := Aside0.mk h
      have p3 : (sn != x0) = false := bne_eq_false_iff_eq.mpr h3
      have p4 : (x2 == l3) = false := beq_eq_false_iff_ne.mpr h4
      have p5 : (l2 == 0) = true := beq_iff_eq.mpr h5
      clear h3 h4 h5
      clear h
      go_wp2_with (fail)
      clear c0 c2 c3 c4 c5 c6 d0 d2 d3 f0 f2 f3 f4 f5 f6
      replace KP := Aside0.mk (Kept.setCell KP.out (p := ⟨gx, 6, none⟩) (.inl rfl) (.int .i64 rw_))
      replace HZ := Aside0.mk (Below.setCell HZ.out (p := ⟨gx, 6, none⟩) (Nat.zero_le _) (.int .i64 rw_))
      replace HL := Aside0.mk (blk_far HL.out (p := ⟨gx, 6, none⟩) HNE.out (.int .i64 rw_))
      replace HX := Aside0.mk (blk_put (cs := #[.int .i64 x0, .int .i64 x1, .int .i64 x2, .int .i64 x3, .int .i64 x4, .int .i64 x5, .int .i64 x6, .int .i64 x7, .int .i64 x8, .int .i64 x9, .int .i64 x10, .int .i64 x11]) (cs' := #[.int .i64 x0, .int .i64 x1, .int .i64 x2, .int .i64 x3, .int .i64 x4, .int .i64 x5, .int .i64 rw_, .int .i64 x7, .int .i64 x8, .int .i64 x9, .int .i64 x10, .int .i64 x11]) HX.out 6 (.int .i64 rw_) rfl)
      generalize (w1.setCell ⟨gx, 6, none⟩ (.int .i64 rw_)) = w2 at KP HX HL HZ ⊢
      have c0 : w2.cell? ⟨gx, 0, none⟩ = some (.int .i64 x0) := (blk_cell HX.out 0).trans rfl
      have c2 : w2.cell? ⟨gx, 2, none⟩ = some (.int .i64 x2) := (blk_cell HX.out 2).trans rfl
      have c3 : w2.cell? ⟨gx, 3, none⟩ = some (.int .i64 x3) := (blk_cell HX.out 3).trans rfl
      have c4 : w2.cell? ⟨gx, 4, none⟩ = some (.int .i64 x4) := (blk_cell HX.out 4).trans rfl
      have c5 : w2.cell? ⟨gx, 5, none⟩ = some (.int .i64 x5) := (blk_cell HX.out 5).trans rfl
      have c6 : w2.cell? ⟨gx, 6, none⟩ = some (.int .i64 rw_) := (blk_cell HX.out 6).trans rfl
      have d0 : w2.cell? ⟨gl, 0, none⟩ = some (.int .i64 l0) := (blk_cell HL.out 0).trans rfl
      have d2 : w2.cell? ⟨gl, 2, none⟩ = some (.int .i64 l2) := (blk_cell HL.out 2).trans rfl
      have d3 : w2.cell? ⟨gl, 3, none⟩ = some (.int .i64 l3) := (blk_cell HL.out 3).trans rfl
      have f0 := blk_frozen HX.out 0
      have f2 := blk_frozen HX.out 2
      have f3 := blk_frozen HX.out 3
      have f4 := blk_frozen HX.out 4
      have f5 := blk_frozen HX.out 5
      have f6 := blk_frozen HX.out 6
      go_quiet (fail)
      have hb := pw_below_drewN (Below.refl w2.heap.size w2) nq
      replace KP := Aside0.mk (Kept.then_ KP.out (Kept.of_below hb (fun b => b = gx)) (fun b hb => .inl hb)); replace HX := Aside0.mk (blk_below HX.out hb); replace HL := Aside0.mk (blk_below HL.out hb); replace HZ := Aside0.mk (Below.trans HZ.out (Below.mono hb (Nat.zero_le _)))
      clear hb
      generalize w2.drewN nq = w3 at KP HX HL HZ ⊢
      clear c0 c2 c3 c4 c5 c6 d0 d2 d3 f0 f2 f3 f4 f5 f6
      have c0 : w3.cell? ⟨gx, 0, none⟩ = some (.int .i64 x0) := (blk_cell HX.out 0).trans rfl
      have c2 : w3.cell? ⟨gx, 2, none⟩ = some (.int .i64 x2) := (blk_cell HX.out 2).trans rfl
      have c3 : w3.cell? ⟨gx, 3, none⟩ = some (.int .i64 x3) := (blk_cell HX.out 3).trans rfl
      have c4 : w3.cell? ⟨gx, 4, none⟩ = some (.int .i64 x4) := (blk_cell HX.out 4).trans rfl
      have c5 : w3.cell? ⟨gx, 5, none⟩ = some (.int .i64 x5) := (blk_cell HX.out 5).trans rfl
      have c6 : w3.cell? ⟨gx, 6, none⟩ = some (.int .i64 rw_) := (blk_cell HX.out 6).trans rfl
      have d0 : w3.cell? ⟨gl, 0, none⟩ = some (.int .i64 l0) := (blk_cell HL.out 0).trans rfl
      have d2 : w3.cell? ⟨gl, 2, none⟩ = some (.int .i64 l2) := (blk_cell HL.out 2).trans rfl
      have d3 : w3.cell? ⟨gl, 3, none⟩ = some (.int .i64 l3) := (blk_cell HL.out 3).trans rfl
      have f0 := blk_frozen HX.out 0
      have f2 := blk_frozen HX.out 2
      have f3 := blk_frozen HX.out 3
      have f4 := blk_frozen HX.out 4
      have f5 := blk_frozen HX.out 5
      have f6 := blk_frozen HX.out 6
      go_wp2_with (fail)
      clear c0 c2 c3 c4 c5 c6 d0 d2 d3 f0 f2 f3 f4 f5 f6
      replace KP := Aside0.mk (Kept.setCell KP.out (p := ⟨gx, 0, none⟩) (.inl rfl) (.int .i64 (wrap64 (1 - x0))))
      replace HZ := Aside0.mk (Below.setCell HZ.out (p := ⟨gx, 0, none⟩) (Nat.zero_le _) (.int .i64 (wrap64 (1 - x0))))
      replace HL := Aside0.mk (blk_far HL.out (p := ⟨gx, 0, none⟩) HNE.out (.int .i64 (wrap64 (1 - x0))))
      replace HX := Aside0.mk (blk_put (cs := #[.int .i64 x0, .int .i64 x1, .int .i64 x2, .int .i64 x3, .int .i64 x4, .int .i64 x5, .int .i64 rw_, .int .i64 x7, .int .i64 x8, .int .i64 x9, .int .i64 x10, .int .i64 x11]) (cs' := #[.int .i64 (wrap64 (1 - x0)), .int .i64 x1, .int .i64 x2, .int .i64 x3, .int .i64 x4, .int .i64 x5, .int .i64 rw_, .int .i64 x7, .int .i64 x8, .int .i64 x9, .int .i64 x10, .int .i64 x11]) HX.out 0 (.int .i64 (wrap64 (1 - x0))) rfl)
      replace KP := Aside0.mk (Kept.setCell KP.out (p := ⟨gx, 3, none⟩) (.inl rfl) (.int .i64 x2))
      replace HZ := Aside0.mk (Below.setCell HZ.out (p := ⟨gx, 3, none⟩) (Nat.zero_le _) (.int .i64 x2))
      replace HL := Aside0.mk (blk_far HL.out (p := ⟨gx, 3, none⟩) HNE.out (.int .i64 x2))
      replace HX := Aside0.mk (blk_put (cs := #[.int .i64 (wrap64 (1 - x0)), .int .i64 x1, .int .i64 x2, .int .i64 x3, .int .i64 x4, .int .i64 x5, .int .i64 rw_, .int .i64 x7, .int .i64 x8, .int .i64 x9, .int .i64 x10, .int .i64 x11]) (cs' := #[.int .i64 (wrap64 (1 - x0)), .int .i64 x1, .int .i64 x2, .int .i64 x2, .int .i64 x4, .int .i64 x5, .int .i64 rw_, .int .i64 x7, .int .i64 x8, .int .i64 x9, .int .i64 x10, .int .i64 x11]) HX.out 3 (.int .i64 x2) rfl)
      replace KP := Aside0.mk (Kept.setCell KP.out (p := ⟨gx, 2, none⟩) (.inl rfl) (.int .i64 (wrap64 (x2 + 1))))
      replace HZ := Aside0.mk (Below.setCell HZ.out (p := ⟨gx, 2, none⟩) (Nat.zero_le _) (.int .i64 (wrap64 (x2 + 1))))
      replace HL := Aside0.mk (blk_far HL.out (p := ⟨gx, 2, none⟩) HNE.out (.int .i64 (wrap64 (x2 + 1))))
      replace HX := Aside0.mk (blk_put (cs := #[.int .i64 (wrap64 (1 - x0)), .int .i64 x1, .int .i64 x2, .int .i64 x2, .int .i64 x4, .int .i64 x5, .int .i64 rw_, .int .i64 x7, .int .i64 x8, .int .i64 x9, .int .i64 x10, .int .i64 x11]) (cs' := #[.int .i64 (wrap64 (1 - x0)), .int .i64 x1, .int .i64 (wrap64 (x2 + 1)), .int .i64 x2, .int .i64 x4, .int .i64 x5, .int .i64 rw_, .int .i64 x7, .int .i64 x8, .int .i64 x9, .int .i64 x10, .int .i64 x11]) HX.out 2 (.int .i64 (wrap64 (x2 + 1))) rfl)
      generalize (((w3.setCell ⟨gx, 0, none⟩ (.int .i64 (wrap64 (1 - x0)))).setCell ⟨gx, 3, none⟩ (.int .i64 x2)).setCell ⟨gx, 2, none⟩ (.int .i64 (wrap64 (x2 + 1)))) = w9 at KP HX HL HZ ⊢
      first | go_end0 | ((try simp only [Exit.inBlock, Exit.then]); refine bodyPost_ret (results_none rfl _ _ _) rfl ?_)
      obtain ⟨e0, e2, e3, e4, e5⟩ := EH.out
      exact ⟨rfl, by rw [← e0, ← e2, ← e3, ← e4, ← e5]; exact HX.out, KP.out, HZ.out⟩
     ·skip
      rw [if_neg h5] at h
      simp only [Prod.mk.injEq] at h
      have EH := Aside0.mk h
      have p3 : (sn != x0) = false := bne_eq_false_iff_eq.mpr h3
      have p4 : (x2 == l3) = false := beq_eq_false_iff_ne.mpr h4
      have p5 : (l2 == 0) = false := beq_eq_false_iff_ne.mpr h5
      clear h3 h4 h5
      clear h
      go_wp2_with (fail)
      clear c0 c2 c3 c4 c5 c6 d0 d2 d3 f0 f2 f3 f4 f5 f6
      replace KP := Aside0.mk (Kept.setCell KP.out (p := ⟨gx, 6, none⟩) (.inl rfl) (.int .i64 rw_))
      replace HZ := Aside0.mk (Below.setCell HZ.out (p := ⟨gx, 6, none⟩) (Nat.zero_le _) (.int .i64 rw_))
      replace HL := Aside0.mk (blk_far HL.out (p := ⟨gx, 6, none⟩) HNE.out (.int .i64 rw_))
      replace HX := Aside0.mk (blk_put (cs := #[.int .i64 x0, .int .i64 x1, .int .i64 x2, .int .i64 x3, .int .i64 x4, .int .i64 x5, .int .i64 x6, .int .i64 x7, .int .i64 x8, .int .i64 x9, .int .i64 x10, .int .i64 x11]) (cs' := #[.int .i64 x0, .int .i64 x1, .int .i64 x2, .int .i64 x3, .int .i64 x4, .int .i64 x5, .int .i64 rw_, .int .i64 x7, .int .i64 x8, .int .i64 x9, .int .i64 x10, .int .i64 x11]) HX.out 6 (.int .i64 rw_) rfl)
      generalize (w1.setCell ⟨gx, 6, none⟩ (.int .i64 rw_)) = w2 at KP HX HL HZ ⊢
      have c0 : w2.cell? ⟨gx, 0, none⟩ = some (.int .i64 x0) := (blk_cell HX.out 0).trans rfl
      have c2 : w2.cell? ⟨gx, 2, none⟩ = some (.int .i64 x2) := (blk_cell HX.out 2).trans rfl
      have c3 : w2.cell? ⟨gx, 3, none⟩ = some (.int .i64 x3) := (blk_cell HX.out 3).trans rfl
      have c4 : w2.cell? ⟨gx, 4, none⟩ = some (.int .i64 x4) := (blk_cell HX.out 4).trans rfl
      have c5 : w2.cell? ⟨gx, 5, none⟩ = some (.int .i64 x5) := (blk_cell HX.out 5).trans rfl
      have c6 : w2.cell? ⟨gx, 6, none⟩ = some (.int .i64 rw_) := (blk_cell HX.out 6).trans rfl
      have d0 : w2.cell? ⟨gl, 0, none⟩ = some (.int .i64 l0) := (blk_cell HL.out 0).trans rfl
      have d2 : w2.cell? ⟨gl, 2, none⟩ = some (.int .i64 l2) := (blk_cell HL.out 2).trans rfl
      have d3 : w2.cell? ⟨gl, 3, none⟩ = some (.int .i64 l3) := (blk_cell HL.out 3).trans rfl
      have f0 := blk_frozen HX.out 0
      have f2 := blk_frozen HX.out 2
      have f3 := blk_frozen HX.out 3
      have f4 := blk_frozen HX.out 4
      have f5 := blk_frozen HX.out 5
      have f6 := blk_frozen HX.out 6
      go_quiet (fail)
      have hb := pw_below_drewN (Below.refl w2.heap.size w2) nq
      replace KP := Aside0.mk (Kept.then_ KP.out (Kept.of_below hb (fun b => b = gx)) (fun b hb => .inl hb)); replace HX := Aside0.mk (blk_below HX.out hb); replace HL := Aside0.mk (blk_below HL.out hb); replace HZ := Aside0.mk (Below.trans HZ.out (Below.mono hb (Nat.zero_le _)))
      clear hb
      generalize w2.drewN nq = w3 at KP HX HL HZ ⊢
      clear c0 c2 c3 c4 c5 c6 d0 d2 d3 f0 f2 f3 f4 f5 f6
      have c0 : w3.cell? ⟨gx, 0, none⟩ = some (.int .i64 x0) := (blk_cell HX.out 0).trans rfl
      have c2 : w3.cell? ⟨gx, 2, none⟩ = some (.int .i64 x2) := (blk_cell HX.out 2).trans rfl
      have c3 : w3.cell? ⟨gx, 3, none⟩ = some (.int .i64 x3) := (blk_cell HX.out 3).trans rfl
      have c4 : w3.cell? ⟨gx, 4, none⟩ = some (.int .i64 x4) := (blk_cell HX.out 4).trans rfl
      have c5 : w3.cell? ⟨gx, 5, none⟩ = some (.int .i64 x5) := (blk_cell HX.out 5).trans rfl
      have c6 : w3.cell? ⟨gx, 6, none⟩ = some (.int .i64 rw_) := (blk_cell HX.out 6).trans rfl
      have d0 : w3.cell? ⟨gl, 0, none⟩ = some (.int .i64 l0) := (blk_cell HL.out 0).trans rfl
      have d2 : w3.cell? ⟨gl, 2, none⟩ = some (.int .i64 l2) := (blk_cell HL.out 2).trans rfl
      have d3 : w3.cell? ⟨gl, 3, none⟩ = some (.int .i64 l3) := (blk_cell HL.out 3).trans rfl
      have f0 := blk_frozen HX.out 0
      have f2 := blk_frozen HX.out 2
      have f3 := blk_frozen HX.out 3
      have f4 := blk_frozen HX.out 4
      have f5 := blk_frozen HX.out 5
      have f6 := blk_frozen HX.out 6
      go_wp2_with (fail)
      clear c0 c2 c3 c4 c5 c6 d0 d2 d3 f0 f2 f3 f4 f5 f6
      replace KP := Aside0.mk (Kept.setCell KP.out (p := ⟨gx, 0, none⟩) (.inl rfl) (.int .i64 (wrap64 (1 - x0))))
      replace HZ := Aside0.mk (Below.setCell HZ.out (p := ⟨gx, 0, none⟩) (Nat.zero_le _) (.int .i64 (wrap64 (1 - x0))))
      replace HL := Aside0.mk (blk_far HL.out (p := ⟨gx, 0, none⟩) HNE.out (.int .i64 (wrap64 (1 - x0))))
      replace HX := Aside0.mk (blk_put (cs := #[.int .i64 x0, .int .i64 x1, .int .i64 x2, .int .i64 x3, .int .i64 x4, .int .i64 x5, .int .i64 rw_, .int .i64 x7, .int .i64 x8, .int .i64 x9, .int .i64 x10, .int .i64 x11]) (cs' := #[.int .i64 (wrap64 (1 - x0)), .int .i64 x1, .int .i64 x2, .int .i64 x3, .int .i64 x4, .int .i64 x5, .int .i64 rw_, .int .i64 x7, .int .i64 x8, .int .i64 x9, .int .i64 x10, .int .i64 x11]) HX.out 0 (.int .i64 (wrap64 (1 - x0))) rfl)
      replace KP := Aside0.mk (Kept.setCell KP.out (p := ⟨gx, 4, none⟩) (.inl rfl) (.int .i64 l2))
      replace HZ := Aside0.mk (Below.setCell HZ.out (p := ⟨gx, 4, none⟩) (Nat.zero_le _) (.int .i64 l2))
      replace HL := Aside0.mk (blk_far HL.out (p := ⟨gx, 4, none⟩) HNE.out (.int .i64 l2))
      replace HX := Aside0.mk (blk_put (cs := #[.int .i64 (wrap64 (1 - x0)), .int .i64 x1, .int .i64 x2, .int .i64 x3, .int .i64 x4, .int .i64 x5, .int .i64 rw_, .int .i64 x7, .int .i64 x8, .int .i64 x9, .int .i64 x10, .int .i64 x11]) (cs' := #[.int .i64 (wrap64 (1 - x0)), .int .i64 x1, .int .i64 x2, .int .i64 x3, .int .i64 l2, .int .i64 x5, .int .i64 rw_, .int .i64 x7, .int .i64 x8, .int .i64 x9, .int .i64 x10, .int .i64 x11]) HX.out 4 (.int .i64 l2) rfl)
      replace KP := Aside0.mk (Kept.setCell KP.out (p := ⟨gx, 5, none⟩) (.inl rfl) (.int .i64 x2))
      replace HZ := Aside0.mk (Below.setCell HZ.out (p := ⟨gx, 5, none⟩) (Nat.zero_le _) (.int .i64 x2))
      replace HL := Aside0.mk (blk_far HL.out (p := ⟨gx, 5, none⟩) HNE.out (.int .i64 x2))
      replace HX := Aside0.mk (blk_put (cs := #[.int .i64 (wrap64 (1 - x0)), .int .i64 x1, .int .i64 x2, .int .i64 x3, .int .i64 l2, .int .i64 x5, .int .i64 rw_, .int .i64 x7, .int .i64 x8, .int .i64 x9, .int .i64 x10, .int .i64 x11]) (cs' := #[.int .i64 (wrap64 (1 - x0)), .int .i64 x1, .int .i64 x2, .int .i64 x3, .int .i64 l2, .int .i64 x2, .int .i64 rw_, .int .i64 x7, .int .i64 x8, .int .i64 x9, .int .i64 x10, .int .i64 x11]) HX.out 5 (.int .i64 x2) rfl)
      replace KP := Aside0.mk (Kept.setCell KP.out (p := ⟨gx, 2, none⟩) (.inl rfl) (.int .i64 (wrap64 (x2 + 1))))
      replace HZ := Aside0.mk (Below.setCell HZ.out (p := ⟨gx, 2, none⟩) (Nat.zero_le _) (.int .i64 (wrap64 (x2 + 1))))
      replace HL := Aside0.mk (blk_far HL.out (p := ⟨gx, 2, none⟩) HNE.out (.int .i64 (wrap64 (x2 + 1))))
      replace HX := Aside0.mk (blk_put (cs := #[.int .i64 (wrap64 (1 - x0)), .int .i64 x1, .int .i64 x2, .int .i64 x3, .int .i64 l2, .int .i64 x2, .int .i64 rw_, .int .i64 x7, .int .i64 x8, .int .i64 x9, .int .i64 x10, .int .i64 x11]) (cs' := #[.int .i64 (wrap64 (1 - x0)), .int .i64 x1, .int .i64 (wrap64 (x2 + 1)), .int .i64 x3, .int .i64 l2, .int .i64 x2, .int .i64 rw_, .int .i64 x7, .int .i64 x8, .int .i64 x9, .int .i64 x10, .int .i64 x11]) HX.out 2 (.int .i64 (wrap64 (x2 + 1))) rfl)
      generalize ((((w3.setCell ⟨gx, 0, none⟩ (.int .i64 (wrap64 (1 - x0)))).setCell ⟨gx, 4, none⟩ (.int .i64 l2)).setCell ⟨gx, 5, none⟩ (.int .i64 x2)).setCell ⟨gx, 2, none⟩ (.int .i64 (wrap64 (x2 + 1)))) = w9 at KP HX HL HZ ⊢
      first | go_end0 | ((try simp only [Exit.inBlock, Exit.then]); refine bodyPost_ret (results_none rfl _ _ _) rfl ?_)
      obtain ⟨e0, e2, e3, e4, e5⟩ := EH.out
      exact ⟨rfl, by rw [← e0, ← e2, ← e3, ← e4, ← e5]; exact HX.out, KP.out, HZ.out⟩
   ·skip
    rw [if_neg (show ¬ (sn = x0 ∧ ¬ x2 = l3) from fun h_ => h3 h_.1)] at h
    simp only [Prod.mk.injEq] at h
    have EH := Aside0.mk h
    have p3 : (sn != x0) = true := bne_iff_ne.mpr h3
    clear h3
    clear h
    go_wp2_with (fail)
    clear c0 c2 c3 c4 c5 c6 d0 d2 d3 f0 f2 f3 f4 f5 f6
    replace KP := Aside0.mk (Kept.setCell KP.out (p := ⟨gx, 6, none⟩) (.inl rfl) (.int .i64 rw_))
    replace HZ := Aside0.mk (Below.setCell HZ.out (p := ⟨gx, 6, none⟩) (Nat.zero_le _) (.int .i64 rw_))
    replace HL := Aside0.mk (blk_far HL.out (p := ⟨gx, 6, none⟩) HNE.out (.int .i64 rw_))
    replace HX := Aside0.mk (blk_put (cs := #[.int .i64 x0, .int .i64 x1, .int .i64 x2, .int .i64 x3, .int .i64 x4, .int .i64 x5, .int .i64 x6, .int .i64 x7, .int .i64 x8, .int .i64 x9, .int .i64 x10, .int .i64 x11]) (cs' := #[.int .i64 x0, .int .i64 x1, .int .i64 x2, .int .i64 x3, .int .i64 x4, .int .i64 x5, .int .i64 rw_, .int .i64 x7, .int .i64 x8, .int .i64 x9, .int .i64 x10, .int .i64 x11]) HX.out 6 (.int .i64 rw_) rfl)
    generalize (w1.setCell ⟨gx, 6, none⟩ (.int .i64 rw_)) = w2 at KP HX HL HZ ⊢
    have c0 : w2.cell? ⟨gx, 0, none⟩ = some (.int .i64 x0) := (blk_cell HX.out 0).trans rfl
    have c2 : w2.cell? ⟨gx, 2, none⟩ = some (.int .i64 x2) := (blk_cell HX.out 2).trans rfl
    have c3 : w2.cell? ⟨gx, 3, none⟩ = some (.int .i64 x3) := (blk_cell HX.out 3).trans rfl
    have c4 : w2.cell? ⟨gx, 4, none⟩ = some (.int .i64 x4) := (blk_cell HX.out 4).trans rfl
    have c5 : w2.cell? ⟨gx, 5, none⟩ = some (.int .i64 x5) := (blk_cell HX.out 5).trans rfl
    have c6 : w2.cell? ⟨gx, 6, none⟩ = some (.int .i64 rw_) := (blk_cell HX.out 6).trans rfl
    have d0 : w2.cell? ⟨gl, 0, none⟩ = some (.int .i64 l0) := (blk_cell HL.out 0).trans rfl
    have d2 : w2.cell? ⟨gl, 2, none⟩ = some (.int .i64 l2) := (blk_cell HL.out 2).trans rfl
    have d3 : w2.cell? ⟨gl, 3, none⟩ = some (.int .i64 l3) := (blk_cell HL.out 3).trans rfl
    have f0 := blk_frozen HX.out 0
    have f2 := blk_frozen HX.out 2
    have f3 := blk_frozen HX.out 3
    have f4 := blk_frozen HX.out 4
    have f5 := blk_frozen HX.out 5
    have f6 := blk_frozen HX.out 6
    go_quiet (fail)
    have hb := pw_below_drewN (Below.refl w2.heap.size w2) nq
    replace KP := Aside0.mk (Kept.then_ KP.out (Kept.of_below hb (fun b => b = gx)) (fun b hb => .inl hb)); replace HX := Aside0.mk (blk_below HX.out hb); replace HL := Aside0.mk (blk_below HL.out hb); replace HZ := Aside0.mk (Below.trans HZ.out (Below.mono hb (Nat.zero_le _)))
    clear hb
    generalize w2.drewN nq = w3 at KP HX HL HZ ⊢
    clear c0 c2 c3 c4 c5 c6 d0 d2 d3 f0 f2 f3 f4 f5 f6
    go_wp2_with (fail)
    first | go_end0 | ((try simp only [Exit.inBlock, Exit.then]); refine bodyPost_ret (results_none rfl _ _ _) rfl ?_)
    obtain ⟨e0, e2, e3, e4, e5⟩ := EH.out
    exact ⟨rfl, by rw [← e0, ← e2, ← e3, ← e4, ← e5]; exact HX.out, KP.out, HZ.out⟩

end Go.Proofs.YteccfnppbonniaaDoor.Pa

