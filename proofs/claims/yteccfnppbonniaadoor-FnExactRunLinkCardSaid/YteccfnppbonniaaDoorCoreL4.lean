-- Written for this claim by a program of this session.
import Derived.Test.YteccfnppbonniaaDoorPax0
import Derived.Test.YteccfnppbonniaaDoorCoreL2
import Derived.Test.YteccfnppbonniaaDoorCoreL1
import Derived.Test.YteccfnppbonniaaDoorCoreL3
namespace Go.Proofs.YteccfnppbonniaaDoor.Pa
open Go.RowKit Go.Proofs.YteccfnppbonniaaDoorW.PrintWords Go.Proofs.YteccfnppbonniaaDoorW.PrintLast Go.Proofs.YteccfnppbonniaaDoorW.PrintMore
attribute [local go_sem] max2_int min2_int max_two min_two max_three min_three max_four min_four   -- for this text's walks alone
set_option linter.unusedVariables false
set_option linter.unusedSimpArgs false

/-! ### AUX linkE -/
def spec_linkTake.T1 : Bool × List (List Nat × List Nat) := (true, [([], []), ([0], [0]), ([1], [1]), ([2], [2]), ([], []), ([4], [4]), ([5], [5]), ([6], [6]), ([], []), ([8], [8]), ([9], [9]), ([10], [10]), ([3, 7, 11], [3, 7, 11]), ([12], [12]), ([13], [13]), ([13], [13]), ([14, 12, 0, 1, 2, 3, 4, 5, 6, 7, 8, 9, 10, 11, 12, 13, 14], [14]), ([15, 16, 0, 1, 2, 3, 4, 5, 6, 7, 8, 9, 10, 11, 12, 13, 14, 15, 16], [15])])
def spec_linkTake.B1 : List Nat := [0, 1, 3, 7, 0, 16, 48, 112, 0, 256, 768, 1792, 4095, 8191, 16383, 16383, 32767, 131071]
theorem spec_linkTake.tab1 : rtab .any (opsOf Tryd.f24 1) = spec_linkTake.T1 := by kernel_rfl
theorem spec_linkTake.bits1 : waitsOk spec_linkTake.T1.2 spec_linkTake.B1 = true := by kernel_rfl
/-- What a step of the receiver does: the answer, how many words, whether one was wrong; and whether one is taken. -/
def takeS (l0 l3 sn x1 x3 x8 x9 : Int) : Int × Int × Int × Bool :=
 if sn = x1 then (x1, x8, x9, false) else if l0 = 4 ∧ sn = 0 then (sn, x8, x9, false)
 else (sn, (if x8 < 7 then wrap64 (x8 + 1) else x8), (if x3 = x8 ∧ x8 < l3 then x9 else 1), true)
set_option maxHeartbeats 12000000 in
set_option maxRecDepth 100000 in
theorem l05Take.calls (gl gx : Nat) (x0 x1 x2 x3 x4 x5 x6 x7 x8 x9 x10 x11 l0 l1 l2 l3 sn rw_ : Int) (z1 z8 z9 rv : Int) (tk : Bool) (w : World) (hne : gl ≠ gx) (hl : w.heap[gl]? = some (.cells #[.int .i64 l0, .int .i64 l1, .int .i64 l2, .int .i64 l3] 36 (0, 0))) (hx : w.heap[gx]? = some (.cells #[.int .i64 x0, .int .i64 x1, .int .i64 x2, .int .i64 x3, .int .i64 x4, .int .i64 x5, .int .i64 x6, .int .i64 x7, .int .i64 x8, .int .i64 x9, .int .i64 x10, .int .i64 x11] 53 (0, 0))) (hr : (if tk = true then x3 else 0) = rv) (hs : spec_l05Seen.f l1 x7 x0 = some (sn, rw_)) (h : takeS l0 l3 sn x1 x3 x8 x9 = (z1, z8, z9, tk)) :
  Calls Tryd.prog 24 #[.pointer (some ⟨gl, 0, none⟩), .pointer (some ⟨gx, 0, none⟩)] w fun e w' => e = .returned (.tuple #[.int .i64 rv, .bool tk]) ∧ w'.heap[gx]? = some (.cells #[.int .i64 x0, .int .i64 z1, .int .i64 x2, .int .i64 x3, .int .i64 x4, .int .i64 x5, .int .i64 x6, .int .i64 rw_, .int .i64 z8, .int .i64 z9, .int .i64 x10, .int .i64 x11] 53 (0, 0)) ∧ Kept w w' (fun b => b = gx) ∧ Below 0 w w' := by
 have hu := Tryd.underlying53
 have hu2 := Tryd.underlying36
 have HX := Aside0.mk hx; have HL := Aside0.mk hl; have HNE := Aside0.mk hne; have HSN := Aside0.mk hs; have KP : Aside0 (Kept w w (fun b => b = gx)) := ⟨Kept.refl _ _⟩; have HZ : Aside0 (Below 0 w w) := ⟨Below.refl _ _⟩
 clear hx hl hne hs
 have HRV := Aside0.mk hr
 clear hr
 go_enter Tryd.func24, Tryd.ntmps24
 go_wp2_with (fail)
 have hb : Below w.heap.size w w.drew := below_drew1 (Below.refl _ _)
 replace KP := Aside0.mk (Kept.then_ KP.out (Kept.of_below hb (fun b => b = gx)) (fun b hb => .inl hb)); replace HX := Aside0.mk (blk_below HX.out hb); replace HL := Aside0.mk (blk_below HL.out hb); replace HZ := Aside0.mk (Below.trans HZ.out (Below.mono hb (Nat.zero_le _)))
 clear hb
 refine start_ (n := 18) (S := fun w' => True) (ds := []) #[false, false, false, false, false, false, false, false, false, false, false, false, false, false, false, false, false, false] (by kernel_rfl) rfl rfl trivial (fun hHeld => ?_)
 refine with_tabW spec_linkTake.tab1 spec_linkTake.bits1 (fun HT_ HW_ => ?_)
 generalize w.drew = wk_ at KP HX HL HZ hHeld ⊢
 refine pure_ (i := 0) (N := some 9) (v := ?_) (a' := ?_) #[true, false, false, false, false, false, false, false, false, false, false, false, false, false, false, false, false, false] rfl rfl (any_of HT_.out (by kernel_rfl)) (fun _ _ _ h => h) (Or.inl ⟨by rfl, ?_⟩) ?_ ?_
 rotate_left
 ·intro w'
  go_simp
  with_reducible rfl
 rotate_left
 ·simp only [Act.put, List.setIfInBounds_toArray, List.set_cons_zero, List.set_cons_succ, i64_w, i32_w]
  rfl
 refine pure_ (i := 4) (N := some 13) (v := ?_) (a' := ?_) #[true, false, false, false, true, false, false, false, false, false, false, false, false, false, false, false, false, false] rfl rfl (any_of HT_.out (by kernel_rfl)) (fun _ _ _ h => h) (Or.inl ⟨by rfl, ?_⟩) ?_ ?_
 rotate_left
 ·intro w'
  go_simp
  with_reducible rfl
 rotate_left
 ·simp only [Act.put, List.setIfInBounds_toArray, List.set_cons_zero, List.set_cons_succ, i64_w, i32_w]
  rfl
 refine pure_ (i := 8) (N := some 17) (v := ?_) (a' := ?_) #[true, false, false, false, true, false, false, false, true, false, false, false, false, false, false, false, false, false] rfl rfl (any_of HT_.out (by kernel_rfl)) (fun _ _ _ h => h) (Or.inl ⟨by rfl, ?_⟩) ?_ ?_
 rotate_left
 ·intro w'
  go_simp
  with_reducible rfl
 rotate_left
 ·simp only [Act.put, List.setIfInBounds_toArray, List.set_cons_zero, List.set_cons_succ, i64_w, i32_w]
  rfl
 refine inv_at [1, 2, 3, 5, 6, 7, 9, 10, 11, 12, 13, 14, 15, 16, 17] (fun a0_ b a w' => a = putSel a0_ b [(1, 10, .pointer (some ⟨gl, 0, none⟩)), (2, 11, .pointer (some ⟨gl, 1, none⟩)), (3, 12, .int .i64 l1), (5, 14, .pointer (some ⟨gx, 0, none⟩)), (6, 15, .pointer (some ⟨gx, 7, none⟩)), (7, 16, .int .i64 x7), (9, 18, .pointer (some ⟨gx, 0, none⟩)), (10, 19, .pointer (some ⟨gx, 0, none⟩)), (11, 20, .int .i64 x0), (12, 21, .tuple #[.int .i64 sn, .int .i64 rw_]), (13, 8, .tuple #[.int .i64 sn, .int .i64 rw_]), (14, 22, .int .i64 sn), (15, 23, .int .i64 rw_), (16, 6, .int .i64 sn), (17, 7, .int .i64 rw_)] ∧ (Below 0 w w') ∧ (Kept w w' (fun b => b = gx)) ∧ (w'.heap[gx]? = some (.cells #[.int .i64 x0, .int .i64 x1, .int .i64 x2, .int .i64 x3, .int .i64 x4, .int .i64 x5, .int .i64 x6, .int .i64 x7, .int .i64 x8, .int .i64 x9, .int .i64 x10, .int .i64 x11] 53 (0, 0))) ∧ (w'.heap[gl]? = some (.cells #[.int .i64 l0, .int .i64 l1, .int .i64 l2, .int .i64 l3] 36 (0, 0)))) HT_.out HW_.out (by kernel_rfl) (by kernel_rfl) ?_ ?_ ?_
 ·exact ⟨by simp only [putSel, Bool.false_eq_true, if_false], HZ.out, KP.out, HX.out, HL.out⟩
 ·skip
  clear HL HX HZ KP
  refine steps_cons ?_ ?_
  ·rintro b a w' ⟨ha, Q_HZ, Q_KP, Q_HX, Q_HL⟩ hb_ hon hoff
   refine ⟨_, rfl, fun K hK => ?_⟩
   have e9 : a.tmps[9]? = some (.pointer (some ⟨gl, 0, none⟩)) := by rw [ha]; exact (putSel_off rfl).trans rfl
   replace ha := Aside0.mk ha
   have HZ := Aside0.mk Q_HZ
   have KP := Aside0.mk Q_KP
   have HX := Aside0.mk Q_HX
   have HL := Aside0.mk Q_HL
   refine value_ (w1 := w') (v := .pointer (some ⟨gl, 0, none⟩)) (by rfl) rfl ?_ ?_
   ·go_simp
    (try simp only [i64_w])
    try rfl
   refine hK.out _ _ ⟨(by rw [ha.out]; exact putSel_upk 0 hb_ rfl rfl rfl), Q_HZ, Q_KP, Q_HX, Q_HL⟩
  refine steps_cons ?_ ?_
  ·rintro b a w' ⟨ha, Q_HZ, Q_KP, Q_HX, Q_HL⟩ hb_ hon hoff
   refine ⟨_, rfl, fun K hK => ?_⟩
   have e10 : a.tmps[10]? = some (.pointer (some ⟨gl, 0, none⟩)) := by rw [ha]; exact putSel_on (e := (1, 10, .pointer (some ⟨gl, 0, none⟩))) 0 rfl rfl (hon 1 (by kernel_rfl)) rfl
   replace ha := Aside0.mk ha
   have HZ := Aside0.mk Q_HZ
   have KP := Aside0.mk Q_KP
   have HX := Aside0.mk Q_HX
   have HL := Aside0.mk Q_HL
   refine value_ (w1 := w') (v := .pointer (some ⟨gl, 1, none⟩)) (by rfl) rfl ?_ ?_
   ·go_simp
    (try simp only [i64_w])
    try rfl
   refine hK.out _ _ ⟨(by rw [ha.out]; exact putSel_upk 1 hb_ rfl rfl rfl), Q_HZ, Q_KP, Q_HX, Q_HL⟩
  refine steps_cons ?_ ?_
  ·rintro b a w' ⟨ha, Q_HZ, Q_KP, Q_HX, Q_HL⟩ hb_ hon hoff
   refine ⟨_, rfl, fun K hK => ?_⟩
   have e11 : a.tmps[11]? = some (.pointer (some ⟨gl, 1, none⟩)) := by rw [ha]; exact putSel_on (e := (2, 11, .pointer (some ⟨gl, 1, none⟩))) 1 rfl rfl (hon 2 (by kernel_rfl)) rfl
   replace ha := Aside0.mk ha
   have HZ := Aside0.mk Q_HZ
   have KP := Aside0.mk Q_KP
   have HX := Aside0.mk Q_HX
   have HL := Aside0.mk Q_HL
   have hc1_ : w'.cell? ⟨gl, 1, none⟩ = some (.int .i64 l1) := (blk_cell HL.out 1).trans rfl
   refine value_ (w1 := w') (v := .int .i64 l1) (by rfl) rfl ?_ ?_
   ·go_simp
    (try simp only [i64_w])
    try rfl
   refine hK.out _ _ ⟨(by rw [ha.out]; exact putSel_upk 2 hb_ rfl rfl rfl), Q_HZ, Q_KP, Q_HX, Q_HL⟩
  refine steps_cons ?_ ?_
  ·rintro b a w' ⟨ha, Q_HZ, Q_KP, Q_HX, Q_HL⟩ hb_ hon hoff
   refine ⟨_, rfl, fun K hK => ?_⟩
   have e13 : a.tmps[13]? = some (.pointer (some ⟨gx, 0, none⟩)) := by rw [ha]; exact (putSel_off rfl).trans rfl
   replace ha := Aside0.mk ha
   have HZ := Aside0.mk Q_HZ
   have KP := Aside0.mk Q_KP
   have HX := Aside0.mk Q_HX
   have HL := Aside0.mk Q_HL
   refine value_ (w1 := w') (v := .pointer (some ⟨gx, 0, none⟩)) (by rfl) rfl ?_ ?_
   ·go_simp
    (try simp only [i64_w])
    try rfl
   refine hK.out _ _ ⟨(by rw [ha.out]; exact putSel_upk 3 hb_ rfl rfl rfl), Q_HZ, Q_KP, Q_HX, Q_HL⟩
  refine steps_cons ?_ ?_
  ·rintro b a w' ⟨ha, Q_HZ, Q_KP, Q_HX, Q_HL⟩ hb_ hon hoff
   refine ⟨_, rfl, fun K hK => ?_⟩
   have e14 : a.tmps[14]? = some (.pointer (some ⟨gx, 0, none⟩)) := by rw [ha]; exact putSel_on (e := (5, 14, .pointer (some ⟨gx, 0, none⟩))) 3 rfl rfl (hon 5 (by kernel_rfl)) rfl
   replace ha := Aside0.mk ha
   have HZ := Aside0.mk Q_HZ
   have KP := Aside0.mk Q_KP
   have HX := Aside0.mk Q_HX
   have HL := Aside0.mk Q_HL
   refine value_ (w1 := w') (v := .pointer (some ⟨gx, 7, none⟩)) (by rfl) rfl ?_ ?_
   ·go_simp
    (try simp only [i64_w])
    try rfl
   refine hK.out _ _ ⟨(by rw [ha.out]; exact putSel_upk 4 hb_ rfl rfl rfl), Q_HZ, Q_KP, Q_HX, Q_HL⟩
  refine steps_cons ?_ ?_
  ·rintro b a w' ⟨ha, Q_HZ, Q_KP, Q_HX, Q_HL⟩ hb_ hon hoff
   refine ⟨_, rfl, fun K hK => ?_⟩
   have e15 : a.tmps[15]? = some (.pointer (some ⟨gx, 7, none⟩)) := by rw [ha]; exact putSel_on (e := (6, 15, .pointer (some ⟨gx, 7, none⟩))) 4 rfl rfl (hon 6 (by kernel_rfl)) rfl
   replace ha := Aside0.mk ha
   have HZ := Aside0.mk Q_HZ
   have KP := Aside0.mk Q_KP
   have HX := Aside0.mk Q_HX
   have HL := Aside0.mk Q_HL
   have hc7_ : w'.cell? ⟨gx, 7, none⟩ = some (.int .i64 x7) := (blk_cell HX.out 7).trans rfl
   refine value_ (w1 := w') (v := .int .i64 x7) (by rfl) rfl ?_ ?_
   ·go_simp
    (try simp only [i64_w])
    try rfl
   refine hK.out _ _ ⟨(by rw [ha.out]; exact putSel_upk 5 hb_ rfl rfl rfl), Q_HZ, Q_KP, Q_HX, Q_HL⟩
  refine steps_cons ?_ ?_
  ·rintro b a w' ⟨ha, Q_HZ, Q_KP, Q_HX, Q_HL⟩ hb_ hon hoff
   refine ⟨_, rfl, fun K hK => ?_⟩
   have e17 : a.tmps[17]? = some (.pointer (some ⟨gx, 0, none⟩)) := by rw [ha]; exact (putSel_off rfl).trans rfl
   replace ha := Aside0.mk ha
   have HZ := Aside0.mk Q_HZ
   have KP := Aside0.mk Q_KP
   have HX := Aside0.mk Q_HX
   have HL := Aside0.mk Q_HL
   refine value_ (w1 := w') (v := .pointer (some ⟨gx, 0, none⟩)) (by rfl) rfl ?_ ?_
   ·go_simp
    (try simp only [i64_w])
    try rfl
   refine hK.out _ _ ⟨(by rw [ha.out]; exact putSel_upk 6 hb_ rfl rfl rfl), Q_HZ, Q_KP, Q_HX, Q_HL⟩
  refine steps_cons ?_ ?_
  ·rintro b a w' ⟨ha, Q_HZ, Q_KP, Q_HX, Q_HL⟩ hb_ hon hoff
   refine ⟨_, rfl, fun K hK => ?_⟩
   have e18 : a.tmps[18]? = some (.pointer (some ⟨gx, 0, none⟩)) := by rw [ha]; exact putSel_on (e := (9, 18, .pointer (some ⟨gx, 0, none⟩))) 6 rfl rfl (hon 9 (by kernel_rfl)) rfl
   replace ha := Aside0.mk ha
   have HZ := Aside0.mk Q_HZ
   have KP := Aside0.mk Q_KP
   have HX := Aside0.mk Q_HX
   have HL := Aside0.mk Q_HL
   refine value_ (w1 := w') (v := .pointer (some ⟨gx, 0, none⟩)) (by rfl) rfl ?_ ?_
   ·go_simp
    (try simp only [i64_w])
    try rfl
   refine hK.out _ _ ⟨(by rw [ha.out]; exact putSel_upk 7 hb_ rfl rfl rfl), Q_HZ, Q_KP, Q_HX, Q_HL⟩
  refine steps_cons ?_ ?_
  ·rintro b a w' ⟨ha, Q_HZ, Q_KP, Q_HX, Q_HL⟩ hb_ hon hoff
   refine ⟨_, rfl, fun K hK => ?_⟩
   have e19 : a.tmps[19]? = some (.pointer (some ⟨gx, 0, none⟩)) := by rw [ha]; exact putSel_on (e := (10, 19, .pointer (some ⟨gx, 0, none⟩))) 7 rfl rfl (hon 10 (by kernel_rfl)) rfl
   replace ha := Aside0.mk ha
   have HZ := Aside0.mk Q_HZ
   have KP := Aside0.mk Q_KP
   have HX := Aside0.mk Q_HX
   have HL := Aside0.mk Q_HL
   have hc0_ : w'.cell? ⟨gx, 0, none⟩ = some (.int .i64 x0) := (blk_cell HX.out 0).trans rfl
   refine value_ (w1 := w') (v := .int .i64 x0) (by rfl) rfl ?_ ?_
   ·go_simp
    (try simp only [i64_w])
    try rfl
   refine hK.out _ _ ⟨(by rw [ha.out]; exact putSel_upk 8 hb_ rfl rfl rfl), Q_HZ, Q_KP, Q_HX, Q_HL⟩
  refine steps_cons ?_ ?_
  ·rintro b a w' ⟨ha, Q_HZ, Q_KP, Q_HX, Q_HL⟩ hb_ hon hoff
   refine ⟨_, rfl, fun K hK => ?_⟩
   have e12 : a.tmps[12]? = some (.int .i64 l1) := by rw [ha]; exact putSel_on (e := (3, 12, .int .i64 l1)) 2 rfl rfl (hon 3 (by kernel_rfl)) rfl
   have e16 : a.tmps[16]? = some (.int .i64 x7) := by rw [ha]; exact putSel_on (e := (7, 16, .int .i64 x7)) 5 rfl rfl (hon 7 (by kernel_rfl)) rfl
   have e20 : a.tmps[20]? = some (.int .i64 x0) := by rw [ha]; exact putSel_on (e := (11, 20, .int .i64 x0)) 8 rfl rfl (hon 11 (by kernel_rfl)) rfl
   replace ha := Aside0.mk ha
   have HZ := Aside0.mk Q_HZ
   have KP := Aside0.mk Q_KP
   have HX := Aside0.mk Q_HX
   have HL := Aside0.mk Q_HL
   refine goes_ Tryd.func36 (by kernel_rfl) rfl #[.int .i64 l1, .int .i64 x7, .int .i64 x0] (by rfl) rfl rfl (by first | (simp only [List.map_toArray, List.map_cons, List.map_nil, Act.eval, Array.getD_eq_getD_getElem?, Option.getD_some, e12, e16, e20]; done) | (simp only [List.map_toArray, List.map_cons, List.map_nil, Act.eval, Array.getD_eq_getD_getElem?, Option.getD_some, e12, e16, e20]; rfl)) ?_
   refine (spec_l05Seen.calls l1 x7 x0 sn rw_ w' HSN.out).mono ?_
   rintro e w5 ⟨rfl, hb⟩
   obtain ⟨nd_, rfl⟩ := hb
   have hb := pw_below_drewN (Below.refl w'.heap.size w') nd_
   refine ⟨_, rfl, ?_⟩
   refine hK.out _ _ ⟨(by rw [ha.out]; exact putSel_upk 9 hb_ rfl rfl rfl), Below.trans HZ.out (Below.mono hb (Nat.zero_le _)), Kept.then_ KP.out (Kept.of_below hb (fun b => b = gx)) (fun b hb => .inl hb), blk_below HX.out hb, blk_below HL.out hb⟩
  refine steps_cons ?_ ?_
  ·rintro b a w' ⟨ha, Q_HZ, Q_KP, Q_HX, Q_HL⟩ hb_ hon hoff
   refine ⟨_, rfl, fun K hK => ?_⟩
   have e21 : a.tmps[21]? = some (.tuple #[.int .i64 sn, .int .i64 rw_]) := by rw [ha]; exact putSel_on (e := (12, 21, .tuple #[.int .i64 sn, .int .i64 rw_])) 9 rfl rfl (hon 12 (by kernel_rfl)) rfl
   replace ha := Aside0.mk ha
   have HZ := Aside0.mk Q_HZ
   have KP := Aside0.mk Q_KP
   have HX := Aside0.mk Q_HX
   have HL := Aside0.mk Q_HL
   refine value_ (w1 := w') (v := .tuple #[.int .i64 sn, .int .i64 rw_]) (by rfl) rfl ?_ ?_
   ·go_simp
    (try simp only [i64_w])
    try rfl
   refine hK.out _ _ ⟨(by rw [ha.out]; exact putSel_upk 10 hb_ rfl rfl rfl), Q_HZ, Q_KP, Q_HX, Q_HL⟩
  refine steps_cons ?_ ?_
  ·rintro b a w' ⟨ha, Q_HZ, Q_KP, Q_HX, Q_HL⟩ hb_ hon hoff
   refine ⟨_, rfl, fun K hK => ?_⟩
   have e8 : a.tmps[8]? = some (.tuple #[.int .i64 sn, .int .i64 rw_]) := by rw [ha]; exact putSel_on (e := (13, 8, .tuple #[.int .i64 sn, .int .i64 rw_])) 10 rfl rfl (hon 13 (by kernel_rfl)) rfl
   replace ha := Aside0.mk ha
   have HZ := Aside0.mk Q_HZ
   have KP := Aside0.mk Q_KP
   have HX := Aside0.mk Q_HX
   have HL := Aside0.mk Q_HL
   refine value_ (w1 := w') (v := .int .i64 sn) (by rfl) rfl ?_ ?_
   ·go_simp
    (try simp only [i64_w])
    try rfl
   refine hK.out _ _ ⟨(by rw [ha.out]; exact putSel_upk 11 hb_ rfl rfl rfl), Q_HZ, Q_KP, Q_HX, Q_HL⟩
  refine steps_cons ?_ ?_
  ·rintro b a w' ⟨ha, Q_HZ, Q_KP, Q_HX, Q_HL⟩ hb_ hon hoff
   refine ⟨_, rfl, fun K hK => ?_⟩
   have e8 : a.tmps[8]? = some (.tuple #[.int .i64 sn, .int .i64 rw_]) := by rw [ha]; exact putSel_on (e := (13, 8, .tuple #[.int .i64 sn, .int .i64 rw_])) 10 rfl rfl (hon 13 (by kernel_rfl)) rfl
   replace ha := Aside0.mk ha
   have HZ := Aside0.mk Q_HZ
   have KP := Aside0.mk Q_KP
   have HX := Aside0.mk Q_HX
   have HL := Aside0.mk Q_HL
   refine value_ (w1 := w') (v := .int .i64 rw_) (by rfl) rfl ?_ ?_
   ·go_simp
    (try simp only [i64_w])
    try rfl
   refine hK.out _ _ ⟨(by rw [ha.out]; exact putSel_upk 12 hb_ rfl rfl rfl), Q_HZ, Q_KP, Q_HX, Q_HL⟩
  refine steps_cons ?_ ?_
  ·rintro b a w' ⟨ha, Q_HZ, Q_KP, Q_HX, Q_HL⟩ hb_ hon hoff
   refine ⟨_, rfl, fun K hK => ?_⟩
   have e22 : a.tmps[22]? = some (.int .i64 sn) := by rw [ha]; exact putSel_on (e := (14, 22, .int .i64 sn)) 11 rfl rfl (hon 14 (by kernel_rfl)) rfl
   replace ha := Aside0.mk ha
   have HZ := Aside0.mk Q_HZ
   have KP := Aside0.mk Q_KP
   have HX := Aside0.mk Q_HX
   have HL := Aside0.mk Q_HL
   refine value_ (w1 := w') (v := .int .i64 sn) (by rfl) rfl ?_ ?_
   ·go_simp
    (try simp only [i64_w])
    try rfl
   refine hK.out _ _ ⟨(by rw [ha.out]; exact putSel_upk 13 hb_ rfl rfl rfl), Q_HZ, Q_KP, Q_HX, Q_HL⟩
  refine steps_cons ?_ ?_
  ·rintro b a w' ⟨ha, Q_HZ, Q_KP, Q_HX, Q_HL⟩ hb_ hon hoff
   refine ⟨_, rfl, fun K hK => ?_⟩
   have e23 : a.tmps[23]? = some (.int .i64 rw_) := by rw [ha]; exact putSel_on (e := (15, 23, .int .i64 rw_)) 12 rfl rfl (hon 15 (by kernel_rfl)) rfl
   replace ha := Aside0.mk ha
   have HZ := Aside0.mk Q_HZ
   have KP := Aside0.mk Q_KP
   have HX := Aside0.mk Q_HX
   have HL := Aside0.mk Q_HL
   refine value_ (w1 := w') (v := .int .i64 rw_) (by rfl) rfl ?_ ?_
   ·go_simp
    (try simp only [i64_w])
    try rfl
   refine hK.out _ _ ⟨(by rw [ha.out]; exact putSel_upk 14 hb_ rfl rfl rfl), Q_HZ, Q_KP, Q_HX, Q_HL⟩
  exact steps_nil
 rintro b a w1 hall ⟨ha, Q_HZ, Q_KP, Q_HX, Q_HL⟩
 clear HL HX HZ KP
 have hb1_ := hall 1 (by kernel_rfl)
 have hb2_ := hall 2 (by kernel_rfl)
 have hb3_ := hall 3 (by kernel_rfl)
 have hb5_ := hall 5 (by kernel_rfl)
 have hb6_ := hall 6 (by kernel_rfl)
 have hb7_ := hall 7 (by kernel_rfl)
 have hb9_ := hall 9 (by kernel_rfl)
 have hb10_ := hall 10 (by kernel_rfl)
 have hb11_ := hall 11 (by kernel_rfl)
 have hb12_ := hall 12 (by kernel_rfl)
 have hb13_ := hall 13 (by kernel_rfl)
 have hb14_ := hall 14 (by kernel_rfl)
 have hb15_ := hall 15 (by kernel_rfl)
 have hb16_ := hall 16 (by kernel_rfl)
 have hb17_ := hall 17 (by kernel_rfl)
 subst ha
 simp only [putSel, hb1_, hb2_, hb3_, hb5_, hb6_, hb7_, hb9_, hb10_, hb11_, hb12_, hb13_, hb14_, hb15_, hb16_, hb17_, if_true, Act.put, List.setIfInBounds_toArray, List.set_cons_zero, List.set_cons_succ]
 have HZ := Aside0.mk Q_HZ
 clear Q_HZ
 have KP := Aside0.mk Q_KP
 clear Q_KP
 have HX := Aside0.mk Q_HX
 clear Q_HX
 have HL := Aside0.mk Q_HL
 clear Q_HL
 clear hall hb1_ hb2_ hb3_ hb5_ hb6_ hb7_ hb9_ hb10_ hb11_ hb12_ hb13_ hb14_ hb15_ hb16_ hb17_
 clear HSN
 have c1 : w1.cell? ⟨gx, 1, none⟩ = some (.int .i64 x1) := (blk_cell HX.out 1).trans rfl
 have c3 : w1.cell? ⟨gx, 3, none⟩ = some (.int .i64 x3) := (blk_cell HX.out 3).trans rfl
 have c7 : w1.cell? ⟨gx, 7, none⟩ = some (.int .i64 x7) := (blk_cell HX.out 7).trans rfl
 have c8 : w1.cell? ⟨gx, 8, none⟩ = some (.int .i64 x8) := (blk_cell HX.out 8).trans rfl
 have c9 : w1.cell? ⟨gx, 9, none⟩ = some (.int .i64 x9) := (blk_cell HX.out 9).trans rfl
 have d0 : w1.cell? ⟨gl, 0, none⟩ = some (.int .i64 l0) := (blk_cell HL.out 0).trans rfl
 have d3 : w1.cell? ⟨gl, 3, none⟩ = some (.int .i64 l3) := (blk_cell HL.out 3).trans rfl
 have f1 := blk_frozen HX.out 1
 have f7 := blk_frozen HX.out 7
 have f8 := blk_frozen HX.out 8
 have f9 := blk_frozen HX.out 9
 have hne_ := HNE.out
 unfold takeS at h
 rcases Classical.em (sn = x1) with h1 | h1
 ·rw [if_pos h1] at h
  simp only [Prod.mk.injEq] at h
  have EH := Aside0.mk h
  have p1 : (sn == x1) = true := beq_iff_eq.mpr h1
  clear h h1
  go_wp2_with (fail)
  clear c1 c3 c7 c8 c9 d0 d3 f1 f7 f8 f9
  replace KP := Aside0.mk (Kept.setCell KP.out (p := ⟨gx, 7, none⟩) (.inl rfl) (.int .i64 rw_))
  replace HZ := Aside0.mk (Below.setCell HZ.out (p := ⟨gx, 7, none⟩) (Nat.zero_le _) (.int .i64 rw_))
  replace HL := Aside0.mk (blk_far HL.out (p := ⟨gx, 7, none⟩) HNE.out (.int .i64 rw_))
  replace HX := Aside0.mk (blk_put (cs := #[.int .i64 x0, .int .i64 x1, .int .i64 x2, .int .i64 x3, .int .i64 x4, .int .i64 x5, .int .i64 x6, .int .i64 x7, .int .i64 x8, .int .i64 x9, .int .i64 x10, .int .i64 x11]) (cs' := #[.int .i64 x0, .int .i64 x1, .int .i64 x2, .int .i64 x3, .int .i64 x4, .int .i64 x5, .int .i64 x6, .int .i64 rw_, .int .i64 x8, .int .i64 x9, .int .i64 x10, .int .i64 x11]) HX.out 7 (.int .i64 rw_) rfl)
  generalize (w1.setCell ⟨gx, 7, none⟩ (.int .i64 rw_)) = w9 at KP HX HL HZ ⊢
  go_ret2
  obtain ⟨e1, e8, e9, rfl⟩ := EH.out
  exact ⟨by rw [← HRV.out]; first | rfl | (simp; done), by rw [← e1, ← e8, ← e9]; exact HX.out, KP.out, HZ.out⟩
 rw [if_neg h1] at h
 have p1 : (sn == x1) = false := beq_eq_false_iff_ne.mpr h1
 clear h1
 rcases Classical.em (l0 = 4) with h1 | h1
 ·rcases Classical.em (sn = 0) with h2 | h2
  ·rw [if_pos ⟨h1, h2⟩] at h
   simp only [Prod.mk.injEq] at h
   have EH := Aside0.mk h
   have p2 : (l0 == 4) = true := beq_iff_eq.mpr h1
   have p3 : (sn == 0) = true := beq_iff_eq.mpr h2
   clear h h1 h2
   go_wp2_with (fail)
   clear c1 c3 c7 c8 c9 d0 d3 f1 f7 f8 f9
   replace KP := Aside0.mk (Kept.setCell KP.out (p := ⟨gx, 7, none⟩) (.inl rfl) (.int .i64 rw_))
   replace HZ := Aside0.mk (Below.setCell HZ.out (p := ⟨gx, 7, none⟩) (Nat.zero_le _) (.int .i64 rw_))
   replace HL := Aside0.mk (blk_far HL.out (p := ⟨gx, 7, none⟩) HNE.out (.int .i64 rw_))
   replace HX := Aside0.mk (blk_put (cs := #[.int .i64 x0, .int .i64 x1, .int .i64 x2, .int .i64 x3, .int .i64 x4, .int .i64 x5, .int .i64 x6, .int .i64 x7, .int .i64 x8, .int .i64 x9, .int .i64 x10, .int .i64 x11]) (cs' := #[.int .i64 x0, .int .i64 x1, .int .i64 x2, .int .i64 x3, .int .i64 x4, .int .i64 x5, .int .i64 x6, .int .i64 rw_, .int .i64 x8, .int .i64 x9, .int .i64 x10, .int .i64 x11]) HX.out 7 (.int .i64 rw_) rfl)
   replace KP := Aside0.mk (Kept.setCell KP.out (p := ⟨gx, 1, none⟩) (.inl rfl) (.int .i64 sn))
   replace HZ := Aside0.mk (Below.setCell HZ.out (p := ⟨gx, 1, none⟩) (Nat.zero_le _) (.int .i64 sn))
   replace HL := Aside0.mk (blk_far HL.out (p := ⟨gx, 1, none⟩) HNE.out (.int .i64 sn))
   replace HX := Aside0.mk (blk_put (cs := #[.int .i64 x0, .int .i64 x1, .int .i64 x2, .int .i64 x3, .int .i64 x4, .int .i64 x5, .int .i64 x6, .int .i64 rw_, .int .i64 x8, .int .i64 x9, .int .i64 x10, .int .i64 x11]) (cs' := #[.int .i64 x0, .int .i64 sn, .int .i64 x2, .int .i64 x3, .int .i64 x4, .int .i64 x5, .int .i64 x6, .int .i64 rw_, .int .i64 x8, .int .i64 x9, .int .i64 x10, .int .i64 x11]) HX.out 1 (.int .i64 sn) rfl)
   generalize ((w1.setCell ⟨gx, 7, none⟩ (.int .i64 rw_)).setCell ⟨gx, 1, none⟩ (.int .i64 sn)) = w9 at KP HX HL HZ ⊢
   go_ret2
   obtain ⟨e1, e8, e9, rfl⟩ := EH.out
   exact ⟨by rw [← HRV.out]; first | rfl | (simp; done), by rw [← e1, ← e8, ← e9]; exact HX.out, KP.out, HZ.out⟩
  ·rw [if_neg (fun h_ => h2 h_.2)] at h
   have p2 : (l0 == 4) = true := beq_iff_eq.mpr h1
   have p3 : (sn == 0) = false := beq_eq_false_iff_ne.mpr h2
   clear h1 h2
   have HH := Aside0.mk h
   clear h
   go_wp2_with (fail)
   have h := HH.out
   clear HH
   clear c1 c3 c7 c8 c9 d0 d3 f1 f7 f8 f9
   replace KP := Aside0.mk (Kept.setCell KP.out (p := ⟨gx, 7, none⟩) (.inl rfl) (.int .i64 rw_))
   replace HZ := Aside0.mk (Below.setCell HZ.out (p := ⟨gx, 7, none⟩) (Nat.zero_le _) (.int .i64 rw_))
   replace HL := Aside0.mk (blk_far HL.out (p := ⟨gx, 7, none⟩) HNE.out (.int .i64 rw_))
   replace HX := Aside0.mk (blk_put (cs := #[.int .i64 x0, .int .i64 x1, .int .i64 x2, .int .i64 x3, .int .i64 x4, .int .i64 x5, .int .i64 x6, .int .i64 x7, .int .i64 x8, .int .i64 x9, .int .i64 x10, .int .i64 x11]) (cs' := #[.int .i64 x0, .int .i64 x1, .int .i64 x2, .int .i64 x3, .int .i64 x4, .int .i64 x5, .int .i64 x6, .int .i64 rw_, .int .i64 x8, .int .i64 x9, .int .i64 x10, .int .i64 x11]) HX.out 7 (.int .i64 rw_) rfl)
   replace KP := Aside0.mk (Kept.setCell KP.out (p := ⟨gx, 1, none⟩) (.inl rfl) (.int .i64 sn))
   replace HZ := Aside0.mk (Below.setCell HZ.out (p := ⟨gx, 1, none⟩) (Nat.zero_le _) (.int .i64 sn))
   replace HL := Aside0.mk (blk_far HL.out (p := ⟨gx, 1, none⟩) HNE.out (.int .i64 sn))
   replace HX := Aside0.mk (blk_put (cs := #[.int .i64 x0, .int .i64 x1, .int .i64 x2, .int .i64 x3, .int .i64 x4, .int .i64 x5, .int .i64 x6, .int .i64 rw_, .int .i64 x8, .int .i64 x9, .int .i64 x10, .int .i64 x11]) (cs' := #[.int .i64 x0, .int .i64 sn, .int .i64 x2, .int .i64 x3, .int .i64 x4, .int .i64 x5, .int .i64 x6, .int .i64 rw_, .int .i64 x8, .int .i64 x9, .int .i64 x10, .int .i64 x11]) HX.out 1 (.int .i64 sn) rfl)
   generalize ((w1.setCell ⟨gx, 7, none⟩ (.int .i64 rw_)).setCell ⟨gx, 1, none⟩ (.int .i64 sn)) = w2 at KP HX HL HZ ⊢
   have c1 : w2.cell? ⟨gx, 1, none⟩ = some (.int .i64 sn) := (blk_cell HX.out 1).trans rfl
   have c3 : w2.cell? ⟨gx, 3, none⟩ = some (.int .i64 x3) := (blk_cell HX.out 3).trans rfl
   have c7 : w2.cell? ⟨gx, 7, none⟩ = some (.int .i64 rw_) := (blk_cell HX.out 7).trans rfl
   have c8 : w2.cell? ⟨gx, 8, none⟩ = some (.int .i64 x8) := (blk_cell HX.out 8).trans rfl
   have c9 : w2.cell? ⟨gx, 9, none⟩ = some (.int .i64 x9) := (blk_cell HX.out 9).trans rfl
   have d0 : w2.cell? ⟨gl, 0, none⟩ = some (.int .i64 l0) := (blk_cell HL.out 0).trans rfl
   have d3 : w2.cell? ⟨gl, 3, none⟩ = some (.int .i64 l3) := (blk_cell HL.out 3).trans rfl
   have f1 := blk_frozen HX.out 1
   have f7 := blk_frozen HX.out 7
   have f8 := blk_frozen HX.out 8
   have f9 := blk_frozen HX.out 9
   rcases Classical.em (x8 < 7) with h4 | h4
   ·rw [if_pos h4] at h
    have q4 : decide (x8 < 7) = true := decide_eq_true h4
    clear h4
    rcases Classical.em (x3 = x8) with h5 | h5
    ·rcases Classical.em (l3 ≤ x8) with h6 | h6
     ·rw [if_neg (show ¬ (x3 = x8 ∧ x8 < l3) from fun h_ => by have := h_.2; omega)] at h
      simp only [Prod.mk.injEq] at h
      have EH := Aside0.mk h
      have q5 : (x3 != x8) = false := bne_eq_false_iff_eq.mpr h5
      have q6 : decide (x8 ≥ l3) = true := decide_eq_true h6
      have q7 : decide (l3 ≤ x8) = true := decide_eq_true h6
      clear h5 h6
      clear h
      go_quiet (fail)
      have hb := pw_below_drewN (Below.refl w2.heap.size w2) nq
      replace KP := Aside0.mk (Kept.then_ KP.out (Kept.of_below hb (fun b => b = gx)) (fun b hb => .inl hb)); replace HX := Aside0.mk (blk_below HX.out hb); replace HL := Aside0.mk (blk_below HL.out hb); replace HZ := Aside0.mk (Below.trans HZ.out (Below.mono hb (Nat.zero_le _)))
      clear hb
      generalize w2.drewN nq = w3 at KP HX HL HZ ⊢
      clear c1 c3 c7 c8 c9 d0 d3 f1 f7 f8 f9
      have c1 : w3.cell? ⟨gx, 1, none⟩ = some (.int .i64 sn) := (blk_cell HX.out 1).trans rfl
      have c3 : w3.cell? ⟨gx, 3, none⟩ = some (.int .i64 x3) := (blk_cell HX.out 3).trans rfl
      have c7 : w3.cell? ⟨gx, 7, none⟩ = some (.int .i64 rw_) := (blk_cell HX.out 7).trans rfl
      have c8 : w3.cell? ⟨gx, 8, none⟩ = some (.int .i64 x8) := (blk_cell HX.out 8).trans rfl
      have c9 : w3.cell? ⟨gx, 9, none⟩ = some (.int .i64 x9) := (blk_cell HX.out 9).trans rfl
      have d0 : w3.cell? ⟨gl, 0, none⟩ = some (.int .i64 l0) := (blk_cell HL.out 0).trans rfl
      have d3 : w3.cell? ⟨gl, 3, none⟩ = some (.int .i64 l3) := (blk_cell HL.out 3).trans rfl
      have f1 := blk_frozen HX.out 1
      have f7 := blk_frozen HX.out 7
      have f8 := blk_frozen HX.out 8
      have f9 := blk_frozen HX.out 9
      go_wp2_with (fail)
      clear c1 c3 c7 c8 c9 d0 d3 f1 f7 f8 f9
      replace KP := Aside0.mk (Kept.setCell KP.out (p := ⟨gx, 9, none⟩) (.inl rfl) (.int .i64 1))
      replace HZ := Aside0.mk (Below.setCell HZ.out (p := ⟨gx, 9, none⟩) (Nat.zero_le _) (.int .i64 1))
      replace HL := Aside0.mk (blk_far HL.out (p := ⟨gx, 9, none⟩) HNE.out (.int .i64 1))
      replace HX := Aside0.mk (blk_put (cs := #[.int .i64 x0, .int .i64 sn, .int .i64 x2, .int .i64 x3, .int .i64 x4, .int .i64 x5, .int .i64 x6, .int .i64 rw_, .int .i64 x8, .int .i64 x9, .int .i64 x10, .int .i64 x11]) (cs' := #[.int .i64 x0, .int .i64 sn, .int .i64 x2, .int .i64 x3, .int .i64 x4, .int .i64 x5, .int .i64 x6, .int .i64 rw_, .int .i64 x8, .int .i64 1, .int .i64 x10, .int .i64 x11]) HX.out 9 (.int .i64 1) rfl)
      replace KP := Aside0.mk (Kept.setCell KP.out (p := ⟨gx, 8, none⟩) (.inl rfl) (.int .i64 (wrap64 (x8 + 1))))
      replace HZ := Aside0.mk (Below.setCell HZ.out (p := ⟨gx, 8, none⟩) (Nat.zero_le _) (.int .i64 (wrap64 (x8 + 1))))
      replace HL := Aside0.mk (blk_far HL.out (p := ⟨gx, 8, none⟩) HNE.out (.int .i64 (wrap64 (x8 + 1))))
      replace HX := Aside0.mk (blk_put (cs := #[.int .i64 x0, .int .i64 sn, .int .i64 x2, .int .i64 x3, .int .i64 x4, .int .i64 x5, .int .i64 x6, .int .i64 rw_, .int .i64 x8, .int .i64 1, .int .i64 x10, .int .i64 x11]) (cs' := #[.int .i64 x0, .int .i64 sn, .int .i64 x2, .int .i64 x3, .int .i64 x4, .int .i64 x5, .int .i64 x6, .int .i64 rw_, .int .i64 (wrap64 (x8 + 1)), .int .i64 1, .int .i64 x10, .int .i64 x11]) HX.out 8 (.int .i64 (wrap64 (x8 + 1))) rfl)
      generalize ((w3.setCell ⟨gx, 9, none⟩ (.int .i64 1)).setCell ⟨gx, 8, none⟩ (.int .i64 (wrap64 (x8 + 1)))) = w9 at KP HX HL HZ ⊢
      go_ret2
      obtain ⟨e1, e8, e9, rfl⟩ := EH.out
      exact ⟨by rw [← HRV.out]; first | rfl | (simp; done), by rw [← e1, ← e8, ← e9]; exact HX.out, KP.out, HZ.out⟩
     ·rw [if_pos (show x3 = x8 ∧ x8 < l3 from ⟨h5, by omega⟩)] at h
      simp only [Prod.mk.injEq] at h
      have EH := Aside0.mk h
      have q5 : (x3 != x8) = false := bne_eq_false_iff_eq.mpr h5
      have q6 : decide (x8 ≥ l3) = false := decide_eq_false h6
      have q7 : decide (l3 ≤ x8) = false := decide_eq_false h6
      clear h5 h6
      clear h
      go_quiet (fail)
      have hb := pw_below_drewN (Below.refl w2.heap.size w2) nq
      replace KP := Aside0.mk (Kept.then_ KP.out (Kept.of_below hb (fun b => b = gx)) (fun b hb => .inl hb)); replace HX := Aside0.mk (blk_below HX.out hb); replace HL := Aside0.mk (blk_below HL.out hb); replace HZ := Aside0.mk (Below.trans HZ.out (Below.mono hb (Nat.zero_le _)))
      clear hb
      generalize w2.drewN nq = w3 at KP HX HL HZ ⊢
      clear c1 c3 c7 c8 c9 d0 d3 f1 f7 f8 f9
      have c1 : w3.cell? ⟨gx, 1, none⟩ = some (.int .i64 sn) := (blk_cell HX.out 1).trans rfl
      have c3 : w3.cell? ⟨gx, 3, none⟩ = some (.int .i64 x3) := (blk_cell HX.out 3).trans rfl
      have c7 : w3.cell? ⟨gx, 7, none⟩ = some (.int .i64 rw_) := (blk_cell HX.out 7).trans rfl
      have c8 : w3.cell? ⟨gx, 8, none⟩ = some (.int .i64 x8) := (blk_cell HX.out 8).trans rfl
      have c9 : w3.cell? ⟨gx, 9, none⟩ = some (.int .i64 x9) := (blk_cell HX.out 9).trans rfl
      have d0 : w3.cell? ⟨gl, 0, none⟩ = some (.int .i64 l0) := (blk_cell HL.out 0).trans rfl
      have d3 : w3.cell? ⟨gl, 3, none⟩ = some (.int .i64 l3) := (blk_cell HL.out 3).trans rfl
      have f1 := blk_frozen HX.out 1
      have f7 := blk_frozen HX.out 7
      have f8 := blk_frozen HX.out 8
      have f9 := blk_frozen HX.out 9
      go_wp2_with (fail)
      clear c1 c3 c7 c8 c9 d0 d3 f1 f7 f8 f9
      replace KP := Aside0.mk (Kept.setCell KP.out (p := ⟨gx, 8, none⟩) (.inl rfl) (.int .i64 (wrap64 (x8 + 1))))
      replace HZ := Aside0.mk (Below.setCell HZ.out (p := ⟨gx, 8, none⟩) (Nat.zero_le _) (.int .i64 (wrap64 (x8 + 1))))
      replace HL := Aside0.mk (blk_far HL.out (p := ⟨gx, 8, none⟩) HNE.out (.int .i64 (wrap64 (x8 + 1))))
      replace HX := Aside0.mk (blk_put (cs := #[.int .i64 x0, .int .i64 sn, .int .i64 x2, .int .i64 x3, .int .i64 x4, .int .i64 x5, .int .i64 x6, .int .i64 rw_, .int .i64 x8, .int .i64 x9, .int .i64 x10, .int .i64 x11]) (cs' := #[.int .i64 x0, .int .i64 sn, .int .i64 x2, .int .i64 x3, .int .i64 x4, .int .i64 x5, .int .i64 x6, .int .i64 rw_, .int .i64 (wrap64 (x8 + 1)), .int .i64 x9, .int .i64 x10, .int .i64 x11]) HX.out 8 (.int .i64 (wrap64 (x8 + 1))) rfl)
      generalize (w3.setCell ⟨gx, 8, none⟩ (.int .i64 (wrap64 (x8 + 1)))) = w9 at KP HX HL HZ ⊢
      go_ret2
      obtain ⟨e1, e8, e9, rfl⟩ := EH.out
      exact ⟨by rw [← HRV.out]; first | rfl | (simp; done), by rw [← e1, ← e8, ← e9]; exact HX.out, KP.out, HZ.out⟩
    ·rw [if_neg (show ¬ (x3 = x8 ∧ x8 < l3) from fun h_ => h5 h_.1)] at h
     simp only [Prod.mk.injEq] at h
     have EH := Aside0.mk h
     have q5 : (x3 != x8) = true := bne_iff_ne.mpr h5
     clear h5
     clear h
     go_quiet (fail)
     have hb := pw_below_drewN (Below.refl w2.heap.size w2) nq
     replace KP := Aside0.mk (Kept.then_ KP.out (Kept.of_below hb (fun b => b = gx)) (fun b hb => .inl hb)); replace HX := Aside0.mk (blk_below HX.out hb); replace HL := Aside0.mk (blk_below HL.out hb); replace HZ := Aside0.mk (Below.trans HZ.out (Below.mono hb (Nat.zero_le _)))
     clear hb
     generalize w2.drewN nq = w3 at KP HX HL HZ ⊢
     clear c1 c3 c7 c8 c9 d0 d3 f1 f7 f8 f9
     have c1 : w3.cell? ⟨gx, 1, none⟩ = some (.int .i64 sn) := (blk_cell HX.out 1).trans rfl
     have c3 : w3.cell? ⟨gx, 3, none⟩ = some (.int .i64 x3) := (blk_cell HX.out 3).trans rfl
     have c7 : w3.cell? ⟨gx, 7, none⟩ = some (.int .i64 rw_) := (blk_cell HX.out 7).trans rfl
     have c8 : w3.cell? ⟨gx, 8, none⟩ = some (.int .i64 x8) := (blk_cell HX.out 8).trans rfl
     have c9 : w3.cell? ⟨gx, 9, none⟩ = some (.int .i64 x9) := (blk_cell HX.out 9).trans rfl
     have d0 : w3.cell? ⟨gl, 0, none⟩ = some (.int .i64 l0) := (blk_cell HL.out 0).trans rfl
     have d3 : w3.cell? ⟨gl, 3, none⟩ = some (.int .i64 l3) := (blk_cell HL.out 3).trans rfl
     have f1 := blk_frozen HX.out 1
     have f7 := blk_frozen HX.out 7
     have f8 := blk_frozen HX.out 8
     have f9 := blk_frozen HX.out 9
     go_wp2_with (fail)
     clear c1 c3 c7 c8 c9 d0 d3 f1 f7 f8 f9
     replace KP := Aside0.mk (Kept.setCell KP.out (p := ⟨gx, 9, none⟩) (.inl rfl) (.int .i64 1))
     replace HZ := Aside0.mk (Below.setCell HZ.out (p := ⟨gx, 9, none⟩) (Nat.zero_le _) (.int .i64 1))
     replace HL := Aside0.mk (blk_far HL.out (p := ⟨gx, 9, none⟩) HNE.out (.int .i64 1))
     replace HX := Aside0.mk (blk_put (cs := #[.int .i64 x0, .int .i64 sn, .int .i64 x2, .int .i64 x3, .int .i64 x4, .int .i64 x5, .int .i64 x6, .int .i64 rw_, .int .i64 x8, .int .i64 x9, .int .i64 x10, .int .i64 x11]) (cs' := #[.int .i64 x0, .int .i64 sn, .int .i64 x2, .int .i64 x3, .int .i64 x4, .int .i64 x5, .int .i64 x6, .int .i64 rw_, .int .i64 x8, .int .i64 1, .int .i64 x10, .int .i64 x11]) HX.out 9 (.int .i64 1) rfl)
     replace KP := Aside0.mk (Kept.setCell KP.out (p := ⟨gx, 8, none⟩) (.inl rfl) (.int .i64 (wrap64 (x8 + 1))))
     replace HZ := Aside0.mk (Below.setCell HZ.out (p := ⟨gx, 8, none⟩) (Nat.zero_le _) (.int .i64 (wrap64 (x8 + 1))))
     replace HL := Aside0.mk (blk_far HL.out (p := ⟨gx, 8, none⟩) HNE.out (.int .i64 (wrap64 (x8 + 1))))
     replace HX := Aside0.mk (blk_put (cs := #[.int .i64 x0, .int .i64 sn, .int .i64 x2, .int .i64 x3, .int .i64 x4, .int .i64 x5, .int .i64 x6, .int .i64 rw_, .int .i64 x8, .int .i64 1, .int .i64 x10, .int .i64 x11]) (cs' := #[.int .i64 x0, .int .i64 sn, .int .i64 x2, .int .i64 x3, .int .i64 x4, .int .i64 x5, .int .i64 x6, .int .i64 rw_, .int .i64 (wrap64 (x8 + 1)), .int .i64 1, .int .i64 x10, .int .i64 x11]) HX.out 8 (.int .i64 (wrap64 (x8 + 1))) rfl)
     generalize ((w3.setCell ⟨gx, 9, none⟩ (.int .i64 1)).setCell ⟨gx, 8, none⟩ (.int .i64 (wrap64 (x8 + 1)))) = w9 at KP HX HL HZ ⊢
     go_ret2
     obtain ⟨e1, e8, e9, rfl⟩ := EH.out
     exact ⟨by rw [← HRV.out]; first | rfl | (simp; done), by rw [← e1, ← e8, ← e9]; exact HX.out, KP.out, HZ.out⟩
   ·rw [if_neg h4] at h
    have q4 : decide (x8 < 7) = false := decide_eq_false h4
    clear h4
    rcases Classical.em (x3 = x8) with h5 | h5
    ·rcases Classical.em (l3 ≤ x8) with h6 | h6
     ·rw [if_neg (show ¬ (x3 = x8 ∧ x8 < l3) from fun h_ => by have := h_.2; omega)] at h
      simp only [Prod.mk.injEq] at h
      have EH := Aside0.mk h
      have q5 : (x3 != x8) = false := bne_eq_false_iff_eq.mpr h5
      have q6 : decide (x8 ≥ l3) = true := decide_eq_true h6
      have q7 : decide (l3 ≤ x8) = true := decide_eq_true h6
      clear h5 h6
      clear h
      go_quiet (fail)
      have hb := pw_below_drewN (Below.refl w2.heap.size w2) nq
      replace KP := Aside0.mk (Kept.then_ KP.out (Kept.of_below hb (fun b => b = gx)) (fun b hb => .inl hb)); replace HX := Aside0.mk (blk_below HX.out hb); replace HL := Aside0.mk (blk_below HL.out hb); replace HZ := Aside0.mk (Below.trans HZ.out (Below.mono hb (Nat.zero_le _)))
      clear hb
      generalize w2.drewN nq = w3 at KP HX HL HZ ⊢
      clear c1 c3 c7 c8 c9 d0 d3 f1 f7 f8 f9
      have c1 : w3.cell? ⟨gx, 1, none⟩ = some (.int .i64 sn) := (blk_cell HX.out 1).trans rfl
      have c3 : w3.cell? ⟨gx, 3, none⟩ = some (.int .i64 x3) := (blk_cell HX.out 3).trans rfl
      have c7 : w3.cell? ⟨gx, 7, none⟩ = some (.int .i64 rw_) := (blk_cell HX.out 7).trans rfl
      have c8 : w3.cell? ⟨gx, 8, none⟩ = some (.int .i64 x8) := (blk_cell HX.out 8).trans rfl
      have c9 : w3.cell? ⟨gx, 9, none⟩ = some (.int .i64 x9) := (blk_cell HX.out 9).trans rfl
      have d0 : w3.cell? ⟨gl, 0, none⟩ = some (.int .i64 l0) := (blk_cell HL.out 0).trans rfl
      have d3 : w3.cell? ⟨gl, 3, none⟩ = some (.int .i64 l3) := (blk_cell HL.out 3).trans rfl
      have f1 := blk_frozen HX.out 1
      have f7 := blk_frozen HX.out 7
      have f8 := blk_frozen HX.out 8
      have f9 := blk_frozen HX.out 9
      go_wp2_with (fail)
      clear c1 c3 c7 c8 c9 d0 d3 f1 f7 f8 f9
      replace KP := Aside0.mk (Kept.setCell KP.out (p := ⟨gx, 9, none⟩) (.inl rfl) (.int .i64 1))
      replace HZ := Aside0.mk (Below.setCell HZ.out (p := ⟨gx, 9, none⟩) (Nat.zero_le _) (.int .i64 1))
      replace HL := Aside0.mk (blk_far HL.out (p := ⟨gx, 9, none⟩) HNE.out (.int .i64 1))
      replace HX := Aside0.mk (blk_put (cs := #[.int .i64 x0, .int .i64 sn, .int .i64 x2, .int .i64 x3, .int .i64 x4, .int .i64 x5, .int .i64 x6, .int .i64 rw_, .int .i64 x8, .int .i64 x9, .int .i64 x10, .int .i64 x11]) (cs' := #[.int .i64 x0, .int .i64 sn, .int .i64 x2, .int .i64 x3, .int .i64 x4, .int .i64 x5, .int .i64 x6, .int .i64 rw_, .int .i64 x8, .int .i64 1, .int .i64 x10, .int .i64 x11]) HX.out 9 (.int .i64 1) rfl)
      generalize (w3.setCell ⟨gx, 9, none⟩ (.int .i64 1)) = w9 at KP HX HL HZ ⊢
      go_ret2
      obtain ⟨e1, e8, e9, rfl⟩ := EH.out
      exact ⟨by rw [← HRV.out]; first | rfl | (simp; done), by rw [← e1, ← e8, ← e9]; exact HX.out, KP.out, HZ.out⟩
     ·rw [if_pos (show x3 = x8 ∧ x8 < l3 from ⟨h5, by omega⟩)] at h
      simp only [Prod.mk.injEq] at h
      have EH := Aside0.mk h
      have q5 : (x3 != x8) = false := bne_eq_false_iff_eq.mpr h5
      have q6 : decide (x8 ≥ l3) = false := decide_eq_false h6
      have q7 : decide (l3 ≤ x8) = false := decide_eq_false h6
      clear h5 h6
      clear h
      go_quiet (fail)
      have hb := pw_below_drewN (Below.refl w2.heap.size w2) nq
      replace KP := Aside0.mk (Kept.then_ KP.out (Kept.of_below hb (fun b => b = gx)) (fun b hb => .inl hb)); replace HX := Aside0.mk (blk_below HX.out hb); replace HL := Aside0.mk (blk_below HL.out hb); replace HZ := Aside0.mk (Below.trans HZ.out (Below.mono hb (Nat.zero_le _)))
      clear hb
      generalize w2.drewN nq = w3 at KP HX HL HZ ⊢
      clear c1 c3 c7 c8 c9 d0 d3 f1 f7 f8 f9
      have c1 : w3.cell? ⟨gx, 1, none⟩ = some (.int .i64 sn) := (blk_cell HX.out 1).trans rfl
      have c3 : w3.cell? ⟨gx, 3, none⟩ = some (.int .i64 x3) := (blk_cell HX.out 3).trans rfl
      have c7 : w3.cell? ⟨gx, 7, none⟩ = some (.int .i64 rw_) := (blk_cell HX.out 7).trans rfl
      have c8 : w3.cell? ⟨gx, 8, none⟩ = some (.int .i64 x8) := (blk_cell HX.out 8).trans rfl
      have c9 : w3.cell? ⟨gx, 9, none⟩ = some (.int .i64 x9) := (blk_cell HX.out 9).trans rfl
      have d0 : w3.cell? ⟨gl, 0, none⟩ = some (.int .i64 l0) := (blk_cell HL.out 0).trans rfl
      have d3 : w3.cell? ⟨gl, 3, none⟩ = some (.int .i64 l3) := (blk_cell HL.out 3).trans rfl
      have f1 := blk_frozen HX.out 1
      have f7 := blk_frozen HX.out 7
      have f8 := blk_frozen HX.out 8
      have f9 := blk_frozen HX.out 9
      go_wp2_with (fail)
      clear c1 c3 c7 c8 c9 d0 d3 f1 f7 f8 f9
      go_ret2
      obtain ⟨e1, e8, e9, rfl⟩ := EH.out
      exact ⟨by rw [← HRV.out]; first | rfl | (simp; done), by rw [← e1, ← e8, ← e9]; exact HX.out, KP.out, HZ.out⟩
    ·rw [if_neg (show ¬ (x3 = x8 ∧ x8 < l3) from fun h_ => h5 h_.1)] at h
     simp only [Prod.mk.injEq] at h
     have EH := Aside0.mk h
     have q5 : (x3 != x8) = true := bne_iff_ne.mpr h5
     clear h5
     clear h
     go_quiet (fail)
     have hb := pw_below_drewN (Below.refl w2.heap.size w2) nq
     replace KP := Aside0.mk (Kept.then_ KP.out (Kept.of_below hb (fun b => b = gx)) (fun b hb => .inl hb)); replace HX := Aside0.mk (blk_below HX.out hb); replace HL := Aside0.mk (blk_below HL.out hb); replace HZ := Aside0.mk (Below.trans HZ.out (Below.mono hb (Nat.zero_le _)))
     clear hb
     generalize w2.drewN nq = w3 at KP HX HL HZ ⊢
     clear c1 c3 c7 c8 c9 d0 d3 f1 f7 f8 f9
     have c1 : w3.cell? ⟨gx, 1, none⟩ = some (.int .i64 sn) := (blk_cell HX.out 1).trans rfl
     have c3 : w3.cell? ⟨gx, 3, none⟩ = some (.int .i64 x3) := (blk_cell HX.out 3).trans rfl
     have c7 : w3.cell? ⟨gx, 7, none⟩ = some (.int .i64 rw_) := (blk_cell HX.out 7).trans rfl
     have c8 : w3.cell? ⟨gx, 8, none⟩ = some (.int .i64 x8) := (blk_cell HX.out 8).trans rfl
     have c9 : w3.cell? ⟨gx, 9, none⟩ = some (.int .i64 x9) := (blk_cell HX.out 9).trans rfl
     have d0 : w3.cell? ⟨gl, 0, none⟩ = some (.int .i64 l0) := (blk_cell HL.out 0).trans rfl
     have d3 : w3.cell? ⟨gl, 3, none⟩ = some (.int .i64 l3) := (blk_cell HL.out 3).trans rfl
     have f1 := blk_frozen HX.out 1
     have f7 := blk_frozen HX.out 7
     have f8 := blk_frozen HX.out 8
     have f9 := blk_frozen HX.out 9
     go_wp2_with (fail)
     clear c1 c3 c7 c8 c9 d0 d3 f1 f7 f8 f9
     replace KP := Aside0.mk (Kept.setCell KP.out (p := ⟨gx, 9, none⟩) (.inl rfl) (.int .i64 1))
     replace HZ := Aside0.mk (Below.setCell HZ.out (p := ⟨gx, 9, none⟩) (Nat.zero_le _) (.int .i64 1))
     replace HL := Aside0.mk (blk_far HL.out (p := ⟨gx, 9, none⟩) HNE.out (.int .i64 1))
     replace HX := Aside0.mk (blk_put (cs := #[.int .i64 x0, .int .i64 sn, .int .i64 x2, .int .i64 x3, .int .i64 x4, .int .i64 x5, .int .i64 x6, .int .i64 rw_, .int .i64 x8, .int .i64 x9, .int .i64 x10, .int .i64 x11]) (cs' := #[.int .i64 x0, .int .i64 sn, .int .i64 x2, .int .i64 x3, .int .i64 x4, .int .i64 x5, .int .i64 x6, .int .i64 rw_, .int .i64 x8, .int .i64 1, .int .i64 x10, .int .i64 x11]) HX.out 9 (.int .i64 1) rfl)
     generalize (w3.setCell ⟨gx, 9, none⟩ (.int .i64 1)) = w9 at KP HX HL HZ ⊢
     go_ret2
     obtain ⟨e1, e8, e9, rfl⟩ := EH.out
     exact ⟨by rw [← HRV.out]; first | rfl | (simp; done), by rw [← e1, ← e8, ← e9]; exact HX.out, KP.out, HZ.out⟩
 ·rw [if_neg (fun h_ => h1 h_.1)] at h
  have p2 : (l0 == 4) = false := beq_eq_false_iff_ne.mpr h1
  clear h1
  have HH := Aside0.mk h
  clear h
  go_wp2_with (fail)
  have h := HH.out
  clear HH
  clear c1 c3 c7 c8 c9 d0 d3 f1 f7 f8 f9
  replace KP := Aside0.mk (Kept.setCell KP.out (p := ⟨gx, 7, none⟩) (.inl rfl) (.int .i64 rw_))
  replace HZ := Aside0.mk (Below.setCell HZ.out (p := ⟨gx, 7, none⟩) (Nat.zero_le _) (.int .i64 rw_))
  replace HL := Aside0.mk (blk_far HL.out (p := ⟨gx, 7, none⟩) HNE.out (.int .i64 rw_))
  replace HX := Aside0.mk (blk_put (cs := #[.int .i64 x0, .int .i64 x1, .int .i64 x2, .int .i64 x3, .int .i64 x4, .int .i64 x5, .int .i64 x6, .int .i64 x7, .int .i64 x8, .int .i64 x9, .int .i64 x10, .int .i64 x11]) (cs' := #[.int .i64 x0, .int .i64 x1, .int .i64 x2, .int .i64 x3, .int .i64 x4, .int .i64 x5, .int .i64 x6, .int .i64 rw_, .int .i64 x8, .int .i64 x9, .int .i64 x10, .int .i64 x11]) HX.out 7 (.int .i64 rw_) rfl)
  replace KP := Aside0.mk (Kept.setCell KP.out (p := ⟨gx, 1, none⟩) (.inl rfl) (.int .i64 sn))
  replace HZ := Aside0.mk (Below.setCell HZ.out (p := ⟨gx, 1, none⟩) (Nat.zero_le _) (.int .i64 sn))
  replace HL := Aside0.mk (blk_far HL.out (p := ⟨gx, 1, none⟩) HNE.out (.int .i64 sn))
  replace HX := Aside0.mk (blk_put (cs := #[.int .i64 x0, .int .i64 x1, .int .i64 x2, .int .i64 x3, .int .i64 x4, .int .i64 x5, .int .i64 x6, .int .i64 rw_, .int .i64 x8, .int .i64 x9, .int .i64 x10, .int .i64 x11]) (cs' := #[.int .i64 x0, .int .i64 sn, .int .i64 x2, .int .i64 x3, .int .i64 x4, .int .i64 x5, .int .i64 x6, .int .i64 rw_, .int .i64 x8, .int .i64 x9, .int .i64 x10, .int .i64 x11]) HX.out 1 (.int .i64 sn) rfl)
  generalize ((w1.setCell ⟨gx, 7, none⟩ (.int .i64 rw_)).setCell ⟨gx, 1, none⟩ (.int .i64 sn)) = w2 at KP HX HL HZ ⊢
  have c1 : w2.cell? ⟨gx, 1, none⟩ = some (.int .i64 sn) := (blk_cell HX.out 1).trans rfl
  have c3 : w2.cell? ⟨gx, 3, none⟩ = some (.int .i64 x3) := (blk_cell HX.out 3).trans rfl
  have c7 : w2.cell? ⟨gx, 7, none⟩ = some (.int .i64 rw_) := (blk_cell HX.out 7).trans rfl
  have c8 : w2.cell? ⟨gx, 8, none⟩ = some (.int .i64 x8) := (blk_cell HX.out 8).trans rfl
  have c9 : w2.cell? ⟨gx, 9, none⟩ = some (.int .i64 x9) := (blk_cell HX.out 9).trans rfl
  have d0 : w2.cell? ⟨gl, 0, none⟩ = some (.int .i64 l0) := (blk_cell HL.out 0).trans rfl
  have d3 : w2.cell? ⟨gl, 3, none⟩ = some (.int .i64 l3) := (blk_cell HL.out 3).trans rfl
  have f1 := blk_frozen HX.out 1
  have f7 := blk_frozen HX.out 7
  have f8 := blk_frozen HX.out 8
  have f9 := blk_frozen HX.out 9
  rcases Classical.em (x8 < 7) with h4 | h4
  ·rw [if_pos h4] at h
   have q4 : decide (x8 < 7) = true := decide_eq_true h4
   clear h4
   rcases Classical.em (x3 = x8) with h5 | h5
   ·rcases Classical.em (l3 ≤ x8) with h6 | h6
    ·rw [if_neg (show ¬ (x3 = x8 ∧ x8 < l3) from fun h_ => by have := h_.2; omega)] at h
     simp only [Prod.mk.injEq] at h
     have EH := Aside0.mk h
     have q5 : (x3 != x8) = false := bne_eq_false_iff_eq.mpr h5
     have q6 : decide (x8 ≥ l3) = true := decide_eq_true h6
     have q7 : decide (l3 ≤ x8) = true := decide_eq_true h6
     clear h5 h6
     clear h
     go_quiet (fail)
     have hb := pw_below_drewN (Below.refl w2.heap.size w2) nq
     replace KP := Aside0.mk (Kept.then_ KP.out (Kept.of_below hb (fun b => b = gx)) (fun b hb => .inl hb)); replace HX := Aside0.mk (blk_below HX.out hb); replace HL := Aside0.mk (blk_below HL.out hb); replace HZ := Aside0.mk (Below.trans HZ.out (Below.mono hb (Nat.zero_le _)))
     clear hb
     generalize w2.drewN nq = w3 at KP HX HL HZ ⊢
     clear c1 c3 c7 c8 c9 d0 d3 f1 f7 f8 f9
     have c1 : w3.cell? ⟨gx, 1, none⟩ = some (.int .i64 sn) := (blk_cell HX.out 1).trans rfl
     have c3 : w3.cell? ⟨gx, 3, none⟩ = some (.int .i64 x3) := (blk_cell HX.out 3).trans rfl
     have c7 : w3.cell? ⟨gx, 7, none⟩ = some (.int .i64 rw_) := (blk_cell HX.out 7).trans rfl
     have c8 : w3.cell? ⟨gx, 8, none⟩ = some (.int .i64 x8) := (blk_cell HX.out 8).trans rfl
     have c9 : w3.cell? ⟨gx, 9, none⟩ = some (.int .i64 x9) := (blk_cell HX.out 9).trans rfl
     have d0 : w3.cell? ⟨gl, 0, none⟩ = some (.int .i64 l0) := (blk_cell HL.out 0).trans rfl
     have d3 : w3.cell? ⟨gl, 3, none⟩ = some (.int .i64 l3) := (blk_cell HL.out 3).trans rfl
     have f1 := blk_frozen HX.out 1
     have f7 := blk_frozen HX.out 7
     have f8 := blk_frozen HX.out 8
     have f9 := blk_frozen HX.out 9
     go_wp2_with (fail)
     clear c1 c3 c7 c8 c9 d0 d3 f1 f7 f8 f9
     replace KP := Aside0.mk (Kept.setCell KP.out (p := ⟨gx, 9, none⟩) (.inl rfl) (.int .i64 1))
     replace HZ := Aside0.mk (Below.setCell HZ.out (p := ⟨gx, 9, none⟩) (Nat.zero_le _) (.int .i64 1))
     replace HL := Aside0.mk (blk_far HL.out (p := ⟨gx, 9, none⟩) HNE.out (.int .i64 1))
     replace HX := Aside0.mk (blk_put (cs := #[.int .i64 x0, .int .i64 sn, .int .i64 x2, .int .i64 x3, .int .i64 x4, .int .i64 x5, .int .i64 x6, .int .i64 rw_, .int .i64 x8, .int .i64 x9, .int .i64 x10, .int .i64 x11]) (cs' := #[.int .i64 x0, .int .i64 sn, .int .i64 x2, .int .i64 x3, .int .i64 x4, .int .i64 x5, .int .i64 x6, .int .i64 rw_, .int .i64 x8, .int .i64 1, .int .i64 x10, .int .i64 x11]) HX.out 9 (.int .i64 1) rfl)
     replace KP := Aside0.mk (Kept.setCell KP.out (p := ⟨gx, 8, none⟩) (.inl rfl) (.int .i64 (wrap64 (x8 + 1))))
     replace HZ := Aside0.mk (Below.setCell HZ.out (p := ⟨gx, 8, none⟩) (Nat.zero_le _) (.int .i64 (wrap64 (x8 + 1))))
     replace HL := Aside0.mk (blk_far HL.out (p := ⟨gx, 8, none⟩) HNE.out (.int .i64 (wrap64 (x8 + 1))))
     replace HX := Aside0.mk (blk_put (cs := #[.int .i64 x0, .int .i64 sn, .int .i64 x2, .int .i64 x3, .int .i64 x4, .int .i64 x5, .int .i64 x6, .int .i64 rw_, .int .i64 x8, .int .i64 1, .int .i64 x10, .int .i64 x11]) (cs' := #[.int .i64 x0, .int .i64 sn, .int .i64 x2, .int .i64 x3, .int .i64 x4, .int .i64 x5, .int .i64 x6, .int .i64 rw_, .int .i64 (wrap64 (x8 + 1)), .int .i64 1, .int .i64 x10, .int .i64 x11]) HX.out 8 (.int .i64 (wrap64 (x8 + 1))) rfl)
     generalize ((w3.setCell ⟨gx, 9, none⟩ (.int .i64 1)).setCell ⟨gx, 8, none⟩ (.int .i64 (wrap64 (x8 + 1)))) = w9 at KP HX HL HZ ⊢
     go_ret2
     obtain ⟨e1, e8, e9, rfl⟩ := EH.out
     exact ⟨by rw [← HRV.out]; first | rfl | (simp; done), by rw [← e1, ← e8, ← e9]; exact HX.out, KP.out, HZ.out⟩
    ·rw [if_pos (show x3 = x8 ∧ x8 < l3 from ⟨h5, by omega⟩)] at h
     simp only [Prod.mk.injEq] at h
     have EH := Aside0.mk h
     have q5 : (x3 != x8) = false := bne_eq_false_iff_eq.mpr h5
     have q6 : decide (x8 ≥ l3) = false := decide_eq_false h6
     have q7 : decide (l3 ≤ x8) = false := decide_eq_false h6
     clear h5 h6
     clear h
     go_quiet (fail)
     have hb := pw_below_drewN (Below.refl w2.heap.size w2) nq
     replace KP := Aside0.mk (Kept.then_ KP.out (Kept.of_below hb (fun b => b = gx)) (fun b hb => .inl hb)); replace HX := Aside0.mk (blk_below HX.out hb); replace HL := Aside0.mk (blk_below HL.out hb); replace HZ := Aside0.mk (Below.trans HZ.out (Below.mono hb (Nat.zero_le _)))
     clear hb
     generalize w2.drewN nq = w3 at KP HX HL HZ ⊢
     clear c1 c3 c7 c8 c9 d0 d3 f1 f7 f8 f9
     have c1 : w3.cell? ⟨gx, 1, none⟩ = some (.int .i64 sn) := (blk_cell HX.out 1).trans rfl
     have c3 : w3.cell? ⟨gx, 3, none⟩ = some (.int .i64 x3) := (blk_cell HX.out 3).trans rfl
     have c7 : w3.cell? ⟨gx, 7, none⟩ = some (.int .i64 rw_) := (blk_cell HX.out 7).trans rfl
     have c8 : w3.cell? ⟨gx, 8, none⟩ = some (.int .i64 x8) := (blk_cell HX.out 8).trans rfl
     have c9 : w3.cell? ⟨gx, 9, none⟩ = some (.int .i64 x9) := (blk_cell HX.out 9).trans rfl
     have d0 : w3.cell? ⟨gl, 0, none⟩ = some (.int .i64 l0) := (blk_cell HL.out 0).trans rfl
     have d3 : w3.cell? ⟨gl, 3, none⟩ = some (.int .i64 l3) := (blk_cell HL.out 3).trans rfl
     have f1 := blk_frozen HX.out 1
     have f7 := blk_frozen HX.out 7
     have f8 := blk_frozen HX.out 8
     have f9 := blk_frozen HX.out 9
     go_wp2_with (fail)
     clear c1 c3 c7 c8 c9 d0 d3 f1 f7 f8 f9
     replace KP := Aside0.mk (Kept.setCell KP.out (p := ⟨gx, 8, none⟩) (.inl rfl) (.int .i64 (wrap64 (x8 + 1))))
     replace HZ := Aside0.mk (Below.setCell HZ.out (p := ⟨gx, 8, none⟩) (Nat.zero_le _) (.int .i64 (wrap64 (x8 + 1))))
     replace HL := Aside0.mk (blk_far HL.out (p := ⟨gx, 8, none⟩) HNE.out (.int .i64 (wrap64 (x8 + 1))))
     replace HX := Aside0.mk (blk_put (cs := #[.int .i64 x0, .int .i64 sn, .int .i64 x2, .int .i64 x3, .int .i64 x4, .int .i64 x5, .int .i64 x6, .int .i64 rw_, .int .i64 x8, .int .i64 x9, .int .i64 x10, .int .i64 x11]) (cs' := #[.int .i64 x0, .int .i64 sn, .int .i64 x2, .int .i64 x3, .int .i64 x4, .int .i64 x5, .int .i64 x6, .int .i64 rw_, .int .i64 (wrap64 (x8 + 1)), .int .i64 x9, .int .i64 x10, .int .i64 x11]) HX.out 8 (.int .i64 (wrap64 (x8 + 1))) rfl)
     generalize (w3.setCell ⟨gx, 8, none⟩ (.int .i64 (wrap64 (x8 + 1)))) = w9 at KP HX HL HZ ⊢
     go_ret2
     obtain ⟨e1, e8, e9, rfl⟩ := EH.out
     exact ⟨by rw [← HRV.out]; first | rfl | (simp; done), by rw [← e1, ← e8, ← e9]; exact HX.out, KP.out, HZ.out⟩
   ·rw [if_neg (show ¬ (x3 = x8 ∧ x8 < l3) from fun h_ => h5 h_.1)] at h
    simp only [Prod.mk.injEq] at h
    have EH := Aside0.mk h
    have q5 : (x3 != x8) = true := bne_iff_ne.mpr h5
    clear h5
    clear h
    go_quiet (fail)
    have hb := pw_below_drewN (Below.refl w2.heap.size w2) nq
    replace KP := Aside0.mk (Kept.then_ KP.out (Kept.of_below hb (fun b => b = gx)) (fun b hb => .inl hb)); replace HX := Aside0.mk (blk_below HX.out hb); replace HL := Aside0.mk (blk_below HL.out hb); replace HZ := Aside0.mk (Below.trans HZ.out (Below.mono hb (Nat.zero_le _)))
    clear hb
    generalize w2.drewN nq = w3 at KP HX HL HZ ⊢
    clear c1 c3 c7 c8 c9 d0 d3 f1 f7 f8 f9
    have c1 : w3.cell? ⟨gx, 1, none⟩ = some (.int .i64 sn) := (blk_cell HX.out 1).trans rfl
    have c3 : w3.cell? ⟨gx, 3, none⟩ = some (.int .i64 x3) := (blk_cell HX.out 3).trans rfl
    have c7 : w3.cell? ⟨gx, 7, none⟩ = some (.int .i64 rw_) := (blk_cell HX.out 7).trans rfl
    have c8 : w3.cell? ⟨gx, 8, none⟩ = some (.int .i64 x8) := (blk_cell HX.out 8).trans rfl
    have c9 : w3.cell? ⟨gx, 9, none⟩ = some (.int .i64 x9) := (blk_cell HX.out 9).trans rfl
    have d0 : w3.cell? ⟨gl, 0, none⟩ = some (.int .i64 l0) := (blk_cell HL.out 0).trans rfl
    have d3 : w3.cell? ⟨gl, 3, none⟩ = some (.int .i64 l3) := (blk_cell HL.out 3).trans rfl
    have f1 := blk_frozen HX.out 1
    have f7 := blk_frozen HX.out 7
    have f8 := blk_frozen HX.out 8
    have f9 := blk_frozen HX.out 9
    go_wp2_with (fail)
    clear c1 c3 c7 c8 c9 d0 d3 f1 f7 f8 f9
    replace KP := Aside0.mk (Kept.setCell KP.out (p := ⟨gx, 9, none⟩) (.inl rfl) (.int .i64 1))
    replace HZ := Aside0.mk (Below.setCell HZ.out (p := ⟨gx, 9, none⟩) (Nat.zero_le _) (.int .i64 1))
    replace HL := Aside0.mk (blk_far HL.out (p := ⟨gx, 9, none⟩) HNE.out (.int .i64 1))
    replace HX := Aside0.mk (blk_put (cs := #[.int .i64 x0, .int .i64 sn, .int .i64 x2, .int .i64 x3, .int .i64 x4, .int .i64 x5, .int .i64 x6, .int .i64 rw_, .int .i64 x8, .int .i64 x9, .int .i64 x10, .int .i64 x11]) (cs' := #[.int .i64 x0, .int .i64 sn, .int .i64 x2, .int .i64 x3, .int .i64 x4, .int .i64 x5, .int .i64 x6, .int .i64 rw_, .int .i64 x8, .int .i64 1, .int .i64 x10, .int .i64 x11]) HX.out 9 (.int .i64 1) rfl)
    replace KP := Aside0.mk (Kept.setCell KP.out (p := ⟨gx, 8, none⟩) (.inl rfl) (.int .i64 (wrap64 (x8 + 1))))
    replace HZ := Aside0.mk (Below.setCell HZ.out (p := ⟨gx, 8, none⟩) (Nat.zero_le _) (.int .i64 (wrap64 (x8 + 1))))
    replace HL := Aside0.mk (blk_far HL.out (p := ⟨gx, 8, none⟩) HNE.out (.int .i64 (wrap64 (x8 + 1))))
    replace HX := Aside0.mk (blk_put (cs := #[.int .i64 x0, .int .i64 sn, .int .i64 x2, .int .i64 x3, .int .i64 x4, .int .i64 x5, .int .i64 x6, .int .i64 rw_, .int .i64 x8, .int .i64 1, .int .i64 x10, .int .i64 x11]) (cs' := #[.int .i64 x0, .int .i64 sn, .int .i64 x2, .int .i64 x3, .int .i64 x4, .int .i64 x5, .int .i64 x6, .int .i64 rw_, .int .i64 (wrap64 (x8 + 1)), .int .i64 1, .int .i64 x10, .int .i64 x11]) HX.out 8 (.int .i64 (wrap64 (x8 + 1))) rfl)
    generalize ((w3.setCell ⟨gx, 9, none⟩ (.int .i64 1)).setCell ⟨gx, 8, none⟩ (.int .i64 (wrap64 (x8 + 1)))) = w9 at KP HX HL HZ ⊢
    go_ret2
    obtain ⟨e1, e8, e9, rfl⟩ := EH.out
    exact ⟨by rw [← HRV.out]; first | rfl | (simp; done), by rw [← e1, ← e8, ← e9]; exact HX.out, KP.out, HZ.out⟩
  ·rw [if_neg h4] at h
   have q4 : decide (x8 < 7) = false := decide_eq_false h4
   clear h4
   rcases Classical.em (x3 = x8) with h5 | h5
   ·rcases Classical.em (l3 ≤ x8) with h6 | h6
    ·rw [if_neg (show ¬ (x3 = x8 ∧ x8 < l3) from fun h_ => by have := h_.2; omega)] at h
     simp only [Prod.mk.injEq] at h
     have EH := Aside0.mk h
     have q5 : (x3 != x8) = false := bne_eq_false_iff_eq.mpr h5
     have q6 : decide (x8 ≥ l3) = true := decide_eq_true h6
     have q7 : decide (l3 ≤ x8) = true := decide_eq_true h6
     clear h5 h6
     clear h
     go_quiet (fail)
     have hb := pw_below_drewN (Below.refl w2.heap.size w2) nq
     replace KP := Aside0.mk (Kept.then_ KP.out (Kept.of_below hb (fun b => b = gx)) (fun b hb => .inl hb)); replace HX := Aside0.mk (blk_below HX.out hb); replace HL := Aside0.mk (blk_below HL.out hb); replace HZ := Aside0.mk (Below.trans HZ.out (Below.mono hb (Nat.zero_le _)))
     clear hb
     generalize w2.drewN nq = w3 at KP HX HL HZ ⊢
     clear c1 c3 c7 c8 c9 d0 d3 f1 f7 f8 f9
     have c1 : w3.cell? ⟨gx, 1, none⟩ = some (.int .i64 sn) := (blk_cell HX.out 1).trans rfl
     have c3 : w3.cell? ⟨gx, 3, none⟩ = some (.int .i64 x3) := (blk_cell HX.out 3).trans rfl
     have c7 : w3.cell? ⟨gx, 7, none⟩ = some (.int .i64 rw_) := (blk_cell HX.out 7).trans rfl
     have c8 : w3.cell? ⟨gx, 8, none⟩ = some (.int .i64 x8) := (blk_cell HX.out 8).trans rfl
     have c9 : w3.cell? ⟨gx, 9, none⟩ = some (.int .i64 x9) := (blk_cell HX.out 9).trans rfl
     have d0 : w3.cell? ⟨gl, 0, none⟩ = some (.int .i64 l0) := (blk_cell HL.out 0).trans rfl
     have d3 : w3.cell? ⟨gl, 3, none⟩ = some (.int .i64 l3) := (blk_cell HL.out 3).trans rfl
     have f1 := blk_frozen HX.out 1
     have f7 := blk_frozen HX.out 7
     have f8 := blk_frozen HX.out 8
     have f9 := blk_frozen HX.out 9
     go_wp2_with (fail)
     clear c1 c3 c7 c8 c9 d0 d3 f1 f7 f8 f9
     replace KP := Aside0.mk (Kept.setCell KP.out (p := ⟨gx, 9, none⟩) (.inl rfl) (.int .i64 1))
     replace HZ := Aside0.mk (Below.setCell HZ.out (p := ⟨gx, 9, none⟩) (Nat.zero_le _) (.int .i64 1))
     replace HL := Aside0.mk (blk_far HL.out (p := ⟨gx, 9, none⟩) HNE.out (.int .i64 1))
     replace HX := Aside0.mk (blk_put (cs := #[.int .i64 x0, .int .i64 sn, .int .i64 x2, .int .i64 x3, .int .i64 x4, .int .i64 x5, .int .i64 x6, .int .i64 rw_, .int .i64 x8, .int .i64 x9, .int .i64 x10, .int .i64 x11]) (cs' := #[.int .i64 x0, .int .i64 sn, .int .i64 x2, .int .i64 x3, .int .i64 x4, .int .i64 x5, .int .i64 x6, .int .i64 rw_, .int .i64 x8, .int .i64 1, .int .i64 x10, .int .i64 x11]) HX.out 9 (.int .i64 1) rfl)
     generalize (w3.setCell ⟨gx, 9, none⟩ (.int .i64 1)) = w9 at KP HX HL HZ ⊢
     go_ret2
     obtain ⟨e1, e8, e9, rfl⟩ := EH.out
     exact ⟨by rw [← HRV.out]; first | rfl | (simp; done), by rw [← e1, ← e8, ← e9]; exact HX.out, KP.out, HZ.out⟩
    ·rw [if_pos (show x3 = x8 ∧ x8 < l3 from ⟨h5, by omega⟩)] at h
     simp only [Prod.mk.injEq] at h
     have EH := Aside0.mk h
     have q5 : (x3 != x8) = false := bne_eq_false_iff_eq.mpr h5
     have q6 : decide (x8 ≥ l3) = false := decide_eq_false h6
     have q7 : decide (l3 ≤ x8) = false := decide_eq_false h6
     clear h5 h6
     clear h
     go_quiet (fail)
     have hb := pw_below_drewN (Below.refl w2.heap.size w2) nq
     replace KP := Aside0.mk (Kept.then_ KP.out (Kept.of_below hb (fun b => b = gx)) (fun b hb => .inl hb)); replace HX := Aside0.mk (blk_below HX.out hb); replace HL := Aside0.mk (blk_below HL.out hb); replace HZ := Aside0.mk (Below.trans HZ.out (Below.mono hb (Nat.zero_le _)))
     clear hb
     generalize w2.drewN nq = w3 at KP HX HL HZ ⊢
     clear c1 c3 c7 c8 c9 d0 d3 f1 f7 f8 f9
     have c1 : w3.cell? ⟨gx, 1, none⟩ = some (.int .i64 sn) := (blk_cell HX.out 1).trans rfl
     have c3 : w3.cell? ⟨gx, 3, none⟩ = some (.int .i64 x3) := (blk_cell HX.out 3).trans rfl
     have c7 : w3.cell? ⟨gx, 7, none⟩ = some (.int .i64 rw_) := (blk_cell HX.out 7).trans rfl
     have c8 : w3.cell? ⟨gx, 8, none⟩ = some (.int .i64 x8) := (blk_cell HX.out 8).trans rfl
     have c9 : w3.cell? ⟨gx, 9, none⟩ = some (.int .i64 x9) := (blk_cell HX.out 9).trans rfl
     have d0 : w3.cell? ⟨gl, 0, none⟩ = some (.int .i64 l0) := (blk_cell HL.out 0).trans rfl
     have d3 : w3.cell? ⟨gl, 3, none⟩ = some (.int .i64 l3) := (blk_cell HL.out 3).trans rfl
     have f1 := blk_frozen HX.out 1
     have f7 := blk_frozen HX.out 7
     have f8 := blk_frozen HX.out 8
     have f9 := blk_frozen HX.out 9
     go_wp2_with (fail)
     clear c1 c3 c7 c8 c9 d0 d3 f1 f7 f8 f9
     go_ret2
     obtain ⟨e1, e8, e9, rfl⟩ := EH.out
     exact ⟨by rw [← HRV.out]; first | rfl | (simp; done), by rw [← e1, ← e8, ← e9]; exact HX.out, KP.out, HZ.out⟩
   ·rw [if_neg (show ¬ (x3 = x8 ∧ x8 < l3) from fun h_ => h5 h_.1)] at h
    simp only [Prod.mk.injEq] at h
    have EH := Aside0.mk h
    have q5 : (x3 != x8) = true := bne_iff_ne.mpr h5
    clear h5
    clear h
    go_quiet (fail)
    have hb := pw_below_drewN (Below.refl w2.heap.size w2) nq
    replace KP := Aside0.mk (Kept.then_ KP.out (Kept.of_below hb (fun b => b = gx)) (fun b hb => .inl hb)); replace HX := Aside0.mk (blk_below HX.out hb); replace HL := Aside0.mk (blk_below HL.out hb); replace HZ := Aside0.mk (Below.trans HZ.out (Below.mono hb (Nat.zero_le _)))
    clear hb
    generalize w2.drewN nq = w3 at KP HX HL HZ ⊢
    clear c1 c3 c7 c8 c9 d0 d3 f1 f7 f8 f9
    have c1 : w3.cell? ⟨gx, 1, none⟩ = some (.int .i64 sn) := (blk_cell HX.out 1).trans rfl
    have c3 : w3.cell? ⟨gx, 3, none⟩ = some (.int .i64 x3) := (blk_cell HX.out 3).trans rfl
    have c7 : w3.cell? ⟨gx, 7, none⟩ = some (.int .i64 rw_) := (blk_cell HX.out 7).trans rfl
    have c8 : w3.cell? ⟨gx, 8, none⟩ = some (.int .i64 x8) := (blk_cell HX.out 8).trans rfl
    have c9 : w3.cell? ⟨gx, 9, none⟩ = some (.int .i64 x9) := (blk_cell HX.out 9).trans rfl
    have d0 : w3.cell? ⟨gl, 0, none⟩ = some (.int .i64 l0) := (blk_cell HL.out 0).trans rfl
    have d3 : w3.cell? ⟨gl, 3, none⟩ = some (.int .i64 l3) := (blk_cell HL.out 3).trans rfl
    have f1 := blk_frozen HX.out 1
    have f7 := blk_frozen HX.out 7
    have f8 := blk_frozen HX.out 8
    have f9 := blk_frozen HX.out 9
    go_wp2_with (fail)
    clear c1 c3 c7 c8 c9 d0 d3 f1 f7 f8 f9
    replace KP := Aside0.mk (Kept.setCell KP.out (p := ⟨gx, 9, none⟩) (.inl rfl) (.int .i64 1))
    replace HZ := Aside0.mk (Below.setCell HZ.out (p := ⟨gx, 9, none⟩) (Nat.zero_le _) (.int .i64 1))
    replace HL := Aside0.mk (blk_far HL.out (p := ⟨gx, 9, none⟩) HNE.out (.int .i64 1))
    replace HX := Aside0.mk (blk_put (cs := #[.int .i64 x0, .int .i64 sn, .int .i64 x2, .int .i64 x3, .int .i64 x4, .int .i64 x5, .int .i64 x6, .int .i64 rw_, .int .i64 x8, .int .i64 x9, .int .i64 x10, .int .i64 x11]) (cs' := #[.int .i64 x0, .int .i64 sn, .int .i64 x2, .int .i64 x3, .int .i64 x4, .int .i64 x5, .int .i64 x6, .int .i64 rw_, .int .i64 x8, .int .i64 1, .int .i64 x10, .int .i64 x11]) HX.out 9 (.int .i64 1) rfl)
    generalize (w3.setCell ⟨gx, 9, none⟩ (.int .i64 1)) = w9 at KP HX HL HZ ⊢
    go_ret2
    obtain ⟨e1, e8, e9, rfl⟩ := EH.out
    exact ⟨by rw [← HRV.out]; first | rfl | (simp; done), by rw [← e1, ← e8, ← e9]; exact HX.out, KP.out, HZ.out⟩

end Go.Proofs.YteccfnppbonniaaDoor.Pa

namespace Go.Proofs.YteccfnppbonniaaDoor.Pa
open Go.RowKit Go.Proofs.YteccfnppbonniaaDoorW.PrintWords Go.Proofs.YteccfnppbonniaaDoorW.PrintLast Go.Proofs.YteccfnppbonniaaDoorW.PrintMore
attribute [local go_sem] max2_int min2_int max_two min_two max_three min_three max_four min_four   -- for this text's walks alone
set_option linter.unusedVariables false
set_option linter.unusedSimpArgs false

/-! ### spec_RunLink: function 11 -/
def slLoop (l0 l1 l2 l3 : Int) (s : ByteArray) : Nat → Nat → Int → Int → Int → Int → Int → Int → Int → Int → Int → Int → Int → Int → List Int → Option (List Int × Int)
 | 0, _, _, _, x2, _, _, _, _, _, _, _, _, _, out => some (out, x2)
 | n + 1, i, x0, x1, x2, x3, x4, x5, x6, x7, x8, x9, x10, x11, out =>
  if bt s (i : Int) = 115 then (spec_l05Seen.f l1 x6 x1).bind fun q => slLoop l0 l1 l2 l3 s n (i + 1) (actS l0 l2 l3 q.1 x0 x2 (advS x3 x4 x5).1 (advS x3 x4 x5).2.1 (advS x3 x4 x5).2.2).1 x1 (actS l0 l2 l3 q.1 x0 x2 (advS x3 x4 x5).1 (advS x3 x4 x5).2.1 (advS x3 x4 x5).2.2).2.1 (actS l0 l2 l3 q.1 x0 x2 (advS x3 x4 x5).1 (advS x3 x4 x5).2.1 (advS x3 x4 x5).2.2).2.2.1 (actS l0 l2 l3 q.1 x0 x2 (advS x3 x4 x5).1 (advS x3 x4 x5).2.1 (advS x3 x4 x5).2.2).2.2.2.1 (actS l0 l2 l3 q.1 x0 x2 (advS x3 x4 x5).1 (advS x3 x4 x5).2.1 (advS x3 x4 x5).2.2).2.2.2.2 q.2 x7 x8 x9 x10 x11 out
  else (spec_l05Seen.f l1 x7 x0).bind fun q => slLoop l0 l1 l2 l3 s n (i + 1) x0 (takeS l0 l3 q.1 x1 x3 x8 x9).1 x2 x3 x4 x5 x6 q.2 (takeS l0 l3 q.1 x1 x3 x8 x9).2.1 (takeS l0 l3 q.1 x1 x3 x8 x9).2.2.1 x10 x11 (if (takeS l0 l3 q.1 x1 x3 x8 x9).2.2.2 = true then out ++ [x3] else out)
def spec_RunLink.f (a0_0 a0_1 a0_2 a0_3 : Int) (a1 : ByteArray) : Option (List Int × Int × Bool) :=
 (spec_l05Link.f a0_0 a0_1 a0_2 a0_3).bind fun v => if v.2 = (a0_0, a0_1, a0_2, a0_3) then match v.1 with
  | false => some ([], 0, false)
  | true => (spec_l05Steps.f (a1.size + 1) a1).bind fun o => match o with
   | false => some ([], 0, false)
   | true => if a1.size ≤ 1000 then (slLoop a0_0 a0_1 a0_2 a0_3 a1 a1.size 0 0 0 0 (-1) 0 0 0 0 0 0 2 0 []).bind fun q => some (q.1, q.2, true) else none
 else none
set_option maxHeartbeats 8000000 in
set_option maxRecDepth 100000 in
theorem spec_RunLink.calls (a0_0 a0_1 a0_2 a0_3 : Int) (a1 : ByteArray) (r1 : List Int) (r2 : Int) (r3 : Bool) (w : World) (h : spec_RunLink.f a0_0 a0_1 a0_2 a0_3 a1 = some (r1, r2, r3)) :
  Calls Tryd.prog 11 #[.agg #[.int .i64 a0_0, .int .i64 a0_1, .int .i64 a0_2, .int .i64 a0_3], .string a1] w fun e w' => ∃ v0_ : Value, e = .returned (.tuple #[v0_, .int .i64 r2, .bool r3]) ∧ Kd.R (Kd.int .i64) 2 w' w.heap.size (fun _ => True) v0_ r1 ∧ Below w.heap.size w w' := by
 have hu := Tryd.underlying36
 have hu2 := Tryd.underlying53
 unfold spec_RunLink.f at h
 obtain ⟨⟨v, v2⟩, hv, h⟩ := Option.bind_eq_some_iff.mp h
 dsimp only at h
 by_cases hvv : v2 = (a0_0, a0_1, a0_2, a0_3)
 case neg => rw [if_neg hvv] at h; exact absurd h (by simp)
 rw [if_pos hvv] at h
 subst hvv
 have HV := Aside0.mk hv
 clear hv
 cases v with
 | false =>
  injection h with h
  injection h with e1 e2
  injection e2 with e2 e3
  subst e1
  subst e2
  subst e3
  go_enter Tryd.func11, Tryd.ntmps11
  go_wp2_with (first | ((with_reducible refine gate_dst (N := 2) rfl ?_); refine box_event ?hg (N := 2) ?hd (cs := #[.int .i64 a0_0, .int .i64 a0_1, .int .i64 a0_2, .int .i64 a0_3]) (t := 36) ?hr ?_; (case hd => rfl); (case hg => rfl); (case hr => first | (go_simp; done) | (go_simp; rfl)); intro gq hg_ w1 hbox_ hb_; have HX_gq := Aside0.mk hbox_; have HB_w1 := Aside0.mk hb_; have HG_gq := Aside0.mk hg_; clear hbox_ hb_ hg_; have b0 := blk_cell HX_gq.out 0; have b1 := blk_cell HX_gq.out 1; have b2 := blk_cell HX_gq.out 2; have b3 := blk_cell HX_gq.out 3) | (go_at_call 21; refine (spec_l05Link.calls gq a0_0 a0_1 a0_2 a0_3 _ a0_0 a0_1 a0_2 a0_3 w _ ⟨HX_gq.out, by rw [HG_gq.out]; exact Nat.le_refl _⟩ HB_w1.out HV.out).mono ?_; rintro e w2 ⟨rfl, hi, hb, hk⟩; have HB2 := Aside0.mk hb; have HX2 := Aside0.mk hi.1; have HG2 := Aside0.mk hi.2; clear hi hk; clear hb b0 b1 b2 b3; have b0 := blk_cell HX2.out 0; have b1 := blk_cell HX2.out 1; have b2 := blk_cell HX2.out 2; have b3 := blk_cell HX2.out 3))
  refine bodyPost_ret (results_tmp3 rfl _ _ _) rfl ?_
  exact ⟨_, rfl, Kd.R_nil _ _ _ _ _, HB2.out⟩
 | true =>
  dsimp only at h
  obtain ⟨o, ho, h⟩ := Option.bind_eq_some_iff.mp h
  have HR := Aside0.mk ho
  clear ho
  cases o with
  | false =>
   injection h with h
   injection h with e1 e2
   injection e2 with e2 e3
   subst e1
   subst e2
   subst e3
   go_enter Tryd.func11, Tryd.ntmps11
   go_wp2_with (first | ((with_reducible refine gate_dst (N := 2) rfl ?_); refine box_event ?hg (N := 2) ?hd (cs := #[.int .i64 a0_0, .int .i64 a0_1, .int .i64 a0_2, .int .i64 a0_3]) (t := 36) ?hr ?_; (case hd => rfl); (case hg => rfl); (case hr => first | (go_simp; done) | (go_simp; rfl)); intro gq hg_ w1 hbox_ hb_; have HX_gq := Aside0.mk hbox_; have HB_w1 := Aside0.mk hb_; have HG_gq := Aside0.mk hg_; clear hbox_ hb_ hg_; have b0 := blk_cell HX_gq.out 0; have b1 := blk_cell HX_gq.out 1; have b2 := blk_cell HX_gq.out 2; have b3 := blk_cell HX_gq.out 3) | (go_at_call 21; refine (spec_l05Link.calls gq a0_0 a0_1 a0_2 a0_3 _ a0_0 a0_1 a0_2 a0_3 w _ ⟨HX_gq.out, by rw [HG_gq.out]; exact Nat.le_refl _⟩ HB_w1.out HV.out).mono ?_; rintro e w2 ⟨rfl, hi, hb, hk⟩; have HB2 := Aside0.mk hb; have HX2 := Aside0.mk hi.1; have HG2 := Aside0.mk hi.2; clear hi hk; clear hb b0 b1 b2 b3; have b0 := blk_cell HX2.out 0; have b1 := blk_cell HX2.out 1; have b2 := blk_cell HX2.out 2; have b3 := blk_cell HX2.out 3) | (go_at_call 15; refine (spec_l05Steps.calls _ _ _ _ HR.out).mono ?_; rintro e w3 ⟨rfl, hd⟩; obtain ⟨nd, rfl⟩ := hd; have HB3 := Aside0.mk (pw_below_drewN HB2.out nd); have HX3 := Aside0.mk (blk_drewN HX2.out nd); clear b0 b1 b2 b3))
   refine bodyPost_ret (results_tmp3 rfl _ _ _) rfl ?_
   exact ⟨_, rfl, Kd.R_nil _ _ _ _ _, HB3.out⟩
  | true =>
   dsimp only at h
   by_cases hs : a1.size ≤ 1000
   case neg => rw [if_neg hs] at h; exact absurd h (by simp)
   rw [if_pos hs] at h
   obtain ⟨⟨out0, res0⟩, hl, h⟩ := Option.bind_eq_some_iff.mp h
   injection h with h
   injection h with e1 e2
   injection e2 with e2 e3
   subst e1
   subst e2
   subst e3
   have HL := Aside0.mk hl
   have HS_ := Aside0.mk hs
   clear hl hs
   go_enter Tryd.func11, Tryd.ntmps11
   go_wp2_with (first | ((with_reducible refine gate_dst (N := 2) rfl ?_); refine box_event ?hg (N := 2) ?hd (cs := #[.int .i64 a0_0, .int .i64 a0_1, .int .i64 a0_2, .int .i64 a0_3]) (t := 36) ?hr ?_; (case hd => rfl); (case hg => rfl); (case hr => first | (go_simp; done) | (go_simp; rfl)); intro gq hg_ w1 hbox_ hb_; have HX_gq := Aside0.mk hbox_; have HB_w1 := Aside0.mk hb_; have HG_gq := Aside0.mk hg_; clear hbox_ hb_ hg_; have b0 := blk_cell HX_gq.out 0; have b1 := blk_cell HX_gq.out 1; have b2 := blk_cell HX_gq.out 2; have b3 := blk_cell HX_gq.out 3) | (go_at_call 21; refine (spec_l05Link.calls gq a0_0 a0_1 a0_2 a0_3 _ a0_0 a0_1 a0_2 a0_3 w _ ⟨HX_gq.out, by rw [HG_gq.out]; exact Nat.le_refl _⟩ HB_w1.out HV.out).mono ?_; rintro e w2 ⟨rfl, hi, hb, hk⟩; have HB2 := Aside0.mk hb; have HX2 := Aside0.mk hi.1; have HG2 := Aside0.mk hi.2; clear hi hk; clear hb b0 b1 b2 b3; have b0 := blk_cell HX2.out 0; have b1 := blk_cell HX2.out 1; have b2 := blk_cell HX2.out 2; have b3 := blk_cell HX2.out 3) | (go_at_call 15; refine (spec_l05Steps.calls _ _ _ _ HR.out).mono ?_; rintro e w3 ⟨rfl, hd⟩; obtain ⟨nd, rfl⟩ := hd; have HB3 := Aside0.mk (pw_below_drewN HB2.out nd); have HX3 := Aside0.mk (blk_drewN HX2.out nd); clear b0 b1 b2 b3; generalize w2.drewN nd = w3 at HB3 HX3 ⊢) | (go_at_call 22; refine (spec_l05Begin.calls 0 0 0 (-1) 0 0 0 0 0 0 2 0 _ rfl).mono ?_; rintro e w5 ⟨rfl, hb⟩; have HB5 := Aside0.mk (below_step HB3.out hb); have HX5 := Aside0.mk (blk_below HX3.out hb); clear hb) | ((with_reducible refine gate_dst (N := 20) rfl ?_); obtain ⟨w6, hwx⟩ : ∃ z, z = w5.alloc (.cells #[.int .i64 0, .int .i64 0, .int .i64 0, .int .i64 (-1), .int .i64 0, .int .i64 0, .int .i64 0, .int .i64 0, .int .i64 0, .int .i64 0, .int .i64 2, .int .i64 0] 53) := ⟨_, rfl⟩; rw [← hwx]; have hb : Below w5.heap.size w5 w6 := (by rw [hwx]; exact below_alloc (Below.refl _ _) _); have HS5 : Aside0 (w6.heap[w5.heap.size]? = some (.cells #[.int .i64 0, .int .i64 0, .int .i64 0, .int .i64 (-1), .int .i64 0, .int .i64 0, .int .i64 0, .int .i64 0, .int .i64 0, .int .i64 0, .int .i64 2, .int .i64 0] 53 (0, 0))) := ⟨by rw [hwx]; simpa using heap_alloc_new w5 _⟩; clear hwx; have HNE0 := Aside0.mk (Nat.ne_of_lt (blk_lt HX5.out)); have HGX0 := Aside0.mk (below_size HB5.out); replace HX5 := Aside0.mk (blk_below HX5.out hb); replace HB5 := Aside0.mk (below_step HB5.out hb); clear hb; generalize w5.heap.size = gx at HS5 HNE0 HGX0 ⊢; refine Kd.R_lit (Kd.int .i64) _ 2 ?hg (N := 20) ?hd (xs := ([] : List Int)) (inner := []) (ok := fun _ => True) (okp := fun _ => True) ?hr ?hp (fun _ hk => hk) trivial (Below.refl _ _) (Nat.le_refl _) (by simp) ?_; (case hd => rfl); (case hg => rfl); (case hr => first | (go_simp; done) | (go_simp; rfl)); (case hp => exact (Reps.none _ _)); intro v18 w4 ho hb hg_ hnew_; have HO4 := Aside0.mk (Kd.R_lower ho (below_size HB5.out)); have HB4 := Aside0.mk (below_step HB5.out hb); have HX4 := Aside0.mk (blk_below HX5.out hb); have HS4 := Aside0.mk (blk_below HS5.out hb); clear hg_ hnew_ ho hb))
   clear HB2 HX2 HB3 HX3 HB_w1 HX_gq HG_gq HS5 HB5 HX5
   go_loopg [8, 9] (a1.size + 1) (fun gg s8 s9 wr => ∃ (i : Nat) (x0 x1 x2 x3 x4 x5 x6 x7 x8 x9 x10 x11 : Int) (out : List Int), s9 = .int .i64 (i : Int) ∧ Aside0 (i ≤ a1.size ∧ a1.size - i < gg ∧ out.length ≤ i) ∧ Aside0 (Below w.heap.size w wr) ∧ Aside0 (wr.heap[gq]? = some (.cells #[.int .i64 a0_0, .int .i64 a0_1, .int .i64 a0_2, .int .i64 a0_3] 36 (0, 0))) ∧ Aside0 (wr.heap[gx]? = some (.cells #[.int .i64 x0, .int .i64 x1, .int .i64 x2, .int .i64 x3, .int .i64 x4, .int .i64 x5, .int .i64 x6, .int .i64 x7, .int .i64 x8, .int .i64 x9, .int .i64 x10, .int .i64 x11] 53 (0, 0))) ∧ Aside0 (Kd.R (Kd.int .i64) 2 wr w.heap.size (fun _ => True) s8 out) ∧ Aside0 (slLoop a0_0 a0_1 a0_2 a0_3 a1 (a1.size - i) i x0 x1 x2 x3 x4 x5 x6 x7 x8 x9 x10 x11 out = some (out0, res0)))
   case atStart => exact ⟨0, 0, 0, 0, -1, 0, 0, 0, 0, 0, 0, 2, 0, [], rfl, ⟨by simp⟩, HB4, HX4, HS4, HO4, HL⟩
   case round =>
    clear HB4 HX4 HS4 HO4 HL
    obtain ⟨i, x0, x1, x2, x3, x4, x5, x6, x7, x8, x9, x10, x11, out, rfl, HXI0, HB, HQ, HX, HO, HN⟩ := hrel
    obtain ⟨Ao, co, rfl⟩ := Kd.R_slice HO.out
    generalize hxi : (i : Int) = xi
    have HXI := Aside0.mk hxi
    by_cases hlt : i < a1.size
    ·have hlt' : xi < (a1.size : Int) := by omega
     have h0' : (0 : Int) ≤ xi := by omega
     obtain ⟨n, hn⟩ : ∃ n, a1.size - i = n + 1 := ⟨a1.size - i - 1, by omega⟩
     have hq := HN.out
     rw [hn] at hq
     unfold slLoop at hq
     rw [hxi] at hq
     have HD := Aside0.mk hn
     have HLT := Aside0.mk hlt
     have p4 := eq_true h0'; have q4 := eq_true hlt'; have c1 := decide_eq_true h0'; have hx4 := bt_at a1 xi
     have c2 : decide (xi < (a1.size : Int)) = true := decide_eq_true hlt'
     clear hn hlt hxi HN
     have hs1 := HS_.out
     have hxb := HXI0.out.2.2; have hxc := HXI0.out.1
     by_cases hc : bt a1 xi = 115
     ·rw [if_pos hc] at hq
      have k1 : ((bt a1 xi) == 115) = true := beq_iff_eq.mpr hc
      have k2 : ((bt a1 xi) != 115) = false := bne_eq_false_iff_eq.mpr hc
      clear hc
      obtain ⟨⟨sn, rw_⟩, hsn, hq⟩ := Option.bind_eq_some_iff.mp hq
      dsimp only at hq
      obtain ⟨⟨z0, z2, z3, z4, z5⟩, hz⟩ : ∃ z, actS a0_0 a0_2 a0_3 sn x0 x2 (advS x3 x4 x5).1 (advS x3 x4 x5).2.1 (advS x3 x4 x5).2.2 = z := ⟨_, rfl⟩
      rw [hz] at hq
      dsimp only at hq
      have HSN := Aside0.mk hsn; have HZZ := Aside0.mk hz; have HQQ := Aside0.mk hq
      clear hsn hz hq
      go_wp2_with (go_at_call 23; refine (l05Send.calls gq gx x0 x1 x2 x3 x4 x5 x6 x7 x8 x9 x10 x11 a0_0 a0_1 a0_2 a0_3 sn rw_ z0 z2 z3 z4 z5 _ HNE0.out HQ.out HX.out HSN.out HZZ.out).mono ?_; rintro e w15 ⟨rfl, hx5, hk, hz⟩; replace HO := Aside0.mk (Kd.R_mono (Kd.R_kept (Kd.R_types HO.out HX.out (by decide)) hk (fun k hk_ h_ => hk_.2 h_)) (fun _ _ => trivial)); replace HB := Aside0.mk (below_keptX HB.out hz hk HGX0.out); replace HQ := Aside0.mk (blk_kept HQ.out hk HNE0.out); replace HX := Aside0.mk hx5; clear hx5 hk hz)
      have hxi := HXI.out
      have hlt := HLT.out
      have hx1 := HXI0.out
      have hd := HD.out
      go_roundg (a1.size - i)
      case measure => omega
      case rel =>
       exact ⟨i + 1, z0, x1, z2, z3, z4, z5, rw_, x7, x8, x9, x10, x11, out, by first | (rw [show wrap64 (xi + 1) = ((i + 1 : Nat) : Int) from by unfold wrap64; omega]) | (rw [i64_w, show wrap64 (xi + 1) = ((i + 1 : Nat) : Int) from by unfold wrap64; omega]) | (rw [show xi + 1 = ((i + 1 : Nat) : Int) from by omega]), ⟨by omega⟩, HB, HQ, HX, HO, ⟨by rw [show a1.size - (i + 1) = n by omega]; exact HQQ.out⟩⟩
     ·rw [if_neg hc] at hq
      have k1 : ((bt a1 xi) == 115) = false := beq_eq_false_iff_ne.mpr hc
      have k2 : ((bt a1 xi) != 115) = true := bne_iff_ne.mpr hc
      clear hc
      obtain ⟨⟨sn, rw_⟩, hsn, hq⟩ := Option.bind_eq_some_iff.mp hq
      dsimp only at hq
      obtain ⟨⟨z1, z8, z9, tk⟩, hz⟩ : ∃ z, takeS a0_0 a0_3 sn x1 x3 x8 x9 = z := ⟨_, rfl⟩
      rw [hz] at hq
      dsimp only at hq
      have HSN := Aside0.mk hsn; have HZZ := Aside0.mk hz
      clear hsn hz
      cases tk with
      | true =>
       rw [if_pos rfl] at hq
       have HQQ := Aside0.mk hq
       clear hq
       go_wp2_with (first | (go_at_call 24; refine (l05Take.calls gq gx x0 x1 x2 x3 x4 x5 x6 x7 x8 x9 x10 x11 a0_0 a0_1 a0_2 a0_3 sn rw_ z1 z8 z9 x3 true _ HNE0.out HQ.out HX.out rfl HSN.out HZZ.out).mono ?_; rintro e w15 ⟨rfl, hx5, hk, hz⟩; replace HO := Aside0.mk (Kd.R_mono (Kd.R_kept (Kd.R_types HO.out HX.out (by decide)) hk (fun k hk_ h_ => hk_.2 h_)) (fun _ _ => trivial)); replace HB := Aside0.mk (below_keptX HB.out hz hk HGX0.out); replace HQ := Aside0.mk (blk_kept HQ.out hk HNE0.out); replace HX := Aside0.mk hx5; clear hx5 hk hz) | ((with_reducible refine gate_builtin (b := .append) (xs := #[.tmp 37, .tmp 39]) rfl ?_); at_builtin; refine Kd.R_append (Kd.int .i64) (w0 := w) w.heap.size rfl (.tmp 37) (.tmp 39) 24 2 (.int .i64 0) 8 rfl Tryd.underlying24 info2 rfl (by decide) (by omega) _ out x3 [.int .i64 x3] (fun _ => True) (fun _ => False) rfl rfl rfl (fun _ hk => hk.elim) (fun _ _ => trivial) HO.out HB.out (below_size HB.out) (by omega) ?_; intro v18 w18 ho hb hg hat; have HO18 := Aside0.mk ho; have HB18 := Aside0.mk hb; have HX18 := Aside0.mk (blk_grown HX.out hg (Kd.R_ne HO.out HX.out (by decide))); have HQ18 := Aside0.mk (blk_grown HQ.out hg (Kd.R_ne HO.out HQ.out (by decide))); clear ho hb hg hat))
       have hxi := HXI.out
       have hlt := HLT.out
       have hx1 := HXI0.out
       have hd := HD.out
       go_roundg (a1.size - i)
       case measure => omega
       case rel =>
        exact ⟨i + 1, x0, z1, x2, x3, x4, x5, x6, rw_, z8, z9, x10, x11, _, by first | (rw [show wrap64 (xi + 1) = ((i + 1 : Nat) : Int) from by unfold wrap64; omega]) | (rw [i64_w, show wrap64 (xi + 1) = ((i + 1 : Nat) : Int) from by unfold wrap64; omega]) | (rw [show xi + 1 = ((i + 1 : Nat) : Int) from by omega]), ⟨by simp; omega⟩, HB18, HQ18, HX18, HO18, ⟨by rw [show a1.size - (i + 1) = n by omega]; exact HQQ.out⟩⟩
      | false =>
       rw [if_neg (by decide)] at hq
       have HQQ := Aside0.mk hq
       clear hq
       go_wp2_with (go_at_call 24; refine (l05Take.calls gq gx x0 x1 x2 x3 x4 x5 x6 x7 x8 x9 x10 x11 a0_0 a0_1 a0_2 a0_3 sn rw_ z1 z8 z9 0 false _ HNE0.out HQ.out HX.out rfl HSN.out HZZ.out).mono ?_; rintro e w15 ⟨rfl, hx5, hk, hz⟩; replace HO := Aside0.mk (Kd.R_mono (Kd.R_kept (Kd.R_types HO.out HX.out (by decide)) hk (fun k hk_ h_ => hk_.2 h_)) (fun _ _ => trivial)); replace HB := Aside0.mk (below_keptX HB.out hz hk HGX0.out); replace HQ := Aside0.mk (blk_kept HQ.out hk HNE0.out); replace HX := Aside0.mk hx5; clear hx5 hk hz)
       have hxi := HXI.out
       have hlt := HLT.out
       have hx1 := HXI0.out
       have hd := HD.out
       go_roundg (a1.size - i)
       case measure => omega
       case rel =>
        exact ⟨i + 1, x0, z1, x2, x3, x4, x5, x6, rw_, z8, z9, x10, x11, out, by first | (rw [show wrap64 (xi + 1) = ((i + 1 : Nat) : Int) from by unfold wrap64; omega]) | (rw [i64_w, show wrap64 (xi + 1) = ((i + 1 : Nat) : Int) from by unfold wrap64; omega]) | (rw [show xi + 1 = ((i + 1 : Nat) : Int) from by omega]), ⟨by omega⟩, HB, HQ, HX, HO, ⟨by rw [show a1.size - (i + 1) = n by omega]; exact HQQ.out⟩⟩
    ·have hlt' : ¬ (xi < (a1.size : Int)) := by omega
     have c2 : decide (xi < (a1.size : Int)) = false := decide_eq_false hlt'
     have p2 := eq_false hlt'
     have hq := HN.out
     rw [show a1.size - i = 0 by omega] at hq
     injection hq with hq
     injection hq with hq1 hq2
     subst hq1
     subst hq2
     clear HN hlt hxi
     have m0 := blk_cell HX.out 2
     go_wp2
     go_quiet (fail)
     go_wp2
     refine bodyPost_ret (results_tmp3 rfl _ _ _) rfl ?_
     exact ⟨_, rfl, Kd.R_drewN HO.out nq, pw_below_drewN HB.out nq⟩

end Go.Proofs.YteccfnppbonniaaDoor.Pa

/- One step of either side of a link, in the program and in the reference. -/
namespace Go.Proofs.YteccfnppbonniaaDoor.Pure
open Go.RowKit Go.Proofs.YteccfnppbonniaaDoor.Pa Go.Proofs.YteccfnppbonniaaDoorW.PrintWords Go.Proofs.YteccfnppbonniaaDoorW.PrintLast
set_option linter.unusedVariables false
set_option linter.unusedSimpArgs false

/-- A bit. -/
def Bit (x : Int) : Prop := x = 0 ∨ x = 1
/-- How the reference holds a side's stages. -/
def rowS (l1 a b : Int) : Int := if l1 = 0 then 0 else if l1 = 1 then a else a + 2 * b
/-- Links that are valid. -/
def LinkOk (l0 l1 l2 l3 : Int) : Prop := (l0 = 2 ∨ l0 = 4) ∧ (l1 = 0 ∨ l1 = 1 ∨ l1 = 2) ∧ (l2 = 0 ∨ l2 = 1 ∨ l2 = 2) ∧ 0 ≤ l3 ∧ l3 ≤ 4
def seenOk (l1 a b s : Int) : Bool :=
 match seesP l1 a b s, spec_l05Seen.f l1 (rowS l1 a b) s with
 | some x, some (y, r) => (x == y) && (r == rowS l1 s a) && ((x == 0) || (x == 1))
 | _, _ => false
theorem seens : ([0, 1, 2] : List Int).all (fun l => ([0, 1] : List Int).all fun a => ([0, 1] : List Int).all fun b => ([0, 1] : List Int).all fun s => seenOk l a b s) = true := by kernel_rfl
theorem seen_tells {l1 a b s : Int} (hl : l1 = 0 ∨ l1 = 1 ∨ l1 = 2) (ha : Bit a) (hb : Bit b) (hs : Bit s) : ∃ x, seesP l1 a b s = some x ∧ spec_l05Seen.f l1 (rowS l1 a b) s = some (x, rowS l1 s a) ∧ Bit x := by
 have hok : seenOk l1 a b s = true := by
  have h := List.all_eq_true.1 seens l1 (by rcases hl with rfl | rfl | rfl <;> simp)
  have h := List.all_eq_true.1 h a (by rcases ha with rfl | rfl <;> simp)
  have h := List.all_eq_true.1 h b (by rcases hb with rfl | rfl <;> simp)
  exact List.all_eq_true.1 h s (by rcases hs with rfl | rfl <;> simp)
 unfold seenOk at hok
 split at hok
 ·rename_i x y r e1 e2
  simp only [Bool.and_eq_true, Bool.or_eq_true, beq_iff_eq] at hok
  obtain ⟨⟨rfl, rfl⟩, h⟩ := hok
  exact ⟨_, e1, e2, h⟩
 ·cases hok
/-- What is on its way, as the reference holds it: how far, what comes. -/
def farS (l2 : Int) (x4 : Bool) (x5 x6 : Int) : Int × Int := if x4 = true then (l2 - x6, x5) else (0, 0)
/-- What is on its way is less long on its way than it will be. -/
def WayOk (l2 : Int) (x4 : Bool) (x5 x6 : Int) : Prop := x4 = true → 0 ≤ x6 ∧ x6 < l2
theorem adv_tells {l2 x3 x5 x6 : Int} {x4 : Bool} (hl : l2 = 0 ∨ l2 = 1 ∨ l2 = 2) (h : WayOk l2 x4 x5 x6) :
  ∃ a3 a4 a5 a6, advP l2 x3 x4 x5 x6 = (a3, a4, a5, a6) ∧ advS x3 (farS l2 x4 x5 x6).1 (farS l2 x4 x5 x6).2 = (a3, farS l2 a4 a5 a6) ∧ WayOk l2 a4 a5 a6 := by
 cases x4 with
 | false => exact ⟨x3, false, x5, x6, rfl, rfl, fun h => by cases h⟩
 | true =>
  obtain ⟨h0, h1⟩ := h rfl
  unfold advP
  rw [if_pos rfl, wrap_id (by omega) (by omega)]
  have hf : farS l2 true x5 x6 = (l2 - x6, x5) := if_pos rfl
  rw [hf]
  by_cases hq : x6 + 1 = l2
  ·rw [if_pos hq]
   refine ⟨x5, false, 0, 0, rfl, ?_, fun h => by cases h⟩
   show advS x3 (l2 - x6) x5 = (x5, farS l2 false 0 0)
   rw [show farS l2 false 0 0 = (0, 0) from if_neg (by decide)]
   unfold advS
   rw [if_pos (by omega), wrap_id (by omega) (by omega), if_pos (by omega), show l2 - x6 - 1 = 0 by omega]
  ·rw [if_neg hq]
   refine ⟨x3, true, x5, x6 + 1, rfl, ?_, fun _ => ⟨by omega, by omega⟩⟩
   show advS x3 (l2 - x6) x5 = (x3, farS l2 true x5 (x6 + 1))
   rw [show farS l2 true x5 (x6 + 1) = (l2 - (x6 + 1), x5) from if_pos rfl]
   unfold advS
   rw [if_pos (by omega), wrap_id (by omega) (by omega), if_neg (by omega), show l2 - x6 - 1 = l2 - (x6 + 1) by omega]
theorem act_tells {l0 l1 l2 l3 sn x0 x1 a3 a5 a6 : Int} {a4 : Bool} (hk : LinkOk l0 l1 l2 l3) (hs : Bit sn) (h1 : Bit x1) (h0 : 0 ≤ x0) (h0' : x0 ≤ l3) (hw : WayOk l2 a4 a5 a6) :
  ∃ z0 z1 z3 z4 z5 z6, actP l0 l2 l3 sn x0 x1 a3 a4 a5 a6 = some (z0, z1, z3, z4, z5, z6) ∧ actS l0 l2 l3 sn x1 x0 a3 (farS l2 a4 a5 a6).1 (farS l2 a4 a5 a6).2 = (z1, z0, z3, farS l2 z4 z5 z6) ∧ Bit z1 ∧ 0 ≤ z0 ∧ z0 ≤ l3 ∧ WayOk l2 z4 z5 z6 := by
 obtain ⟨hp, hl1, hl2, k0, k1⟩ := hk
 have same : ∀ c : Prop, c → c := fun _ h => h
 have hsend : ∀ z1 : Int, x0 < l3 → (farS l2 a4 a5 a6).1 = (farS l2 a4 a5 a6).1 → ∃ z3 z4 z5 z6, sendP l2 x0 a3 a4 a5 a6 = (z3, z4, z5, z6) ∧ (if l2 = 0 then (z1, wrap64 (x0 + 1), x0, (farS l2 a4 a5 a6).1, (farS l2 a4 a5 a6).2) else (z1, wrap64 (x0 + 1), a3, l2, x0)) = (z1, wrap64 (x0 + 1), z3, farS l2 z4 z5 z6) ∧ WayOk l2 z4 z5 z6 := by
  intro z1 _ _
  unfold sendP
  by_cases hz : l2 = 0
  ·rw [if_pos hz, if_pos hz]
   exact ⟨_, _, _, _, rfl, rfl, hw⟩
  ·rw [if_neg hz, if_neg hz]
   refine ⟨_, _, _, _, rfl, ?_, fun _ => ⟨by omega, by omega⟩⟩
   unfold farS
   rw [if_pos rfl]
   simp
 have hnx : x0 < l3 → 0 ≤ wrap64 (x0 + 1) ∧ wrap64 (x0 + 1) ≤ l3 := fun h => by rw [wrap_id (by omega) (by omega)]; omega
 have hsub : wrap64 (1 - x1) = 1 - x1 := by
  have h1' : x1 = 0 ∨ x1 = 1 := h1
  exact wrap_id (by omega) (by omega)
 have hbit : Bit (1 - x1) := by rcases h1 with rfl | rfl; exact .inr rfl; exact .inl rfl
 have hleft : (l2 = 0 ∨ ¬ l2 = 0) := Classical.em _
 unfold actP actS
 rcases hp with rfl | rfl
 ·rw [if_pos (show (2 : Int) = 2 from rfl), if_neg (show ¬ ((2 : Int) = 4 ∧ x1 = 1) from fun h => absurd h.1 (by decide))]
  by_cases hq : sn = x1
  ·by_cases hm : x0 < l3
   ·rw [if_pos hq, if_pos hm, if_pos ⟨hq, by omega⟩]
    obtain ⟨z3, z4, z5, z6, e1, e2, e3⟩ := hsend (wrap64 (1 - x1)) hm rfl
    rw [e1, e2]
    exact ⟨_, _, _, _, _, _, rfl, rfl, by rw [hsub]; exact hbit, (hnx hm).1, (hnx hm).2, e3⟩
   ·rw [if_pos hq, if_neg hm, if_neg (fun h => h.2 (by omega))]
    exact ⟨_, _, _, _, _, _, rfl, rfl, h1, h0, h0', hw⟩
  ·rw [if_neg hq, if_neg (fun h => hq h.1)]
   exact ⟨_, _, _, _, _, _, rfl, rfl, h1, h0, h0', hw⟩
 ·rw [if_neg (show ¬ (4 : Int) = 2 by decide), if_pos (show (4 : Int) = 4 from rfl)]
  rcases h1 with rfl | rfl
  ·rw [if_pos (show (0 : Int) = 0 from rfl), if_neg (show ¬ ((4 : Int) = 4 ∧ (0 : Int) = 1) from fun h => absurd h.2 (by decide))]
   by_cases hq : sn = 0
   ·by_cases hm : x0 < l3
    ·rw [if_pos hq, if_pos hm, if_pos ⟨hq, by omega⟩]
     obtain ⟨z3, z4, z5, z6, e1, e2, e3⟩ := hsend (wrap64 (1 - 0)) hm rfl
     rw [show wrap64 (1 - 0) = 1 from wrap_id (by omega) (by omega)] at e2 ⊢
     rw [e1, e2]
     exact ⟨_, _, _, _, _, _, rfl, rfl, .inr rfl, (hnx hm).1, (hnx hm).2, e3⟩
    ·rw [if_pos hq, if_neg hm, if_neg (fun h => h.2 (by omega))]
     exact ⟨_, _, _, _, _, _, rfl, rfl, .inl rfl, h0, h0', hw⟩
   ·rw [if_neg hq, if_neg (fun h => hq h.1)]
    exact ⟨_, _, _, _, _, _, rfl, rfl, .inl rfl, h0, h0', hw⟩
  ·rw [if_neg (show ¬ (1 : Int) = 0 by decide), if_pos (show (1 : Int) = 1 from rfl), if_pos (show (4 : Int) = 4 ∧ (1 : Int) = 1 from ⟨rfl, rfl⟩)]
   by_cases hq : sn = 1
   ·rw [if_pos hq, if_pos hq]
    exact ⟨_, _, _, _, _, _, rfl, rfl, .inl rfl, h0, h0', hw⟩
   ·rw [if_neg hq, if_neg hq]
    exact ⟨_, _, _, _, _, _, rfl, rfl, .inr rfl, h0, h0', hw⟩
theorem take_tells {l0 l1 l2 l3 sn x2 x3 x8 x9 : Int} (hk : LinkOk l0 l1 l2 l3) (hs : Bit sn) (h2 : Bit x2) : ∃ z8 z9, takeS l0 l3 sn x2 x3 x8 x9 = ((takeP l0 x2 sn).1, z8, z9, (takeP l0 x2 sn).2) ∧ Bit (takeP l0 x2 sn).1 := by
 unfold takeS takeP
 by_cases hq : sn = x2
 ·rw [if_pos hq, if_pos hq]
  exact ⟨_, _, rfl, h2⟩
 ·rw [if_neg hq, if_neg hq]
  by_cases hz : l0 = 4 ∧ sn = 0
  ·rw [if_pos hz]
   obtain ⟨rfl, rfl⟩ := hz
   exact ⟨_, _, rfl, hs⟩
  ·rw [if_neg hz]
   have hb : ((l0 == 2) || (sn == 1)) = true := by
    rcases hk.1 with rfl | rfl
    ·rfl
    ·rcases hs with rfl | rfl
     ·exact absurd ⟨rfl, rfl⟩ hz
     ·rfl
   rw [hb]
   exact ⟨_, _, rfl, hs⟩
theorem link_loops {l0 l1 l2 l3 : Int} (hk : LinkOk l0 l1 l2 l3) (s : ByteArray) : ∀ (n i : Nat) (x0 x1 x2 x3 x5 x6 x7 x8 x9 x10 y8 y9 y10 y11 : Int) (x4 : Bool) (out : List Int), i + n = s.size →
  Bit x1 → Bit x2 → Bit x7 → Bit x8 → Bit x9 → Bit x10 → 0 ≤ x0 → x0 ≤ l3 → WayOk l2 x4 x5 x6 →
  ∃ (l : List Int) (r : Int), l.length ≤ out.length + n ∧ ilLoop l0 l1 l2 l3 s n i x0 x1 x2 x3 x4 x5 x6 x7 x8 x9 x10 out = some (l, r) ∧
   slLoop l0 l1 l2 l3 s n i x1 x2 x0 x3 (farS l2 x4 x5 x6).1 (farS l2 x4 x5 x6).2 (rowS l1 x7 x8) (rowS l1 x9 x10) y8 y9 y10 y11 out = some (l, r) := by
 intro n
 induction n with
 | zero =>
  intro i x0 x1 x2 x3 x5 x6 x7 x8 x9 x10 y8 y9 y10 y11 x4 out hi b1 b2 b7 b8 b9 b10 h0 h0' hw
  exact ⟨out, x0, Nat.le_refl _, rfl, rfl⟩
 | succ n ih =>
  intro i x0 x1 x2 x3 x5 x6 x7 x8 x9 x10 y8 y9 y10 y11 x4 out hi b1 b2 b7 b8 b9 b10 h0 h0' hw
  unfold ilLoop slLoop
  by_cases hb : bt s (i : Int) = 115
  ·rw [if_pos hb, if_pos hb]
   obtain ⟨sn, e1, e2, e3⟩ := seen_tells hk.2.1 b7 b8 b2
   obtain ⟨a3, a4, a5, a6, f1, f2, f3⟩ := adv_tells (x3 := x3) hk.2.2.1 hw
   obtain ⟨z0, z1, z3, z4, z5, z6, g1, g2, g3, g4, g5, g6⟩ := act_tells (a3 := a3) hk e3 b1 h0 h0' f3
   rw [e1, e2, f1, f2]
   simp only [Option.bind_some]
   rw [g1, g2]
   simp only [Option.bind_some]
   obtain ⟨l, r, hl, r1, r2⟩ := ih (i + 1) z0 z1 x2 z3 z5 z6 x2 x7 x9 x10 y8 y9 y10 y11 z4 out (by omega) g3 b2 b2 b7 b9 b10 g4 g5 g6
   exact ⟨l, r, by omega, r1, r2⟩
  ·rw [if_neg hb, if_neg hb]
   obtain ⟨sn, e1, e2, e3⟩ := seen_tells hk.2.1 b9 b10 b1
   obtain ⟨z8, z9, g1, g2⟩ := take_tells (x3 := x3) (x8 := y8) (x9 := y9) hk e3 b2
   rw [e1, e2]
   simp only [Option.bind_some]
   rw [g1]
   dsimp only
   obtain ⟨l, r, hl, r1, r2⟩ := ih (i + 1) x0 x1 (takeP l0 x2 sn).1 x3 x5 x6 x7 x8 x1 x9 z8 z9 y10 y11 x4 (if (takeP l0 x2 sn).2 = true then out ++ [x3] else out) (by omega) b1 g2 b7 b8 b1 b9 h0 h0' hw
   refine ⟨l, r, Nat.le_trans hl ?_, r1, r2⟩
   split
   ·simp
    omega
   ·omega
end Go.Proofs.YteccfnppbonniaaDoor.Pure

namespace Go.Proofs.YteccfnppbonniaaDoor.Pa
open Go.RowKit Go.Proofs.YteccfnppbonniaaDoorW.PrintWords Go.Proofs.YteccfnppbonniaaDoorW.PrintLast Go.Proofs.YteccfnppbonniaaDoorW.PrintMore
attribute [local go_sem] max2_int min2_int max_two min_two max_three min_three max_four min_four   -- for this text's walks alone
set_option linter.unusedVariables false
set_option linter.unusedSimpArgs false

/-! ### laws_eqInt64S: function 8 -/
def laws_eqInt64S.l0 : Nat → List Int → List Int → Int → Option (Bool)
 | 0, _, _, _ => none
 | k + 1, x0, x1, x5 => if x5 < (x0.length : Int) then (if 0 ≤ x5 then (if x5 < (x1.length : Int) then (if (rd x0 x5) = (rd x1 x5) then (laws_eqInt64S.l0 k x0 x1 (wrap64 (x5 + 1))) else (some false)) else (none)) else (none)) else (some true)
def laws_eqInt64S.f (k : Nat) (l0 : List Int) (l1 : List Int) : Option (Bool) := if (l0.length : Int) = (l1.length : Int) then (laws_eqInt64S.l0 k l0 l1 0) else (some false)
theorem laws_eqInt64S.mono_l : ∀ k, (∀ y0 y1 y2, LeO (laws_eqInt64S.l0 k y0 y1 y2) (laws_eqInt64S.l0 (k + 1) y0 y1 y2))
 | 0 => fun _ _ _ r h => by simp [laws_eqInt64S.l0] at h
 | k + 1 => by
  have ih0 := laws_eqInt64S.mono_l k
  ·intro y0 y1 y2
   unfold laws_eqInt64S.l0
   repeat' first
   | (with_reducible exact ih0 _ _ _)
   | (with_reducible exact LeO.refl _)
   | (with_reducible exact LeO.none _)
   | (with_reducible refine LeO.ite ?_ ?_)
   | (with_reducible refine LeO.bind ?_ (fun _ => ?_))
   | exact ih0 _ _ _
   | exact LeO.none _
   | refine LeO.ite ?_ ?_
   | refine LeO.bind ?_ (fun _ => ?_)
theorem laws_eqInt64S.mono : ∀ a0 a1 k, LeO (laws_eqInt64S.f k a0 a1) (laws_eqInt64S.f (k + 1) a0 a1) := by
 intro a0 a1 k
 have ih0 := laws_eqInt64S.mono_l k
 unfold laws_eqInt64S.f
 repeat' first
   | (with_reducible exact ih0 _ _ _)
   | (with_reducible exact LeO.refl _)
   | (with_reducible exact LeO.none _)
   | (with_reducible refine LeO.ite ?_ ?_)
   | (with_reducible refine LeO.bind ?_ (fun _ => ?_))
   | exact ih0 _ _ _
   | exact LeO.none _
   | refine LeO.ite ?_ ?_
   | refine LeO.bind ?_ (fun _ => ?_)
set_option maxHeartbeats 8000000 in
set_option maxRecDepth 100000 in
theorem laws_eqInt64S.calls (k : Nat) (A0 : Option Addr) (c0 : Nat) (l0 : List Int) (A1 : Option Addr) (c1 : Nat) (l1 : List Int) (r : Bool) (w : World) (hr0 : Kd.C (Kd.int .i64) w A0 l0.length l0) (hc0 : l0.length ≤ c0) (hr1 : Kd.C (Kd.int .i64) w A1 l1.length l1) (hc1 : l1.length ≤ c1) (h : laws_eqInt64S.f k l0 l1 = some r) :
  Calls Tryd.prog 8 #[.slice A0 l0.length c0, .slice A1 l1.length c1] w fun e w' => e = .returned (.bool r) ∧ Drawn0 w w' := by
 have HR0 := Aside0.mk hr0
 have HC0 := Aside0.mk hc0
 clear hr0 hc0
 have HR1 := Aside0.mk hr1
 have HC1 := Aside0.mk hc1
 clear hr1 hc1
 have H : (if (l0.length : Int) = (l1.length : Int) then (laws_eqInt64S.l0 k l0 l1 0) else (some false)) = some r := h
 clear h
 by_cases c3 : (l0.length : Int) = (l1.length : Int)
 ·rw [if_pos c3] at H
  have c3b0 : ((l0.length : Int) == (l1.length : Int)) = true := beq_iff_eq.mpr c3
  have c3b1 : ((l0.length : Int) != (l1.length : Int)) = false := bne_eq_false_iff_eq.mpr c3
  have c3b2 : (l0.length == l1.length) = true := by first | simpa using c3 | (simp at c3 ⊢; omega)
  clear c3
  have H' := Aside0.mk H
  clear H
  go_enter Tryd.func8, Tryd.ntmps8
  go_wp2
  repeat (go_quiet (fail); try go_wp2)
  go_loopg [5] k (fun kq v5 w' => ∃ (x5_1 : Int), v5 = .int .i64 x5_1 ∧ Aside0 (laws_eqInt64S.l0 kq l0 l1 x5_1 = some r) ∧ Aside0 (kq ≤ k) ∧ Drawn0 w w')
  case atStart => exact ⟨(0), (by first | rfl | (simp; done) | (simp [*]; done)), H', ⟨Nat.le_refl _⟩, by repeat (first | exact Drawn0.refl _ | apply Drawn0.step)⟩
  case round =>
   clear H'
   try clear c1
   try clear p2
   try clear c3
   try clear c3b0
   try clear c3b1
   try clear c3b2
   obtain ⟨x5_1, rfl, HA, HK1, ⟨m1, rfl⟩⟩ := hrel
   cases gk with
   | zero => exact absurd HA.out (by simp [laws_eqInt64S.l0])
   | succ k1 =>
    have H := HA.out
    clear HA
    simp only [laws_eqInt64S.l0] at H
    by_cases c4 : x5_1 < (l0.length : Int)
    ·rw [if_pos c4] at H
     have c4b0 : decide (x5_1 < (l0.length : Int)) = true := decide_eq_true c4
     clear c4
     by_cases c5 : 0 ≤ x5_1
     ·rw [if_pos c5] at H
      have c5b0 : decide (0 ≤ x5_1) = true := decide_eq_true c5
      clear c5
      by_cases c6 : x5_1 < (l1.length : Int)
      ·rw [if_pos c6] at H
       have c6b0 : decide (x5_1 < (l1.length : Int)) = true := decide_eq_true c6
       clear c6
       by_cases c7 : (rd l0 x5_1) = (rd l1 x5_1)
       ·rw [if_pos c7] at H
        have c7b0 : ((rd l0 x5_1) == (rd l1 x5_1)) = true := beq_iff_eq.mpr c7
        have c7b1 : ((rd l0 x5_1) != (rd l1 x5_1)) = false := bne_eq_false_iff_eq.mpr c7
        clear c7
        have H' := Aside0.mk H
        clear H
        have p119 : 0 ≤ (x5_1 : Int) := of_decide_eq_true (by with_reducible assumption)
        have q119 : x5_1 < (l0.length : Int) := of_decide_eq_true (by with_reducible assumption)
        obtain ⟨ad119, e119, hx119_0⟩ := Kd.at_int HR0.out x5_1 p119 q119
        cases e119
        replace p119 := eq_true p119
        replace q119 := eq_true q119
        have p120 : 0 ≤ (x5_1 : Int) := of_decide_eq_true (by with_reducible assumption)
        have q120 : x5_1 < (l1.length : Int) := of_decide_eq_true (by with_reducible assumption)
        obtain ⟨ad120, e120, hx120_0⟩ := Kd.at_int HR1.out x5_1 p120 q120
        cases e120
        replace p120 := eq_true p120
        replace q120 := eq_true q120
        go_wp2
        repeat (go_quiet (fail); try go_wp2)
        go_roundg k1
        case measure => have := HK1.out; omega
        case rel => exact ⟨(wrap64 (x5_1 + 1)), (by first | rfl | (simp; done) | (simp [*]; done)), H', ⟨by have := HK1.out; omega⟩, by repeat (first | exact Drawn0.refl _ | apply Drawn0.step)⟩
       ·rw [if_neg c7] at H
        have c7b0 : ((rd l0 x5_1) == (rd l1 x5_1)) = false := beq_eq_false_iff_ne.mpr c7
        have c7b1 : ((rd l0 x5_1) != (rd l1 x5_1)) = true := bne_iff_ne.mpr c7
        obtain rfl := Option.some.inj H
        have p119 : 0 ≤ (x5_1 : Int) := of_decide_eq_true (by with_reducible assumption)
        have q119 : x5_1 < (l0.length : Int) := of_decide_eq_true (by with_reducible assumption)
        obtain ⟨ad119, e119, hx119_0⟩ := Kd.at_int HR0.out x5_1 p119 q119
        cases e119
        replace p119 := eq_true p119
        replace q119 := eq_true q119
        have p120 : 0 ≤ (x5_1 : Int) := of_decide_eq_true (by with_reducible assumption)
        have q120 : x5_1 < (l1.length : Int) := of_decide_eq_true (by with_reducible assumption)
        obtain ⟨ad120, e120, hx120_0⟩ := Kd.at_int HR1.out x5_1 p120 q120
        cases e120
        replace p120 := eq_true p120
        replace q120 := eq_true q120
        go_wp2
        repeat (go_quiet (fail); try go_wp2)
        go_ret
        exact ⟨by first | rfl | (simp; done) | (simp [*]; done), by repeat (first | exact Drawn0.refl _ | apply Drawn0.step)⟩
      ·rw [if_neg c6] at H
       exact absurd H (by simp)
     ·rw [if_neg c5] at H
      exact absurd H (by simp)
    ·rw [if_neg c4] at H
     have c4b0 : decide (x5_1 < (l0.length : Int)) = false := decide_eq_false c4
     clear c4
     obtain rfl := Option.some.inj H
     go_wp2
     repeat (go_quiet (fail); try go_wp2)
     go_ret
     exact ⟨by first | rfl | (simp; done) | (simp [*]; done), by repeat (first | exact Drawn0.refl _ | apply Drawn0.step)⟩
 ·rw [if_neg c3] at H
  have c3b0 : ((l0.length : Int) == (l1.length : Int)) = false := beq_eq_false_iff_ne.mpr c3
  have c3b1 : ((l0.length : Int) != (l1.length : Int)) = true := bne_iff_ne.mpr c3
  have c3b2 : (l0.length == l1.length) = false := by first | simpa using c3 | (simp at c3 ⊢; omega)
  obtain rfl := Option.some.inj H
  go_enter Tryd.func8, Tryd.ntmps8
  go_wp2
  repeat (go_quiet (fail); try go_wp2)
  go_ret
  exact ⟨by first | rfl | (simp; done) | (simp [*]; done), by repeat (first | exact Drawn0.refl _ | apply Drawn0.step)⟩

end Go.Proofs.YteccfnppbonniaaDoor.Pa

/- Lists of whole numbers that are compared by a law. -/
namespace Go.Proofs.YteccfnppbonniaaDoor.Pure
open Go.RowKit Go.Proofs.YteccfnppbonniaaDoor.Pa Go.Proofs.YteccfnppbonniaaDoorW.PrintWords Go.Proofs.YteccfnppbonniaaDoorW.PrintLast
set_option linter.unusedVariables false
set_option linter.unusedSimpArgs false

theorem eqI_loop (l : List Int) (hl : l.length ≤ 4611686018427387904) (d : Nat) : ∀ (k i : Nat), i + d = l.length → d < k → laws_eqInt64S.l0 k l l (i : Int) = some true := by
 induction d with
 | zero =>
  intro k i h hk
  obtain ⟨k, rfl⟩ : ∃ m, k = m + 1 := ⟨k - 1, by omega⟩
  simp only [laws_eqInt64S.l0]
  rw [if_neg (by omega)]
 | succ d ih =>
  intro k i h hk
  obtain ⟨k, rfl⟩ : ∃ m, k = m + 1 := ⟨k - 1, by omega⟩
  simp only [laws_eqInt64S.l0]
  rw [if_pos (by omega), if_pos (by omega), if_pos (by omega), if_pos trivial, wrap_id (by omega) (by omega)]
  exact ih k (i + 1) (by omega) (by omega)
theorem eqI (l : List Int) (hl : l.length ≤ 4611686018427387904) : ∀ k, l.length < k → laws_eqInt64S.f k l l = some true := by
 intro k hk
 unfold laws_eqInt64S.f
 rw [if_pos rfl]
 exact eqI_loop l hl l.length k 0 (by omega) hk
end Go.Proofs.YteccfnppbonniaaDoor.Pure

namespace Go.Proofs.YteccfnppbonniaaDoor.Pa
open Go.RowKit Go.Proofs.YteccfnppbonniaaDoorW.PrintWords Go.Proofs.YteccfnppbonniaaDoorW.PrintLast Go.Proofs.YteccfnppbonniaaDoorW.PrintMore
attribute [local go_sem] max2_int min2_int max_two min_two max_three min_three max_four min_four   -- for this text's walks alone
set_option linter.unusedVariables false
set_option linter.unusedSimpArgs false

/-! ### laws_markInt64S: function 9 -/
def laws_markInt64S.l0 : Nat → List Int → Int → Int → Option (Int × List Int)
 | 0, _, _, _ => none
 | k + 1, x0, x1, x5 => if x5 < (x0.length : Int) then (if 0 ≤ x5 then (laws_markInt64S.l0 k (x0.set (x5 : Int).toNat x1) (wrap64 (x1 + 1)) (wrap64 (x5 + 1))) else (none)) else (some (x1, x0))
def laws_markInt64S.f (k : Nat) (l0 : List Int) (a1 : Int) : Option (Int × List Int) := laws_markInt64S.l0 k l0 a1 0
theorem laws_markInt64S.mono_l : ∀ k, (∀ y0 y1 y2, LeO (laws_markInt64S.l0 k y0 y1 y2) (laws_markInt64S.l0 (k + 1) y0 y1 y2))
 | 0 => fun _ _ _ r h => by simp [laws_markInt64S.l0] at h
 | k + 1 => by
  have ih0 := laws_markInt64S.mono_l k
  ·intro y0 y1 y2
   unfold laws_markInt64S.l0
   repeat' first
   | (with_reducible exact ih0 _ _ _)
   | (with_reducible exact LeO.refl _)
   | (with_reducible exact LeO.none _)
   | (with_reducible refine LeO.ite ?_ ?_)
   | (with_reducible refine LeO.bind ?_ (fun _ => ?_))
   | exact ih0 _ _ _
   | exact LeO.none _
   | refine LeO.ite ?_ ?_
   | refine LeO.bind ?_ (fun _ => ?_)
theorem laws_markInt64S.mono : ∀ a0 a1 k, LeO (laws_markInt64S.f k a0 a1) (laws_markInt64S.f (k + 1) a0 a1) := by
 intro a0 a1 k
 have ih0 := laws_markInt64S.mono_l k
 unfold laws_markInt64S.f
 repeat' first
   | (with_reducible exact ih0 _ _ _)
   | (with_reducible exact LeO.refl _)
   | (with_reducible exact LeO.none _)
   | (with_reducible refine LeO.ite ?_ ?_)
   | (with_reducible refine LeO.bind ?_ (fun _ => ?_))
   | exact ih0 _ _ _
   | exact LeO.none _
   | refine LeO.ite ?_ ?_
   | refine LeO.bind ?_ (fun _ => ?_)
set_option maxHeartbeats 8000000 in
set_option maxRecDepth 100000 in
theorem laws_markInt64S.calls (k : Nat) (P0_ : Nat → Prop) (u9000_ : Value) (l0 : List Int) (a1 : Int) (r1 : Int) (r2 : List Int) (w0 w : World) (hB : Below w0.heap.size w0 w) (ho0 : Kd.R (Kd.int .i64) 2 w w0.heap.size P0_ u9000_ l0) (h : laws_markInt64S.f k l0 a1 = some (r1, r2)) :
  Calls Tryd.prog 9 #[u9000_, .int .i64 a1] w fun e w' => e = .returned (.int .i64 r1) ∧ Kd.R (Kd.int .i64) 2 w' w0.heap.size (fun k_ => (P0_ k_ ∨ w.heap.size ≤ k_)) u9000_ r2 ∧ Below w0.heap.size w0 w' ∧ Kept w w' (fun k_ => P0_ k_) := by
 have HO0 := Aside0.mk (show Kd.R (Kd.int .i64) 2 w w0.heap.size (fun k_ => (P0_ k_ ∨ w.heap.size ≤ k_)) u9000_ l0 from Kd.R_mono ho0 (fun k_ hk => (.inl hk)))
 have HK := Aside0.mk (Kept.refl w (fun k_ => P0_ k_))
 have HW0 := Aside0.mk hB.size
 have HB := Aside0.mk hB
 clear hB
 have H : (laws_markInt64S.l0 k l0 a1 0) = some (r1, r2) := h
 clear h
 have H' := Aside0.mk H
 clear H
 go_enter Tryd.func9, Tryd.ntmps9
 go_wp2
 go_loopg [1, 5] k (fun kq v1 v5 w' => ∃ (x0_1 : List Int) (x1_1 : Int) (x5_1 : Int), v1 = .int .i64 x1_1 ∧ v5 = .int .i64 x5_1 ∧ Aside0 (laws_markInt64S.l0 kq x0_1 x1_1 x5_1 = some (r1, r2)) ∧ Aside0 (kq ≤ k) ∧ Aside0 (Kd.R (Kd.int .i64) 2 w' w0.heap.size (fun k_ => (P0_ k_ ∨ w.heap.size ≤ k_)) u9000_ x0_1) ∧ Aside0 (Kept w w' (fun k_ => P0_ k_)) ∧ Aside0 (Below w0.heap.size w0 w'))
 case atStart => exact ⟨(l0), (a1), (0), (by first | rfl | (simp; done) | (simp [*]; done)), (by first | rfl | (simp; done) | (simp [*]; done)), H', ⟨Nat.le_refl _⟩, ⟨by (with_reducible repeat (first | apply Kd.R_alloc | apply Kd.R_drewN | apply Kd.R_drew)); exact HO0.out⟩, ⟨by repeat (first | (with_reducible first | exact HK.out | apply Kept.alloc | apply Kept.drewN | apply Kept.drew) | exact HK.out)⟩, ⟨by repeat (first | (with_reducible first | exact HB.out | apply below_alloc | apply pw_below_drewN | apply below_drew1) | exact HB.out)⟩⟩
 case round =>
  clear H'
  try clear p2
  obtain ⟨x0_1, x1_1, x5_1, rfl, rfl, HA, HK1, HO_0, HK, HB⟩ := hrel
  cases gk with
  | zero => exact absurd HA.out (by simp [laws_markInt64S.l0])
  | succ k1 =>
   have H := HA.out
   clear HA
   simp only [laws_markInt64S.l0] at H
   by_cases c3 : x5_1 < (x0_1.length : Int)
   ·rw [if_pos c3] at H
    have c3b0 : decide (x5_1 < (x0_1.length : Int)) = true := decide_eq_true c3
    clear c3
    by_cases c4 : 0 ≤ x5_1
    ·rw [if_pos c4] at H
     have c4b0 : decide (0 ≤ x5_1) = true := decide_eq_true c4
     clear c4
     obtain ⟨y121, hy121⟩ : ∃ y_ : List Int, y_ = (x0_1.set (x5_1 : Int).toNat x1_1) := ⟨_, rfl⟩
     replace H : (laws_markInt64S.l0 k1 y121 (wrap64 (x1_1 + 1)) (wrap64 (x5_1 + 1))) = some (r1, r2) := by first | (rw [hy121]; with_reducible exact H) | (have H2_ := (Option.bind_some _ _).symm.trans H; rw [hy121]; with_reducible exact H2_) | (have H2_ := (Option.bind_some _ _).symm.trans H; with_reducible exact H2_) | with_reducible exact H | (rw [hy121]; exact H) | exact H
     have Ny121 := Aside0.mk hy121
     clear hy121
     have H' := Aside0.mk H
     clear H
     obtain ⟨Ao6, co6, eo6⟩ := Kd.R_slice HO_0.out
     subst eo6
     have p5 : 0 ≤ (x5_1 : Int) := of_decide_eq_true (by with_reducible assumption)
     have q5 : (x5_1 : Int) < ((x0_1.length : Int) : Int) := of_decide_eq_true (by with_reducible assumption)
     obtain ⟨go5, co5, eo5, gb5, gl5, cl5, HG5⟩ := Kd.R_form HO_0.out (by omega)
     (first | cases eo5 | (injection eo5 with ea_ en_ ec_; (first | subst ea_ | (injection ea_ with ea_; subst ea_)); subst ec_; clear en_))
     have GB5 := Aside0.mk gb5
     have GG5 := Aside0.mk HG5
     clear gb5 gl5 HG5
     have HMgo5 := Aside0.mk (show (P0_ go5 ∨ w.heap.size ≤ go5) from (HO_0.out.1 _ rfl))
     obtain ⟨hx5_0, hf5_0⟩ := Kd.R_celln 0 HO_0.out (x5_1 : Int) p5 q5
     replace p5 := eq_true p5
     replace q5 := eq_true q5
     have HP7 := Kd.R_putg HO_0.out (x5_1 : Int) x1_1
     go_wp2_with (first | ((with_reducible refine gate_store (t := 2) (p := 15) rfl ?_); refine store_event (t := 2) (p := 15) (v := ?vo_w8) (w1 := (wr.setCell ⟨go5, (x5_1 : Int).toNat, none⟩ (.int .i64 x1_1))) ?hg ?ho ?hn ?hr ?_; (case ho => rfl); (case hg => rfl); (case hn => rfl); (case hr => first | (go_simp; done) | (go_simp; rfl)); intro w8 hw; have hg : wr.grownBy w8 (some go5) := (by rw [hw]; exact HP7.2); have hp_ : Kd.R (Kd.int .i64) 2 w8 w0.heap.size (fun k_ => (P0_ k_ ∨ w.heap.size ≤ k_)) (.slice (some ⟨go5, 0, none⟩) x0_1.length co6) y121 := (by rw [hw, Ny121.out]; exact HP7.1); clear HP7; have n0_ := Aside0.mk (hp_); have n1_ := Aside0.mk ((by rw [hw]; exact below_set (HB.out) GB5.out : Below w0.heap.size w0 w8)); have n2_ := Aside0.mk (Kept.of_grown (S := (fun k_ => P0_ k_)) hg (by repeat (first | (with_reducible first | exact HK.out | apply Kept.alloc | apply Kept.drewN | apply Kept.drew) | exact HK.out)) (fun k_ e_ => (HO_0.out.1 k_ e_))); clear HO_0; clear HB; clear HK; have HO_0 := n0_; have HB := n1_; have HK := n2_; clear n0_ n1_ n2_; clear hg hw hp_))
     go_roundg k1
     case measure => have := HK1.out; omega
     case rel => exact ⟨(y121), (wrap64 (x1_1 + 1)), (wrap64 (x5_1 + 1)), (by first | rfl | (simp; done) | (simp [*]; done)), (by first | rfl | (simp; done) | (simp [*]; done)), H', ⟨by have := HK1.out; omega⟩, ⟨by (with_reducible repeat (first | apply Kd.R_alloc | apply Kd.R_drewN | apply Kd.R_drew)); exact HO_0.out⟩, ⟨by repeat (first | (with_reducible first | exact HK.out | apply Kept.alloc | apply Kept.drewN | apply Kept.drew) | exact HK.out)⟩, ⟨by repeat (first | (with_reducible first | exact HB.out | apply below_alloc | apply pw_below_drewN | apply below_drew1) | exact HB.out)⟩⟩
    ·rw [if_neg c4] at H
     exact absurd H (by simp)
   ·rw [if_neg c3] at H
    have c3b0 : decide (x5_1 < (x0_1.length : Int)) = false := decide_eq_false c3
    clear c3
    simp only [Option.some.injEq, Prod.mk.injEq] at H
    obtain ⟨rfl, rfl⟩ := H
    obtain ⟨Ao9, co9, eo9⟩ := Kd.R_slice HO_0.out
    subst eo9
    go_wp2
    go_ret
    exact ⟨by first | rfl | (simp [errW_none, errW_some] <;> rfl) | (simp [*, errW_none, errW_some] <;> rfl), by (with_reducible repeat (first | apply Kd.R_alloc | apply Kd.R_drewN | apply Kd.R_drew)); exact HO_0.out, by repeat (first | (with_reducible first | exact HB.out | apply below_alloc | apply pw_below_drewN | apply below_drew1) | exact HB.out), by repeat (first | (with_reducible first | exact HK.out | apply Kept.alloc | apply Kept.drewN | apply Kept.drew) | exact HK.out)⟩

end Go.Proofs.YteccfnppbonniaaDoor.Pa

namespace Go.Proofs.YteccfnppbonniaaDoor.Pa
open Go.RowKit Go.Proofs.YteccfnppbonniaaDoorW.PrintWords Go.Proofs.YteccfnppbonniaaDoorW.PrintLast Go.Proofs.YteccfnppbonniaaDoorW.PrintMore
attribute [local go_sem] max2_int min2_int max_two min_two max_three min_three max_four min_four   -- for this text's walks alone
set_option linter.unusedVariables false
set_option linter.unusedSimpArgs false

/-! ### laws_heldInt64S: function 10 -/
def laws_heldInt64S.l0 : Nat → List Int → Int → Int → Option (Int)
 | 0, _, _, _ => none
 | k + 1, x0, x1, x5 => if x5 < (x0.length : Int) then (if 0 ≤ x5 then (if (rd x0 x5) = x1 then (laws_heldInt64S.l0 k x0 (wrap64 (x1 + 1)) (wrap64 (x5 + 1))) else (some (-1))) else (none)) else (some x1)
def laws_heldInt64S.f (k : Nat) (l0 : List Int) (a1 : Int) : Option (Int) := laws_heldInt64S.l0 k l0 a1 0
theorem laws_heldInt64S.mono_l : ∀ k, (∀ y0 y1 y2, LeO (laws_heldInt64S.l0 k y0 y1 y2) (laws_heldInt64S.l0 (k + 1) y0 y1 y2))
 | 0 => fun _ _ _ r h => by simp [laws_heldInt64S.l0] at h
 | k + 1 => by
  have ih0 := laws_heldInt64S.mono_l k
  ·intro y0 y1 y2
   unfold laws_heldInt64S.l0
   repeat' first
   | (with_reducible exact ih0 _ _ _)
   | (with_reducible exact LeO.refl _)
   | (with_reducible exact LeO.none _)
   | (with_reducible refine LeO.ite ?_ ?_)
   | (with_reducible refine LeO.bind ?_ (fun _ => ?_))
   | exact ih0 _ _ _
   | exact LeO.none _
   | refine LeO.ite ?_ ?_
   | refine LeO.bind ?_ (fun _ => ?_)
theorem laws_heldInt64S.mono : ∀ a0 a1 k, LeO (laws_heldInt64S.f k a0 a1) (laws_heldInt64S.f (k + 1) a0 a1) := by
 intro a0 a1 k
 have ih0 := laws_heldInt64S.mono_l k
 unfold laws_heldInt64S.f
 repeat' first
   | (with_reducible exact ih0 _ _ _)
   | (with_reducible exact LeO.refl _)
   | (with_reducible exact LeO.none _)
   | (with_reducible refine LeO.ite ?_ ?_)
   | (with_reducible refine LeO.bind ?_ (fun _ => ?_))
   | exact ih0 _ _ _
   | exact LeO.none _
   | refine LeO.ite ?_ ?_
   | refine LeO.bind ?_ (fun _ => ?_)
set_option maxHeartbeats 8000000 in
set_option maxRecDepth 100000 in
theorem laws_heldInt64S.calls (k : Nat) (A0 : Option Addr) (c0 : Nat) (l0 : List Int) (a1 : Int) (r : Int) (w : World) (hr0 : Kd.C (Kd.int .i64) w A0 l0.length l0) (hc0 : l0.length ≤ c0) (h : laws_heldInt64S.f k l0 a1 = some r) :
  Calls Tryd.prog 10 #[.slice A0 l0.length c0, .int .i64 a1] w fun e w' => e = .returned (.int .i64 r) ∧ Drawn0 w w' := by
 have HR0 := Aside0.mk hr0
 have HC0 := Aside0.mk hc0
 clear hr0 hc0
 have H : (laws_heldInt64S.l0 k l0 a1 0) = some r := h
 clear h
 have H' := Aside0.mk H
 clear H
 go_enter Tryd.func10, Tryd.ntmps10
 go_wp2
 go_loopg [1, 5] k (fun kq v1 v5 w' => ∃ (x1_1 : Int) (x5_1 : Int), v1 = .int .i64 x1_1 ∧ v5 = .int .i64 x5_1 ∧ Aside0 (laws_heldInt64S.l0 kq l0 x1_1 x5_1 = some r) ∧ Aside0 (kq ≤ k) ∧ Drawn0 w w')
 case atStart => exact ⟨(a1), (0), (by first | rfl | (simp; done) | (simp [*]; done)), (by first | rfl | (simp; done) | (simp [*]; done)), H', ⟨Nat.le_refl _⟩, by repeat (first | exact Drawn0.refl _ | apply Drawn0.step)⟩
 case round =>
  clear H'
  try clear c1
  try clear p2
  obtain ⟨x1_1, x5_1, rfl, rfl, HA, HK1, ⟨m1, rfl⟩⟩ := hrel
  cases gk with
  | zero => exact absurd HA.out (by simp [laws_heldInt64S.l0])
  | succ k1 =>
   have H := HA.out
   clear HA
   simp only [laws_heldInt64S.l0] at H
   by_cases c3 : x5_1 < (l0.length : Int)
   ·rw [if_pos c3] at H
    have c3b0 : decide (x5_1 < (l0.length : Int)) = true := decide_eq_true c3
    clear c3
    by_cases c4 : 0 ≤ x5_1
    ·rw [if_pos c4] at H
     have c4b0 : decide (0 ≤ x5_1) = true := decide_eq_true c4
     clear c4
     by_cases c5 : (rd l0 x5_1) = x1_1
     ·rw [if_pos c5] at H
      have c5b0 : ((rd l0 x5_1) == x1_1) = true := beq_iff_eq.mpr c5
      have c5b1 : ((rd l0 x5_1) != x1_1) = false := bne_eq_false_iff_eq.mpr c5
      clear c5
      have H' := Aside0.mk H
      clear H
      have p122 : 0 ≤ (x5_1 : Int) := of_decide_eq_true (by with_reducible assumption)
      have q122 : x5_1 < (l0.length : Int) := of_decide_eq_true (by with_reducible assumption)
      obtain ⟨ad122, e122, hx122_0⟩ := Kd.at_int HR0.out x5_1 p122 q122
      cases e122
      replace p122 := eq_true p122
      replace q122 := eq_true q122
      go_wp2
      go_roundg k1
      case measure => have := HK1.out; omega
      case rel => exact ⟨(wrap64 (x1_1 + 1)), (wrap64 (x5_1 + 1)), (by first | rfl | (simp; done) | (simp [*]; done)), (by first | rfl | (simp; done) | (simp [*]; done)), H', ⟨by have := HK1.out; omega⟩, by repeat (first | exact Drawn0.refl _ | apply Drawn0.step)⟩
     ·rw [if_neg c5] at H
      have c5b0 : ((rd l0 x5_1) == x1_1) = false := beq_eq_false_iff_ne.mpr c5
      have c5b1 : ((rd l0 x5_1) != x1_1) = true := bne_iff_ne.mpr c5
      obtain rfl := Option.some.inj H
      have p122 : 0 ≤ (x5_1 : Int) := of_decide_eq_true (by with_reducible assumption)
      have q122 : x5_1 < (l0.length : Int) := of_decide_eq_true (by with_reducible assumption)
      obtain ⟨ad122, e122, hx122_0⟩ := Kd.at_int HR0.out x5_1 p122 q122
      cases e122
      replace p122 := eq_true p122
      replace q122 := eq_true q122
      go_wp2
      go_ret
      exact ⟨by first | rfl | (simp; done) | (simp [*]; done), by repeat (first | exact Drawn0.refl _ | apply Drawn0.step)⟩
    ·rw [if_neg c4] at H
     exact absurd H (by simp)
   ·rw [if_neg c3] at H
    have c3b0 : decide (x5_1 < (l0.length : Int)) = false := decide_eq_false c3
    clear c3
    obtain rfl := Option.some.inj H
    go_wp2
    go_ret
    exact ⟨by first | rfl | (simp; done) | (simp [*]; done), by repeat (first | exact Drawn0.refl _ | apply Drawn0.step)⟩

end Go.Proofs.YteccfnppbonniaaDoor.Pa

/- Lists of whole numbers that are compared, marked and looked at again by a law. -/
namespace Go.Proofs.YteccfnppbonniaaDoor.Pure
open Go.RowKit Go.Proofs.YteccfnppbonniaaDoor.Pa Go.Proofs.YteccfnppbonniaaDoorW.PrintWords Go.Proofs.YteccfnppbonniaaDoorW.PrintLast
set_option linter.unusedVariables false
set_option linter.unusedSimpArgs false

theorem markI_loop (d : Nat) : ∀ (k : Nat) (l : List Int) (a : Int) (i : Nat), i + d = l.length → d < k → 0 ≤ a → a + d ≤ 4611686018427387904 → l.length ≤ 4611686018427387904 →
  laws_markInt64S.l0 k l a (i : Int) = some (a + d, l.take i ++ numsFrom a d) := by
 induction d with
 | zero =>
  intro k l a i h hk h0 ha hl
  obtain ⟨k, rfl⟩ : ∃ m, k = m + 1 := ⟨k - 1, by omega⟩
  simp only [laws_markInt64S.l0]
  rw [if_neg (by omega), List.take_of_length_le (by omega)]
  simp [numsFrom]
 | succ d ih =>
  intro k l a i h hk h0 ha hl
  obtain ⟨k, rfl⟩ : ∃ m, k = m + 1 := ⟨k - 1, by omega⟩
  simp only [laws_markInt64S.l0]
  rw [if_pos (by omega), if_pos (by omega), wrap_id (by omega) (by omega), wrap_id (by omega) (by omega)]
  have := ih k (l.set i a) (a + 1) (i + 1) (by simp; omega) (by omega) (by omega) (by omega) (by simpa using hl)
  rw [Int.toNat_natCast]
  push_cast at this
  rw [this]
  have ht : (l.set i a).take (i + 1) = l.take i ++ [a] := by
   rw [List.take_succ_eq_append_getElem (by simp; omega), List.take_set_of_le (by omega)]
   simp
  rw [ht]
  simp only [Option.some.injEq, Prod.mk.injEq]
  exact ⟨by omega, by simp [numsFrom]⟩
theorem markI (l : List Int) (hl : l.length ≤ 4611686018427387) : ∀ k, l.length < k → laws_markInt64S.f k l 1 = some (1 + (l.length : Int), numsFrom 1 l.length) := by
 intro k hk
 unfold laws_markInt64S.f
 have := markI_loop l.length k l 1 0 (by omega) hk (by omega) (by omega) (by omega)
 simpa using this
theorem heldI_loop (d : Nat) : ∀ (k : Nat) (l : List Int) (a : Int) (i : Nat), i + d = l.length → d < k → 0 ≤ a → a + d ≤ 4611686018427387904 → l.length ≤ 4611686018427387904 →
  l.drop i = numsFrom a d → laws_heldInt64S.l0 k l a (i : Int) = some (a + d) := by
 induction d with
 | zero =>
  intro k l a i h hk h0 ha hl hd
  obtain ⟨k, rfl⟩ : ∃ m, k = m + 1 := ⟨k - 1, by omega⟩
  simp only [laws_heldInt64S.l0]
  rw [if_neg (by omega)]
  simp
 | succ d ih =>
  intro k l a i h hk h0 ha hl hd
  obtain ⟨k, rfl⟩ : ∃ m, k = m + 1 := ⟨k - 1, by omega⟩
  rw [List.drop_eq_getElem_cons (by omega), numsFrom, List.cons.injEq] at hd
  simp only [laws_heldInt64S.l0]
  rw [if_pos (by omega), if_pos (by omega), if_pos (by rw [rd_get (by omega)]; exact hd.1), wrap_id (by omega) (by omega), wrap_id (by omega) (by omega)]
  have := ih k l (a + 1) (i + 1) (by omega) (by omega) (by omega) (by omega) hl hd.2
  push_cast at this
  rw [this]
  simp only [Option.some.injEq]
  omega
theorem heldI (n : Nat) (hl : n ≤ 4611686018427387) : ∀ k, n < k → laws_heldInt64S.f k (numsFrom 1 n) 1 = some (1 + (n : Int)) := by
 intro k hk
 unfold laws_heldInt64S.f
 have := heldI_loop n k (numsFrom 1 n) 1 0 (by simp [numsFrom_length]) hk (by omega) (by omega) (by simp [numsFrom_length]; omega) (by simp)
 simpa using this
end Go.Proofs.YteccfnppbonniaaDoor.Pure

