-- Written for this claim by a program of this session.
import Derived.Test.YtalafmahgeejiaaUPax0
import Derived.Test.YtalafmahgeejiaaUCoreM4
import Derived.Test.YtalafmahgeejiaaUCoreM5
import Derived.Test.YtalafmahgeejiaaUCoreM1
namespace Go.Proofs.Ytalafmahgeejiaa.Pa
open Go.RowKit Go.Proofs.YtalafmahgeejiaaW.PrintWords Go.Proofs.YtalafmahgeejiaaW.PrintLast Go.Proofs.YtalafmahgeejiaaW.PrintMore
attribute [local go_sem] max2_int min2_int max_two min_two max_three min_three max_four min_four   -- for this text's walks alone
set_option linter.unusedVariables false
set_option linter.unusedSimpArgs false

/-! ### impl_leastSkews: function 74 -/
def impl_leastSkews.T1 : Bool × List (List Nat × List Nat) := (true, [([], []), ([0], [0]), ([1, 1], [1]), ([], []), ([3], [3]), ([], []), ([5, 2, 4, 0, 1, 2, 5], [2, 5]), ([4, 6, 0, 1, 2, 3, 4, 5, 6], [4])])
def impl_leastSkews.B1 : List Nat := [0, 1, 3, 0, 8, 0, 63, 127]
theorem impl_leastSkews.tab1 : rtab .any (opsOf Try.f74 1) = impl_leastSkews.T1 := by kernel_rfl
theorem impl_leastSkews.bits1 : waitsOk impl_leastSkews.T1.2 impl_leastSkews.B1 = true := by kernel_rfl
def impl_leastSkews.T9 : Bool × List (List Nat × List Nat) := (true, [([], []), ([], []), ([1], [1]), ([], []), ([], []), ([4], [4]), ([3, 5], [3, 5]), ([6], [6]), ([], []), ([8], [8]), ([7, 9], [7, 9]), ([], []), ([11], [11]), ([10, 12], [10, 12]), ([], []), ([13, 14], [13, 14]), ([0, 2, 15], [0, 2, 15])])
def impl_leastSkews.B9 : List Nat := [0, 0, 2, 0, 0, 16, 56, 120, 0, 256, 1016, 0, 2048, 8184, 0, 32760, 65535]
theorem impl_leastSkews.tab9 : rtab .any (opsOf Try.f74 9) = impl_leastSkews.T9 := by kernel_rfl
theorem impl_leastSkews.bits9 : waitsOk impl_leastSkews.T9.2 impl_leastSkews.B9 = true := by kernel_rfl
def impl_leastSkews.T10 : Bool × List (List Nat × List Nat) := (true, [([], []), ([], []), ([1], [1]), ([], []), ([], []), ([4], [4]), ([3, 5], [3, 5]), ([6], [6]), ([], []), ([8], [8]), ([7, 9], [7, 9]), ([], []), ([11], [11]), ([10, 12], [10, 12]), ([0, 2, 13], [0, 2, 13])])
def impl_leastSkews.B10 : List Nat := [0, 0, 2, 0, 0, 16, 56, 120, 0, 256, 1016, 0, 2048, 8184, 16383]
theorem impl_leastSkews.tab10 : rtab .any (opsOf Try.f74 10) = impl_leastSkews.T10 := by kernel_rfl
theorem impl_leastSkews.bits10 : waitsOk impl_leastSkews.T10.2 impl_leastSkews.B10 = true := by kernel_rfl
def impl_leastSkews.T13 : Bool × List (List Nat × List Nat) := (true, [([], []), ([], []), ([], []), ([1, 2], [1, 2]), ([0, 3, 0], [0]), ([3, 4, 0, 1, 2, 3, 4], [3])])
def impl_leastSkews.B13 : List Nat := [0, 0, 0, 6, 15, 31]
theorem impl_leastSkews.tab13 : rtab .any (opsOf Try.f74 13) = impl_leastSkews.T13 := by kernel_rfl
theorem impl_leastSkews.bits13 : waitsOk impl_leastSkews.T13.2 impl_leastSkews.B13 = true := by kernel_rfl
/-- Both ends of a link are registers. -/
def linkB (n : Int) (x : S72) : Bool := decide (0 ≤ x.f0) && decide (x.f0 < n) && decide (0 ≤ x.f1) && decide (x.f1 < n)
theorem areSkewsN (n0 : Nat) (a0_0 : Int) (A0_1 : Option Addr) (c0_1 : Nat) (l0_1 : List (S62)) (A0_2 : Option Addr) (c0_2 : Nat) (l0_2 : List Int) (a0_3 : Int) (a0_4 : Int) (a0_5 : Int) (a0_6 : Int) (A1 : Option Addr) (c1 : Nat) (l1 : List Int) (r : Bool) (w : World) (hn : l1.length = n0) (hr0_1 : Kd.C k62 w A0_1 l0_1.length l0_1) (hc0_1 : l0_1.length ≤ c0_1) (hr0_2 : Kd.C (Kd.int .i64) w A0_2 l0_2.length l0_2) (hc0_2 : l0_2.length ≤ c0_2) (hr1 : Kd.C (Kd.int .i64) w A1 n0 l1) (hc1 : n0 ≤ c1) (h : impl_areSkews.f a0_0 l0_1 l0_2 a0_3 a0_4 a0_5 a0_6 l1 = some r) :
  Calls Try.prog 67 #[.agg #[.int .i64 a0_0, .slice A0_1 l0_1.length c0_1, .slice A0_2 l0_2.length c0_2, .int .i64 a0_3, .int .i64 a0_4, .int .i64 a0_5, .int .i64 a0_6], .slice A1 n0 c1] w fun e w' => e = .returned (.bool r) ∧ Below w.heap.size w w' := by
 subst hn
 exact impl_areSkews.calls a0_0 A0_1 c0_1 l0_1 A0_2 c0_2 l0_2 a0_3 a0_4 a0_5 a0_6 A1 c1 l1 r w hr0_1 hc0_1 hr0_2 hc0_2 hr1 hc1 h
def impl_leastSkews.f (k : Nat) (a0_0 : Int) (l0_1 : List (S62)) (l0_2 : List Int) (a0_3 a0_4 a0_5 a0_6 a1 : Int) : Option (List Int × Bool) :=
 (impl_Circuit_links.f k a0_0 l0_1 l0_2 a0_3 a0_4 a0_5 a0_6).bind fun ls => if 1 ≤ a0_0 ∧ a0_0 ≤ 1000 ∧ ls.all (linkB a0_0) = true then
  match skRounds a0_3 a0_4 a1 ls (a0_0 + 1).toNat (List.replicate a0_0.toNat 0) with
  | none => some ([], false)
  | some l => (impl_areSkews.f a0_0 l0_1 l0_2 a0_3 a0_4 a0_5 a0_6 l).bind fun b => some (l, b)
 else none
set_option maxHeartbeats 8000000 in
set_option maxRecDepth 100000 in
theorem impl_leastSkews.calls (k : Nat) (a0_0 : Int) (A0_1 : Option Addr) (c0_1 : Nat) (l0_1 : List (S62)) (A0_2 : Option Addr) (c0_2 : Nat) (l0_2 : List Int) (a0_3 : Int) (a0_4 : Int) (a0_5 : Int) (a0_6 : Int) (a1 : Int) (r1 : List Int) (r2 : Bool) (w : World) (hr0_1 : Kd.C k62 w A0_1 l0_1.length l0_1) (hc0_1 : l0_1.length ≤ c0_1) (hr0_2 : Kd.C (Kd.int .i64) w A0_2 l0_2.length l0_2) (hc0_2 : l0_2.length ≤ c0_2) (h : impl_leastSkews.f k a0_0 l0_1 l0_2 a0_3 a0_4 a0_5 a0_6 a1 = some (r1, r2)) :
  Calls Try.prog 74 #[.agg #[.int .i64 a0_0, .slice A0_1 l0_1.length c0_1, .slice A0_2 l0_2.length c0_2, .int .i64 a0_3, .int .i64 a0_4, .int .i64 a0_5, .int .i64 a0_6], .int .i64 a1] w fun e w' => ∃ v0_ : Value, e = .returned (.tuple #[v0_, .bool r2]) ∧ Kd.R (Kd.int .i64) 2 w' w.heap.size (fun _ => True) v0_ r1 ∧ Below w.heap.size w w' := by
 have hu := Try.underlying30
 have hu2 := Try.underlying72
 obtain ⟨ls, hl, h⟩ := Option.bind_eq_some_iff.mp h
 by_cases hc : 1 ≤ a0_0 ∧ a0_0 ≤ 1000 ∧ ls.all (linkB a0_0) = true
 case neg => rw [if_neg hc] at h; exact absurd h (by simp)
 rw [if_pos hc] at h
 obtain ⟨h1, h2, h3⟩ := hc
 have HR1 := Aside0.mk hr0_1
 have HC1 := Aside0.mk hc0_1
 have HR2 := Aside0.mk hr0_2
 have HC2 := Aside0.mk hc0_2
 have HL := Aside0.mk hl
 have HN0 : Aside0 (0 ≤ a0_0) := ⟨by omega⟩
 have HN1 : Aside0 (a0_0.toNat * 8 ≤ 281474976710656) := ⟨by omega⟩
 have HN2 := Aside0.mk (And.intro h1 h2)
 have HALL := Aside0.mk h3
 obtain ⟨zl, hz⟩ : ∃ l : List Int, l = List.replicate a0_0.toNat 0 := ⟨_, rfl⟩
 rw [← hz] at h
 have HZ := Aside0.mk hz
 have HH := Aside0.mk h
 obtain ⟨n0, hn0⟩ : ∃ n : Nat, zl.length = n := ⟨_, rfl⟩
 have HNN : Aside0 ((n0 : Int) = a0_0) := ⟨by rw [← hn0, hz, List.length_replicate]; omega⟩
 have HZN := Aside0.mk hn0
 have hpos : 0 < zl.length := by rw [hz, List.length_replicate]; omega
 have HZP := Aside0.mk hpos
 clear hr0_1 hc0_1 hr0_2 hc0_2 hl hz h1 h2 h3 h hn0 hpos
 go_enter Try.func74, Try.ntmps74
 go_wp2_with ((with_reducible refine gate_dst (N := 2) rfl ?_); refine box_event ?hg (N := 2) ?hd (cs := #[.int .i64 a0_0, .slice A0_1 l0_1.length c0_1, .slice A0_2 l0_2.length c0_2, .int .i64 a0_3, .int .i64 a0_4, .int .i64 a0_5, .int .i64 a0_6]) (t := 30) ?hr ?_; (case hd => rfl); (case hg => rfl); (case hr => first | (go_simp; done) | (go_simp; rfl)); intro gb hg_ w1 hbox_ hb_; have HX_gb := Aside0.mk hbox_; have HB_w1 := Aside0.mk hb_; have HG_gb := Aside0.mk hg_; clear hbox_ hb_ hg_)
 have HB := Aside0.mk (below_drew1 HB_w1.out)
 have HCB := Aside0.mk (blk_drew HX_gb.out)
 clear HB_w1 HX_gb HG_gb
 refine start_ (n := 8) (S := fun w' => True) (ds := []) #[false, false, false, false, false, false, false, false] (by kernel_rfl) rfl rfl trivial (fun hHeld => ?_)
 refine with_tabW impl_leastSkews.tab1 impl_leastSkews.bits1 (fun HT_ HW_ => ?_)
 generalize w1.drew = w2 at HB HCB hHeld ⊢
 refine pure_ (i := 0) (N := some 12) (v := ?_) (a' := ?_) #[true, false, false, false, false, false, false, false] rfl rfl (any_of HT_.out (by kernel_rfl)) (fun _ _ _ h => h) (Or.inl ⟨by rfl, ?_⟩) ?_ ?_
 rotate_left
 ·intro w'
  go_simp
  with_reducible rfl
 rotate_left
 ·simp only [Act.put, List.setIfInBounds_toArray, List.set_cons_zero, List.set_cons_succ, i64_w, i32_w]
  rfl
 refine inv_at [1, 2, 3, 4, 5, 6, 7] (fun a0_ b a w' => ∃ (Am : Option Addr) (cm : Nat) (v16 : Value) (g6 : Nat) (m2_ : Value) (m5_ : Value) (m7_ : Value), a = putSel a0_ b [(1, 13, .int .i64 a0_0), (2, 14, m2_), (3, 15, .agg #[.int .i64 a0_0, .slice A0_1 l0_1.length c0_1, .slice A0_2 l0_2.length c0_2, .int .i64 a0_3, .int .i64 a0_4, .int .i64 a0_5, .int .i64 a0_6]), (4, 16, v16), (5, 6, m5_), (7, 7, m7_)] ∧ (Below w.heap.size w w') ∧ (w'.heap[gb]? = some (.cells #[.int .i64 a0_0, .slice A0_1 l0_1.length c0_1, .slice A0_2 l0_2.length c0_2, .int .i64 a0_3, .int .i64 a0_4, .int .i64 a0_5, .int .i64 a0_6] 30 (0, 0))) ∧ (b 2 = true → Kd.R (Kd.int .i64) 2 w' w.heap.size (fun _ => True) (.slice Am zl.length cm) zl) ∧ (b 4 = true → Kd.R k72 72 w' w.heap.size (fun _ => True) v16 ls) ∧ (b 5 = true → b 6 = false → w'.heap[g6]? = some (.cells #[.slice none 0 0] 23 (0, 0))) ∧ (b 6 = true → w'.heap[g6]? = some (.cells #[.slice Am zl.length cm] 23 (0, 0))) ∧ (b 5 = true → w.heap.size ≤ g6) ∧ (b 5 = true → gb ≠ g6) ∧ (b 2 = true → (m2_ : Value) = .slice Am zl.length cm) ∧ (b 5 = true → (m5_ : Value) = .pointer (some ⟨g6, 0, none⟩)) ∧ (b 7 = true → (m7_ : Value) = v16)) HT_.out HW_.out (by kernel_rfl) (by kernel_rfl) ?_ ?_ ?_
 ·exact ⟨none, 0, .bool false, 0, .bool false, .bool false, .bool false, by simp only [putSel, Bool.false_eq_true, if_false], HB.out, HCB.out, fun h_ => absurd h_ (by decide), fun h_ => absurd h_ (by decide), fun h_ => absurd h_ (by decide), fun h_ => absurd h_ (by decide), fun h_ => absurd h_ (by decide), fun h_ => absurd h_ (by decide), fun h_ => absurd h_ (by decide), fun h_ => absurd h_ (by decide), fun h_ => absurd h_ (by decide)⟩
 ·skip
  clear HB HCB
  refine steps_cons ?_ ?_
  ·rintro b a w' ⟨Am, cm, v16, g6, m2_, m5_, m7_, ha, Q_HB, Q_HCB, Q_F14, Q_F16, Q_F6a, Q_F6b, Q_GE, Q_GN, Q_X2_, Q_X5_, Q_X7_⟩ hb_ hon hoff
   refine ⟨_, rfl, fun K hK => ?_⟩
   have e12 : a.tmps[12]? = some (.pointer (some ⟨gb, 0, none⟩)) := by rw [ha]; exact (putSel_off rfl).trans rfl
   replace ha := Aside0.mk ha
   have HB := Aside0.mk Q_HB
   have HCB := Aside0.mk Q_HCB
   have hc0_ : w'.cell? ⟨gb, 0, none⟩ = some (.int .i64 a0_0) := (blk_cell HCB.out 0).trans rfl
   refine value_ (w1 := w') (v := .int .i64 a0_0) (by rfl) rfl ?_ ?_
   ·go_simp
    (try simp only [i64_w])
    try rfl
   refine hK.out _ _ ⟨Am, cm, v16, g6, m2_, m5_, m7_, (by rw [ha.out]; exact putSel_upk 0 hb_ rfl rfl rfl), Q_HB, Q_HCB, fun h0_ => absurd ((hoff 2 (by kernel_rfl)).symm.trans h0_) (by decide), Q_F16, Q_F6a, fun h0_ => absurd ((hoff 6 (by kernel_rfl)).symm.trans h0_) (by decide), Q_GE, Q_GN, fun h0_ => absurd ((hoff 2 (by kernel_rfl)).symm.trans h0_) (by decide), Q_X5_, fun h0_ => absurd ((hoff 7 (by kernel_rfl)).symm.trans h0_) (by decide)⟩
  refine steps_cons ?_ ?_
  ·rintro b a w' ⟨Am, cm, v16, g6, m2_, m5_, m7_, ha, Q_HB, Q_HCB, Q_F14, Q_F16, Q_F6a, Q_F6b, Q_GE, Q_GN, Q_X2_, Q_X5_, Q_X7_⟩ hb_ hon hoff
   refine ⟨_, rfl, fun K hK => ?_⟩
   have e13 : a.tmps[13]? = some (.int .i64 a0_0) := by rw [ha]; exact putSel_on (e := (1, 13, .int .i64 a0_0)) 0 rfl rfl (hon 1 (by kernel_rfl)) rfl
   replace ha := Aside0.mk ha
   have HB := Aside0.mk Q_HB
   have HCB := Aside0.mk Q_HCB
   refine Kd.R_make_step (Kd.int .i64) _ 2 (by rfl) (N := 14) rfl 23 _ _ rfl a0_0 (by first | (simp only [List.map_toArray, List.map_cons, List.map_nil, Act.eval, Array.getD_eq_getD_getElem?, Option.getD_some, e13]; done) | (simp only [List.map_toArray, List.map_cons, List.map_nil, Act.eval, Array.getD_eq_getD_getElem?, Option.getD_some, e13]; rfl)) (by first | (simp only [List.map_toArray, List.map_cons, List.map_nil, Act.eval, Array.getD_eq_getD_getElem?, Option.getD_some, e13]; done) | (simp only [List.map_toArray, List.map_cons, List.map_nil, Act.eval, Array.getD_eq_getD_getElem?, Option.getD_some, e13]; rfl)) Try.underlying23 (.int .i64 0) 8 info2 rfl (by decide) (by omega) 0 (ok := fun _ => True) (okp := fun _ => True) rfl (fun _ hk => hk) trivial HN0.out HN1.out (Below.refl _ _) (Nat.le_refl _) ?_
   intro vm w5 ho hb hg_ hnew_
   clear hg_ hnew_
   rw [← HZ.out] at ho
   obtain ⟨Am', cm', rfl⟩ := Kd.R_slice ho
   refine hK.out _ _ ⟨Am', cm', v16, g6, (.slice Am' zl.length cm'), m5_, m7_, (by rw [ha.out]; exact putSel_upk 1 hb_ rfl rfl rfl), below_step HB.out hb, blk_below HCB.out hb, fun _ => Kd.R_lower ho (below_size HB.out), fun h0_ => Kd.R_below (Q_F16 h0_) hb, fun h0_ h1_ => blk_below (Q_F6a h0_ h1_) hb, fun h0_ => absurd ((hoff 6 (by kernel_rfl)).symm.trans h0_) (by decide), Q_GE, Q_GN, fun _ => rfl, Q_X5_, fun h0_ => absurd ((hoff 7 (by kernel_rfl)).symm.trans h0_) (by decide)⟩
  refine steps_cons ?_ ?_
  ·rintro b a w' ⟨Am, cm, v16, g6, m2_, m5_, m7_, ha, Q_HB, Q_HCB, Q_F14, Q_F16, Q_F6a, Q_F6b, Q_GE, Q_GN, Q_X2_, Q_X5_, Q_X7_⟩ hb_ hon hoff
   refine ⟨_, rfl, fun K hK => ?_⟩
   have e2 : a.tmps[2]? = some (.pointer (some ⟨gb, 0, none⟩)) := by rw [ha]; exact (putSel_off rfl).trans rfl
   replace ha := Aside0.mk ha
   have HB := Aside0.mk Q_HB
   have HCB := Aside0.mk Q_HCB
   have hc0_ : w'.cell? ⟨gb, 0, none⟩ = some (.int .i64 a0_0) := (blk_cell HCB.out 0).trans rfl
   have hc1_ : w'.cell? ⟨gb, 1, none⟩ = some (.slice A0_1 l0_1.length c0_1) := (blk_cell HCB.out 1).trans rfl
   have hc2_ : w'.cell? ⟨gb, 2, none⟩ = some (.slice A0_2 l0_2.length c0_2) := (blk_cell HCB.out 2).trans rfl
   have hc3_ : w'.cell? ⟨gb, 3, none⟩ = some (.int .i64 a0_3) := (blk_cell HCB.out 3).trans rfl
   have hc4_ : w'.cell? ⟨gb, 4, none⟩ = some (.int .i64 a0_4) := (blk_cell HCB.out 4).trans rfl
   have hc5_ : w'.cell? ⟨gb, 5, none⟩ = some (.int .i64 a0_5) := (blk_cell HCB.out 5).trans rfl
   have hc6_ : w'.cell? ⟨gb, 6, none⟩ = some (.int .i64 a0_6) := (blk_cell HCB.out 6).trans rfl
   refine value_ (w1 := w') (v := .agg #[.int .i64 a0_0, .slice A0_1 l0_1.length c0_1, .slice A0_2 l0_2.length c0_2, .int .i64 a0_3, .int .i64 a0_4, .int .i64 a0_5, .int .i64 a0_6]) (by rfl) rfl ?_ ?_
   ·go_simp
    (try simp only [i64_w])
    try rfl
   refine hK.out _ _ ⟨Am, cm, v16, g6, m2_, m5_, m7_, (by rw [ha.out]; exact putSel_upk 2 hb_ rfl rfl rfl), Q_HB, Q_HCB, Q_F14, fun h0_ => absurd ((hoff 4 (by kernel_rfl)).symm.trans h0_) (by decide), Q_F6a, fun h0_ => absurd ((hoff 6 (by kernel_rfl)).symm.trans h0_) (by decide), Q_GE, Q_GN, Q_X2_, Q_X5_, fun h0_ => absurd ((hoff 7 (by kernel_rfl)).symm.trans h0_) (by decide)⟩
  refine steps_cons ?_ ?_
  ·rintro b a w' ⟨Am, cm, v16, g6, m2_, m5_, m7_, ha, Q_HB, Q_HCB, Q_F14, Q_F16, Q_F6a, Q_F6b, Q_GE, Q_GN, Q_X2_, Q_X5_, Q_X7_⟩ hb_ hon hoff
   refine ⟨_, rfl, fun K hK => ?_⟩
   have e15 : a.tmps[15]? = some (.agg #[.int .i64 a0_0, .slice A0_1 l0_1.length c0_1, .slice A0_2 l0_2.length c0_2, .int .i64 a0_3, .int .i64 a0_4, .int .i64 a0_5, .int .i64 a0_6]) := by rw [ha]; exact putSel_on (e := (3, 15, .agg #[.int .i64 a0_0, .slice A0_1 l0_1.length c0_1, .slice A0_2 l0_2.length c0_2, .int .i64 a0_3, .int .i64 a0_4, .int .i64 a0_5, .int .i64 a0_6])) 2 rfl rfl (hon 3 (by kernel_rfl)) rfl
   replace ha := Aside0.mk ha
   have HB := Aside0.mk Q_HB
   have HCB := Aside0.mk Q_HCB
   refine goes_ Try.func58 (by kernel_rfl) rfl #[.agg #[.int .i64 a0_0, .slice A0_1 l0_1.length c0_1, .slice A0_2 l0_2.length c0_2, .int .i64 a0_3, .int .i64 a0_4, .int .i64 a0_5, .int .i64 a0_6]] (by rfl) rfl rfl (by first | (simp only [List.map_toArray, List.map_cons, List.map_nil, Act.eval, Array.getD_eq_getD_getElem?, Option.getD_some, e15]; done) | (simp only [List.map_toArray, List.map_cons, List.map_nil, Act.eval, Array.getD_eq_getD_getElem?, Option.getD_some, e15]; rfl)) ?_
   refine (impl_Circuit_links.calls (hr0_1 := Kd.C_below HR1.out HB.out) (hc0_1 := HC1.out) (hr0_2 := Kd.C_below HR2.out HB.out) (hc0_2 := HC2.out) (h := HL.out)).mono ?_
   rintro e w5 ⟨vl, rfl, ho, hb⟩
   refine ⟨_, rfl, ?_⟩
   refine hK.out _ _ ⟨Am, cm, vl, g6, m2_, m5_, m7_, (by rw [ha.out]; exact putSel_upk 3 hb_ rfl rfl rfl), below_step HB.out hb, blk_below HCB.out hb, fun h0_ => Kd.R_below (Q_F14 h0_) hb, fun _ => Kd.R_lower ho (below_size HB.out), fun h0_ h1_ => blk_below (Q_F6a h0_ h1_) hb, fun h0_ => absurd ((hoff 6 (by kernel_rfl)).symm.trans h0_) (by decide), Q_GE, Q_GN, Q_X2_, Q_X5_, fun h0_ => absurd ((hoff 7 (by kernel_rfl)).symm.trans h0_) (by decide)⟩
  refine steps_cons ?_ ?_
  ·rintro b a w' ⟨Am, cm, v16, g6, m2_, m5_, m7_, ha, Q_HB, Q_HCB, Q_F14, Q_F16, Q_F6a, Q_F6b, Q_GE, Q_GN, Q_X2_, Q_X5_, Q_X7_⟩ hb_ hon hoff
   refine ⟨_, rfl, fun K hK => ?_⟩
   replace ha := Aside0.mk ha
   have HB := Aside0.mk Q_HB
   have HCB := Aside0.mk Q_HCB
   refine box_step (by rfl) (N := 6) rfl (cs := #[.slice none 0 0]) (t := 23) ?_ ?_
   ·first | (go_simp; done) | (go_simp; rfl)
   intro gn hgn w5 hbox hb
   refine hK.out _ _ ⟨Am, cm, v16, gn, m2_, (.pointer (some ⟨gn, 0, none⟩)), m7_, (by rw [ha.out]; exact putSel_upk 4 hb_ rfl rfl rfl), below_step HB.out hb, blk_below HCB.out hb, fun h0_ => Kd.R_below (Q_F14 h0_) hb, fun h0_ => Kd.R_below (Q_F16 h0_) hb, fun _ _ => hbox, fun h0_ => absurd ((hoff 6 (by kernel_rfl)).symm.trans h0_) (by decide), fun _ => by rw [hgn]; exact below_size HB.out, fun _ => by rw [hgn]; exact Nat.ne_of_lt (Array.getElem?_eq_some_iff.mp HCB.out).1, Q_X2_, fun _ => rfl, fun h0_ => absurd ((hoff 7 (by kernel_rfl)).symm.trans h0_) (by decide)⟩
  refine steps_cons ?_ ?_
  ·rintro b a w' ⟨Am, cm, v16, g6, m2_, m5_, m7_, ha, Q_HB, Q_HCB, Q_F14, Q_F16, Q_F6a, Q_F6b, Q_GE, Q_GN, Q_X2_, Q_X5_, Q_X7_⟩ hb_ hon hoff
   refine ⟨_, rfl, fun K hK => ?_⟩
   have e6 : a.tmps[6]? = some (m5_) := by rw [ha]; exact putSel_on (e := (5, 6, m5_)) 4 rfl rfl (hon 5 (by kernel_rfl)) rfl
   rw [Q_X5_ (hon 5 (by kernel_rfl))] at e6
   have e14 : a.tmps[14]? = some (m2_) := by rw [ha]; exact putSel_on (e := (2, 14, m2_)) 1 rfl rfl (hon 2 (by kernel_rfl)) rfl
   rw [Q_X2_ (hon 2 (by kernel_rfl))] at e14
   replace ha := Aside0.mk ha
   have HB := Aside0.mk Q_HB
   have HCB := Aside0.mk Q_HCB
   have F14 := Aside0.mk (Q_F14 (hon 2 (by kernel_rfl)))
   have F16 := Aside0.mk (Q_F16 (hon 4 (by kernel_rfl)))
   have F6a := Aside0.mk (Q_F6a (hon 5 (by kernel_rfl)) hb_)
   have GE := Aside0.mk (Q_GE (hon 5 (by kernel_rfl)))
   have GN := Aside0.mk (Q_GN (hon 5 (by kernel_rfl)))
   have hz_ := blk_cell F6a.out 0
   have hf_ := blk_frozen F6a.out 0
   refine skip_ (w1 := w'.setCell ⟨g6, 0, none⟩ (.slice Am zl.length cm)) (by rfl) rfl ?_ ?_
   ·go_simp
   refine hK.out _ _ ⟨Am, cm, v16, g6, m2_, m5_, m7_, (by rw [ha.out]; exact putSel_none (v := undef) rfl), below_set HB.out GE.out, blk_far HCB.out (p := ⟨g6, 0, none⟩) GN.out _, fun _ => Kd.R_set F14.out F6a.out (by intro q hq; have hq : q ∈ [2] := hq; simp at hq; omega) 0 (.slice Am zl.length cm), fun _ => Kd.R_set F16.out F6a.out (by decide) 0 (.slice Am zl.length cm), fun _ h1_ => absurd ((up_self b 6).symm.trans h1_) (by decide), fun _ => blk_put F6a.out 0 (.slice Am zl.length cm) rfl, Q_GE, Q_GN, Q_X2_, Q_X5_, fun h0_ => absurd ((hoff 7 (by kernel_rfl)).symm.trans h0_) (by decide)⟩
  refine steps_cons ?_ ?_
  ·rintro b a w' ⟨Am, cm, v16, g6, m2_, m5_, m7_, ha, Q_HB, Q_HCB, Q_F14, Q_F16, Q_F6a, Q_F6b, Q_GE, Q_GN, Q_X2_, Q_X5_, Q_X7_⟩ hb_ hon hoff
   refine ⟨_, rfl, fun K hK => ?_⟩
   have e16 : a.tmps[16]? = some (v16) := by rw [ha]; exact putSel_on (e := (4, 16, v16)) 3 rfl rfl (hon 4 (by kernel_rfl)) rfl
   replace ha := Aside0.mk ha
   have HB := Aside0.mk Q_HB
   have HCB := Aside0.mk Q_HCB
   have F14 := Aside0.mk (Q_F14 (hon 2 (by kernel_rfl)))
   have F16 := Aside0.mk (Q_F16 (hon 4 (by kernel_rfl)))
   have F6b := Aside0.mk (Q_F6b (hon 6 (by kernel_rfl)))
   have GE := Aside0.mk (Q_GE (hon 5 (by kernel_rfl)))
   have GN := Aside0.mk (Q_GN (hon 5 (by kernel_rfl)))
   refine value_ (w1 := w') (v := v16) (by rfl) rfl ?_ ?_
   ·go_simp
    (try simp only [i64_w])
    try rfl
   refine hK.out _ _ ⟨Am, cm, v16, g6, m2_, m5_, (v16), (by rw [ha.out]; exact putSel_upk 5 hb_ rfl rfl rfl), Q_HB, Q_HCB, Q_F14, Q_F16, fun _ h1_ => absurd ((hon 6 (by kernel_rfl)).symm.trans h1_) (by decide), Q_F6b, Q_GE, Q_GN, Q_X2_, Q_X5_, fun _ => rfl⟩
  exact steps_nil
 rintro b a w3 hall ⟨Am, cm, v16, g6, m2_, m5_, m7_, ha, Q_HB, Q_HCB, Q_F14, Q_F16, Q_F6a, Q_F6b, Q_GE, Q_GN, Q_X2_, Q_X5_, Q_X7_⟩
 clear HB HCB
 have hb1_ := hall 1 (by kernel_rfl)
 have hb2_ := hall 2 (by kernel_rfl)
 have hb3_ := hall 3 (by kernel_rfl)
 have hb4_ := hall 4 (by kernel_rfl)
 have hb5_ := hall 5 (by kernel_rfl)
 have hb6_ := hall 6 (by kernel_rfl)
 have hb7_ := hall 7 (by kernel_rfl)
 subst ha
 obtain rfl := Q_X2_ hb2_
 obtain rfl := Q_X5_ hb5_
 obtain rfl := Q_X7_ hb7_
 simp only [putSel, hb1_, hb2_, hb3_, hb4_, hb5_, hb6_, hb7_, if_true, Act.put, List.setIfInBounds_toArray, List.set_cons_zero, List.set_cons_succ]
 have HB := Aside0.mk Q_HB
 clear Q_HB
 have HCB := Aside0.mk Q_HCB
 clear Q_HCB
 have F14 := Aside0.mk (Q_F14 hb2_)
 clear Q_F14
 have F16 := Aside0.mk (Q_F16 hb4_)
 clear Q_F16
 clear Q_F6a
 have F6b := Aside0.mk (Q_F6b hb6_)
 clear Q_F6b
 have GE := Aside0.mk (Q_GE hb5_)
 clear Q_GE
 have GN := Aside0.mk (Q_GN hb5_)
 clear Q_GN
 clear hall hb1_ hb2_ hb3_ hb4_ hb5_ hb6_ hb7_
 obtain ⟨Al, cl, el, hlc, hlr⟩ := Kd.R_reads F16.out
 subst el
 have HLC := Aside0.mk hlc
 clear hlc hlr
 obtain ⟨g, cm', ef, hgb, hgl, ccs, hct⟩ := Kd.R_form F14.out HZP.out
 cases ef
 have HGL := Aside0.mk (And.intro hgb hgl)
 have HCT : Aside0 (∃ cs, w3.heap[g]? = some (.cells cs 2 (0, 0))) := ⟨⟨ccs, hct⟩⟩
 clear hgb hgl hct
 have HG6 : Aside0 (g ≠ g6) := ⟨by intro e; obtain ⟨cs, hh⟩ := HCT.out; have h6 := F6b.out; rw [← e, hh] at h6; injection h6 with h6; injection h6 with _ h6; exact absurd h6 (by decide)⟩
 have HL6 : Aside0 (g6 < w3.heap.size) := ⟨(Array.getElem?_eq_some_iff.mp F6b.out).1⟩
 have HLB : Aside0 (gb < w3.heap.size) := ⟨(Array.getElem?_eq_some_iff.mp HCB.out).1⟩
 have hc0_ : w3.cell? ⟨gb, 0, none⟩ = some (.int .i64 a0_0) := (blk_cell HCB.out 0).trans rfl
 have hsum : IntKind.i64.wrap (a0_0 + 1) = a0_0 + 1 := by have := HN2.out; rw [i64_w]; unfold wrap64; omega
 simp only [HZN.out] at F14 F6b
 go_wp2
 clear hc0_ hsum HT_ HW_ hHeld
 go_loopg [20] (a0_0 + 2).toNat (fun gg s20 wr => ∃ (x : Int) (l : List Int), s20 = .int .i64 x ∧ Aside0 (0 ≤ x ∧ x ≤ a0_0 + 1 ∧ (a0_0 + 1) - x ≤ gg) ∧ Aside0 (Below w.heap.size w wr) ∧ Aside0 (wr.heap[gb]? = some (.cells #[.int .i64 a0_0, .slice A0_1 l0_1.length c0_1, .slice A0_2 l0_2.length c0_2, .int .i64 a0_3, .int .i64 a0_4, .int .i64 a0_5, .int .i64 a0_6] 30 (0, 0))) ∧ Aside0 (Kd.R k72 72 wr w.heap.size (fun _ => True) (.slice Al ls.length cl) ls) ∧ Aside0 (wr.heap[g6]? = some (.cells #[.slice (some ⟨g, 0, none⟩) n0 cm] 23 (0, 0))) ∧ Aside0 (Kd.R (Kd.int .i64) 2 wr w.heap.size (fun _ => True) (.slice (some ⟨g, 0, none⟩) n0 cm) l) ∧ Aside0 (l.length = n0) ∧ Aside0 (skRounds a0_3 a0_4 a1 ls (a0_0 + 1).toNat zl = skRounds a0_3 a0_4 a1 ls (a0_0 + 1 - x).toNat l))
 case atStart =>
  refine ⟨0, zl, rfl, ⟨by have := HN2.out; omega⟩, HB, HCB, F16, F6b, F14, HZN, ⟨by rw [Int.sub_zero]⟩⟩
 case round =>
  clear HB HCB F16 F6b F14 HZN
  obtain ⟨x, l, rfl, HX, HB, HCB, F16, F6b, F14, HLN, HQ⟩ := hrel
  by_cases hlt : x < a0_0 + 1
  ·have c0 : decide (x < a0_0 + 1) = true := decide_eq_true hlt
   have HLT := Aside0.mk hlt
   clear hlt
   go_wp2_with ((with_reducible refine gate_dst (N := 8) rfl ?_); refine box_event ?hg (N := 8) ?hd (cs := #[.bool false]) (t := 4) ?hr ?_; (case hd => rfl); (case hg => rfl); (case hr => first | (go_simp; done) | (go_simp; rfl)); intro g8 hg_ w8 hbox_ hb_; have HX_g8 := Aside0.mk hbox_; have HB_w8 := Aside0.mk hb_; have HG_g8 := Aside0.mk hg_; clear hbox_ hb_ hg_; have z0 := blk_cell HX_g8.out 0; have z1 := blk_frozen HX_g8.out 0)
   have HSZ8 : Aside0 (w.heap.size ≤ g8) := ⟨by rw [HG_g8.out]; exact below_size HB.out⟩
   have N1 : Aside0 (gb ≠ g8) := ⟨by rw [HG_g8.out]; exact Nat.ne_of_lt (blk_lt HCB.out)⟩
   have N2 : Aside0 (g6 ≠ g8) := ⟨by rw [HG_g8.out]; exact Nat.ne_of_lt (blk_lt F6b.out)⟩
   have N3 : Aside0 (g ≠ g8) := ⟨by rw [HG_g8.out]; obtain ⟨cs, hh⟩ := Kd.R_typed F14.out g rfl; exact Nat.ne_of_lt (blk_lt hh)⟩
   have HNE : Aside0 (g ≠ g6 ∧ g ≠ g8 ∧ g6 ≠ g8) := ⟨HG6.out, N3.out, N2.out⟩
   have KB : Aside0 (Below w.heap.size w (w8.setCell ⟨g8, 0, none⟩ (.bool false))) := ⟨below_set (below_step HB.out HB_w8.out) HSZ8.out⟩
   have KCB : Aside0 ((w8.setCell ⟨g8, 0, none⟩ (.bool false)).heap[gb]? = some (.cells #[.int .i64 a0_0, .slice A0_1 l0_1.length c0_1, .slice A0_2 l0_2.length c0_2, .int .i64 a0_3, .int .i64 a0_4, .int .i64 a0_5, .int .i64 a0_6] 30 (0, 0))) := ⟨blk_far (blk_below HCB.out HB_w8.out) (p := ⟨g8, 0, none⟩) N1.out _⟩
   have K16 : Aside0 (Kd.R k72 72 (w8.setCell ⟨g8, 0, none⟩ (.bool false)) w.heap.size (fun _ => True) (.slice Al ls.length cl) ls) := ⟨Kd.R_set (Kd.R_below F16.out HB_w8.out) HX_g8.out (by decide) 0 _⟩
   have K6 : Aside0 ((w8.setCell ⟨g8, 0, none⟩ (.bool false)).heap[g6]? = some (.cells #[.slice (some ⟨g, 0, none⟩) n0 cm] 23 (0, 0))) := ⟨blk_far (blk_below F6b.out HB_w8.out) (p := ⟨g8, 0, none⟩) N2.out _⟩
   have K14 : Aside0 (Kd.R (Kd.int .i64) 2 (w8.setCell ⟨g8, 0, none⟩ (.bool false)) w.heap.size (fun _ => True) (.slice (some ⟨g, 0, none⟩) n0 cm) l) := ⟨Kd.R_set (Kd.R_below F14.out HB_w8.out) HX_g8.out (by intro q hq; have hq : q ∈ [2] := hq; simp at hq; omega) 0 _⟩
   have K8 : Aside0 ((w8.setCell ⟨g8, 0, none⟩ (.bool false)).heap[g8]? = some (.cells #[.bool false] 4 (0, 0))) := ⟨blk_put HX_g8.out 0 (.bool false) rfl⟩
   have HBG : Aside0 (w.heap.size ≤ g ∧ w.heap.size ≤ g8) := ⟨⟨HGL.out.1, HSZ8.out⟩⟩
   have NG : Aside0 (gb ≠ g ∧ gb ≠ g8) := ⟨⟨by obtain ⟨cs, hh⟩ := Kd.R_typed F14.out g rfl; rintro rfl; rw [HCB.out] at hh; injection hh with hh; injection hh with _ h6; exact absurd h6 (by decide), N1.out⟩⟩
   clear HB HCB F16 F6b F14 z0 z1 HX_g8 HB_w8 HG_g8
   generalize w8.setCell ⟨g8, 0, none⟩ (.bool false) = w9 at KB KCB K16 K6 K14 K8 ⊢
   go_loopg [25] ls.length (fun gg2 s25 wi => ∃ (y : Int) (q1 : List Int) (b1 : Bool), s25 = .int .i64 y ∧ Aside0 (0 ≤ y ∧ y ≤ ls.length ∧ (ls.length : Int) - y ≤ gg2) ∧ Aside0 (Below w.heap.size w wi) ∧ Aside0 (wi.heap[gb]? = some (.cells #[.int .i64 a0_0, .slice A0_1 l0_1.length c0_1, .slice A0_2 l0_2.length c0_2, .int .i64 a0_3, .int .i64 a0_4, .int .i64 a0_5, .int .i64 a0_6] 30 (0, 0))) ∧ Aside0 (Kd.R k72 72 wi w.heap.size (fun _ => True) (.slice Al ls.length cl) ls) ∧ Aside0 (wi.heap[g6]? = some (.cells #[.slice (some ⟨g, 0, none⟩) n0 cm] 23 (0, 0))) ∧ Aside0 (Kd.R (Kd.int .i64) 2 wi w.heap.size (fun _ => True) (.slice (some ⟨g, 0, none⟩) n0 cm) q1) ∧ Aside0 (wi.heap[g8]? = some (.cells #[.bool b1] 4 (0, 0))) ∧ Aside0 (q1.length = n0) ∧ Aside0 (ls.foldl (stepK a0_3 a0_4 a1) (l, false) = (ls.drop y.toNat).foldl (stepK a0_3 a0_4 a1) (q1, b1)))
   case atStart => exact ⟨0, l, false, rfl, ⟨by omega⟩, KB, KCB, K16, K6, K14, K8, HLN, ⟨rfl⟩⟩
   case round =>
    clear KB KCB K16 K6 K14 K8
    obtain ⟨y, q1, b1, rfl, HY, KB, KCB, K16, K6, K14, K8, HLNq1, HF⟩ := hrel
    by_cases hlt2 : y < (ls.length : Int)
    ·have hr72 := (Kd.R_reads' K16.out).2.2
     have hlen : ls.length ≤ 9223372036854775807 := hr72.2.1
     obtain ⟨ad', e, h0, h1, h2, h3⟩ := at_T72 hr72 y HY.out.1 hlt2
     have hin : linkB a0_0 (rd_T72 ls y) = true := List.all_eq_true.mp HALL.out _ (link_mem ls y HY.out.1 hlt2)
     obtain ⟨⟨f0, f1, f2, f3⟩, hx⟩ : ∃ z : S72, z = rd_T72 ls y := ⟨_, rfl⟩
     rw [← hx] at h0 h1 h2 h3 hin
     dsimp only at h0 h1 h2 h3
     unfold linkB at hin
     simp only [Bool.and_eq_true, decide_eq_true_eq] at hin
     have HIN : Aside0 (0 ≤ f0 ∧ f0 < (n0 : Int) ∧ 0 ≤ f1 ∧ f1 < (n0 : Int)) := ⟨by rw [HNN.out]; exact ⟨hin.1.1.1, hin.1.1.2, hin.1.2, hin.2⟩⟩
     have HXE := Aside0.mk hx
     cases e
     have c1 : decide (0 ≤ y) = true := decide_eq_true HY.out.1
     have c2 : decide (y < (ls.length : Int)) = true := decide_eq_true hlt2
     have p0 := eq_true HY.out.1
     have p1 := eq_true hlt2
     have HLT2 := Aside0.mk hlt2
     clear hx hin hlt2 hr72
     go_wp2
     have hlen0 := Aside0.mk hlen
     clear h0 h1 h2 h3 hlen
     have HF00 : Aside0 (0 ≤ f0) := ⟨HIN.out.1⟩
     have HF01 : Aside0 (f0 < (n0 : Int)) := ⟨HIN.out.2.1⟩
     have HF10 : Aside0 (0 ≤ f1) := ⟨HIN.out.2.2.1⟩
     have HF11 : Aside0 (f1 < (n0 : Int)) := ⟨HIN.out.2.2.2⟩
     have d0 : decide (0 ≤ f0) = true := decide_eq_true HF00.out
     have d1 : decide (f0 < (n0 : Int)) = true := decide_eq_true HF01.out
     have d2 : decide (0 ≤ f1) = true := decide_eq_true HF10.out
     have d3 : decide (f1 < (n0 : Int)) = true := decide_eq_true HF11.out
     have d4 := eq_true HF00.out
     have d5 := eq_true HF01.out
     have d6 := eq_true HF10.out
     have d7 := eq_true HF11.out
     have NX : Aside0 (wr.heap.size ≠ g ∧ wr.heap.size ≠ g8) := ⟨by obtain ⟨cs, hh⟩ := Kd.R_typed K14.out g rfl; have h1 := blk_lt hh; have h2 := blk_lt K8.out; omega⟩
     have A0 : Aside0 (Below wr.heap.size wr (wr.alloc (.cells #[.int .i64 f0, .int .i64 f1, .int .i64 f2, .int .i64 f3] 72 (0, 0))).drew) := ⟨below_drew1 (below_alloc (Below.refl _ _) _)⟩
     have AX : Aside0 ((wr.alloc (.cells #[.int .i64 f0, .int .i64 f1, .int .i64 f2, .int .i64 f3] 72 (0, 0))).drew.heap[wr.heap.size]? = some (.cells #[.int .i64 f0, .int .i64 f1, .int .i64 f2, .int .i64 f3] 72 (0, 0))) := ⟨blk_drew (blk_new wr _)⟩
     have AB := Aside0.mk (below_step KB.out A0.out)
     have ACB := Aside0.mk (blk_below KCB.out A0.out)
     have A16 := Aside0.mk (Kd.R_below K16.out A0.out)
     have S6 := Aside0.mk (blk_below K6.out A0.out)
     have S14 := Aside0.mk (Kd.R_below K14.out A0.out)
     have S8 := Aside0.mk (blk_below K8.out A0.out)
     generalize wr.heap.size = gx at NX AX ⊢
     clear A0 KB KCB K16 K6 K14 K8
     refine start_ (n := 17) (S := fun w' => True) (ds := []) #[false, false, false, false, false, false, false, false, false, false, false, false, false, false, false, false, false] (by kernel_rfl) rfl rfl trivial (fun hHeld => ?_)
     refine with_tabW impl_leastSkews.tab9 impl_leastSkews.bits9 (fun HT_ HW_ => ?_)
     generalize (wr.alloc (.cells #[.int .i64 f0, .int .i64 f1, .int .i64 f2, .int .i64 f3] 72 (0, 0))).drew = wk at AX AB ACB A16 S6 S14 S8 hHeld ⊢
     have X0 : Aside0 (wk.cell? ⟨gx, 0, none⟩ = some (.int .i64 f0)) := ⟨(blk_cell AX.out 0).trans rfl⟩
     have X1 : Aside0 (wk.cell? ⟨gx, 1, none⟩ = some (.int .i64 f1)) := ⟨(blk_cell AX.out 1).trans rfl⟩
     have X2 : Aside0 (wk.cell? ⟨gx, 2, none⟩ = some (.int .i64 f2)) := ⟨(blk_cell AX.out 2).trans rfl⟩
     have X3 : Aside0 (wk.cell? ⟨gx, 3, none⟩ = some (.int .i64 f3)) := ⟨(blk_cell AX.out 3).trans rfl⟩
     have Y6 : Aside0 (wk.cell? ⟨g6, 0, none⟩ = some (.slice (some ⟨g, 0, none⟩) n0 cm)) := ⟨(blk_cell S6.out 0).trans rfl⟩
     have Y0 : Aside0 (wk.cell? ⟨g, f0.toNat, none⟩ = some (.int .i64 (rd q1 f0))) := ⟨(Kd.R_celln (0 : Int) S14.out f0 HF00.out HF01.out).1⟩
     have B3 : Aside0 (wk.cell? ⟨gb, 3, none⟩ = some (.int .i64 a0_3)) := ⟨(blk_cell ACB.out 3).trans rfl⟩
     have WE := trivial
     refine pure_ (i := 0) (N := some 29) (v := ?_) (a' := ?_) #[true, false, false, false, false, false, false, false, false, false, false, false, false, false, false, false, false] rfl rfl (any_of HT_.out (by kernel_rfl)) (fun _ _ _ h => h) (Or.inl ⟨by rfl, ?_⟩) ?_ ?_
     rotate_left
     ·intro w'
      go_simp
      with_reducible rfl
     rotate_left
     ·simp only [Act.put, List.setIfInBounds_toArray, List.set_cons_zero, List.set_cons_succ, i64_w, i32_w]
      rfl
     refine pure_ (i := 1) (N := some 30) (v := ?_) (a' := ?_) #[true, true, false, false, false, false, false, false, false, false, false, false, false, false, false, false, false] rfl rfl (any_of HT_.out (by kernel_rfl)) (fun _ _ _ h => h) (Or.inl ⟨by rfl, ?_⟩) ?_ ?_
     rotate_left
     ·intro w'
      go_simp
      with_reducible rfl
     rotate_left
     ·simp only [Act.put, List.setIfInBounds_toArray, List.set_cons_zero, List.set_cons_succ, i64_w, i32_w]
      rfl
     refine pure_ (i := 4) (N := some 33) (v := ?_) (a' := ?_) #[true, true, false, false, true, false, false, false, false, false, false, false, false, false, false, false, false] rfl rfl (any_of HT_.out (by kernel_rfl)) (fun _ _ _ h => h) (Or.inl ⟨by rfl, ?_⟩) ?_ ?_
     rotate_left
     ·intro w'
      go_simp
      with_reducible rfl
     rotate_left
     ·simp only [Act.put, List.setIfInBounds_toArray, List.set_cons_zero, List.set_cons_succ, i64_w, i32_w]
      rfl
     refine pure_ (i := 8) (N := some 37) (v := ?_) (a' := ?_) #[true, true, false, false, true, false, false, false, true, false, false, false, false, false, false, false, false] rfl rfl (any_of HT_.out (by kernel_rfl)) (fun _ _ _ h => h) (Or.inl ⟨by rfl, ?_⟩) ?_ ?_
     rotate_left
     ·intro w'
      go_simp
      with_reducible rfl
     rotate_left
     ·simp only [Act.put, List.setIfInBounds_toArray, List.set_cons_zero, List.set_cons_succ, i64_w, i32_w]
      rfl
     refine pure_ (i := 11) (N := some 40) (v := ?_) (a' := ?_) #[true, true, false, false, true, false, false, false, true, false, false, true, false, false, false, false, false] rfl rfl (any_of HT_.out (by kernel_rfl)) (fun _ _ _ h => h) (Or.inl ⟨by rfl, ?_⟩) ?_ ?_
     rotate_left
     ·intro w'
      go_simp
      with_reducible rfl
     rotate_left
     ·simp only [Act.put, List.setIfInBounds_toArray, List.set_cons_zero, List.set_cons_succ, i64_w, i32_w]
      rfl
     refine pure_ (i := 14) (N := some 43) (v := ?_) (a' := ?_) #[true, true, false, false, true, false, false, false, true, false, false, true, false, false, true, false, false] rfl rfl (any_of HT_.out (by kernel_rfl)) (fun _ _ _ h => h) (Or.inl ⟨by rfl, ?_⟩) ?_ ?_
     rotate_left
     ·intro w'
      go_simp
      with_reducible rfl
     rotate_left
     ·simp only [Act.put, List.setIfInBounds_toArray, List.set_cons_zero, List.set_cons_succ, i64_w, i32_w]
      rfl
     refine inv_at [2, 3, 5, 6, 7, 9, 10, 12, 13, 15, 16] (fun a0_ b a w' => a = putSel a0_ b [(2, 31, .int .i64 f1), (3, 32, .slice (some ⟨g, 0, none⟩) n0 cm), (5, 34, .int .i64 f0), (6, 35, .pointer (some ⟨g, f0.toNat, none⟩)), (7, 36, .int .i64 (rd q1 f0)), (9, 38, .int .i64 f3), (10, 39, .int .i64 (wrap64 (rd q1 f0 + f3))), (12, 41, .int .i64 a0_3), (13, 42, .int .i64 (wrap64 (wrap64 (rd q1 f0 + f3) + a0_3))), (15, 44, .int .i64 (wrap64 (wrap64 (wrap64 (rd q1 f0 + f3) + a0_3) - a1))), (16, 45, undef)] ∧ (b 16 = false → w' = wk) ∧ (b 16 = true → Kd.R (Kd.int .i64) 2 w' w.heap.size (fun _ => True) (.slice (some ⟨g, 0, none⟩) n0 cm) (raiseP q1 f1 (wrap64 (wrap64 (wrap64 (rd q1 f0 + f3) + a0_3) - a1)))) ∧ (b 16 = true → w'.heap[g8]? = some (.cells #[.bool (b1 || decide (rd q1 f1 < (wrap64 (wrap64 (wrap64 (rd q1 f0 + f3) + a0_3) - a1))))] 4 (0, 0))) ∧ (b 16 = true → w'.heap[g6]? = some (.cells #[.slice (some ⟨g, 0, none⟩) n0 cm] 23 (0, 0))) ∧ (b 16 = true → Kept wk w' (fun k => k = g ∨ k = g8)) ∧ (b 16 = true → Below w.heap.size wk w')) HT_.out HW_.out (by kernel_rfl) (by kernel_rfl) ?_ ?_ ?_
     ·exact ⟨by simp only [putSel, Bool.false_eq_true, if_false], fun _ => rfl, fun h_ => absurd h_ (by decide), fun h_ => absurd h_ (by decide), fun h_ => absurd h_ (by decide), fun h_ => absurd h_ (by decide), fun h_ => absurd h_ (by decide)⟩
     ·skip
      clear WE
      refine steps_cons ?_ ?_
      ·rintro b a w' ⟨ha, Q_WE, Q_P1, Q_P2, Q_P3, Q_P4, Q_P5⟩ hb_ hon hoff
       refine ⟨_, rfl, fun K hK => ?_⟩
       have e30 : a.tmps[30]? = some (.pointer (some ⟨gx, 1, none⟩)) := by rw [ha]; exact (putSel_off rfl).trans rfl
       replace ha := Aside0.mk ha
       have WE := Aside0.mk (Q_WE (hoff 16 (by kernel_rfl)))
       have hw_ := WE.out
       subst hw_
       have hc_ := X1.out
       refine value_ (w1 := w') (v := .int .i64 f1) (by rfl) rfl ?_ ?_
       ·go_simp
        (try simp only [i64_w])
        try rfl
       refine hK.out _ _ ⟨(by rw [ha.out]; exact putSel_upk 0 hb_ rfl rfl rfl), Q_WE, fun h0_ => absurd ((hoff 16 (by kernel_rfl)).symm.trans h0_) (by decide), fun h0_ => absurd ((hoff 16 (by kernel_rfl)).symm.trans h0_) (by decide), fun h0_ => absurd ((hoff 16 (by kernel_rfl)).symm.trans h0_) (by decide), fun h0_ => absurd ((hoff 16 (by kernel_rfl)).symm.trans h0_) (by decide), fun h0_ => absurd ((hoff 16 (by kernel_rfl)).symm.trans h0_) (by decide)⟩
      refine steps_cons ?_ ?_
      ·rintro b a w' ⟨ha, Q_WE, Q_P1, Q_P2, Q_P3, Q_P4, Q_P5⟩ hb_ hon hoff
       refine ⟨_, rfl, fun K hK => ?_⟩
       have e6 : a.tmps[6]? = some (.pointer (some ⟨g6, 0, none⟩)) := by rw [ha]; exact (putSel_off rfl).trans rfl
       replace ha := Aside0.mk ha
       have WE := Aside0.mk (Q_WE (hoff 16 (by kernel_rfl)))
       have hw_ := WE.out
       subst hw_
       have hc_ := Y6.out
       refine value_ (w1 := w') (v := .slice (some ⟨g, 0, none⟩) n0 cm) (by rfl) rfl ?_ ?_
       ·go_simp
        (try simp only [i64_w])
        try rfl
       refine hK.out _ _ ⟨(by rw [ha.out]; exact putSel_upk 1 hb_ rfl rfl rfl), Q_WE, fun h0_ => absurd ((hoff 16 (by kernel_rfl)).symm.trans h0_) (by decide), fun h0_ => absurd ((hoff 16 (by kernel_rfl)).symm.trans h0_) (by decide), fun h0_ => absurd ((hoff 16 (by kernel_rfl)).symm.trans h0_) (by decide), fun h0_ => absurd ((hoff 16 (by kernel_rfl)).symm.trans h0_) (by decide), fun h0_ => absurd ((hoff 16 (by kernel_rfl)).symm.trans h0_) (by decide)⟩
      refine steps_cons ?_ ?_
      ·rintro b a w' ⟨ha, Q_WE, Q_P1, Q_P2, Q_P3, Q_P4, Q_P5⟩ hb_ hon hoff
       refine ⟨_, rfl, fun K hK => ?_⟩
       have e33 : a.tmps[33]? = some (.pointer (some ⟨gx, 0, none⟩)) := by rw [ha]; exact (putSel_off rfl).trans rfl
       replace ha := Aside0.mk ha
       have WE := Aside0.mk (Q_WE (hoff 16 (by kernel_rfl)))
       have hw_ := WE.out
       subst hw_
       have hc_ := X0.out
       refine value_ (w1 := w') (v := .int .i64 f0) (by rfl) rfl ?_ ?_
       ·go_simp
        (try simp only [i64_w])
        try rfl
       refine hK.out _ _ ⟨(by rw [ha.out]; exact putSel_upk 2 hb_ rfl rfl rfl), Q_WE, fun h0_ => absurd ((hoff 16 (by kernel_rfl)).symm.trans h0_) (by decide), fun h0_ => absurd ((hoff 16 (by kernel_rfl)).symm.trans h0_) (by decide), fun h0_ => absurd ((hoff 16 (by kernel_rfl)).symm.trans h0_) (by decide), fun h0_ => absurd ((hoff 16 (by kernel_rfl)).symm.trans h0_) (by decide), fun h0_ => absurd ((hoff 16 (by kernel_rfl)).symm.trans h0_) (by decide)⟩
      refine steps_cons ?_ ?_
      ·rintro b a w' ⟨ha, Q_WE, Q_P1, Q_P2, Q_P3, Q_P4, Q_P5⟩ hb_ hon hoff
       refine ⟨_, rfl, fun K hK => ?_⟩
       have e32 : a.tmps[32]? = some (.slice (some ⟨g, 0, none⟩) n0 cm) := by rw [ha]; exact putSel_on (e := (3, 32, .slice (some ⟨g, 0, none⟩) n0 cm)) 1 rfl rfl (hon 3 (by kernel_rfl)) rfl
       have e34 : a.tmps[34]? = some (.int .i64 f0) := by rw [ha]; exact putSel_on (e := (5, 34, .int .i64 f0)) 2 rfl rfl (hon 5 (by kernel_rfl)) rfl
       replace ha := Aside0.mk ha
       have WE := Aside0.mk (Q_WE (hoff 16 (by kernel_rfl)))
       have hw_ := WE.out
       subst hw_
       refine value_ (w1 := w') (v := .pointer (some ⟨g, f0.toNat, none⟩)) (by rfl) rfl ?_ ?_
       ·go_simp
        (try simp only [i64_w])
        try rfl
       refine hK.out _ _ ⟨(by rw [ha.out]; exact putSel_upk 3 hb_ rfl rfl rfl), Q_WE, fun h0_ => absurd ((hoff 16 (by kernel_rfl)).symm.trans h0_) (by decide), fun h0_ => absurd ((hoff 16 (by kernel_rfl)).symm.trans h0_) (by decide), fun h0_ => absurd ((hoff 16 (by kernel_rfl)).symm.trans h0_) (by decide), fun h0_ => absurd ((hoff 16 (by kernel_rfl)).symm.trans h0_) (by decide), fun h0_ => absurd ((hoff 16 (by kernel_rfl)).symm.trans h0_) (by decide)⟩
      refine steps_cons ?_ ?_
      ·rintro b a w' ⟨ha, Q_WE, Q_P1, Q_P2, Q_P3, Q_P4, Q_P5⟩ hb_ hon hoff
       refine ⟨_, rfl, fun K hK => ?_⟩
       have e35 : a.tmps[35]? = some (.pointer (some ⟨g, f0.toNat, none⟩)) := by rw [ha]; exact putSel_on (e := (6, 35, .pointer (some ⟨g, f0.toNat, none⟩))) 3 rfl rfl (hon 6 (by kernel_rfl)) rfl
       replace ha := Aside0.mk ha
       have WE := Aside0.mk (Q_WE (hoff 16 (by kernel_rfl)))
       have hw_ := WE.out
       subst hw_
       have hc_ := Y0.out
       refine value_ (w1 := w') (v := .int .i64 (rd q1 f0)) (by rfl) rfl ?_ ?_
       ·go_simp
        (try simp only [i64_w])
        try rfl
       refine hK.out _ _ ⟨(by rw [ha.out]; exact putSel_upk 4 hb_ rfl rfl rfl), Q_WE, fun h0_ => absurd ((hoff 16 (by kernel_rfl)).symm.trans h0_) (by decide), fun h0_ => absurd ((hoff 16 (by kernel_rfl)).symm.trans h0_) (by decide), fun h0_ => absurd ((hoff 16 (by kernel_rfl)).symm.trans h0_) (by decide), fun h0_ => absurd ((hoff 16 (by kernel_rfl)).symm.trans h0_) (by decide), fun h0_ => absurd ((hoff 16 (by kernel_rfl)).symm.trans h0_) (by decide)⟩
      refine steps_cons ?_ ?_
      ·rintro b a w' ⟨ha, Q_WE, Q_P1, Q_P2, Q_P3, Q_P4, Q_P5⟩ hb_ hon hoff
       refine ⟨_, rfl, fun K hK => ?_⟩
       have e37 : a.tmps[37]? = some (.pointer (some ⟨gx, 3, none⟩)) := by rw [ha]; exact (putSel_off rfl).trans rfl
       replace ha := Aside0.mk ha
       have WE := Aside0.mk (Q_WE (hoff 16 (by kernel_rfl)))
       have hw_ := WE.out
       subst hw_
       have hc_ := X3.out
       refine value_ (w1 := w') (v := .int .i64 f3) (by rfl) rfl ?_ ?_
       ·go_simp
        (try simp only [i64_w])
        try rfl
       refine hK.out _ _ ⟨(by rw [ha.out]; exact putSel_upk 5 hb_ rfl rfl rfl), Q_WE, fun h0_ => absurd ((hoff 16 (by kernel_rfl)).symm.trans h0_) (by decide), fun h0_ => absurd ((hoff 16 (by kernel_rfl)).symm.trans h0_) (by decide), fun h0_ => absurd ((hoff 16 (by kernel_rfl)).symm.trans h0_) (by decide), fun h0_ => absurd ((hoff 16 (by kernel_rfl)).symm.trans h0_) (by decide), fun h0_ => absurd ((hoff 16 (by kernel_rfl)).symm.trans h0_) (by decide)⟩
      refine steps_cons ?_ ?_
      ·rintro b a w' ⟨ha, Q_WE, Q_P1, Q_P2, Q_P3, Q_P4, Q_P5⟩ hb_ hon hoff
       refine ⟨_, rfl, fun K hK => ?_⟩
       have e36 : a.tmps[36]? = some (.int .i64 (rd q1 f0)) := by rw [ha]; exact putSel_on (e := (7, 36, .int .i64 (rd q1 f0))) 4 rfl rfl (hon 7 (by kernel_rfl)) rfl
       have e38 : a.tmps[38]? = some (.int .i64 f3) := by rw [ha]; exact putSel_on (e := (9, 38, .int .i64 f3)) 5 rfl rfl (hon 9 (by kernel_rfl)) rfl
       replace ha := Aside0.mk ha
       have WE := Aside0.mk (Q_WE (hoff 16 (by kernel_rfl)))
       have hw_ := WE.out
       subst hw_
       refine value_ (w1 := w') (v := .int .i64 (wrap64 (rd q1 f0 + f3))) (by rfl) rfl ?_ ?_
       ·go_simp
        (try simp only [i64_w])
        try rfl
       refine hK.out _ _ ⟨(by rw [ha.out]; exact putSel_upk 6 hb_ rfl rfl rfl), Q_WE, fun h0_ => absurd ((hoff 16 (by kernel_rfl)).symm.trans h0_) (by decide), fun h0_ => absurd ((hoff 16 (by kernel_rfl)).symm.trans h0_) (by decide), fun h0_ => absurd ((hoff 16 (by kernel_rfl)).symm.trans h0_) (by decide), fun h0_ => absurd ((hoff 16 (by kernel_rfl)).symm.trans h0_) (by decide), fun h0_ => absurd ((hoff 16 (by kernel_rfl)).symm.trans h0_) (by decide)⟩
      refine steps_cons ?_ ?_
      ·rintro b a w' ⟨ha, Q_WE, Q_P1, Q_P2, Q_P3, Q_P4, Q_P5⟩ hb_ hon hoff
       refine ⟨_, rfl, fun K hK => ?_⟩
       have e40 : a.tmps[40]? = some (.pointer (some ⟨gb, 3, none⟩)) := by rw [ha]; exact (putSel_off rfl).trans rfl
       replace ha := Aside0.mk ha
       have WE := Aside0.mk (Q_WE (hoff 16 (by kernel_rfl)))
       have hw_ := WE.out
       subst hw_
       have hc_ := B3.out
       refine value_ (w1 := w') (v := .int .i64 a0_3) (by rfl) rfl ?_ ?_
       ·go_simp
        (try simp only [i64_w])
        try rfl
       refine hK.out _ _ ⟨(by rw [ha.out]; exact putSel_upk 7 hb_ rfl rfl rfl), Q_WE, fun h0_ => absurd ((hoff 16 (by kernel_rfl)).symm.trans h0_) (by decide), fun h0_ => absurd ((hoff 16 (by kernel_rfl)).symm.trans h0_) (by decide), fun h0_ => absurd ((hoff 16 (by kernel_rfl)).symm.trans h0_) (by decide), fun h0_ => absurd ((hoff 16 (by kernel_rfl)).symm.trans h0_) (by decide), fun h0_ => absurd ((hoff 16 (by kernel_rfl)).symm.trans h0_) (by decide)⟩
      refine steps_cons ?_ ?_
      ·rintro b a w' ⟨ha, Q_WE, Q_P1, Q_P2, Q_P3, Q_P4, Q_P5⟩ hb_ hon hoff
       refine ⟨_, rfl, fun K hK => ?_⟩
       have e39 : a.tmps[39]? = some (.int .i64 (wrap64 (rd q1 f0 + f3))) := by rw [ha]; exact putSel_on (e := (10, 39, .int .i64 (wrap64 (rd q1 f0 + f3)))) 6 rfl rfl (hon 10 (by kernel_rfl)) rfl
       have e41 : a.tmps[41]? = some (.int .i64 a0_3) := by rw [ha]; exact putSel_on (e := (12, 41, .int .i64 a0_3)) 7 rfl rfl (hon 12 (by kernel_rfl)) rfl
       replace ha := Aside0.mk ha
       have WE := Aside0.mk (Q_WE (hoff 16 (by kernel_rfl)))
       have hw_ := WE.out
       subst hw_
       refine value_ (w1 := w') (v := .int .i64 (wrap64 (wrap64 (rd q1 f0 + f3) + a0_3))) (by rfl) rfl ?_ ?_
       ·go_simp
        (try simp only [i64_w])
        try rfl
       refine hK.out _ _ ⟨(by rw [ha.out]; exact putSel_upk 8 hb_ rfl rfl rfl), Q_WE, fun h0_ => absurd ((hoff 16 (by kernel_rfl)).symm.trans h0_) (by decide), fun h0_ => absurd ((hoff 16 (by kernel_rfl)).symm.trans h0_) (by decide), fun h0_ => absurd ((hoff 16 (by kernel_rfl)).symm.trans h0_) (by decide), fun h0_ => absurd ((hoff 16 (by kernel_rfl)).symm.trans h0_) (by decide), fun h0_ => absurd ((hoff 16 (by kernel_rfl)).symm.trans h0_) (by decide)⟩
      refine steps_cons ?_ ?_
      ·rintro b a w' ⟨ha, Q_WE, Q_P1, Q_P2, Q_P3, Q_P4, Q_P5⟩ hb_ hon hoff
       refine ⟨_, rfl, fun K hK => ?_⟩
       have e42 : a.tmps[42]? = some (.int .i64 (wrap64 (wrap64 (rd q1 f0 + f3) + a0_3))) := by rw [ha]; exact putSel_on (e := (13, 42, .int .i64 (wrap64 (wrap64 (rd q1 f0 + f3) + a0_3)))) 8 rfl rfl (hon 13 (by kernel_rfl)) rfl
       have e43 : a.tmps[43]? = some (.int .i64 a1) := by rw [ha]; exact (putSel_off rfl).trans rfl
       replace ha := Aside0.mk ha
       have WE := Aside0.mk (Q_WE (hoff 16 (by kernel_rfl)))
       have hw_ := WE.out
       subst hw_
       refine value_ (w1 := w') (v := .int .i64 (wrap64 (wrap64 (wrap64 (rd q1 f0 + f3) + a0_3) - a1))) (by rfl) rfl ?_ ?_
       ·go_simp
        (try simp only [i64_w])
        try rfl
       refine hK.out _ _ ⟨(by rw [ha.out]; exact putSel_upk 9 hb_ rfl rfl rfl), Q_WE, fun h0_ => absurd ((hoff 16 (by kernel_rfl)).symm.trans h0_) (by decide), fun h0_ => absurd ((hoff 16 (by kernel_rfl)).symm.trans h0_) (by decide), fun h0_ => absurd ((hoff 16 (by kernel_rfl)).symm.trans h0_) (by decide), fun h0_ => absurd ((hoff 16 (by kernel_rfl)).symm.trans h0_) (by decide), fun h0_ => absurd ((hoff 16 (by kernel_rfl)).symm.trans h0_) (by decide)⟩
      refine steps_cons ?_ ?_
      ·rintro b a w' ⟨ha, Q_WE, Q_P1, Q_P2, Q_P3, Q_P4, Q_P5⟩ hb_ hon hoff
       refine ⟨_, rfl, fun K hK => ?_⟩
       have e29 : a.tmps[29]? = some (.func (.func 92) #[] #[.pointer (some ⟨g6, 0, none⟩), .pointer (some ⟨g8, 0, none⟩)]) := by rw [ha]; exact (putSel_off rfl).trans rfl
       have e31 : a.tmps[31]? = some (.int .i64 f1) := by rw [ha]; exact putSel_on (e := (2, 31, .int .i64 f1)) 0 rfl rfl (hon 2 (by kernel_rfl)) rfl
       have e44 : a.tmps[44]? = some (.int .i64 (wrap64 (wrap64 (wrap64 (rd q1 f0 + f3) + a0_3) - a1))) := by rw [ha]; exact putSel_on (e := (15, 44, .int .i64 (wrap64 (wrap64 (wrap64 (rd q1 f0 + f3) + a0_3) - a1)))) 9 rfl rfl (hon 15 (by kernel_rfl)) rfl
       replace ha := Aside0.mk ha
       have WE := Aside0.mk (Q_WE hb_)
       have hw_ := WE.out
       subst hw_
       refine goesF_ (f := 92) (bs := #[.pointer (some ⟨g6, 0, none⟩), .pointer (some ⟨g8, 0, none⟩)]) Try.func92 (by kernel_rfl) rfl #[.int .i64 f1, .int .i64 (wrap64 (wrap64 (wrap64 (rd q1 f0 + f3) + a0_3) - a1))] (by rfl) rfl rfl (by first | (simp only [List.map_toArray, List.map_cons, List.map_nil, Act.eval, Array.getD_eq_getD_getElem?, Option.getD_some, e29, e31, e44]; done) | (simp only [List.map_toArray, List.map_cons, List.map_nil, Act.eval, Array.getD_eq_getD_getElem?, Option.getD_some, e29, e31, e44]; rfl)) (by first | (simp only [List.map_toArray, List.map_cons, List.map_nil, Act.eval, Array.getD_eq_getD_getElem?, Option.getD_some, e29, e31, e44]; done) | (simp only [List.map_toArray, List.map_cons, List.map_nil, Act.eval, Array.getD_eq_getD_getElem?, Option.getD_some, e29, e31, e44]; rfl)) ?_
       refine (raise.callsN n0 f1 (wrap64 (wrap64 (wrap64 (rd q1 f0 + f3) + a0_3) - a1)) g g6 g8 cm w.heap.size q1 b1 (fun _ => True) w' HLNq1.out S6.out S8.out S14.out HF10.out HF11.out HNE.out.1 HNE.out.2.1 HNE.out.2.2).mono ?_
       rintro e w5 ⟨rfl, p1, p2, p3, p4, p5⟩
       refine ⟨_, rfl, ?_⟩
       refine hK.out _ _ ⟨(by rw [ha.out]; exact putSel_upk 10 hb_ rfl rfl rfl), fun h0_ => absurd ((up_self b 16).symm.trans h0_) (by decide), fun _ => p1, fun _ => p2, fun _ => p3, fun _ => p4, fun _ => p5 _ HBG.out.1 HBG.out.2⟩
      exact steps_nil
     rintro b a w15 hall ⟨ha, Q_WE, Q_P1, Q_P2, Q_P3, Q_P4, Q_P5⟩
     clear WE
     have hb2_ := hall 2 (by kernel_rfl)
     have hb3_ := hall 3 (by kernel_rfl)
     have hb5_ := hall 5 (by kernel_rfl)
     have hb6_ := hall 6 (by kernel_rfl)
     have hb7_ := hall 7 (by kernel_rfl)
     have hb9_ := hall 9 (by kernel_rfl)
     have hb10_ := hall 10 (by kernel_rfl)
     have hb12_ := hall 12 (by kernel_rfl)
     have hb13_ := hall 13 (by kernel_rfl)
     have hb15_ := hall 15 (by kernel_rfl)
     have hb16_ := hall 16 (by kernel_rfl)
     subst ha
     simp only [putSel, hb2_, hb3_, hb5_, hb6_, hb7_, hb9_, hb10_, hb12_, hb13_, hb15_, hb16_, if_true, Act.put, List.setIfInBounds_toArray, List.set_cons_zero, List.set_cons_succ]
     clear Q_WE
     have P1 := Aside0.mk (Q_P1 hb16_)
     clear Q_P1
     have P2 := Aside0.mk (Q_P2 hb16_)
     clear Q_P2
     have P3 := Aside0.mk (Q_P3 hb16_)
     clear Q_P3
     have P4 := Aside0.mk (Q_P4 hb16_)
     clear Q_P4
     have P5 := Aside0.mk (Q_P5 hb16_)
     clear Q_P5
     clear hall hb2_ hb3_ hb5_ hb6_ hb7_ hb9_ hb10_ hb12_ hb13_ hb15_ hb16_
     obtain ⟨q2, hq2⟩ : ∃ z, z = raiseP q1 f1 (wrap64 (wrap64 (wrap64 (rd q1 f0 + f3) + a0_3) - a1)) := ⟨_, rfl⟩
     obtain ⟨b2, hb2⟩ : ∃ z, z = (b1 || decide (rd q1 f1 < (wrap64 (wrap64 (wrap64 (rd q1 f0 + f3) + a0_3) - a1)))) := ⟨_, rfl⟩
     rw [← hq2] at P1
     rw [← hb2] at P2
     have HQ2 := Aside0.mk hq2
     have HB2 := Aside0.mk hb2
     have HLNq2 : Aside0 (q2.length = n0) := ⟨by rw [HQ2.out, raiseP_len]; exact HLNq1.out⟩
     clear hq2 hb2 X0 X1 X2 X3 Y6 Y0 B3
     have A16' : Aside0 (Kd.R k72 72 w15 w.heap.size (fun _ => True) (.slice (some ad') ls.length cl) ls) := ⟨by obtain ⟨cs, hh⟩ := Kd.R_typed S14.out g rfl; exact Kd.R_mono (Kd.R_kept (Kd.R_types (Kd.R_types A16.out hh (by decide)) S8.out (by decide)) P4.out (fun k hk h => h.elim (fun e => hk.1.2 e) (fun e => hk.2 e))) (fun _ _ => trivial)⟩
     have AX' := Aside0.mk (blk_drew (blk_kept AX.out P4.out (fun h => h.elim NX.out.1 NX.out.2)))
     have ACB' := Aside0.mk (blk_drew (blk_kept ACB.out P4.out (fun h => h.elim NG.out.1 NG.out.2)))
     have AB' := Aside0.mk (below_drew1 (Below.trans AB.out P5.out))
     clear AX ACB A16 AB S6 S14 S8
     have AX := AX'
     have ACB := ACB'
     have AB := AB'
     have A16 := Aside0.mk (Kd.R_drew A16'.out)
     have S6 := Aside0.mk (blk_drew P3.out)
     have S14 := Aside0.mk (Kd.R_drew P1.out)
     have S8 := Aside0.mk (blk_drew P2.out)
     clear AX' ACB' AB' A16' P1 P2 P3 P4 P5
     go_wp2
     refine start_ (n := 15) (S := fun w' => True) (ds := []) #[false, false, false, false, false, false, false, false, false, false, false, false, false, false, false] (by kernel_rfl) rfl rfl trivial (fun hHeld => ?_)
     refine with_tabW impl_leastSkews.tab10 impl_leastSkews.bits10 (fun HT_ HW_ => ?_)
     generalize w15.drew = wl at AX AB ACB A16 S6 S14 S8 hHeld ⊢
     have X0 : Aside0 (wl.cell? ⟨gx, 0, none⟩ = some (.int .i64 f0)) := ⟨(blk_cell AX.out 0).trans rfl⟩
     have X1 : Aside0 (wl.cell? ⟨gx, 1, none⟩ = some (.int .i64 f1)) := ⟨(blk_cell AX.out 1).trans rfl⟩
     have X2 : Aside0 (wl.cell? ⟨gx, 2, none⟩ = some (.int .i64 f2)) := ⟨(blk_cell AX.out 2).trans rfl⟩
     have X3 : Aside0 (wl.cell? ⟨gx, 3, none⟩ = some (.int .i64 f3)) := ⟨(blk_cell AX.out 3).trans rfl⟩
     have Y6 : Aside0 (wl.cell? ⟨g6, 0, none⟩ = some (.slice (some ⟨g, 0, none⟩) n0 cm)) := ⟨(blk_cell S6.out 0).trans rfl⟩
     have Y0 : Aside0 (wl.cell? ⟨g, f1.toNat, none⟩ = some (.int .i64 (rd q2 f1))) := ⟨(Kd.R_celln (0 : Int) S14.out f1 HF10.out HF11.out).1⟩
     have B3 : Aside0 (wl.cell? ⟨gb, 4, none⟩ = some (.int .i64 a0_4)) := ⟨(blk_cell ACB.out 4).trans rfl⟩
     have WE := trivial
     refine pure_ (i := 0) (N := some 46) (v := ?_) (a' := ?_) #[true, false, false, false, false, false, false, false, false, false, false, false, false, false, false] rfl rfl (any_of HT_.out (by kernel_rfl)) (fun _ _ _ h => h) (Or.inl ⟨by rfl, ?_⟩) ?_ ?_
     rotate_left
     ·intro w'
      go_simp
      with_reducible rfl
     rotate_left
     ·simp only [Act.put, List.setIfInBounds_toArray, List.set_cons_zero, List.set_cons_succ, i64_w, i32_w]
      rfl
     refine pure_ (i := 1) (N := some 47) (v := ?_) (a' := ?_) #[true, true, false, false, false, false, false, false, false, false, false, false, false, false, false] rfl rfl (any_of HT_.out (by kernel_rfl)) (fun _ _ _ h => h) (Or.inl ⟨by rfl, ?_⟩) ?_ ?_
     rotate_left
     ·intro w'
      go_simp
      with_reducible rfl
     rotate_left
     ·simp only [Act.put, List.setIfInBounds_toArray, List.set_cons_zero, List.set_cons_succ, i64_w, i32_w]
      rfl
     refine pure_ (i := 4) (N := some 50) (v := ?_) (a' := ?_) #[true, true, false, false, true, false, false, false, false, false, false, false, false, false, false] rfl rfl (any_of HT_.out (by kernel_rfl)) (fun _ _ _ h => h) (Or.inl ⟨by rfl, ?_⟩) ?_ ?_
     rotate_left
     ·intro w'
      go_simp
      with_reducible rfl
     rotate_left
     ·simp only [Act.put, List.setIfInBounds_toArray, List.set_cons_zero, List.set_cons_succ, i64_w, i32_w]
      rfl
     refine pure_ (i := 8) (N := some 54) (v := ?_) (a' := ?_) #[true, true, false, false, true, false, false, false, true, false, false, false, false, false, false] rfl rfl (any_of HT_.out (by kernel_rfl)) (fun _ _ _ h => h) (Or.inl ⟨by rfl, ?_⟩) ?_ ?_
     rotate_left
     ·intro w'
      go_simp
      with_reducible rfl
     rotate_left
     ·simp only [Act.put, List.setIfInBounds_toArray, List.set_cons_zero, List.set_cons_succ, i64_w, i32_w]
      rfl
     refine pure_ (i := 11) (N := some 57) (v := ?_) (a' := ?_) #[true, true, false, false, true, false, false, false, true, false, false, true, false, false, false] rfl rfl (any_of HT_.out (by kernel_rfl)) (fun _ _ _ h => h) (Or.inl ⟨by rfl, ?_⟩) ?_ ?_
     rotate_left
     ·intro w'
      go_simp
      with_reducible rfl
     rotate_left
     ·simp only [Act.put, List.setIfInBounds_toArray, List.set_cons_zero, List.set_cons_succ, i64_w, i32_w]
      rfl
     refine inv_at [2, 3, 5, 6, 7, 9, 10, 12, 13, 14] (fun a0_ b a w' => a = putSel a0_ b [(2, 48, .int .i64 f0), (3, 49, .slice (some ⟨g, 0, none⟩) n0 cm), (5, 51, .int .i64 f1), (6, 52, .pointer (some ⟨g, f1.toNat, none⟩)), (7, 53, .int .i64 (rd q2 f1)), (9, 55, .int .i64 a0_4), (10, 56, .int .i64 (wrap64 (rd q2 f1 + a0_4))), (12, 58, .int .i64 f2), (13, 59, .int .i64 (wrap64 (wrap64 (rd q2 f1 + a0_4) - f2))), (14, 60, undef)] ∧ (b 14 = false → w' = wl) ∧ (b 14 = true → Kd.R (Kd.int .i64) 2 w' w.heap.size (fun _ => True) (.slice (some ⟨g, 0, none⟩) n0 cm) (raiseP q2 f0 (wrap64 (wrap64 (rd q2 f1 + a0_4) - f2)))) ∧ (b 14 = true → w'.heap[g8]? = some (.cells #[.bool (b2 || decide (rd q2 f0 < (wrap64 (wrap64 (rd q2 f1 + a0_4) - f2))))] 4 (0, 0))) ∧ (b 14 = true → w'.heap[g6]? = some (.cells #[.slice (some ⟨g, 0, none⟩) n0 cm] 23 (0, 0))) ∧ (b 14 = true → Kept wl w' (fun k => k = g ∨ k = g8)) ∧ (b 14 = true → Below w.heap.size wl w')) HT_.out HW_.out (by kernel_rfl) (by kernel_rfl) ?_ ?_ ?_
     ·exact ⟨by simp only [putSel, Bool.false_eq_true, if_false], fun _ => rfl, fun h_ => absurd h_ (by decide), fun h_ => absurd h_ (by decide), fun h_ => absurd h_ (by decide), fun h_ => absurd h_ (by decide), fun h_ => absurd h_ (by decide)⟩
     ·skip
      clear WE
      refine steps_cons ?_ ?_
      ·rintro b a w' ⟨ha, Q_WE, Q_P1, Q_P2, Q_P3, Q_P4, Q_P5⟩ hb_ hon hoff
       refine ⟨_, rfl, fun K hK => ?_⟩
       have e47 : a.tmps[47]? = some (.pointer (some ⟨gx, 0, none⟩)) := by rw [ha]; exact (putSel_off rfl).trans rfl
       replace ha := Aside0.mk ha
       have WE := Aside0.mk (Q_WE (hoff 14 (by kernel_rfl)))
       have hw_ := WE.out
       subst hw_
       have hc_ := X0.out
       refine value_ (w1 := w') (v := .int .i64 f0) (by rfl) rfl ?_ ?_
       ·go_simp
        (try simp only [i64_w])
        try rfl
       refine hK.out _ _ ⟨(by rw [ha.out]; exact putSel_upk 0 hb_ rfl rfl rfl), Q_WE, fun h0_ => absurd ((hoff 14 (by kernel_rfl)).symm.trans h0_) (by decide), fun h0_ => absurd ((hoff 14 (by kernel_rfl)).symm.trans h0_) (by decide), fun h0_ => absurd ((hoff 14 (by kernel_rfl)).symm.trans h0_) (by decide), fun h0_ => absurd ((hoff 14 (by kernel_rfl)).symm.trans h0_) (by decide), fun h0_ => absurd ((hoff 14 (by kernel_rfl)).symm.trans h0_) (by decide)⟩
      refine steps_cons ?_ ?_
      ·rintro b a w' ⟨ha, Q_WE, Q_P1, Q_P2, Q_P3, Q_P4, Q_P5⟩ hb_ hon hoff
       refine ⟨_, rfl, fun K hK => ?_⟩
       have e6 : a.tmps[6]? = some (.pointer (some ⟨g6, 0, none⟩)) := by rw [ha]; exact (putSel_off rfl).trans rfl
       replace ha := Aside0.mk ha
       have WE := Aside0.mk (Q_WE (hoff 14 (by kernel_rfl)))
       have hw_ := WE.out
       subst hw_
       have hc_ := Y6.out
       refine value_ (w1 := w') (v := .slice (some ⟨g, 0, none⟩) n0 cm) (by rfl) rfl ?_ ?_
       ·go_simp
        (try simp only [i64_w])
        try rfl
       refine hK.out _ _ ⟨(by rw [ha.out]; exact putSel_upk 1 hb_ rfl rfl rfl), Q_WE, fun h0_ => absurd ((hoff 14 (by kernel_rfl)).symm.trans h0_) (by decide), fun h0_ => absurd ((hoff 14 (by kernel_rfl)).symm.trans h0_) (by decide), fun h0_ => absurd ((hoff 14 (by kernel_rfl)).symm.trans h0_) (by decide), fun h0_ => absurd ((hoff 14 (by kernel_rfl)).symm.trans h0_) (by decide), fun h0_ => absurd ((hoff 14 (by kernel_rfl)).symm.trans h0_) (by decide)⟩
      refine steps_cons ?_ ?_
      ·rintro b a w' ⟨ha, Q_WE, Q_P1, Q_P2, Q_P3, Q_P4, Q_P5⟩ hb_ hon hoff
       refine ⟨_, rfl, fun K hK => ?_⟩
       have e50 : a.tmps[50]? = some (.pointer (some ⟨gx, 1, none⟩)) := by rw [ha]; exact (putSel_off rfl).trans rfl
       replace ha := Aside0.mk ha
       have WE := Aside0.mk (Q_WE (hoff 14 (by kernel_rfl)))
       have hw_ := WE.out
       subst hw_
       have hc_ := X1.out
       refine value_ (w1 := w') (v := .int .i64 f1) (by rfl) rfl ?_ ?_
       ·go_simp
        (try simp only [i64_w])
        try rfl
       refine hK.out _ _ ⟨(by rw [ha.out]; exact putSel_upk 2 hb_ rfl rfl rfl), Q_WE, fun h0_ => absurd ((hoff 14 (by kernel_rfl)).symm.trans h0_) (by decide), fun h0_ => absurd ((hoff 14 (by kernel_rfl)).symm.trans h0_) (by decide), fun h0_ => absurd ((hoff 14 (by kernel_rfl)).symm.trans h0_) (by decide), fun h0_ => absurd ((hoff 14 (by kernel_rfl)).symm.trans h0_) (by decide), fun h0_ => absurd ((hoff 14 (by kernel_rfl)).symm.trans h0_) (by decide)⟩
      refine steps_cons ?_ ?_
      ·rintro b a w' ⟨ha, Q_WE, Q_P1, Q_P2, Q_P3, Q_P4, Q_P5⟩ hb_ hon hoff
       refine ⟨_, rfl, fun K hK => ?_⟩
       have e49 : a.tmps[49]? = some (.slice (some ⟨g, 0, none⟩) n0 cm) := by rw [ha]; exact putSel_on (e := (3, 49, .slice (some ⟨g, 0, none⟩) n0 cm)) 1 rfl rfl (hon 3 (by kernel_rfl)) rfl
       have e51 : a.tmps[51]? = some (.int .i64 f1) := by rw [ha]; exact putSel_on (e := (5, 51, .int .i64 f1)) 2 rfl rfl (hon 5 (by kernel_rfl)) rfl
       replace ha := Aside0.mk ha
       have WE := Aside0.mk (Q_WE (hoff 14 (by kernel_rfl)))
       have hw_ := WE.out
       subst hw_
       refine value_ (w1 := w') (v := .pointer (some ⟨g, f1.toNat, none⟩)) (by rfl) rfl ?_ ?_
       ·go_simp
        (try simp only [i64_w])
        try rfl
       refine hK.out _ _ ⟨(by rw [ha.out]; exact putSel_upk 3 hb_ rfl rfl rfl), Q_WE, fun h0_ => absurd ((hoff 14 (by kernel_rfl)).symm.trans h0_) (by decide), fun h0_ => absurd ((hoff 14 (by kernel_rfl)).symm.trans h0_) (by decide), fun h0_ => absurd ((hoff 14 (by kernel_rfl)).symm.trans h0_) (by decide), fun h0_ => absurd ((hoff 14 (by kernel_rfl)).symm.trans h0_) (by decide), fun h0_ => absurd ((hoff 14 (by kernel_rfl)).symm.trans h0_) (by decide)⟩
      refine steps_cons ?_ ?_
      ·rintro b a w' ⟨ha, Q_WE, Q_P1, Q_P2, Q_P3, Q_P4, Q_P5⟩ hb_ hon hoff
       refine ⟨_, rfl, fun K hK => ?_⟩
       have e52 : a.tmps[52]? = some (.pointer (some ⟨g, f1.toNat, none⟩)) := by rw [ha]; exact putSel_on (e := (6, 52, .pointer (some ⟨g, f1.toNat, none⟩))) 3 rfl rfl (hon 6 (by kernel_rfl)) rfl
       replace ha := Aside0.mk ha
       have WE := Aside0.mk (Q_WE (hoff 14 (by kernel_rfl)))
       have hw_ := WE.out
       subst hw_
       have hc_ := Y0.out
       refine value_ (w1 := w') (v := .int .i64 (rd q2 f1)) (by rfl) rfl ?_ ?_
       ·go_simp
        (try simp only [i64_w])
        try rfl
       refine hK.out _ _ ⟨(by rw [ha.out]; exact putSel_upk 4 hb_ rfl rfl rfl), Q_WE, fun h0_ => absurd ((hoff 14 (by kernel_rfl)).symm.trans h0_) (by decide), fun h0_ => absurd ((hoff 14 (by kernel_rfl)).symm.trans h0_) (by decide), fun h0_ => absurd ((hoff 14 (by kernel_rfl)).symm.trans h0_) (by decide), fun h0_ => absurd ((hoff 14 (by kernel_rfl)).symm.trans h0_) (by decide), fun h0_ => absurd ((hoff 14 (by kernel_rfl)).symm.trans h0_) (by decide)⟩
      refine steps_cons ?_ ?_
      ·rintro b a w' ⟨ha, Q_WE, Q_P1, Q_P2, Q_P3, Q_P4, Q_P5⟩ hb_ hon hoff
       refine ⟨_, rfl, fun K hK => ?_⟩
       have e54 : a.tmps[54]? = some (.pointer (some ⟨gb, 4, none⟩)) := by rw [ha]; exact (putSel_off rfl).trans rfl
       replace ha := Aside0.mk ha
       have WE := Aside0.mk (Q_WE (hoff 14 (by kernel_rfl)))
       have hw_ := WE.out
       subst hw_
       have hc_ := B3.out
       refine value_ (w1 := w') (v := .int .i64 a0_4) (by rfl) rfl ?_ ?_
       ·go_simp
        (try simp only [i64_w])
        try rfl
       refine hK.out _ _ ⟨(by rw [ha.out]; exact putSel_upk 5 hb_ rfl rfl rfl), Q_WE, fun h0_ => absurd ((hoff 14 (by kernel_rfl)).symm.trans h0_) (by decide), fun h0_ => absurd ((hoff 14 (by kernel_rfl)).symm.trans h0_) (by decide), fun h0_ => absurd ((hoff 14 (by kernel_rfl)).symm.trans h0_) (by decide), fun h0_ => absurd ((hoff 14 (by kernel_rfl)).symm.trans h0_) (by decide), fun h0_ => absurd ((hoff 14 (by kernel_rfl)).symm.trans h0_) (by decide)⟩
      refine steps_cons ?_ ?_
      ·rintro b a w' ⟨ha, Q_WE, Q_P1, Q_P2, Q_P3, Q_P4, Q_P5⟩ hb_ hon hoff
       refine ⟨_, rfl, fun K hK => ?_⟩
       have e53 : a.tmps[53]? = some (.int .i64 (rd q2 f1)) := by rw [ha]; exact putSel_on (e := (7, 53, .int .i64 (rd q2 f1))) 4 rfl rfl (hon 7 (by kernel_rfl)) rfl
       have e55 : a.tmps[55]? = some (.int .i64 a0_4) := by rw [ha]; exact putSel_on (e := (9, 55, .int .i64 a0_4)) 5 rfl rfl (hon 9 (by kernel_rfl)) rfl
       replace ha := Aside0.mk ha
       have WE := Aside0.mk (Q_WE (hoff 14 (by kernel_rfl)))
       have hw_ := WE.out
       subst hw_
       refine value_ (w1 := w') (v := .int .i64 (wrap64 (rd q2 f1 + a0_4))) (by rfl) rfl ?_ ?_
       ·go_simp
        (try simp only [i64_w])
        try rfl
       refine hK.out _ _ ⟨(by rw [ha.out]; exact putSel_upk 6 hb_ rfl rfl rfl), Q_WE, fun h0_ => absurd ((hoff 14 (by kernel_rfl)).symm.trans h0_) (by decide), fun h0_ => absurd ((hoff 14 (by kernel_rfl)).symm.trans h0_) (by decide), fun h0_ => absurd ((hoff 14 (by kernel_rfl)).symm.trans h0_) (by decide), fun h0_ => absurd ((hoff 14 (by kernel_rfl)).symm.trans h0_) (by decide), fun h0_ => absurd ((hoff 14 (by kernel_rfl)).symm.trans h0_) (by decide)⟩
      refine steps_cons ?_ ?_
      ·rintro b a w' ⟨ha, Q_WE, Q_P1, Q_P2, Q_P3, Q_P4, Q_P5⟩ hb_ hon hoff
       refine ⟨_, rfl, fun K hK => ?_⟩
       have e57 : a.tmps[57]? = some (.pointer (some ⟨gx, 2, none⟩)) := by rw [ha]; exact (putSel_off rfl).trans rfl
       replace ha := Aside0.mk ha
       have WE := Aside0.mk (Q_WE (hoff 14 (by kernel_rfl)))
       have hw_ := WE.out
       subst hw_
       have hc_ := X2.out
       refine value_ (w1 := w') (v := .int .i64 f2) (by rfl) rfl ?_ ?_
       ·go_simp
        (try simp only [i64_w])
        try rfl
       refine hK.out _ _ ⟨(by rw [ha.out]; exact putSel_upk 7 hb_ rfl rfl rfl), Q_WE, fun h0_ => absurd ((hoff 14 (by kernel_rfl)).symm.trans h0_) (by decide), fun h0_ => absurd ((hoff 14 (by kernel_rfl)).symm.trans h0_) (by decide), fun h0_ => absurd ((hoff 14 (by kernel_rfl)).symm.trans h0_) (by decide), fun h0_ => absurd ((hoff 14 (by kernel_rfl)).symm.trans h0_) (by decide), fun h0_ => absurd ((hoff 14 (by kernel_rfl)).symm.trans h0_) (by decide)⟩
      refine steps_cons ?_ ?_
      ·rintro b a w' ⟨ha, Q_WE, Q_P1, Q_P2, Q_P3, Q_P4, Q_P5⟩ hb_ hon hoff
       refine ⟨_, rfl, fun K hK => ?_⟩
       have e56 : a.tmps[56]? = some (.int .i64 (wrap64 (rd q2 f1 + a0_4))) := by rw [ha]; exact putSel_on (e := (10, 56, .int .i64 (wrap64 (rd q2 f1 + a0_4)))) 6 rfl rfl (hon 10 (by kernel_rfl)) rfl
       have e58 : a.tmps[58]? = some (.int .i64 f2) := by rw [ha]; exact putSel_on (e := (12, 58, .int .i64 f2)) 7 rfl rfl (hon 12 (by kernel_rfl)) rfl
       replace ha := Aside0.mk ha
       have WE := Aside0.mk (Q_WE (hoff 14 (by kernel_rfl)))
       have hw_ := WE.out
       subst hw_
       refine value_ (w1 := w') (v := .int .i64 (wrap64 (wrap64 (rd q2 f1 + a0_4) - f2))) (by rfl) rfl ?_ ?_
       ·go_simp
        (try simp only [i64_w])
        try rfl
       refine hK.out _ _ ⟨(by rw [ha.out]; exact putSel_upk 8 hb_ rfl rfl rfl), Q_WE, fun h0_ => absurd ((hoff 14 (by kernel_rfl)).symm.trans h0_) (by decide), fun h0_ => absurd ((hoff 14 (by kernel_rfl)).symm.trans h0_) (by decide), fun h0_ => absurd ((hoff 14 (by kernel_rfl)).symm.trans h0_) (by decide), fun h0_ => absurd ((hoff 14 (by kernel_rfl)).symm.trans h0_) (by decide), fun h0_ => absurd ((hoff 14 (by kernel_rfl)).symm.trans h0_) (by decide)⟩
      refine steps_cons ?_ ?_
      ·rintro b a w' ⟨ha, Q_WE, Q_P1, Q_P2, Q_P3, Q_P4, Q_P5⟩ hb_ hon hoff
       refine ⟨_, rfl, fun K hK => ?_⟩
       have e46 : a.tmps[46]? = some (.func (.func 92) #[] #[.pointer (some ⟨g6, 0, none⟩), .pointer (some ⟨g8, 0, none⟩)]) := by rw [ha]; exact (putSel_off rfl).trans rfl
       have e48 : a.tmps[48]? = some (.int .i64 f0) := by rw [ha]; exact putSel_on (e := (2, 48, .int .i64 f0)) 0 rfl rfl (hon 2 (by kernel_rfl)) rfl
       have e59 : a.tmps[59]? = some (.int .i64 (wrap64 (wrap64 (rd q2 f1 + a0_4) - f2))) := by rw [ha]; exact putSel_on (e := (13, 59, .int .i64 (wrap64 (wrap64 (rd q2 f1 + a0_4) - f2)))) 8 rfl rfl (hon 13 (by kernel_rfl)) rfl
       replace ha := Aside0.mk ha
       have WE := Aside0.mk (Q_WE hb_)
       have hw_ := WE.out
       subst hw_
       refine goesF_ (f := 92) (bs := #[.pointer (some ⟨g6, 0, none⟩), .pointer (some ⟨g8, 0, none⟩)]) Try.func92 (by kernel_rfl) rfl #[.int .i64 f0, .int .i64 (wrap64 (wrap64 (rd q2 f1 + a0_4) - f2))] (by rfl) rfl rfl (by first | (simp only [List.map_toArray, List.map_cons, List.map_nil, Act.eval, Array.getD_eq_getD_getElem?, Option.getD_some, e46, e48, e59]; done) | (simp only [List.map_toArray, List.map_cons, List.map_nil, Act.eval, Array.getD_eq_getD_getElem?, Option.getD_some, e46, e48, e59]; rfl)) (by first | (simp only [List.map_toArray, List.map_cons, List.map_nil, Act.eval, Array.getD_eq_getD_getElem?, Option.getD_some, e46, e48, e59]; done) | (simp only [List.map_toArray, List.map_cons, List.map_nil, Act.eval, Array.getD_eq_getD_getElem?, Option.getD_some, e46, e48, e59]; rfl)) ?_
       refine (raise.callsN n0 f0 (wrap64 (wrap64 (rd q2 f1 + a0_4) - f2)) g g6 g8 cm w.heap.size q2 b2 (fun _ => True) w' HLNq2.out S6.out S8.out S14.out HF00.out HF01.out HNE.out.1 HNE.out.2.1 HNE.out.2.2).mono ?_
       rintro e w5 ⟨rfl, p1, p2, p3, p4, p5⟩
       refine ⟨_, rfl, ?_⟩
       refine hK.out _ _ ⟨(by rw [ha.out]; exact putSel_upk 9 hb_ rfl rfl rfl), fun h0_ => absurd ((up_self b 14).symm.trans h0_) (by decide), fun _ => p1, fun _ => p2, fun _ => p3, fun _ => p4, fun _ => p5 _ HBG.out.1 HBG.out.2⟩
      exact steps_nil
     rintro b a w16 hall ⟨ha, Q_WE, Q_P1, Q_P2, Q_P3, Q_P4, Q_P5⟩
     clear WE
     have hb2_ := hall 2 (by kernel_rfl)
     have hb3_ := hall 3 (by kernel_rfl)
     have hb5_ := hall 5 (by kernel_rfl)
     have hb6_ := hall 6 (by kernel_rfl)
     have hb7_ := hall 7 (by kernel_rfl)
     have hb9_ := hall 9 (by kernel_rfl)
     have hb10_ := hall 10 (by kernel_rfl)
     have hb12_ := hall 12 (by kernel_rfl)
     have hb13_ := hall 13 (by kernel_rfl)
     have hb14_ := hall 14 (by kernel_rfl)
     subst ha
     simp only [putSel, hb2_, hb3_, hb5_, hb6_, hb7_, hb9_, hb10_, hb12_, hb13_, hb14_, if_true, Act.put, List.setIfInBounds_toArray, List.set_cons_zero, List.set_cons_succ]
     clear Q_WE
     have P1 := Aside0.mk (Q_P1 hb14_)
     clear Q_P1
     have P2 := Aside0.mk (Q_P2 hb14_)
     clear Q_P2
     have P3 := Aside0.mk (Q_P3 hb14_)
     clear Q_P3
     have P4 := Aside0.mk (Q_P4 hb14_)
     clear Q_P4
     have P5 := Aside0.mk (Q_P5 hb14_)
     clear Q_P5
     clear hall hb2_ hb3_ hb5_ hb6_ hb7_ hb9_ hb10_ hb12_ hb13_ hb14_
     have A16' : Aside0 (Kd.R k72 72 w16 w.heap.size (fun _ => True) (.slice (some ad') ls.length cl) ls) := ⟨by obtain ⟨cs, hh⟩ := Kd.R_typed S14.out g rfl; exact Kd.R_mono (Kd.R_kept (Kd.R_types (Kd.R_types A16.out hh (by decide)) S8.out (by decide)) P4.out (fun k hk h => h.elim (fun e => hk.1.2 e) (fun e => hk.2 e))) (fun _ _ => trivial)⟩
     have ACB' := Aside0.mk (blk_kept ACB.out P4.out (fun h => h.elim NG.out.1 NG.out.2))
     have AB' := Aside0.mk (Below.trans AB.out P5.out)
     clear AX ACB A16 AB S6 S14 S8 X0 X1 X2 X3 Y6 Y0 B3
     go_wp2
     have hy1 := HY.out
     have hy2 := HLT2.out
     go_roundg ((ls.length : Int) - (y + 1)).toNat
     case measure => omega
     case rel =>
      have hw1 : wrap64 (y + 1) = y + 1 := by have := hlen0.out; unfold wrap64; omega
      exact ⟨y + 1, raiseP q2 f0 (wrap64 (wrap64 (rd q2 f1 + a0_4) - f2)), (b2 || decide (rd q2 f0 < (wrap64 (wrap64 (rd q2 f1 + a0_4) - f2)))), by first | rw [hw1] | (rw [i64_w, hw1]), ⟨by omega⟩, AB', ACB', A16', P3, P1, P2, ⟨by rw [raiseP_len]; exact HLNq2.out⟩, ⟨by rw [HF.out, fold_step a0_3 a0_4 a1 (q1, b1) ls y hy1.1 hy2, ← HXE.out, HQ2.out, HB2.out]; rfl⟩⟩
    ·have c1 : decide (y < (ls.length : Int)) = false := decide_eq_false hlt2
     have hyl : (ls.drop y.toNat) = [] := List.drop_of_length_le (by omega)
     have HFE : Aside0 (ls.foldl (stepK a0_3 a0_4 a1) (l, false) = (q1, b1)) := ⟨by rw [HF.out, hyl]; rfl⟩
     have hz8 : wr.cell? ⟨g8, 0, none⟩ = some (.bool b1) := (blk_cell K8.out 0).trans rfl
     clear hlt2 hyl HF
     have HSR : Aside0 (skRounds a0_3 a0_4 a1 ls (a0_0 + 1 - x).toNat l = if b1 = true then skRounds a0_3 a0_4 a1 ls (a0_0 + 1 - (x + 1)).toNat q1 else some q1) := ⟨by
      have hx1 := HLT.out
      rw [show (a0_0 + 1 - x).toNat = (a0_0 + 1 - (x + 1)).toNat + 1 from by omega]
      show (if _ then _ else _) = _
      rw [HFE.out]⟩
     cases b1 with
     | true =>
      go_wp2
      have hx1 := HX.out
      have hx2 := HLT.out
      have hx3 := HN2.out
      go_roundg ((a0_0 + 1) - (x + 1)).toNat
      case measure => omega
      case rel =>
       have hw1 : wrap64 (x + 1) = x + 1 := by unfold wrap64; omega
       exact ⟨x + 1, q1, by first | rw [hw1] | (rw [i64_w, hw1]), ⟨by omega⟩, KB, KCB, K16, K6, K14, HLNq1, ⟨by rw [HQ.out, HSR.out]; first | rw [if_pos rfl] | rw [if_pos trivial]⟩⟩
     | false =>
      have hh := HH.out
      rw [HQ.out, HSR.out, if_neg (by decide)] at hh
      replace hh : ((impl_areSkews.f a0_0 l0_1 l0_2 a0_3 a0_4 a0_5 a0_6 q1).bind fun b => some (q1, b)) = some (r1, r2) := hh
      obtain ⟨rb, ha, hh⟩ := Option.bind_eq_some_iff.mp hh
      injection hh with hh
      injection hh with e1 e2
      subst e1
      subst e2
      have HA := Aside0.mk ha
      have HB := Aside0.mk (below_drew1 KB.out)
      have ACB := Aside0.mk (blk_drew KCB.out)
      have C6b := Aside0.mk (blk_drew K6.out)
      have S14 := Aside0.mk (Kd.R_drew K14.out)
      have HLN := HLNq1
      clear ha KB KCB K16 K6 K14 K8 HLNq1 HSR HFE HQ HH
      go_wp2
      refine start_ (n := 6) (S := fun w' => True) (ds := []) #[false, false, false, false, false, false] (by kernel_rfl) rfl rfl trivial (fun hHeld => ?_)
      refine with_tabW impl_leastSkews.tab13 impl_leastSkews.bits13 (fun HT_ HW_ => ?_)
      generalize wr.drew = wk at HB ACB C6b S14 hHeld ⊢
      have CC0 : Aside0 (wk.cell? ⟨gb, 0, none⟩ = some (.int .i64 a0_0)) := ⟨(blk_cell ACB.out 0).trans rfl⟩
      have CC1 : Aside0 (wk.cell? ⟨gb, 1, none⟩ = some (.slice A0_1 l0_1.length c0_1)) := ⟨(blk_cell ACB.out 1).trans rfl⟩
      have CC2 : Aside0 (wk.cell? ⟨gb, 2, none⟩ = some (.slice A0_2 l0_2.length c0_2)) := ⟨(blk_cell ACB.out 2).trans rfl⟩
      have CC3 : Aside0 (wk.cell? ⟨gb, 3, none⟩ = some (.int .i64 a0_3)) := ⟨(blk_cell ACB.out 3).trans rfl⟩
      have CC4 : Aside0 (wk.cell? ⟨gb, 4, none⟩ = some (.int .i64 a0_4)) := ⟨(blk_cell ACB.out 4).trans rfl⟩
      have CC5 : Aside0 (wk.cell? ⟨gb, 5, none⟩ = some (.int .i64 a0_5)) := ⟨(blk_cell ACB.out 5).trans rfl⟩
      have CC6 : Aside0 (wk.cell? ⟨gb, 6, none⟩ = some (.int .i64 a0_6)) := ⟨(blk_cell ACB.out 6).trans rfl⟩
      have C6 : Aside0 (wk.cell? ⟨g6, 0, none⟩ = some (.slice (some ⟨g, 0, none⟩) n0 cm)) := ⟨(blk_cell C6b.out 0).trans rfl⟩
      have HS : Aside0 (Kd.C (Kd.int .i64) wk (some ⟨g, 0, none⟩) n0 q1) := ⟨by have h_ := (Kd.R_reads' S14.out).2.2; first | exact h_ | (rw [HLN.out] at h_; exact h_)⟩
      have HSC : Aside0 (n0 ≤ cm) := ⟨by have h_ := (Kd.R_reads' S14.out).2.1; first | exact h_ | (rw [HLN.out] at h_; exact h_)⟩
      have HBK := trivial
      refine inv_at [0, 1, 2, 3, 4, 5] (fun a0_ b a w' => a = putSel a0_ b [(0, 64, .slice (some ⟨g, 0, none⟩) n0 cm), (1, 65, .agg #[.int .i64 a0_0, .slice A0_1 l0_1.length c0_1, .slice A0_2 l0_2.length c0_2, .int .i64 a0_3, .int .i64 a0_4, .int .i64 a0_5, .int .i64 a0_6]), (2, 66, .slice (some ⟨g, 0, none⟩) n0 cm), (3, 67, .bool rb), (4, 4, .slice (some ⟨g, 0, none⟩) n0 cm), (5, 5, .bool rb)] ∧ (Below wk.heap.size wk w')) HT_.out HW_.out (by kernel_rfl) (by kernel_rfl) ?_ ?_ ?_
      ·exact ⟨by simp only [putSel, Bool.false_eq_true, if_false], Below.refl _ _⟩
      ·skip
       clear HBK
       refine steps_cons ?_ ?_
       ·rintro b a w' ⟨ha, Q_HBK⟩ hb_ hon hoff
        refine ⟨_, rfl, fun K hK => ?_⟩
        have e6 : a.tmps[6]? = some (.pointer (some ⟨g6, 0, none⟩)) := by rw [ha]; exact (putSel_off rfl).trans rfl
        replace ha := Aside0.mk ha
        have HBK := Aside0.mk Q_HBK
        have hc_ := pw_cell_below HBK.out C6.out
        refine value_ (w1 := w') (v := .slice (some ⟨g, 0, none⟩) n0 cm) (by rfl) rfl ?_ ?_
        ·go_simp
         (try simp only [i64_w])
         try rfl
        refine hK.out _ _ ⟨(by rw [ha.out]; exact putSel_upk 0 hb_ rfl rfl rfl), Q_HBK⟩
       refine steps_cons ?_ ?_
       ·rintro b a w' ⟨ha, Q_HBK⟩ hb_ hon hoff
        refine ⟨_, rfl, fun K hK => ?_⟩
        have e2 : a.tmps[2]? = some (.pointer (some ⟨gb, 0, none⟩)) := by rw [ha]; exact (putSel_off rfl).trans rfl
        replace ha := Aside0.mk ha
        have HBK := Aside0.mk Q_HBK
        have hc0_ := pw_cell_below HBK.out CC0.out
        have hc1_ := pw_cell_below HBK.out CC1.out
        have hc2_ := pw_cell_below HBK.out CC2.out
        have hc3_ := pw_cell_below HBK.out CC3.out
        have hc4_ := pw_cell_below HBK.out CC4.out
        have hc5_ := pw_cell_below HBK.out CC5.out
        have hc6_ := pw_cell_below HBK.out CC6.out
        refine value_ (w1 := w') (v := .agg #[.int .i64 a0_0, .slice A0_1 l0_1.length c0_1, .slice A0_2 l0_2.length c0_2, .int .i64 a0_3, .int .i64 a0_4, .int .i64 a0_5, .int .i64 a0_6]) (by rfl) rfl ?_ ?_
        ·go_simp
         (try simp only [i64_w])
         try rfl
        refine hK.out _ _ ⟨(by rw [ha.out]; exact putSel_upk 1 hb_ rfl rfl rfl), Q_HBK⟩
       refine steps_cons ?_ ?_
       ·rintro b a w' ⟨ha, Q_HBK⟩ hb_ hon hoff
        refine ⟨_, rfl, fun K hK => ?_⟩
        have e6 : a.tmps[6]? = some (.pointer (some ⟨g6, 0, none⟩)) := by rw [ha]; exact (putSel_off rfl).trans rfl
        replace ha := Aside0.mk ha
        have HBK := Aside0.mk Q_HBK
        have hc_ := pw_cell_below HBK.out C6.out
        refine value_ (w1 := w') (v := .slice (some ⟨g, 0, none⟩) n0 cm) (by rfl) rfl ?_ ?_
        ·go_simp
         (try simp only [i64_w])
         try rfl
        refine hK.out _ _ ⟨(by rw [ha.out]; exact putSel_upk 2 hb_ rfl rfl rfl), Q_HBK⟩
       refine steps_cons ?_ ?_
       ·rintro b a w' ⟨ha, Q_HBK⟩ hb_ hon hoff
        refine ⟨_, rfl, fun K hK => ?_⟩
        have e65 : a.tmps[65]? = some (.agg #[.int .i64 a0_0, .slice A0_1 l0_1.length c0_1, .slice A0_2 l0_2.length c0_2, .int .i64 a0_3, .int .i64 a0_4, .int .i64 a0_5, .int .i64 a0_6]) := by rw [ha]; exact putSel_on (e := (1, 65, .agg #[.int .i64 a0_0, .slice A0_1 l0_1.length c0_1, .slice A0_2 l0_2.length c0_2, .int .i64 a0_3, .int .i64 a0_4, .int .i64 a0_5, .int .i64 a0_6])) 1 rfl rfl (hon 1 (by kernel_rfl)) rfl
        have e66 : a.tmps[66]? = some (.slice (some ⟨g, 0, none⟩) n0 cm) := by rw [ha]; exact putSel_on (e := (2, 66, .slice (some ⟨g, 0, none⟩) n0 cm)) 2 rfl rfl (hon 2 (by kernel_rfl)) rfl
        replace ha := Aside0.mk ha
        have HBK := Aside0.mk Q_HBK
        refine goes_ Try.func67 (by kernel_rfl) rfl #[.agg #[.int .i64 a0_0, .slice A0_1 l0_1.length c0_1, .slice A0_2 l0_2.length c0_2, .int .i64 a0_3, .int .i64 a0_4, .int .i64 a0_5, .int .i64 a0_6], .slice (some ⟨g, 0, none⟩) n0 cm] (by rfl) rfl rfl (by first | (simp only [List.map_toArray, List.map_cons, List.map_nil, Act.eval, Array.getD_eq_getD_getElem?, Option.getD_some, e65, e66]; done) | (simp only [List.map_toArray, List.map_cons, List.map_nil, Act.eval, Array.getD_eq_getD_getElem?, Option.getD_some, e65, e66]; rfl)) ?_
        refine (areSkewsN n0 (hn := HLN.out) (hr0_1 := Kd.C_below HR1.out (below_step HB.out HBK.out)) (hc0_1 := HC1.out) (hr0_2 := Kd.C_below HR2.out (below_step HB.out HBK.out)) (hc0_2 := HC2.out) (hr1 := Kd.C_below HS.out HBK.out) (hc1 := HSC.out) (h := HA.out)).mono ?_
        rintro e w5 ⟨rfl, hb⟩
        refine ⟨_, rfl, ?_⟩
        refine hK.out _ _ ⟨(by rw [ha.out]; exact putSel_upk 3 hb_ rfl rfl rfl), below_step HBK.out hb⟩
       refine steps_cons ?_ ?_
       ·rintro b a w' ⟨ha, Q_HBK⟩ hb_ hon hoff
        refine ⟨_, rfl, fun K hK => ?_⟩
        have e64 : a.tmps[64]? = some (.slice (some ⟨g, 0, none⟩) n0 cm) := by rw [ha]; exact putSel_on (e := (0, 64, .slice (some ⟨g, 0, none⟩) n0 cm)) 0 rfl rfl (hon 0 (by kernel_rfl)) rfl
        replace ha := Aside0.mk ha
        have HBK := Aside0.mk Q_HBK
        refine value_ (w1 := w') (v := .slice (some ⟨g, 0, none⟩) n0 cm) (by rfl) rfl ?_ ?_
        ·go_simp
         (try simp only [i64_w])
         try rfl
        refine hK.out _ _ ⟨(by rw [ha.out]; exact putSel_upk 4 hb_ rfl rfl rfl), Q_HBK⟩
       refine steps_cons ?_ ?_
       ·rintro b a w' ⟨ha, Q_HBK⟩ hb_ hon hoff
        refine ⟨_, rfl, fun K hK => ?_⟩
        have e67 : a.tmps[67]? = some (.bool rb) := by rw [ha]; exact putSel_on (e := (3, 67, .bool rb)) 3 rfl rfl (hon 3 (by kernel_rfl)) rfl
        replace ha := Aside0.mk ha
        have HBK := Aside0.mk Q_HBK
        refine value_ (w1 := w') (v := .bool rb) (by rfl) rfl ?_ ?_
        ·go_simp
         (try simp only [i64_w])
         try rfl
        refine hK.out _ _ ⟨(by rw [ha.out]; exact putSel_upk 5 hb_ rfl rfl rfl), Q_HBK⟩
       exact steps_nil
      rintro b a w17 hall ⟨ha, Q_HBK⟩
      clear HBK
      have hb0_ := hall 0 (by kernel_rfl)
      have hb1_ := hall 1 (by kernel_rfl)
      have hb2_ := hall 2 (by kernel_rfl)
      have hb3_ := hall 3 (by kernel_rfl)
      have hb4_ := hall 4 (by kernel_rfl)
      have hb5_ := hall 5 (by kernel_rfl)
      subst ha
      simp only [putSel, hb0_, hb1_, hb2_, hb3_, hb4_, hb5_, if_true, Act.put, List.setIfInBounds_toArray, List.set_cons_zero, List.set_cons_succ]
      have HBK := Aside0.mk Q_HBK
      clear Q_HBK
      clear hall hb0_ hb1_ hb2_ hb3_ hb4_ hb5_
      go_wp2
      go_ret2
      exact ⟨_, rfl, Kd.R_below S14.out HBK.out, below_step HB.out HBK.out⟩
  ·have c1 : decide (x < a0_0 + 1) = false := decide_eq_false hlt
   have hh := HH.out
   rw [HQ.out, show (a0_0 + 1 - x).toNat = 0 from by omega] at hh
   replace hh : some (([] : List Int), false) = some (r1, r2) := hh
   injection hh with hh
   injection hh with e1 e2
   subst e1
   subst e2
   clear hlt
   go_wp2
   go_ret2
   exact ⟨_, rfl, Kd.R_nil _ _ _ _ _, HB.out⟩

end Go.Proofs.Ytalafmahgeejiaa.Pa

/- The least skews: the program's rounds and the reference's are the same. -/
namespace Go.Proofs.Ytalafmahgeejiaa.Pure
open Go.RowKit Go.Proofs.Ytalafmahgeejiaa.Pa Go.Proofs.YtalafmahgeejiaaW.PrintWords Go.Proofs.YtalafmahgeejiaaW.PrintLast
set_option linter.unusedVariables false
set_option linter.unusedSimpArgs false

theorem stepK_eq (setup hold period a b m M : Int) (q : List Int × Bool) : stepK setup hold period q ⟨a, b, m, M⟩ =
    (let V := wrap64 (wrap64 (wrap64 (rd q.1 a + M) + setup) - period)
     let q1 := if rd q.1 b < V then q.1.set b.toNat V else q.1
     let U := wrap64 (wrap64 (rd q1 b + hold) - m)
     (if rd q1 a < U then q1.set a.toNat U else q1, (q.2 || decide (rd q.1 b < V)) || decide (rd q1 a < U))) := rfl
theorem stepK_fold_len (a3 a4 period : Int) (ls : List S72) : ∀ q : List Int × Bool, (ls.foldl (stepK a3 a4 period) q).1.length = q.1.length := by
  induction ls with
  | nil => intro q; rfl
  | cons x ls ih => intro q; rw [List.foldl_cons, ih, stepK_len]
section
variable (n a3 a4 a5 a6 : Int) (gates : List S62) (data : List Int) (C : Ready n gates data) (period : Int)
include C
theorem least_l2 (x7 : Int) (a : Int) (ha : 0 ≤ a) (ha1 : a < n) (d : Nat) : ∀ (b : Nat) (q : List Int × Bool) (r : List Int × Bool × Int × Int × Int × Int × Int), (b : Int) + d = n → (q.1.length : Int) = n →
    Ev (fun k => spec_l06Least.l1 k period ((linksTo (pathO n gates data a5 a6) a b d).foldl (stepK a3 a4 period) q).1 x7 ((linksTo (pathO n gates data a5 a6) a b d).foldl (stepK a3 a4 period) q).2 (wrap64 (a + 1)) n gates data a3 a4 a5 a6) r →
    Ev (fun k => spec_l06Least.l2 k period q.1 x7 q.2 a (b : Int) n gates data a3 a4 a5 a6) r := by
  have hn := C.gs.n0
  have hn1 := C.gs.n1
  induction d with
  | zero =>
    rintro b q r hb hq ⟨K, hK⟩
    refine ⟨K + 1, fun k hk => ?_⟩
    obtain ⟨k, rfl⟩ : ∃ m, k = m + 1 := ⟨k - 1, by omega⟩
    simp only [spec_l06Least.l2]
    rw [if_neg (by omega)]
    exact hK k (by omega)
  | succ d ih =>
    intro b q r hb hq hE
    obtain ⟨u, v, ⟨K1, hK1⟩, hxy⟩ := path_tells n a3 a4 a5 a6 gates data C.gs C.dlen C.node a (b : Int) (by omega) (by omega)
    have hw : wrap64 ((b : Int) + 1) = (b : Int) + 1 := wrap_id (by omega) (by omega)
    simp only [linksTo] at hE
    cases hp : pathO n gates data a5 a6 a (b : Int) with
    | none =>
      rw [hp] at hE hK1
      obtain ⟨K2, hK2⟩ := ih (b + 1) q r (by omega) hq hE
      refine ⟨K1 + K2 + 1, fun k hk => ?_⟩
      obtain ⟨k, rfl⟩ : ∃ m, k = m + 1 := ⟨k - 1, by omega⟩
      have k1 : spec_l06Path.f k n gates data a3 a4 a5 a6 a (b : Int) = _ := hK1 k (by omega)
      have k2 := hK2 k (by omega)
      push_cast at k2
      simp only [spec_l06Least.l2]
      rw [if_pos (by omega), k1]
      simp only [Option.bind_some, Option.isSome_none]
      rw [if_neg (by decide), hw]
      exact k2
    | some p =>
      rw [hp] at hE hK1
      obtain ⟨rfl, rfl⟩ := hxy p hp
      simp only [linkO, List.singleton_append, List.foldl_cons] at hE
      have hl : ((stepK a3 a4 period q ⟨a, (b : Int), p.1, p.2⟩).1.length : Int) = n := by rw [stepK_len]; exact hq
      obtain ⟨K2, hK2⟩ := ih (b + 1) _ r (by omega) hl hE
      refine ⟨K1 + K2 + 1, fun k hk => ?_⟩
      obtain ⟨k, rfl⟩ : ∃ m, k = m + 1 := ⟨k - 1, by omega⟩
      have k1 : spec_l06Path.f k n gates data a3 a4 a5 a6 a (b : Int) = _ := hK1 k (by omega)
      have k2 := hK2 k (by omega)
      push_cast at k2
      simp only [spec_l06Least.l2]
      rw [if_pos (by omega), k1]
      simp only [Option.bind_some, Option.isSome_some, if_true]
      rw [if_pos ha, if_pos (by omega), if_pos (by omega), if_pos (by omega), hw, ← k2, stepK_eq]
      obtain ⟨l, f⟩ := q
      dsimp only
      by_cases c1 : rd l (b : Int) < wrap64 (wrap64 (wrap64 (rd l a + p.2) + a3) - period)
      · rw [if_pos (show _ > _ from c1)]
        simp only [if_pos c1, decide_eq_true c1, Bool.or_true, Bool.true_or, Option.bind_some]
        by_cases c2 : rd (l.set ((b : Int)).toNat (wrap64 (wrap64 (wrap64 (rd l a + p.2) + a3) - period))) a < wrap64 (wrap64 (rd (l.set ((b : Int)).toNat (wrap64 (wrap64 (wrap64 (rd l a + p.2) + a3) - period))) (b : Int) + a4) - p.1)
        · rw [if_pos (show _ > _ from c2), if_pos c2]
        · rw [if_neg (show ¬ _ > _ from c2), if_neg c2]
      · rw [if_neg (show ¬ _ > _ from c1)]
        simp only [if_neg c1, decide_eq_false c1, Bool.or_false]
        by_cases c2 : rd l a < wrap64 (wrap64 (rd l (b : Int) + a4) - p.1)
        · rw [if_pos (show _ > _ from c2), if_pos c2, decide_eq_true c2, Bool.or_true]
        · rw [if_neg (show ¬ _ > _ from c2), if_neg c2, decide_eq_false c2, Bool.or_false]
theorem least_l1 (x7 : Int) (d : Nat) : ∀ (a : Nat) (q : List Int × Bool) (r : List Int × Bool × Int × Int × Int × Int × Int), (a : Int) + d = n → (q.1.length : Int) = n →
    Ev (fun k => spec_l06Least.l1 k period ((linksFrom (pathO n gates data a5 a6) n.toNat a d).foldl (stepK a3 a4 period) q).1 x7 ((linksFrom (pathO n gates data a5 a6) n.toNat a d).foldl (stepK a3 a4 period) q).2 n n gates data a3 a4 a5 a6) r →
    Ev (fun k => spec_l06Least.l1 k period q.1 x7 q.2 (a : Int) n gates data a3 a4 a5 a6) r := by
  have hn := C.gs.n0
  have hn1 := C.gs.n1
  induction d with
  | zero =>
    rintro a q r ha hq hE
    have : (a : Int) = n := by omega
    rw [this]
    exact hE
  | succ d ih =>
    intro a q r ha hq hE
    have hw : wrap64 ((a : Int) + 1) = (a : Int) + 1 := wrap_id (by omega) (by omega)
    simp only [linksFrom, List.foldl_append] at hE
    have h1 := ih (a + 1) _ r (by omega) (by rw [stepK_fold_len a3 a4 period]; exact hq) hE
    obtain ⟨K, hK⟩ := least_l2 n a3 a4 a5 a6 gates data C period x7 (a : Int) (by omega) (by omega) n.toNat 0 q r (by omega) hq (by rw [hw]; exact_mod_cast h1)
    refine ⟨K + 1, fun k hk => ?_⟩
    obtain ⟨k, rfl⟩ : ∃ m, k = m + 1 := ⟨k - 1, by omega⟩
    have := hK k (by omega)
    simp only [spec_l06Least.l1]
    rw [if_pos (by omega)]
    exact this
theorem least_l0 (hw : ∀ g ∈ gates, g.f2.length ≤ 1048576) (hd : data.length ≤ 1048576) (rd_ : Nat) : ∀ (x7 : Int) (l : List Int), 0 ≤ x7 → x7 + rd_ = n + 1 → (l.length : Int) = n →
    ∃ res : List Int × Bool, Ev (fun k => spec_l06Least.l0 k period l x7 n gates data a3 a4 a5 a6) (res.1, res.2, n, a3, a4, a5, a6) ∧
      (∀ l', skRounds a3 a4 period (linksOf (pathO n gates data a5 a6) n.toNat) rd_ l = some l' → res = (l', skewsB n gates data a3 a4 a5 a6 l')) ∧ (skRounds a3 a4 period (linksOf (pathO n gates data a5 a6) n.toNat) rd_ l = none → res.2 = false) := by
  have hn := C.gs.n0
  have hn1 := C.gs.n1
  induction rd_ with
  | zero =>
    intro x7 l h0 h1 hl
    refine ⟨(l, false), ⟨1, fun k hk => ?_⟩, fun l' h => by simp [skRounds] at h, fun _ => rfl⟩
    obtain ⟨k, rfl⟩ : ∃ m, k = m + 1 := ⟨k - 1, by omega⟩
    simp only [spec_l06Least.l0]
    rw [if_neg (by omega)]
  | succ rd_ ih =>
    intro x7 l h0 h1 hl
    have hw1 : wrap64 (x7 + 1) = x7 + 1 := wrap_id (by omega) (by omega)
    have hlen := stepK_fold_len a3 a4 period (linksOf (pathO n gates data a5 a6) n.toNat) (l, false)
    cases hf : ((linksOf (pathO n gates data a5 a6) n.toNat).foldl (stepK a3 a4 period) (l, false)).2 with
    | true =>
      obtain ⟨res, hE, h2, h3⟩ := ih (x7 + 1) ((linksOf (pathO n gates data a5 a6) n.toNat).foldl (stepK a3 a4 period) (l, false)).1 (by omega) (by omega) (by rw [hlen]; exact hl)
      have hr : skRounds a3 a4 period (linksOf (pathO n gates data a5 a6) n.toNat) (rd_ + 1) l = skRounds a3 a4 period (linksOf (pathO n gates data a5 a6) n.toNat) rd_ ((linksOf (pathO n gates data a5 a6) n.toNat).foldl (stepK a3 a4 period) (l, false)).1 := by
        show (if _ then _ else _) = _
        rw [hf, if_pos rfl]
      rw [hr]
      refine ⟨res, ?_, h2, h3⟩
      obtain ⟨K, hK⟩ := hE
      obtain ⟨K2, hK2⟩ := least_l1 n a3 a4 a5 a6 gates data C period x7 n.toNat 0 (l, false) (res.1, res.2, n, a3, a4, a5, a6) (by omega) hl ⟨K + 1, fun k hk => by
        obtain ⟨k, rfl⟩ : ∃ m, k = m + 1 := ⟨k - 1, by omega⟩
        have hK1 := hK k (by omega)
        show spec_l06Least.l1 (k + 1) period ((linksOf (pathO n gates data a5 a6) n.toNat).foldl (stepK a3 a4 period) (l, false)).1 x7 ((linksOf (pathO n gates data a5 a6) n.toNat).foldl (stepK a3 a4 period) (l, false)).2 n n gates data a3 a4 a5 a6 = _
        simp only [spec_l06Least.l1]
        rw [if_neg (by omega), hf, if_pos rfl, hw1]
        exact hK1⟩
      refine ⟨K2 + 1, fun k hk => ?_⟩
      obtain ⟨k, rfl⟩ : ∃ m, k = m + 1 := ⟨k - 1, by omega⟩
      have := hK2 k (by omega)
      simp only [spec_l06Least.l0]
      rw [if_pos (by omega)]
      exact this
    | false =>
      have hr : skRounds a3 a4 period (linksOf (pathO n gates data a5 a6) n.toNat) (rd_ + 1) l = some ((linksOf (pathO n gates data a5 a6) n.toNat).foldl (stepK a3 a4 period) (l, false)).1 := by
        show (if _ then _ else _) = _
        rw [hf, if_neg (by decide)]
      rw [hr]
      refine ⟨(((linksOf (pathO n gates data a5 a6) n.toNat).foldl (stepK a3 a4 period) (l, false)).1, skewsB n gates data a3 a4 a5 a6 ((linksOf (pathO n gates data a5 a6) n.toNat).foldl (stepK a3 a4 period) (l, false)).1), ?_, fun l' h => by rw [← Option.some.inj h], fun h => by cases h⟩
      dsimp only at hlen
      obtain ⟨K2, hK2⟩ := least_l1 n a3 a4 a5 a6 gates data C period x7 n.toNat 0 (l, false) (((linksOf (pathO n gates data a5 a6) n.toNat).foldl (stepK a3 a4 period) (l, false)).1, skewsB n gates data a3 a4 a5 a6 ((linksOf (pathO n gates data a5 a6) n.toNat).foldl (stepK a3 a4 period) (l, false)).1, n, a3, a4, a5, a6) (by omega) hl ⟨2500001, fun k hk => by
        obtain ⟨k, rfl⟩ : ∃ m, k = m + 1 := ⟨k - 1, by omega⟩
        show spec_l06Least.l1 (k + 1) period ((linksOf (pathO n gates data a5 a6) n.toNat).foldl (stepK a3 a4 period) (l, false)).1 x7 ((linksOf (pathO n gates data a5 a6) n.toNat).foldl (stepK a3 a4 period) (l, false)).2 n n gates data a3 a4 a5 a6 = _
        simp only [spec_l06Least.l1]
        rw [if_neg (by omega), hf, if_neg (by decide), specSkews n gates data a3 a4 a5 a6 _ hw hd (by omega) k (by omega)]
        rfl⟩
      refine ⟨K2 + 1, fun k hk => ?_⟩
      obtain ⟨k, rfl⟩ : ∃ m, k = m + 1 := ⟨k - 1, by omega⟩
      have := hK2 k (by omega)
      simp only [spec_l06Least.l0]
      rw [if_pos (by omega)]
      exact this
end
/-- The rounds' end for a period. -/
def skEnd (n : Int) (gates : List S62) (data : List Int) (a3 a4 a5 a6 period : Int) : Option (List Int) := skRounds a3 a4 period (linksOf (pathO n gates data a5 a6) n.toNat) (n + 1).toNat (List.replicate n.toNat 0)
/-- Whether there are least skews. -/
def skOk (n : Int) (gates : List S62) (data : List Int) (a3 a4 a5 a6 period : Int) : Bool := match skEnd n gates data a3 a4 a5 a6 period with
  | none => false
  | some l => skewsB n gates data a3 a4 a5 a6 l
def skList (n : Int) (gates : List S62) (data : List Int) (a3 a4 a5 a6 period : Int) : List Int := match skEnd n gates data a3 a4 a5 a6 period with
  | none => []
  | some l => l
theorem specLeast (n a3 a4 a5 a6 : Int) (gates : List S62) (data : List Int) (C : Ready n gates data) (hw : ∀ g ∈ gates, g.f2.length ≤ 1048576) (hd : data.length ≤ 1048576) (period : Int) :
    ∃ l, Ev (fun k => spec_l06Least.f k n gates data a3 a4 a5 a6 period) (l, skOk n gates data a3 a4 a5 a6 period, n, a3, a4, a5, a6) ∧ (skOk n gates data a3 a4 a5 a6 period = true → l = skList n gates data a3 a4 a5 a6 period) := by
  have hn := C.gs.n0
  have hn1 := C.gs.n1
  obtain ⟨res, ⟨K, hK⟩, h1, h2⟩ := least_l0 n a3 a4 a5 a6 gates data C period hw hd (n + 1).toNat 0 (List.replicate n.toNat 0) (by omega) (by omega) (by simp; omega)
  have key : res.2 = skOk n gates data a3 a4 a5 a6 period ∧ (skOk n gates data a3 a4 a5 a6 period = true → res.1 = skList n gates data a3 a4 a5 a6 period) := by
    unfold skOk skList
    cases hr : skEnd n gates data a3 a4 a5 a6 period with
    | none => exact ⟨h2 hr, fun h => by cases h⟩
    | some l => rw [h1 l hr]; exact ⟨rfl, fun _ => rfl⟩
  refine ⟨res.1, ⟨K + 1, fun k hk => ?_⟩, key.2⟩
  show spec_l06Least.f k n gates data a3 a4 a5 a6 period = _
  unfold spec_l06Least.f
  rw [if_pos (by omega), if_pos (by omega), ← key.1]
  exact hK k (by omega)
theorem link_ok {n a3 a4 a5 a6 : Int} {gates : List S62} {data : List Int} (C : Circ n gates data a3 a4 a5 a6) (hw : ∀ g ∈ gates, g.f2.length ≤ 1048576) : ∀ x ∈ linksOf (pathO n gates data a5 a6) n.toNat, LinkOk n.toNat x := by
  intro x hx
  have R := C.ready hw
  have hn := C.n0
  have hl := C.least
  obtain ⟨h0, h1, h2, h3, hp⟩ := linksOf_mem _ _ x hx
  unfold pathO at hp
  obtain ⟨p, hp1, hp2⟩ := Option.map_eq_some_iff.mp hp
  have hb : Bd 1000 (((tab x.f0 n gates).getD (rd data x.f1).toNat none)) := getD_bd (tab_bd x.f0 n gates R.gs) _
  obtain ⟨b0, b1, b2⟩ := hb p hp1
  injection hp2 with e1 e2
  rw [wrap_id (by omega) (by omega)] at e1 e2
  exact ⟨h0, h1, h2, h3, by omega, by omega, by omega, by omega⟩
theorem implLeast (n a3 a4 a5 a6 : Int) (gates : List S62) (data : List Int) (C : Ready n gates data) (period : Int) :
    Ev (fun k => impl_leastSkews.f k n gates data a3 a4 a5 a6 period) (skList n gates data a3 a4 a5 a6 period, skOk n gates data a3 a4 a5 a6 period) := by
  have hn := C.gs.n0
  have hn1 := C.gs.n1
  obtain ⟨K, hK⟩ := links_tells n a3 a4 a5 a6 gates data C
  refine ⟨K, fun k hk => ?_⟩
  have k1 : impl_Circuit_links.f k n gates data a3 a4 a5 a6 = _ := hK k hk
  have hall : (linksOf (pathO n gates data a5 a6) n.toNat).all (linkB n) = true := by
    rw [List.all_eq_true]
    intro x hx
    have := linksOf_mem _ _ x hx
    unfold linkB
    simp only [Bool.and_eq_true, decide_eq_true_eq]
    omega
  show impl_leastSkews.f k n gates data a3 a4 a5 a6 period = _
  unfold impl_leastSkews.f
  rw [k1]
  simp only [Option.bind_some]
  rw [if_pos ⟨hn, by omega, hall⟩]
  unfold skOk skList skEnd
  cases skRounds a3 a4 period (linksOf (pathO n gates data a5 a6) n.toNat) (n + 1).toNat (List.replicate n.toNat 0) with
  | none => rfl
  | some l => dsimp only; rw [implSkews]; rfl
/-- There are least skews exactly if some skews keep every way. -/
theorem skOk_iff {n a3 a4 a5 a6 : Int} {gates : List S62} {data : List Int} (hw : ∀ g ∈ gates, g.f2.length ≤ 1048576) (hv : validB n gates data a3 a4 a5 a6 = true) (period : Int) (hp0 : 1 ≤ period) (hp1 : period ≤ 100000) :
    skOk n gates data a3 a4 a5 a6 period = true ↔ Keeps n.toNat a3 a4 period (linksOf (pathO n gates data a5 a6) n.toNat) := by
  have C := circ_of n gates data a3 a4 a5 a6 hw hv
  have hn := C.n0
  have hl := link_ok C hw
  have e : (n + 1).toNat = n.toNat + 1 := by omega
  unfold skOk skEnd
  rw [e]
  constructor
  · intro h
    cases hr : skRounds a3 a4 period (linksOf (pathO n gates data a5 a6) n.toNat) (n.toNat + 1) (List.replicate n.toNat 0) with
    | none => rw [hr] at h; cases h
    | some l =>
      rw [hr] at h
      have h : skewsB n gates data a3 a4 a5 a6 l = true := h
      unfold skewsB at h
      simp only [Bool.and_eq_true, decide_eq_true_eq, List.all_eq_true, inB_iff] at h
      have hb : ∀ i, i < n.toNat → 0 ≤ fnOf l i ∧ fnOf l i ≤ 100000 := fun i hi => by
        have : i < l.length := by omega
        unfold fnOf
        rw [List.getD_eq_getElem?_getD, List.getElem?_eq_getElem this]
        exact h.2 _ (List.getElem_mem this)
      exact ⟨fnOf l, skRounds_keeps C.setup.1 C.setup.2 C.hold.1 C.hold.2 hp0 hp1 _ hl _ _ l (by simp) hr hb, fun i hi => (hb i hi).2⟩
  · rintro ⟨t, h1, h2⟩
    obtain ⟨l, hr, hlen, hb⟩ := skRounds_some C.setup.1 C.setup.2 C.hold.1 C.hold.2 hp0 hp1 _ hl h1 h2
    rw [hr]
    show skewsB n gates data a3 a4 a5 a6 l = true
    unfold skewsB
    simp only [Bool.and_eq_true, decide_eq_true_eq, List.all_eq_true, inB_iff]
    refine ⟨⟨hv, by omega⟩, fun x hx => ?_⟩
    obtain ⟨i, hi, rfl⟩ := List.getElem_of_mem hx
    have h3 := hb i (by omega)
    have h4 := h2 i (by omega)
    unfold fnOf at h3
    rw [List.getD_eq_getElem?_getD, List.getElem?_eq_getElem hi] at h3
    have h3 : 0 ≤ l[i] ∧ l[i] ≤ t i := h3
    omega
end Go.Proofs.Ytalafmahgeejiaa.Pure

namespace Go.Proofs.Ytalafmahgeejiaa.Pa
open Go.RowKit Go.Proofs.YtalafmahgeejiaaW.PrintWords Go.Proofs.YtalafmahgeejiaaW.PrintLast Go.Proofs.YtalafmahgeejiaaW.PrintMore
attribute [local go_sem] max2_int min2_int max_two min_two max_three min_three max_four min_four   -- for this text's walks alone
set_option linter.unusedVariables false
set_option linter.unusedSimpArgs false

/-! ### impl_LeastSkewedPeriod: function 40 -/
def impl_LeastSkewedPeriod.l0 : Nat → Int → Int → Int → List (S62) → List Int → Int → Int → Int → Int → Option (Int × Bool)
 | 0, _, _, _, _, _, _, _, _, _ => none
 | k + 1, x4, x5, x718000, x718001, x718002, x718003, x718004, x718005, x718006 => if x4 < x5 then ((impl_leastSkews.f k x718000 x718001 x718002 x718003 x718004 x718005 x718006 (wrap64 (Int.tdiv (wrap64 (x4 + x5)) 2))).bind fun bt723 => (if bt723.2 = true then (impl_LeastSkewedPeriod.l0 k x4 (wrap64 (Int.tdiv (wrap64 (x4 + x5)) 2)) x718000 x718001 x718002 x718003 x718004 x718005 x718006) else (impl_LeastSkewedPeriod.l0 k (wrap64 ((wrap64 (Int.tdiv (wrap64 (x4 + x5)) 2)) + 1)) x5 x718000 x718001 x718002 x718003 x718004 x718005 x718006))) else (some (x4, true))
def impl_LeastSkewedPeriod.f (k : Nat) (a0_0 : Int) (l0_1 : List (S62)) (l0_2 : List Int) (a0_3 : Int) (a0_4 : Int) (a0_5 : Int) (a0_6 : Int) : Option (Int × Bool) := (impl_ValidCircuit.f a0_0 l0_1 l0_2 a0_3 a0_4 a0_5 a0_6).bind fun t718 => (if t718 = true then ((impl_leastSkews.f k a0_0 l0_1 l0_2 a0_3 a0_4 a0_5 a0_6 100000).bind fun bt719 => (if bt719.2 = true then (impl_LeastSkewedPeriod.l0 k 1 100000 a0_0 l0_1 l0_2 a0_3 a0_4 a0_5 a0_6) else (some (0, false)))) else (some (0, false)))
set_option maxHeartbeats 8000000 in
set_option maxRecDepth 100000 in
theorem impl_LeastSkewedPeriod.calls (k : Nat) (a0_0 : Int) (A0_1 : Option Addr) (c0_1 : Nat) (l0_1 : List (S62)) (A0_2 : Option Addr) (c0_2 : Nat) (l0_2 : List Int) (a0_3 : Int) (a0_4 : Int) (a0_5 : Int) (a0_6 : Int) (r1 : Int) (r2 : Bool) (w : World) (hr0_1 : Kd.C k62 w A0_1 l0_1.length l0_1) (hc0_1 : l0_1.length ≤ c0_1) (hr0_2 : Kd.C (Kd.int .i64) w A0_2 l0_2.length l0_2) (hc0_2 : l0_2.length ≤ c0_2) (h : impl_LeastSkewedPeriod.f k a0_0 l0_1 l0_2 a0_3 a0_4 a0_5 a0_6 = some (r1, r2)) :
  Calls Try.prog 40 #[.agg #[.int .i64 a0_0, .slice A0_1 l0_1.length c0_1, .slice A0_2 l0_2.length c0_2, .int .i64 a0_3, .int .i64 a0_4, .int .i64 a0_5, .int .i64 a0_6]] w fun e w' => e = .returned (.tuple #[.int .i64 r1, .bool r2]) ∧ Below w.heap.size w w' := by
 have hu30 := Try.underlying30
 have HR0_1 := Aside0.mk hr0_1
 have HC0_1 := Aside0.mk hc0_1
 clear hr0_1 hc0_1
 have HR0_2 := Aside0.mk hr0_2
 have HC0_2 := Aside0.mk hc0_2
 clear hr0_2 hc0_2
 have HB := Aside0.mk (Below.refl w.heap.size w)
 have H : ((impl_ValidCircuit.f a0_0 l0_1 l0_2 a0_3 a0_4 a0_5 a0_6).bind fun t718 => (if t718 = true then ((impl_leastSkews.f k a0_0 l0_1 l0_2 a0_3 a0_4 a0_5 a0_6 100000).bind fun bt719 => (if bt719.2 = true then (impl_LeastSkewedPeriod.l0 k 1 100000 a0_0 l0_1 l0_2 a0_3 a0_4 a0_5 a0_6) else (some (0, false)))) else (some (0, false)))) = some (r1, r2) := h
 clear h
 replace H := Option.bind_eq_some_iff.mp H
 obtain ⟨t718, A20, H⟩ := H
 replace H : (if t718 = true then ((impl_leastSkews.f k a0_0 l0_1 l0_2 a0_3 a0_4 a0_5 a0_6 100000).bind fun bt719 => (if bt719.2 = true then (impl_LeastSkewedPeriod.l0 k 1 100000 a0_0 l0_1 l0_2 a0_3 a0_4 a0_5 a0_6) else (some (0, false)))) else (some (0, false))) = some (r1, r2) := H
 have A2 := Aside0.mk A20
 clear A20
 by_cases c3 : t718 = true
 ·subst c3
  have H1 : ((impl_leastSkews.f k a0_0 l0_1 l0_2 a0_3 a0_4 a0_5 a0_6 100000).bind fun bt719 => (if bt719.2 = true then (impl_LeastSkewedPeriod.l0 k 1 100000 a0_0 l0_1 l0_2 a0_3 a0_4 a0_5 a0_6) else (some (0, false)))) = some (r1, r2) := by rw [if_pos rfl] at H; exact H
  clear H
  have H := H1
  clear H1
  replace H := Option.bind_eq_some_iff.mp H
  obtain ⟨⟨t719, t722⟩, A40, H⟩ := H
  replace H : (if t722 = true then (impl_LeastSkewedPeriod.l0 k 1 100000 a0_0 l0_1 l0_2 a0_3 a0_4 a0_5 a0_6) else (some (0, false))) = some (r1, r2) := H
  have A4 := Aside0.mk A40
  clear A40
  by_cases c5 : t722 = true
  ·subst c5
   have H1 : (impl_LeastSkewedPeriod.l0 k 1 100000 a0_0 l0_1 l0_2 a0_3 a0_4 a0_5 a0_6) = some (r1, r2) := by rw [if_pos rfl] at H; exact H
   clear H
   have H := H1
   clear H1
   have H' := Aside0.mk H
   clear H
   go_enter Try.func40, Try.ntmps40
   go_wp2_with (first | ((with_reducible refine gate_dst (N := 1) rfl ?_); refine box_event ?hg (N := 1) ?hd (cs := #[.int .i64 a0_0, .slice A0_1 l0_1.length c0_1, .slice A0_2 l0_2.length c0_2, .int .i64 a0_3, .int .i64 a0_4, .int .i64 a0_5, .int .i64 a0_6]) (t := 30) ?hr ?_; (case hd => rfl); (case hg => rfl); (case hr => first | (go_simp; done) | (go_simp; rfl)); intro gb717 hg w6 hbox hb; have n0_ := Aside0.mk (below_step (by repeat (first | (with_reducible first | exact HB.out | apply below_alloc | apply pw_below_drewN | apply below_drew1) | exact HB.out)) hb); have n1_ := Aside0.mk (hbox); have n2_ := Aside0.mk ((by rw [hg]; exact (below_size (by repeat (first | (with_reducible first | exact HB.out | apply below_alloc | apply pw_below_drewN | apply below_drew1) | exact HB.out))) : w.heap.size ≤ gb717)); have n3_ := Aside0.mk ((by rw [hg]; exact (below_size (by repeat (first | (with_reducible first | exact HB.out | apply below_alloc | apply pw_below_drewN | apply below_drew1) | exact HB.out))) : w.heap.size ≤ gb717)); clear HB; have HB := n0_; have BK717 := n1_; have GW717 := n2_; have GE717 := n3_; clear n0_ n1_ n2_ n3_; clear hb hbox hg; have hcz7_0 : w6.cell? ⟨gb717, 0, none⟩ = some (.int .i64 a0_0) := (blk_cell BK717.out 0).trans rfl; have hcz7_1 : w6.cell? ⟨gb717, 1, none⟩ = some (.slice A0_1 l0_1.length c0_1) := (blk_cell BK717.out 1).trans rfl; have hcz7_2 : w6.cell? ⟨gb717, 2, none⟩ = some (.slice A0_2 l0_2.length c0_2) := (blk_cell BK717.out 2).trans rfl; have hcz7_3 : w6.cell? ⟨gb717, 3, none⟩ = some (.int .i64 a0_3) := (blk_cell BK717.out 3).trans rfl; have hcz7_4 : w6.cell? ⟨gb717, 4, none⟩ = some (.int .i64 a0_4) := (blk_cell BK717.out 4).trans rfl; have hcz7_5 : w6.cell? ⟨gb717, 5, none⟩ = some (.int .i64 a0_5) := (blk_cell BK717.out 5).trans rfl; have hcz7_6 : w6.cell? ⟨gb717, 6, none⟩ = some (.int .i64 a0_6) := (blk_cell BK717.out 6).trans rfl; have hfz7_0 := blk_frozen BK717.out 0; have hfz7_1 := blk_frozen BK717.out 1; have hfz7_2 := blk_frozen BK717.out 2; have hfz7_3 := blk_frozen BK717.out 3; have hfz7_4 := blk_frozen BK717.out 4; have hfz7_5 := blk_frozen BK717.out 5; have hfz7_6 := blk_frozen BK717.out 6) | ((with_reducible refine gate_callee (f := 17) rfl ?_); refine goesL_ (some 12) rfl rfl Try.func17 (by kernel_rfl) rfl #[.agg #[.int .i64 a0_0, .slice A0_1 l0_1.length c0_1, .slice A0_2 l0_2.length c0_2, .int .i64 a0_3, .int .i64 a0_4, .int .i64 a0_5, .int .i64 a0_6]] rfl (by (try simp only [List.map_toArray, List.map_cons, List.map_nil]); first | done | rfl | (simp only [List.length_drop, List.length_take]; rfl)) ?_; (with_reducible refine (impl_ValidCircuit.calls a0_0 _ _ l0_1 _ _ l0_2 a0_3 a0_4 a0_5 a0_6 true _ ?side1 ?side2 ?side3 ?side4 A2.out).mono ?_); (case side1 => repeat (first | exact (Kd.C_below HR0_1.out HB.out) | (with_reducible refine Kd.C_alloc ?_ _) | (with_reducible refine Kd.C_drewN ?_ _) | (with_reducible refine Kd.C_drew ?_))); (case side2 => exact HC0_1.out); (case side3 => repeat (first | exact (Kd.C_below HR0_2.out HB.out) | (with_reducible refine Kd.C_alloc ?_ _) | (with_reducible refine Kd.C_drewN ?_ _) | (with_reducible refine Kd.C_drew ?_))); (case side4 => exact HC0_2.out); rintro e w8 ⟨rfl, hb⟩; refine ⟨_, rfl, ?_⟩; have n0_ := Aside0.mk (blk_below (g := gb717) (o := .cells #[.int .i64 a0_0, .slice A0_1 l0_1.length c0_1, .slice A0_2 l0_2.length c0_2, .int .i64 a0_3, .int .i64 a0_4, .int .i64 a0_5, .int .i64 a0_6] 30 (0, 0)) (by (with_reducible repeat (first | refine blk_drewN ?_ _ | refine blk_drew ?_ | refine blk_alloc ?_ _)); exact BK717.out) hb); have n1_ := Aside0.mk (below_step (by repeat (first | (with_reducible first | exact HB.out | apply below_alloc | apply pw_below_drewN | apply below_drew1 | refine below_set ?_ GE717.out) | exact HB.out)) hb); clear BK717; clear HB; have BK717 := n0_; have HB := n1_; clear n0_ n1_; (try clear hb); (try clear hb2); (try clear hk); (try clear hi); have hcz9_0 : w8.cell? ⟨gb717, 0, none⟩ = some (.int .i64 a0_0) := (blk_cell BK717.out 0).trans rfl; have hcz9_1 : w8.cell? ⟨gb717, 1, none⟩ = some (.slice A0_1 l0_1.length c0_1) := (blk_cell BK717.out 1).trans rfl; have hcz9_2 : w8.cell? ⟨gb717, 2, none⟩ = some (.slice A0_2 l0_2.length c0_2) := (blk_cell BK717.out 2).trans rfl; have hcz9_3 : w8.cell? ⟨gb717, 3, none⟩ = some (.int .i64 a0_3) := (blk_cell BK717.out 3).trans rfl; have hcz9_4 : w8.cell? ⟨gb717, 4, none⟩ = some (.int .i64 a0_4) := (blk_cell BK717.out 4).trans rfl; have hcz9_5 : w8.cell? ⟨gb717, 5, none⟩ = some (.int .i64 a0_5) := (blk_cell BK717.out 5).trans rfl; have hcz9_6 : w8.cell? ⟨gb717, 6, none⟩ = some (.int .i64 a0_6) := (blk_cell BK717.out 6).trans rfl; have hfz9_0 := blk_frozen BK717.out 0; have hfz9_1 := blk_frozen BK717.out 1; have hfz9_2 := blk_frozen BK717.out 2; have hfz9_3 := blk_frozen BK717.out 3; have hfz9_4 := blk_frozen BK717.out 4; have hfz9_5 := blk_frozen BK717.out 5; have hfz9_6 := blk_frozen BK717.out 6) | ((with_reducible refine gate_callee (f := 74) rfl ?_); refine goesL_ (some 17) rfl rfl Try.func74 (by kernel_rfl) rfl #[.agg #[.int .i64 a0_0, .slice A0_1 l0_1.length c0_1, .slice A0_2 l0_2.length c0_2, .int .i64 a0_3, .int .i64 a0_4, .int .i64 a0_5, .int .i64 a0_6], .int .i64 100000] rfl (by (try simp only [List.map_toArray, List.map_cons, List.map_nil]); first | done | rfl | (simp only [List.length_drop, List.length_take]; rfl)) ?_; (with_reducible refine (impl_leastSkews.calls k a0_0 _ _ l0_1 _ _ l0_2 a0_3 a0_4 a0_5 a0_6 100000 t719 true _ ?side1 ?side2 ?side3 ?side4 A4.out).mono ?_); (case side1 => repeat (first | exact (Kd.C_below HR0_1.out HB.out) | (with_reducible refine Kd.C_alloc ?_ _) | (with_reducible refine Kd.C_drewN ?_ _) | (with_reducible refine Kd.C_drew ?_))); (case side2 => exact HC0_1.out); (case side3 => repeat (first | exact (Kd.C_below HR0_2.out HB.out) | (with_reducible refine Kd.C_alloc ?_ _) | (with_reducible refine Kd.C_drewN ?_ _) | (with_reducible refine Kd.C_drew ?_))); (case side4 => exact HC0_2.out); rintro e w10 ⟨v720, rfl, ho0, hb⟩; refine ⟨_, rfl, ?_⟩; have n0_ := Aside0.mk (Kd.R_lower ho0 (below_size (by repeat (first | (with_reducible first | exact HB.out | apply below_alloc | apply pw_below_drewN | apply below_drew1 | refine below_set ?_ GE717.out) | exact HB.out)))); have n1_ := Aside0.mk (blk_below (g := gb717) (o := .cells #[.int .i64 a0_0, .slice A0_1 l0_1.length c0_1, .slice A0_2 l0_2.length c0_2, .int .i64 a0_3, .int .i64 a0_4, .int .i64 a0_5, .int .i64 a0_6] 30 (0, 0)) (by (with_reducible repeat (first | refine blk_drewN ?_ _ | refine blk_drew ?_ | refine blk_alloc ?_ _)); exact BK717.out) hb); have n2_ := Aside0.mk (below_step (by repeat (first | (with_reducible first | exact HB.out | apply below_alloc | apply pw_below_drewN | apply below_drew1 | refine below_set ?_ GE717.out) | exact HB.out)) hb); clear BK717; clear HB; have HO721 := n0_; have BK717 := n1_; have HB := n2_; clear n0_ n1_ n2_; (try clear hb); (try clear hb2); (try clear hk); (try clear hi); (try clear ho0)))
   go_loopg [4, 5] k (fun kq v4 v5 w' => ∃ (x4_1 : Int) (x5_1 : Int), v4 = .int .i64 x4_1 ∧ v5 = .int .i64 x5_1 ∧ Aside0 (impl_LeastSkewedPeriod.l0 kq x4_1 x5_1 a0_0 l0_1 l0_2 a0_3 a0_4 a0_5 a0_6 = some (r1, r2)) ∧ Aside0 (kq ≤ k) ∧ Aside0 (w'.heap[gb717]? = some (.cells #[.int .i64 a0_0, (.slice A0_1 l0_1.length c0_1), (.slice A0_2 l0_2.length c0_2), .int .i64 a0_3, .int .i64 a0_4, .int .i64 a0_5, .int .i64 a0_6] 30 (0, 0))) ∧ Aside0 (Below w.heap.size w w'))
   case atStart => exact ⟨(1), (100000), (by first | rfl | (simp; done) | (simp [*]; done)), (by first | rfl | (simp; done) | (simp [*]; done)), H', ⟨Nat.le_refl _⟩, ⟨by (with_reducible repeat (first | refine blk_drewN ?_ _ | refine blk_drew ?_ | refine blk_alloc ?_ _)); exact BK717.out⟩, ⟨by repeat (first | (with_reducible first | exact HB.out | apply below_alloc | apply pw_below_drewN | apply below_drew1 | refine below_set ?_ GE717.out) | exact HB.out)⟩⟩
   case round =>
    clear H'
    try clear c1
    try clear p2
    try clear c3
    try clear c4
    try clear c5
    try clear c7
    try clear hcz7_0
    try clear hcz7_1
    try clear hcz7_2
    try clear hcz7_3
    try clear hcz7_4
    try clear hcz7_5
    try clear hcz7_6
    try clear hcz9_0
    try clear hcz9_1
    try clear hcz9_2
    try clear hcz9_3
    try clear hcz9_4
    try clear hcz9_5
    try clear hcz9_6
    try clear hfz7_0
    try clear hfz7_1
    try clear hfz7_2
    try clear hfz7_3
    try clear hfz7_4
    try clear hfz7_5
    try clear hfz7_6
    try clear hfz9_0
    try clear hfz9_1
    try clear hfz9_2
    try clear hfz9_3
    try clear hfz9_4
    try clear hfz9_5
    try clear hfz9_6
    obtain ⟨x4_1, x5_1, rfl, rfl, HA, HK1, BK717, HB⟩ := hrel
    cases gk with
    | zero => exact absurd HA.out (by simp [impl_LeastSkewedPeriod.l0])
    | succ k1 =>
     have H := HA.out
     clear HA
     simp only [impl_LeastSkewedPeriod.l0] at H
     by_cases c11 : x4_1 < x5_1
     ·rw [if_pos c11] at H
      have c11b0 : decide (x4_1 < x5_1) = true := decide_eq_true c11
      clear c11
      replace H := Option.bind_eq_some_iff.mp H
      obtain ⟨⟨t723, t726⟩, A120, H⟩ := H
      replace H : (if t726 = true then (impl_LeastSkewedPeriod.l0 k1 x4_1 (wrap64 (Int.tdiv (wrap64 (x4_1 + x5_1)) 2)) a0_0 l0_1 l0_2 a0_3 a0_4 a0_5 a0_6) else (impl_LeastSkewedPeriod.l0 k1 (wrap64 ((wrap64 (Int.tdiv (wrap64 (x4_1 + x5_1)) 2)) + 1)) x5_1 a0_0 l0_1 l0_2 a0_3 a0_4 a0_5 a0_6)) = some (r1, r2) := H
      have A12 := Aside0.mk A120
      clear A120
      by_cases c13 : t726 = true
      ·subst c13
       have H1 : (impl_LeastSkewedPeriod.l0 k1 x4_1 (wrap64 (Int.tdiv (wrap64 (x4_1 + x5_1)) 2)) a0_0 l0_1 l0_2 a0_3 a0_4 a0_5 a0_6) = some (r1, r2) := by rw [if_pos rfl] at H; exact H
       clear H
       have H := H1
       clear H1
       have H' := Aside0.mk H
       clear H
       have hcz14_0 : wr.cell? ⟨gb717, 0, none⟩ = some (.int .i64 a0_0) := (blk_cell BK717.out 0).trans rfl
       have hcz14_1 : wr.cell? ⟨gb717, 1, none⟩ = some (.slice A0_1 l0_1.length c0_1) := (blk_cell BK717.out 1).trans rfl
       have hcz14_2 : wr.cell? ⟨gb717, 2, none⟩ = some (.slice A0_2 l0_2.length c0_2) := (blk_cell BK717.out 2).trans rfl
       have hcz14_3 : wr.cell? ⟨gb717, 3, none⟩ = some (.int .i64 a0_3) := (blk_cell BK717.out 3).trans rfl
       have hcz14_4 : wr.cell? ⟨gb717, 4, none⟩ = some (.int .i64 a0_4) := (blk_cell BK717.out 4).trans rfl
       have hcz14_5 : wr.cell? ⟨gb717, 5, none⟩ = some (.int .i64 a0_5) := (blk_cell BK717.out 5).trans rfl
       have hcz14_6 : wr.cell? ⟨gb717, 6, none⟩ = some (.int .i64 a0_6) := (blk_cell BK717.out 6).trans rfl
       have hfz14_0 := blk_frozen BK717.out 0
       have hfz14_1 := blk_frozen BK717.out 1
       have hfz14_2 := blk_frozen BK717.out 2
       have hfz14_3 := blk_frozen BK717.out 3
       have hfz14_4 := blk_frozen BK717.out 4
       have hfz14_5 := blk_frozen BK717.out 5
       have hfz14_6 := blk_frozen BK717.out 6
       go_wp2_with (first | ((with_reducible refine gate_callee (f := 74) rfl ?_); refine goesL_ (some 32) rfl rfl Try.func74 (by kernel_rfl) rfl #[.agg #[.int .i64 a0_0, .slice A0_1 l0_1.length c0_1, .slice A0_2 l0_2.length c0_2, .int .i64 a0_3, .int .i64 a0_4, .int .i64 a0_5, .int .i64 a0_6], .int .i64 (wrap64 (Int.tdiv (wrap64 (x4_1 + x5_1)) 2))] rfl (by (try simp only [List.map_toArray, List.map_cons, List.map_nil]); first | done | rfl | (simp only [List.length_drop, List.length_take]; rfl)) ?_; (with_reducible refine (impl_leastSkews.calls k1 a0_0 _ _ l0_1 _ _ l0_2 a0_3 a0_4 a0_5 a0_6 (wrap64 (Int.tdiv (wrap64 (x4_1 + x5_1)) 2)) t723 true _ ?side1 ?side2 ?side3 ?side4 A12.out).mono ?_); (case side1 => repeat (first | exact (Kd.C_below HR0_1.out HB.out) | (with_reducible refine Kd.C_alloc ?_ _) | (with_reducible refine Kd.C_drewN ?_ _) | (with_reducible refine Kd.C_drew ?_))); (case side2 => exact HC0_1.out); (case side3 => repeat (first | exact (Kd.C_below HR0_2.out HB.out) | (with_reducible refine Kd.C_alloc ?_ _) | (with_reducible refine Kd.C_drewN ?_ _) | (with_reducible refine Kd.C_drew ?_))); (case side4 => exact HC0_2.out); rintro e w15 ⟨v724, rfl, ho0, hb⟩; refine ⟨_, rfl, ?_⟩; have n0_ := Aside0.mk (Kd.R_lower ho0 (below_size (by repeat (first | (with_reducible first | exact HB.out | apply below_alloc | apply pw_below_drewN | apply below_drew1 | refine below_set ?_ GE717.out) | exact HB.out)))); have n1_ := Aside0.mk (blk_below (g := gb717) (o := .cells #[.int .i64 a0_0, .slice A0_1 l0_1.length c0_1, .slice A0_2 l0_2.length c0_2, .int .i64 a0_3, .int .i64 a0_4, .int .i64 a0_5, .int .i64 a0_6] 30 (0, 0)) (by (with_reducible repeat (first | refine blk_drewN ?_ _ | refine blk_drew ?_ | refine blk_alloc ?_ _)); exact BK717.out) hb); have n2_ := Aside0.mk (below_step (by repeat (first | (with_reducible first | exact HB.out | apply below_alloc | apply pw_below_drewN | apply below_drew1 | refine below_set ?_ GE717.out) | exact HB.out)) hb); clear BK717; clear HB; have HO725 := n0_; have BK717 := n1_; have HB := n2_; clear n0_ n1_ n2_; (try clear hb); (try clear hb2); (try clear hk); (try clear hi); (try clear ho0)))
       go_roundg k1
       case measure => have := HK1.out; omega
       case rel => exact ⟨(x4_1), (wrap64 (Int.tdiv (wrap64 (x4_1 + x5_1)) 2)), (by first | rfl | (simp; done) | (simp [*]; done)), (by first | rfl | (simp; done) | (simp [*]; done)), H', ⟨by have := HK1.out; omega⟩, ⟨by (with_reducible repeat (first | refine blk_drewN ?_ _ | refine blk_drew ?_ | refine blk_alloc ?_ _)); exact BK717.out⟩, ⟨by repeat (first | (with_reducible first | exact HB.out | apply below_alloc | apply pw_below_drewN | apply below_drew1 | refine below_set ?_ GE717.out) | exact HB.out)⟩⟩
      ·replace c13 := Bool.eq_false_iff.mpr c13
       subst c13
       have H1 : (impl_LeastSkewedPeriod.l0 k1 (wrap64 ((wrap64 (Int.tdiv (wrap64 (x4_1 + x5_1)) 2)) + 1)) x5_1 a0_0 l0_1 l0_2 a0_3 a0_4 a0_5 a0_6) = some (r1, r2) := by rw [if_neg (show ¬ (false = true) by decide)] at H; exact H
       clear H
       have H := H1
       clear H1
       have H' := Aside0.mk H
       clear H
       have hcz16_0 : wr.cell? ⟨gb717, 0, none⟩ = some (.int .i64 a0_0) := (blk_cell BK717.out 0).trans rfl
       have hcz16_1 : wr.cell? ⟨gb717, 1, none⟩ = some (.slice A0_1 l0_1.length c0_1) := (blk_cell BK717.out 1).trans rfl
       have hcz16_2 : wr.cell? ⟨gb717, 2, none⟩ = some (.slice A0_2 l0_2.length c0_2) := (blk_cell BK717.out 2).trans rfl
       have hcz16_3 : wr.cell? ⟨gb717, 3, none⟩ = some (.int .i64 a0_3) := (blk_cell BK717.out 3).trans rfl
       have hcz16_4 : wr.cell? ⟨gb717, 4, none⟩ = some (.int .i64 a0_4) := (blk_cell BK717.out 4).trans rfl
       have hcz16_5 : wr.cell? ⟨gb717, 5, none⟩ = some (.int .i64 a0_5) := (blk_cell BK717.out 5).trans rfl
       have hcz16_6 : wr.cell? ⟨gb717, 6, none⟩ = some (.int .i64 a0_6) := (blk_cell BK717.out 6).trans rfl
       have hfz16_0 := blk_frozen BK717.out 0
       have hfz16_1 := blk_frozen BK717.out 1
       have hfz16_2 := blk_frozen BK717.out 2
       have hfz16_3 := blk_frozen BK717.out 3
       have hfz16_4 := blk_frozen BK717.out 4
       have hfz16_5 := blk_frozen BK717.out 5
       have hfz16_6 := blk_frozen BK717.out 6
       go_wp2_with (first | ((with_reducible refine gate_callee (f := 74) rfl ?_); refine goesL_ (some 32) rfl rfl Try.func74 (by kernel_rfl) rfl #[.agg #[.int .i64 a0_0, .slice A0_1 l0_1.length c0_1, .slice A0_2 l0_2.length c0_2, .int .i64 a0_3, .int .i64 a0_4, .int .i64 a0_5, .int .i64 a0_6], .int .i64 (wrap64 (Int.tdiv (wrap64 (x4_1 + x5_1)) 2))] rfl (by (try simp only [List.map_toArray, List.map_cons, List.map_nil]); first | done | rfl | (simp only [List.length_drop, List.length_take]; rfl)) ?_; (with_reducible refine (impl_leastSkews.calls k1 a0_0 _ _ l0_1 _ _ l0_2 a0_3 a0_4 a0_5 a0_6 (wrap64 (Int.tdiv (wrap64 (x4_1 + x5_1)) 2)) t723 false _ ?side1 ?side2 ?side3 ?side4 A12.out).mono ?_); (case side1 => repeat (first | exact (Kd.C_below HR0_1.out HB.out) | (with_reducible refine Kd.C_alloc ?_ _) | (with_reducible refine Kd.C_drewN ?_ _) | (with_reducible refine Kd.C_drew ?_))); (case side2 => exact HC0_1.out); (case side3 => repeat (first | exact (Kd.C_below HR0_2.out HB.out) | (with_reducible refine Kd.C_alloc ?_ _) | (with_reducible refine Kd.C_drewN ?_ _) | (with_reducible refine Kd.C_drew ?_))); (case side4 => exact HC0_2.out); rintro e w17 ⟨v724, rfl, ho0, hb⟩; refine ⟨_, rfl, ?_⟩; have n0_ := Aside0.mk (Kd.R_lower ho0 (below_size (by repeat (first | (with_reducible first | exact HB.out | apply below_alloc | apply pw_below_drewN | apply below_drew1 | refine below_set ?_ GE717.out) | exact HB.out)))); have n1_ := Aside0.mk (blk_below (g := gb717) (o := .cells #[.int .i64 a0_0, .slice A0_1 l0_1.length c0_1, .slice A0_2 l0_2.length c0_2, .int .i64 a0_3, .int .i64 a0_4, .int .i64 a0_5, .int .i64 a0_6] 30 (0, 0)) (by (with_reducible repeat (first | refine blk_drewN ?_ _ | refine blk_drew ?_ | refine blk_alloc ?_ _)); exact BK717.out) hb); have n2_ := Aside0.mk (below_step (by repeat (first | (with_reducible first | exact HB.out | apply below_alloc | apply pw_below_drewN | apply below_drew1 | refine below_set ?_ GE717.out) | exact HB.out)) hb); clear BK717; clear HB; have HO725 := n0_; have BK717 := n1_; have HB := n2_; clear n0_ n1_ n2_; (try clear hb); (try clear hb2); (try clear hk); (try clear hi); (try clear ho0)))
       go_roundg k1
       case measure => have := HK1.out; omega
       case rel => exact ⟨(wrap64 ((wrap64 (Int.tdiv (wrap64 (x4_1 + x5_1)) 2)) + 1)), (x5_1), (by first | rfl | (simp; done) | (simp [*]; done)), (by first | rfl | (simp; done) | (simp [*]; done)), H', ⟨by have := HK1.out; omega⟩, ⟨by (with_reducible repeat (first | refine blk_drewN ?_ _ | refine blk_drew ?_ | refine blk_alloc ?_ _)); exact BK717.out⟩, ⟨by repeat (first | (with_reducible first | exact HB.out | apply below_alloc | apply pw_below_drewN | apply below_drew1 | refine below_set ?_ GE717.out) | exact HB.out)⟩⟩
     ·rw [if_neg c11] at H
      have c11b0 : decide (x4_1 < x5_1) = false := decide_eq_false c11
      clear c11
      simp only [Option.some.injEq, Prod.mk.injEq] at H
      obtain ⟨rfl, rfl⟩ := H
      go_wp2
      go_ret2
      exact ⟨by first | rfl | (simp [errW_none, errW_some] <;> rfl) | (simp [*, errW_none, errW_some] <;> rfl), by repeat (first | (with_reducible first | exact HB.out | apply below_alloc | apply pw_below_drewN | apply below_drew1 | refine below_set ?_ GE717.out) | exact HB.out)⟩
  ·replace c5 := Bool.eq_false_iff.mpr c5
   subst c5
   have H1 : (some (0, false)) = some (r1, r2) := by rw [if_neg (show ¬ (false = true) by decide)] at H; exact H
   clear H
   have H := H1
   clear H1
   simp only [Option.some.injEq, Prod.mk.injEq] at H
   obtain ⟨rfl, rfl⟩ := H
   go_enter Try.func40, Try.ntmps40
   go_wp2_with (first | ((with_reducible refine gate_dst (N := 1) rfl ?_); refine box_event ?hg (N := 1) ?hd (cs := #[.int .i64 a0_0, .slice A0_1 l0_1.length c0_1, .slice A0_2 l0_2.length c0_2, .int .i64 a0_3, .int .i64 a0_4, .int .i64 a0_5, .int .i64 a0_6]) (t := 30) ?hr ?_; (case hd => rfl); (case hg => rfl); (case hr => first | (go_simp; done) | (go_simp; rfl)); intro gb717 hg w18 hbox hb; have n0_ := Aside0.mk (below_step (by repeat (first | (with_reducible first | exact HB.out | apply below_alloc | apply pw_below_drewN | apply below_drew1) | exact HB.out)) hb); have n1_ := Aside0.mk (hbox); have n2_ := Aside0.mk ((by rw [hg]; exact (below_size (by repeat (first | (with_reducible first | exact HB.out | apply below_alloc | apply pw_below_drewN | apply below_drew1) | exact HB.out))) : w.heap.size ≤ gb717)); have n3_ := Aside0.mk ((by rw [hg]; exact (below_size (by repeat (first | (with_reducible first | exact HB.out | apply below_alloc | apply pw_below_drewN | apply below_drew1) | exact HB.out))) : w.heap.size ≤ gb717)); clear HB; have HB := n0_; have BK717 := n1_; have GW717 := n2_; have GE717 := n3_; clear n0_ n1_ n2_ n3_; clear hb hbox hg; have hcz19_0 : w18.cell? ⟨gb717, 0, none⟩ = some (.int .i64 a0_0) := (blk_cell BK717.out 0).trans rfl; have hcz19_1 : w18.cell? ⟨gb717, 1, none⟩ = some (.slice A0_1 l0_1.length c0_1) := (blk_cell BK717.out 1).trans rfl; have hcz19_2 : w18.cell? ⟨gb717, 2, none⟩ = some (.slice A0_2 l0_2.length c0_2) := (blk_cell BK717.out 2).trans rfl; have hcz19_3 : w18.cell? ⟨gb717, 3, none⟩ = some (.int .i64 a0_3) := (blk_cell BK717.out 3).trans rfl; have hcz19_4 : w18.cell? ⟨gb717, 4, none⟩ = some (.int .i64 a0_4) := (blk_cell BK717.out 4).trans rfl; have hcz19_5 : w18.cell? ⟨gb717, 5, none⟩ = some (.int .i64 a0_5) := (blk_cell BK717.out 5).trans rfl; have hcz19_6 : w18.cell? ⟨gb717, 6, none⟩ = some (.int .i64 a0_6) := (blk_cell BK717.out 6).trans rfl; have hfz19_0 := blk_frozen BK717.out 0; have hfz19_1 := blk_frozen BK717.out 1; have hfz19_2 := blk_frozen BK717.out 2; have hfz19_3 := blk_frozen BK717.out 3; have hfz19_4 := blk_frozen BK717.out 4; have hfz19_5 := blk_frozen BK717.out 5; have hfz19_6 := blk_frozen BK717.out 6) | ((with_reducible refine gate_callee (f := 17) rfl ?_); refine goesL_ (some 12) rfl rfl Try.func17 (by kernel_rfl) rfl #[.agg #[.int .i64 a0_0, .slice A0_1 l0_1.length c0_1, .slice A0_2 l0_2.length c0_2, .int .i64 a0_3, .int .i64 a0_4, .int .i64 a0_5, .int .i64 a0_6]] rfl (by (try simp only [List.map_toArray, List.map_cons, List.map_nil]); first | done | rfl | (simp only [List.length_drop, List.length_take]; rfl)) ?_; (with_reducible refine (impl_ValidCircuit.calls a0_0 _ _ l0_1 _ _ l0_2 a0_3 a0_4 a0_5 a0_6 true _ ?side1 ?side2 ?side3 ?side4 A2.out).mono ?_); (case side1 => repeat (first | exact (Kd.C_below HR0_1.out HB.out) | (with_reducible refine Kd.C_alloc ?_ _) | (with_reducible refine Kd.C_drewN ?_ _) | (with_reducible refine Kd.C_drew ?_))); (case side2 => exact HC0_1.out); (case side3 => repeat (first | exact (Kd.C_below HR0_2.out HB.out) | (with_reducible refine Kd.C_alloc ?_ _) | (with_reducible refine Kd.C_drewN ?_ _) | (with_reducible refine Kd.C_drew ?_))); (case side4 => exact HC0_2.out); rintro e w20 ⟨rfl, hb⟩; refine ⟨_, rfl, ?_⟩; have n0_ := Aside0.mk (blk_below (g := gb717) (o := .cells #[.int .i64 a0_0, .slice A0_1 l0_1.length c0_1, .slice A0_2 l0_2.length c0_2, .int .i64 a0_3, .int .i64 a0_4, .int .i64 a0_5, .int .i64 a0_6] 30 (0, 0)) (by (with_reducible repeat (first | refine blk_drewN ?_ _ | refine blk_drew ?_ | refine blk_alloc ?_ _)); exact BK717.out) hb); have n1_ := Aside0.mk (below_step (by repeat (first | (with_reducible first | exact HB.out | apply below_alloc | apply pw_below_drewN | apply below_drew1 | refine below_set ?_ GE717.out) | exact HB.out)) hb); clear BK717; clear HB; have BK717 := n0_; have HB := n1_; clear n0_ n1_; (try clear hb); (try clear hb2); (try clear hk); (try clear hi); have hcz21_0 : w20.cell? ⟨gb717, 0, none⟩ = some (.int .i64 a0_0) := (blk_cell BK717.out 0).trans rfl; have hcz21_1 : w20.cell? ⟨gb717, 1, none⟩ = some (.slice A0_1 l0_1.length c0_1) := (blk_cell BK717.out 1).trans rfl; have hcz21_2 : w20.cell? ⟨gb717, 2, none⟩ = some (.slice A0_2 l0_2.length c0_2) := (blk_cell BK717.out 2).trans rfl; have hcz21_3 : w20.cell? ⟨gb717, 3, none⟩ = some (.int .i64 a0_3) := (blk_cell BK717.out 3).trans rfl; have hcz21_4 : w20.cell? ⟨gb717, 4, none⟩ = some (.int .i64 a0_4) := (blk_cell BK717.out 4).trans rfl; have hcz21_5 : w20.cell? ⟨gb717, 5, none⟩ = some (.int .i64 a0_5) := (blk_cell BK717.out 5).trans rfl; have hcz21_6 : w20.cell? ⟨gb717, 6, none⟩ = some (.int .i64 a0_6) := (blk_cell BK717.out 6).trans rfl; have hfz21_0 := blk_frozen BK717.out 0; have hfz21_1 := blk_frozen BK717.out 1; have hfz21_2 := blk_frozen BK717.out 2; have hfz21_3 := blk_frozen BK717.out 3; have hfz21_4 := blk_frozen BK717.out 4; have hfz21_5 := blk_frozen BK717.out 5; have hfz21_6 := blk_frozen BK717.out 6) | ((with_reducible refine gate_callee (f := 74) rfl ?_); refine goesL_ (some 17) rfl rfl Try.func74 (by kernel_rfl) rfl #[.agg #[.int .i64 a0_0, .slice A0_1 l0_1.length c0_1, .slice A0_2 l0_2.length c0_2, .int .i64 a0_3, .int .i64 a0_4, .int .i64 a0_5, .int .i64 a0_6], .int .i64 100000] rfl (by (try simp only [List.map_toArray, List.map_cons, List.map_nil]); first | done | rfl | (simp only [List.length_drop, List.length_take]; rfl)) ?_; (with_reducible refine (impl_leastSkews.calls k a0_0 _ _ l0_1 _ _ l0_2 a0_3 a0_4 a0_5 a0_6 100000 t719 false _ ?side1 ?side2 ?side3 ?side4 A4.out).mono ?_); (case side1 => repeat (first | exact (Kd.C_below HR0_1.out HB.out) | (with_reducible refine Kd.C_alloc ?_ _) | (with_reducible refine Kd.C_drewN ?_ _) | (with_reducible refine Kd.C_drew ?_))); (case side2 => exact HC0_1.out); (case side3 => repeat (first | exact (Kd.C_below HR0_2.out HB.out) | (with_reducible refine Kd.C_alloc ?_ _) | (with_reducible refine Kd.C_drewN ?_ _) | (with_reducible refine Kd.C_drew ?_))); (case side4 => exact HC0_2.out); rintro e w22 ⟨v720, rfl, ho0, hb⟩; refine ⟨_, rfl, ?_⟩; have n0_ := Aside0.mk (Kd.R_lower ho0 (below_size (by repeat (first | (with_reducible first | exact HB.out | apply below_alloc | apply pw_below_drewN | apply below_drew1 | refine below_set ?_ GE717.out) | exact HB.out)))); have n1_ := Aside0.mk (blk_below (g := gb717) (o := .cells #[.int .i64 a0_0, .slice A0_1 l0_1.length c0_1, .slice A0_2 l0_2.length c0_2, .int .i64 a0_3, .int .i64 a0_4, .int .i64 a0_5, .int .i64 a0_6] 30 (0, 0)) (by (with_reducible repeat (first | refine blk_drewN ?_ _ | refine blk_drew ?_ | refine blk_alloc ?_ _)); exact BK717.out) hb); have n2_ := Aside0.mk (below_step (by repeat (first | (with_reducible first | exact HB.out | apply below_alloc | apply pw_below_drewN | apply below_drew1 | refine below_set ?_ GE717.out) | exact HB.out)) hb); clear BK717; clear HB; have HO721 := n0_; have BK717 := n1_; have HB := n2_; clear n0_ n1_ n2_; (try clear hb); (try clear hb2); (try clear hk); (try clear hi); (try clear ho0)))
   go_ret2
   exact ⟨by first | rfl | (simp [errW_none, errW_some] <;> rfl) | (simp [*, errW_none, errW_some] <;> rfl), by repeat (first | (with_reducible first | exact HB.out | apply below_alloc | apply pw_below_drewN | apply below_drew1 | refine below_set ?_ GE717.out) | exact HB.out)⟩
 ·replace c3 := Bool.eq_false_iff.mpr c3
  subst c3
  have H1 : (some (0, false)) = some (r1, r2) := by rw [if_neg (show ¬ (false = true) by decide)] at H; exact H
  clear H
  have H := H1
  clear H1
  simp only [Option.some.injEq, Prod.mk.injEq] at H
  obtain ⟨rfl, rfl⟩ := H
  go_enter Try.func40, Try.ntmps40
  go_wp2_with (first | ((with_reducible refine gate_dst (N := 1) rfl ?_); refine box_event ?hg (N := 1) ?hd (cs := #[.int .i64 a0_0, .slice A0_1 l0_1.length c0_1, .slice A0_2 l0_2.length c0_2, .int .i64 a0_3, .int .i64 a0_4, .int .i64 a0_5, .int .i64 a0_6]) (t := 30) ?hr ?_; (case hd => rfl); (case hg => rfl); (case hr => first | (go_simp; done) | (go_simp; rfl)); intro gb717 hg w23 hbox hb; have n0_ := Aside0.mk (below_step (by repeat (first | (with_reducible first | exact HB.out | apply below_alloc | apply pw_below_drewN | apply below_drew1) | exact HB.out)) hb); have n1_ := Aside0.mk (hbox); have n2_ := Aside0.mk ((by rw [hg]; exact (below_size (by repeat (first | (with_reducible first | exact HB.out | apply below_alloc | apply pw_below_drewN | apply below_drew1) | exact HB.out))) : w.heap.size ≤ gb717)); have n3_ := Aside0.mk ((by rw [hg]; exact (below_size (by repeat (first | (with_reducible first | exact HB.out | apply below_alloc | apply pw_below_drewN | apply below_drew1) | exact HB.out))) : w.heap.size ≤ gb717)); clear HB; have HB := n0_; have BK717 := n1_; have GW717 := n2_; have GE717 := n3_; clear n0_ n1_ n2_ n3_; clear hb hbox hg; have hcz24_0 : w23.cell? ⟨gb717, 0, none⟩ = some (.int .i64 a0_0) := (blk_cell BK717.out 0).trans rfl; have hcz24_1 : w23.cell? ⟨gb717, 1, none⟩ = some (.slice A0_1 l0_1.length c0_1) := (blk_cell BK717.out 1).trans rfl; have hcz24_2 : w23.cell? ⟨gb717, 2, none⟩ = some (.slice A0_2 l0_2.length c0_2) := (blk_cell BK717.out 2).trans rfl; have hcz24_3 : w23.cell? ⟨gb717, 3, none⟩ = some (.int .i64 a0_3) := (blk_cell BK717.out 3).trans rfl; have hcz24_4 : w23.cell? ⟨gb717, 4, none⟩ = some (.int .i64 a0_4) := (blk_cell BK717.out 4).trans rfl; have hcz24_5 : w23.cell? ⟨gb717, 5, none⟩ = some (.int .i64 a0_5) := (blk_cell BK717.out 5).trans rfl; have hcz24_6 : w23.cell? ⟨gb717, 6, none⟩ = some (.int .i64 a0_6) := (blk_cell BK717.out 6).trans rfl; have hfz24_0 := blk_frozen BK717.out 0; have hfz24_1 := blk_frozen BK717.out 1; have hfz24_2 := blk_frozen BK717.out 2; have hfz24_3 := blk_frozen BK717.out 3; have hfz24_4 := blk_frozen BK717.out 4; have hfz24_5 := blk_frozen BK717.out 5; have hfz24_6 := blk_frozen BK717.out 6) | ((with_reducible refine gate_callee (f := 17) rfl ?_); refine goesL_ (some 12) rfl rfl Try.func17 (by kernel_rfl) rfl #[.agg #[.int .i64 a0_0, .slice A0_1 l0_1.length c0_1, .slice A0_2 l0_2.length c0_2, .int .i64 a0_3, .int .i64 a0_4, .int .i64 a0_5, .int .i64 a0_6]] rfl (by (try simp only [List.map_toArray, List.map_cons, List.map_nil]); first | done | rfl | (simp only [List.length_drop, List.length_take]; rfl)) ?_; (with_reducible refine (impl_ValidCircuit.calls a0_0 _ _ l0_1 _ _ l0_2 a0_3 a0_4 a0_5 a0_6 false _ ?side1 ?side2 ?side3 ?side4 A2.out).mono ?_); (case side1 => repeat (first | exact (Kd.C_below HR0_1.out HB.out) | (with_reducible refine Kd.C_alloc ?_ _) | (with_reducible refine Kd.C_drewN ?_ _) | (with_reducible refine Kd.C_drew ?_))); (case side2 => exact HC0_1.out); (case side3 => repeat (first | exact (Kd.C_below HR0_2.out HB.out) | (with_reducible refine Kd.C_alloc ?_ _) | (with_reducible refine Kd.C_drewN ?_ _) | (with_reducible refine Kd.C_drew ?_))); (case side4 => exact HC0_2.out); rintro e w25 ⟨rfl, hb⟩; refine ⟨_, rfl, ?_⟩; have n0_ := Aside0.mk (blk_below (g := gb717) (o := .cells #[.int .i64 a0_0, .slice A0_1 l0_1.length c0_1, .slice A0_2 l0_2.length c0_2, .int .i64 a0_3, .int .i64 a0_4, .int .i64 a0_5, .int .i64 a0_6] 30 (0, 0)) (by (with_reducible repeat (first | refine blk_drewN ?_ _ | refine blk_drew ?_ | refine blk_alloc ?_ _)); exact BK717.out) hb); have n1_ := Aside0.mk (below_step (by repeat (first | (with_reducible first | exact HB.out | apply below_alloc | apply pw_below_drewN | apply below_drew1 | refine below_set ?_ GE717.out) | exact HB.out)) hb); clear BK717; clear HB; have BK717 := n0_; have HB := n1_; clear n0_ n1_; (try clear hb); (try clear hb2); (try clear hk); (try clear hi)))
  go_ret2
  exact ⟨by first | rfl | (simp [errW_none, errW_some] <;> rfl) | (simp [*, errW_none, errW_some] <;> rfl), by repeat (first | (with_reducible first | exact HB.out | apply below_alloc | apply pw_below_drewN | apply below_drew1 | refine below_set ?_ GE717.out) | exact HB.out)⟩

end Go.Proofs.Ytalafmahgeejiaa.Pa

namespace Go.Proofs.Ytalafmahgeejiaa.Pa
open Go.RowKit Go.Proofs.YtalafmahgeejiaaW.PrintWords Go.Proofs.YtalafmahgeejiaaW.PrintLast Go.Proofs.YtalafmahgeejiaaW.PrintMore
attribute [local go_sem] max2_int min2_int max_two min_two max_three min_three max_four min_four   -- for this text's walks alone
set_option linter.unusedVariables false
set_option linter.unusedSimpArgs false

/-! ### spec_LeastSkewedPeriod: function 39 -/
def spec_LeastSkewedPeriod.l0 : Nat → Int → Int → Int → List (S62) → List Int → Int → Int → Int → Int → Option (Int × Bool × Int × Int × Int × Int × Int)
 | 0, _, _, _, _, _, _, _, _, _ => none
 | k + 1, x4, x7, x1000, x1001, x1002, x1003, x1004, x1005, x1006 => if x7 < x4 then ((spec_l06Least.f k x1000 x1001 x1002 x1003 x1004 x1005 x1006 (wrap64 (Int.tdiv (wrap64 (x7 + x4)) 2))).bind fun bt708 => (if bt708.2.1 = true then (spec_LeastSkewedPeriod.l0 k (wrap64 (Int.tdiv (wrap64 (x7 + x4)) 2)) x7 bt708.2.2.1 x1001 x1002 bt708.2.2.2.1 bt708.2.2.2.2.1 bt708.2.2.2.2.2.1 bt708.2.2.2.2.2.2) else (spec_LeastSkewedPeriod.l0 k x4 (wrap64 ((wrap64 (Int.tdiv (wrap64 (x7 + x4)) 2)) + 1)) bt708.2.2.1 x1001 x1002 bt708.2.2.2.1 bt708.2.2.2.2.1 bt708.2.2.2.2.2.1 bt708.2.2.2.2.2.2))) else (some (x7, true, x1000, x1003, x1004, x1005, x1006))
def spec_LeastSkewedPeriod.fB (k : Nat) (s0_0 : Int) (s0_1 : List (S62)) (s0_2 : List Int) (s0_3 : Int) (s0_4 : Int) (s0_5 : Int) (s0_6 : Int) : Option (Int × Bool × Int × Int × Int × Int × Int) := (spec_l06Is.f s0_0 s0_1 s0_2 s0_3 s0_4 s0_5 s0_6).bind fun bt693 => (if bt693.1 = true then ((spec_l06Least.f k bt693.2.1 s0_1 s0_2 bt693.2.2.1 bt693.2.2.2.1 bt693.2.2.2.2.1 bt693.2.2.2.2.2 9100).bind fun bt699 => (if bt699.2.1 = true then (spec_LeastSkewedPeriod.l0 k 9100 1 bt699.2.2.1 s0_1 s0_2 bt699.2.2.2.1 bt699.2.2.2.2.1 bt699.2.2.2.2.2.1 bt699.2.2.2.2.2.2) else (some (0, false, bt699.2.2.1, bt699.2.2.2.1, bt699.2.2.2.2.1, bt699.2.2.2.2.2.1, bt699.2.2.2.2.2.2)))) else (some (0, false, bt693.2.1, bt693.2.2.1, bt693.2.2.2.1, bt693.2.2.2.2.1, bt693.2.2.2.2.2)))
set_option maxHeartbeats 8000000 in
set_option maxRecDepth 100000 in
theorem spec_LeastSkewedPeriod.callsB (k : Nat) (A0_1 : Option Addr) (c0_1 : Nat) (A0_2 : Option Addr) (c0_2 : Nat) (g : Nat) (s0_0 : Int) (s0_1 : List (S62)) (s0_2 : List Int) (s0_3 : Int) (s0_4 : Int) (s0_5 : Int) (s0_6 : Int) (r1 : Int) (r2 : Bool) (r3 : Int) (r4 : Int) (r5 : Int) (r6 : Int) (r7 : Int) (w0 w : World) (hI : IsS30 w0 w g s0_0 s0_1 s0_2 s0_3 s0_4 s0_5 s0_6) (hB : Below w0.heap.size w0 w) (hg_ : g = w0.heap.size) (hw_ : w = w0.alloc (.cells #[.int .i64 s0_0, .slice A0_1 s0_1.length c0_1, .slice A0_2 s0_2.length c0_2, .int .i64 s0_3, .int .i64 s0_4, .int .i64 s0_5, .int .i64 s0_6] 30)) (h : spec_LeastSkewedPeriod.fB k s0_0 s0_1 s0_2 s0_3 s0_4 s0_5 s0_6 = some (r1, r2, r3, r4, r5, r6, r7)) :
  Calls Try.prog 39 #[.agg #[.int .i64 s0_0, .slice A0_1 s0_1.length c0_1, .slice A0_2 s0_2.length c0_2, .int .i64 s0_3, .int .i64 s0_4, .int .i64 s0_5, .int .i64 s0_6]] w0 fun e w' => e = .returned (.tuple #[.int .i64 r1, .bool r2]) ∧ IsS30 w0 w' g r3 s0_1 s0_2 r4 r5 r6 r7 ∧ Below w0.heap.size w0 w' ∧ KeepBut w w' g none := by
 have hu30_ := Try.underlying30
 have HG_ := Aside0.mk hg_
 have HW_ := Aside0.mk hw_
 clear hg_ hw_
 have HI0 := Aside0.mk hI
 have HK := Aside0.mk (KeepBut.refl w g none)
 have HL := Aside0.mk hB.size
 clear hI
 have HW0 := Aside0.mk hB.size
 have HB := Aside0.mk hB
 clear hB
 have H : ((spec_l06Is.f s0_0 s0_1 s0_2 s0_3 s0_4 s0_5 s0_6).bind fun bt693 => (if bt693.1 = true then ((spec_l06Least.f k bt693.2.1 s0_1 s0_2 bt693.2.2.1 bt693.2.2.2.1 bt693.2.2.2.2.1 bt693.2.2.2.2.2 9100).bind fun bt699 => (if bt699.2.1 = true then (spec_LeastSkewedPeriod.l0 k 9100 1 bt699.2.2.1 s0_1 s0_2 bt699.2.2.2.1 bt699.2.2.2.2.1 bt699.2.2.2.2.2.1 bt699.2.2.2.2.2.2) else (some (0, false, bt699.2.2.1, bt699.2.2.2.1, bt699.2.2.2.2.1, bt699.2.2.2.2.2.1, bt699.2.2.2.2.2.2)))) else (some (0, false, bt693.2.1, bt693.2.2.1, bt693.2.2.2.1, bt693.2.2.2.2.1, bt693.2.2.2.2.2)))) = some (r1, r2, r3, r4, r5, r6, r7) := h
 clear h
 replace H := Option.bind_eq_some_iff.mp H
 obtain ⟨⟨t693, t694, t695, t696, t697, t698⟩, A20, H⟩ := H
 replace H : (if t693 = true then ((spec_l06Least.f k t694 s0_1 s0_2 t695 t696 t697 t698 9100).bind fun bt699 => (if bt699.2.1 = true then (spec_LeastSkewedPeriod.l0 k 9100 1 bt699.2.2.1 s0_1 s0_2 bt699.2.2.2.1 bt699.2.2.2.2.1 bt699.2.2.2.2.2.1 bt699.2.2.2.2.2.2) else (some (0, false, bt699.2.2.1, bt699.2.2.2.1, bt699.2.2.2.2.1, bt699.2.2.2.2.2.1, bt699.2.2.2.2.2.2)))) else (some (0, false, t694, t695, t696, t697, t698))) = some (r1, r2, r3, r4, r5, r6, r7) := H
 have A2 := Aside0.mk A20
 clear A20
 by_cases c3 : t693 = true
 ·subst c3
  have H1 : ((spec_l06Least.f k t694 s0_1 s0_2 t695 t696 t697 t698 9100).bind fun bt699 => (if bt699.2.1 = true then (spec_LeastSkewedPeriod.l0 k 9100 1 bt699.2.2.1 s0_1 s0_2 bt699.2.2.2.1 bt699.2.2.2.2.1 bt699.2.2.2.2.2.1 bt699.2.2.2.2.2.2) else (some (0, false, bt699.2.2.1, bt699.2.2.2.1, bt699.2.2.2.2.1, bt699.2.2.2.2.2.1, bt699.2.2.2.2.2.2)))) = some (r1, r2, r3, r4, r5, r6, r7) := by rw [if_pos rfl] at H; exact H
  clear H
  have H := H1
  clear H1
  replace H := Option.bind_eq_some_iff.mp H
  obtain ⟨⟨t699, t702, t703, t704, t705, t706, t707⟩, A40, H⟩ := H
  replace H : (if t702 = true then (spec_LeastSkewedPeriod.l0 k 9100 1 t703 s0_1 s0_2 t704 t705 t706 t707) else (some (0, false, t703, t704, t705, t706, t707))) = some (r1, r2, r3, r4, r5, r6, r7) := H
  have A4 := Aside0.mk A40
  clear A40
  by_cases c5 : t702 = true
  ·subst c5
   have H1 : (spec_LeastSkewedPeriod.l0 k 9100 1 t703 s0_1 s0_2 t704 t705 t706 t707) = some (r1, r2, r3, r4, r5, r6, r7) := by rw [if_pos rfl] at H; exact H
   clear H
   have H := H1
   clear H1
   have H' := Aside0.mk H
   clear H
   go_enter Try.func39, Try.ntmps39
   go_wp2_with (first | ((with_reducible refine gate_dst (N := 1) rfl ?_); refine box_here (g := g) (w1 := w) (t := 30) ?hg (N := 1) ?hd HG_.out HW_.out ?hr ?_; (case hd => rfl); (case hg => rfl); (case hr => first | (go_simp; done) | (go_simp; rfl))) | ((with_reducible refine gate_callee (f := 47) rfl ?_); refine goesL_ (some 11) rfl rfl Try.func47 (by kernel_rfl) rfl #[.pointer (some ⟨g, 0, none⟩)] rfl (by (try simp only [List.map_toArray, List.map_cons, List.map_nil]); first | done | rfl | (simp only [List.length_drop, List.length_take]; rfl)) ?_; (with_reducible refine (spec_l06Is.calls g s0_0 s0_1 s0_2 s0_3 s0_4 s0_5 s0_6 true t694 t695 t696 t697 t698 w0 _ ?side1 ?side2 A2.out).mono ?_); (case side1 => repeat (first | (with_reducible first | exact HI0.out | apply IsS30.alloc | apply IsS30.drewN | apply IsS30.drew | apply IsS30.set_0 | apply IsS30.set_3 | apply IsS30.set_4 | apply IsS30.set_5 | apply IsS30.set_6) | exact HI0.out)); (case side2 => repeat (first | (with_reducible first | exact HB.out | apply below_alloc | apply pw_below_drewN | apply below_drew1 | refine below_set ?_ (IsS30.ge HI0.out)) | exact HB.out)); rintro e w6 ⟨rfl, hi, hb, hk⟩; refine ⟨_, rfl, ?_⟩; have n0_ := Aside0.mk (KeepBut.trans (by repeat (first | (with_reducible first | exact HK.out | apply KeepBut.set_ | apply keep_drewN | apply keep_drew | apply keep_alloc) | exact HK.out)) hk (.inl rfl)); have n1_ := Aside0.mk (hb); have n2_ := Aside0.mk (hi); clear HK; clear HB; clear HI0; have HK := n0_; have HB := n1_; have HI0 := n2_; clear n0_ n1_ n2_; (try clear hb); (try clear hb2); (try clear hk); (try clear hi)) | ((with_reducible refine gate_callee (f := 73) rfl ?_); refine goesL_ (some 15) rfl rfl Try.func73 (by kernel_rfl) rfl #[.pointer (some ⟨g, 0, none⟩), .int .i64 9100] rfl (by (try simp only [List.map_toArray, List.map_cons, List.map_nil]); first | done | rfl | (simp only [List.length_drop, List.length_take]; rfl)) ?_; (with_reducible refine (spec_l06Least.calls k g t694 s0_1 s0_2 t695 t696 t697 t698 9100 t699 true t703 t704 t705 t706 t707 w0 _ ?side1 ?side2 A4.out).mono ?_); (case side1 => repeat (first | (with_reducible first | exact HI0.out | apply IsS30.alloc | apply IsS30.drewN | apply IsS30.drew | apply IsS30.set_0 | apply IsS30.set_3 | apply IsS30.set_4 | apply IsS30.set_5 | apply IsS30.set_6) | exact HI0.out)); (case side2 => repeat (first | (with_reducible first | exact HB.out | apply below_alloc | apply pw_below_drewN | apply below_drew1 | refine below_set ?_ (IsS30.ge HI0.out)) | exact HB.out)); rintro e w7 ⟨v700, rfl, ho0, hi, hb, hk⟩; refine ⟨_, rfl, ?_⟩; have n0_ := Aside0.mk (Kd.R_lower ho0 (keep_size (w := w) (g := g) (row := none) (by repeat (first | (with_reducible first | exact HK.out | apply KeepBut.set_ | apply keep_drewN | apply keep_drew | apply keep_alloc) | exact HK.out)))); have n1_ := Aside0.mk (KeepBut.trans (by repeat (first | (with_reducible first | exact HK.out | apply KeepBut.set_ | apply keep_drewN | apply keep_drew | apply keep_alloc) | exact HK.out)) hk (.inl rfl)); have n2_ := Aside0.mk (hb); have n3_ := Aside0.mk (hi); clear HK; clear HB; clear HI0; have HO701 := n0_; have HK := n1_; have HB := n2_; have HI0 := n3_; clear n0_ n1_ n2_ n3_; (try clear hb); (try clear hb2); (try clear hk); (try clear hi); (try clear ho0)))
   go_loopg [4, 7] k (fun kq v4 v7 w' => ∃ (x4_1 : Int) (x7_1 : Int) (x1000_1 : Int) (x1003_1 : Int) (x1004_1 : Int) (x1005_1 : Int) (x1006_1 : Int), v4 = .int .i64 x4_1 ∧ v7 = .int .i64 x7_1 ∧ Aside0 (spec_LeastSkewedPeriod.l0 kq x4_1 x7_1 x1000_1 s0_1 s0_2 x1003_1 x1004_1 x1005_1 x1006_1 = some (r1, r2, r3, r4, r5, r6, r7)) ∧ Aside0 (kq ≤ k) ∧ Aside0 (IsS30 w0 w' g x1000_1 s0_1 s0_2 x1003_1 x1004_1 x1005_1 x1006_1) ∧ Aside0 (KeepBut w w' g none) ∧ Aside0 (Below w0.heap.size w0 w'))
   case atStart => exact ⟨(9100), (1), (t703), (t704), (t705), (t706), (t707), (by first | rfl | (simp; done) | (simp [*]; done)), (by first | rfl | (simp; done) | (simp [*]; done)), H', ⟨Nat.le_refl _⟩, ⟨by repeat (first | (with_reducible first | exact HI0.out | apply IsS30.alloc | apply IsS30.drewN | apply IsS30.drew | apply IsS30.set_0 | apply IsS30.set_3 | apply IsS30.set_4 | apply IsS30.set_5 | apply IsS30.set_6) | exact HI0.out)⟩, ⟨by repeat (first | (with_reducible first | exact HK.out | apply KeepBut.set_ | apply keep_drewN | apply keep_drew | apply keep_alloc) | exact HK.out)⟩, ⟨by repeat (first | (with_reducible first | exact HB.out | apply below_alloc | apply pw_below_drewN | apply below_drew1 | refine below_set ?_ (IsS30.ge HI0.out)) | exact HB.out)⟩⟩
   case round =>
    clear H'
    try clear p2
    try clear c3
    try clear c4
    try clear c5
    try clear c7
    obtain ⟨x4_1, x7_1, x1000_1, x1003_1, x1004_1, x1005_1, x1006_1, rfl, rfl, HA, HK1, HI0, HK, HB⟩ := hrel
    cases gk with
    | zero => exact absurd HA.out (by simp [spec_LeastSkewedPeriod.l0])
    | succ k1 =>
     have H := HA.out
     clear HA
     simp only [spec_LeastSkewedPeriod.l0] at H
     by_cases c8 : x7_1 < x4_1
     ·rw [if_pos c8] at H
      have c8b0 : decide (x7_1 < x4_1) = true := decide_eq_true c8
      clear c8
      replace H := Option.bind_eq_some_iff.mp H
      obtain ⟨⟨t708, t711, t712, t713, t714, t715, t716⟩, A90, H⟩ := H
      replace H : (if t711 = true then (spec_LeastSkewedPeriod.l0 k1 (wrap64 (Int.tdiv (wrap64 (x7_1 + x4_1)) 2)) x7_1 t712 s0_1 s0_2 t713 t714 t715 t716) else (spec_LeastSkewedPeriod.l0 k1 x4_1 (wrap64 ((wrap64 (Int.tdiv (wrap64 (x7_1 + x4_1)) 2)) + 1)) t712 s0_1 s0_2 t713 t714 t715 t716)) = some (r1, r2, r3, r4, r5, r6, r7) := H
      have A9 := Aside0.mk A90
      clear A90
      by_cases c10 : t711 = true
      ·subst c10
       have H1 : (spec_LeastSkewedPeriod.l0 k1 (wrap64 (Int.tdiv (wrap64 (x7_1 + x4_1)) 2)) x7_1 t712 s0_1 s0_2 t713 t714 t715 t716) = some (r1, r2, r3, r4, r5, r6, r7) := by rw [if_pos rfl] at H; exact H
       clear H
       have H := H1
       clear H1
       have H' := Aside0.mk H
       clear H
       go_wp2_with (first | ((with_reducible refine gate_callee (f := 73) rfl ?_); refine goesL_ (some 29) rfl rfl Try.func73 (by kernel_rfl) rfl #[.pointer (some ⟨g, 0, none⟩), .int .i64 (wrap64 (Int.tdiv (wrap64 (x7_1 + x4_1)) 2))] rfl (by (try simp only [List.map_toArray, List.map_cons, List.map_nil]); first | done | rfl | (simp only [List.length_drop, List.length_take]; rfl)) ?_; (with_reducible refine (spec_l06Least.calls k1 g x1000_1 s0_1 s0_2 x1003_1 x1004_1 x1005_1 x1006_1 (wrap64 (Int.tdiv (wrap64 (x7_1 + x4_1)) 2)) t708 true t712 t713 t714 t715 t716 w0 _ ?side1 ?side2 A9.out).mono ?_); (case side1 => repeat (first | (with_reducible first | exact HI0.out | apply IsS30.alloc | apply IsS30.drewN | apply IsS30.drew | apply IsS30.set_0 | apply IsS30.set_3 | apply IsS30.set_4 | apply IsS30.set_5 | apply IsS30.set_6) | exact HI0.out)); (case side2 => repeat (first | (with_reducible first | exact HB.out | apply below_alloc | apply pw_below_drewN | apply below_drew1 | refine below_set ?_ (IsS30.ge HI0.out)) | exact HB.out)); rintro e w11 ⟨v709, rfl, ho0, hi, hb, hk⟩; refine ⟨_, rfl, ?_⟩; have n0_ := Aside0.mk (Kd.R_lower ho0 (keep_size (w := w) (g := g) (row := none) (by repeat (first | (with_reducible first | exact HK.out | apply KeepBut.set_ | apply keep_drewN | apply keep_drew | apply keep_alloc) | exact HK.out)))); have n1_ := Aside0.mk (KeepBut.trans (by repeat (first | (with_reducible first | exact HK.out | apply KeepBut.set_ | apply keep_drewN | apply keep_drew | apply keep_alloc) | exact HK.out)) hk (.inl rfl)); have n2_ := Aside0.mk (hb); have n3_ := Aside0.mk (hi); clear HK; clear HB; clear HI0; have HO710 := n0_; have HK := n1_; have HB := n2_; have HI0 := n3_; clear n0_ n1_ n2_ n3_; (try clear hb); (try clear hb2); (try clear hk); (try clear hi); (try clear ho0)))
       go_roundg k1
       case measure => have := HK1.out; omega
       case rel => exact ⟨(wrap64 (Int.tdiv (wrap64 (x7_1 + x4_1)) 2)), (x7_1), (t712), (t713), (t714), (t715), (t716), (by first | rfl | (simp; done) | (simp [*]; done)), (by first | rfl | (simp; done) | (simp [*]; done)), H', ⟨by have := HK1.out; omega⟩, ⟨by repeat (first | (with_reducible first | exact HI0.out | apply IsS30.alloc | apply IsS30.drewN | apply IsS30.drew | apply IsS30.set_0 | apply IsS30.set_3 | apply IsS30.set_4 | apply IsS30.set_5 | apply IsS30.set_6) | exact HI0.out)⟩, ⟨by repeat (first | (with_reducible first | exact HK.out | apply KeepBut.set_ | apply keep_drewN | apply keep_drew | apply keep_alloc) | exact HK.out)⟩, ⟨by repeat (first | (with_reducible first | exact HB.out | apply below_alloc | apply pw_below_drewN | apply below_drew1 | refine below_set ?_ (IsS30.ge HI0.out)) | exact HB.out)⟩⟩
      ·replace c10 := Bool.eq_false_iff.mpr c10
       subst c10
       have H1 : (spec_LeastSkewedPeriod.l0 k1 x4_1 (wrap64 ((wrap64 (Int.tdiv (wrap64 (x7_1 + x4_1)) 2)) + 1)) t712 s0_1 s0_2 t713 t714 t715 t716) = some (r1, r2, r3, r4, r5, r6, r7) := by rw [if_neg (show ¬ (false = true) by decide)] at H; exact H
       clear H
       have H := H1
       clear H1
       have H' := Aside0.mk H
       clear H
       go_wp2_with (first | ((with_reducible refine gate_callee (f := 73) rfl ?_); refine goesL_ (some 29) rfl rfl Try.func73 (by kernel_rfl) rfl #[.pointer (some ⟨g, 0, none⟩), .int .i64 (wrap64 (Int.tdiv (wrap64 (x7_1 + x4_1)) 2))] rfl (by (try simp only [List.map_toArray, List.map_cons, List.map_nil]); first | done | rfl | (simp only [List.length_drop, List.length_take]; rfl)) ?_; (with_reducible refine (spec_l06Least.calls k1 g x1000_1 s0_1 s0_2 x1003_1 x1004_1 x1005_1 x1006_1 (wrap64 (Int.tdiv (wrap64 (x7_1 + x4_1)) 2)) t708 false t712 t713 t714 t715 t716 w0 _ ?side1 ?side2 A9.out).mono ?_); (case side1 => repeat (first | (with_reducible first | exact HI0.out | apply IsS30.alloc | apply IsS30.drewN | apply IsS30.drew | apply IsS30.set_0 | apply IsS30.set_3 | apply IsS30.set_4 | apply IsS30.set_5 | apply IsS30.set_6) | exact HI0.out)); (case side2 => repeat (first | (with_reducible first | exact HB.out | apply below_alloc | apply pw_below_drewN | apply below_drew1 | refine below_set ?_ (IsS30.ge HI0.out)) | exact HB.out)); rintro e w12 ⟨v709, rfl, ho0, hi, hb, hk⟩; refine ⟨_, rfl, ?_⟩; have n0_ := Aside0.mk (Kd.R_lower ho0 (keep_size (w := w) (g := g) (row := none) (by repeat (first | (with_reducible first | exact HK.out | apply KeepBut.set_ | apply keep_drewN | apply keep_drew | apply keep_alloc) | exact HK.out)))); have n1_ := Aside0.mk (KeepBut.trans (by repeat (first | (with_reducible first | exact HK.out | apply KeepBut.set_ | apply keep_drewN | apply keep_drew | apply keep_alloc) | exact HK.out)) hk (.inl rfl)); have n2_ := Aside0.mk (hb); have n3_ := Aside0.mk (hi); clear HK; clear HB; clear HI0; have HO710 := n0_; have HK := n1_; have HB := n2_; have HI0 := n3_; clear n0_ n1_ n2_ n3_; (try clear hb); (try clear hb2); (try clear hk); (try clear hi); (try clear ho0)))
       go_roundg k1
       case measure => have := HK1.out; omega
       case rel => exact ⟨(x4_1), (wrap64 ((wrap64 (Int.tdiv (wrap64 (x7_1 + x4_1)) 2)) + 1)), (t712), (t713), (t714), (t715), (t716), (by first | rfl | (simp; done) | (simp [*]; done)), (by first | rfl | (simp; done) | (simp [*]; done)), H', ⟨by have := HK1.out; omega⟩, ⟨by repeat (first | (with_reducible first | exact HI0.out | apply IsS30.alloc | apply IsS30.drewN | apply IsS30.drew | apply IsS30.set_0 | apply IsS30.set_3 | apply IsS30.set_4 | apply IsS30.set_5 | apply IsS30.set_6) | exact HI0.out)⟩, ⟨by repeat (first | (with_reducible first | exact HK.out | apply KeepBut.set_ | apply keep_drewN | apply keep_drew | apply keep_alloc) | exact HK.out)⟩, ⟨by repeat (first | (with_reducible first | exact HB.out | apply below_alloc | apply pw_below_drewN | apply below_drew1 | refine below_set ?_ (IsS30.ge HI0.out)) | exact HB.out)⟩⟩
     ·rw [if_neg c8] at H
      have c8b0 : decide (x7_1 < x4_1) = false := decide_eq_false c8
      clear c8
      simp only [Option.some.injEq, Prod.mk.injEq] at H
      obtain ⟨rfl, rfl, rfl, rfl, rfl, rfl, rfl⟩ := H
      go_wp2
      go_ret2
      exact ⟨by first | rfl | (simp [errW_none, errW_some] <;> rfl) | (simp [*, errW_none, errW_some] <;> rfl), by repeat (first | (with_reducible first | exact HI0.out | apply IsS30.alloc | apply IsS30.drewN | apply IsS30.drew | apply IsS30.set_0 | apply IsS30.set_3 | apply IsS30.set_4 | apply IsS30.set_5 | apply IsS30.set_6) | exact HI0.out), by repeat (first | (with_reducible first | exact HB.out | apply below_alloc | apply pw_below_drewN | apply below_drew1 | refine below_set ?_ (IsS30.ge HI0.out)) | exact HB.out), by repeat (first | (with_reducible first | exact HK.out | apply KeepBut.set_ | apply keep_drewN | apply keep_drew | apply keep_alloc) | exact HK.out)⟩
  ·replace c5 := Bool.eq_false_iff.mpr c5
   subst c5
   have H1 : (some (0, false, t703, t704, t705, t706, t707)) = some (r1, r2, r3, r4, r5, r6, r7) := by rw [if_neg (show ¬ (false = true) by decide)] at H; exact H
   clear H
   have H := H1
   clear H1
   simp only [Option.some.injEq, Prod.mk.injEq] at H
   obtain ⟨rfl, rfl, rfl, rfl, rfl, rfl, rfl⟩ := H
   go_enter Try.func39, Try.ntmps39
   go_wp2_with (first | ((with_reducible refine gate_dst (N := 1) rfl ?_); refine box_here (g := g) (w1 := w) (t := 30) ?hg (N := 1) ?hd HG_.out HW_.out ?hr ?_; (case hd => rfl); (case hg => rfl); (case hr => first | (go_simp; done) | (go_simp; rfl))) | ((with_reducible refine gate_callee (f := 47) rfl ?_); refine goesL_ (some 11) rfl rfl Try.func47 (by kernel_rfl) rfl #[.pointer (some ⟨g, 0, none⟩)] rfl (by (try simp only [List.map_toArray, List.map_cons, List.map_nil]); first | done | rfl | (simp only [List.length_drop, List.length_take]; rfl)) ?_; (with_reducible refine (spec_l06Is.calls g s0_0 s0_1 s0_2 s0_3 s0_4 s0_5 s0_6 true t694 t695 t696 t697 t698 w0 _ ?side1 ?side2 A2.out).mono ?_); (case side1 => repeat (first | (with_reducible first | exact HI0.out | apply IsS30.alloc | apply IsS30.drewN | apply IsS30.drew | apply IsS30.set_0 | apply IsS30.set_3 | apply IsS30.set_4 | apply IsS30.set_5 | apply IsS30.set_6) | exact HI0.out)); (case side2 => repeat (first | (with_reducible first | exact HB.out | apply below_alloc | apply pw_below_drewN | apply below_drew1 | refine below_set ?_ (IsS30.ge HI0.out)) | exact HB.out)); rintro e w13 ⟨rfl, hi, hb, hk⟩; refine ⟨_, rfl, ?_⟩; have n0_ := Aside0.mk (KeepBut.trans (by repeat (first | (with_reducible first | exact HK.out | apply KeepBut.set_ | apply keep_drewN | apply keep_drew | apply keep_alloc) | exact HK.out)) hk (.inl rfl)); have n1_ := Aside0.mk (hb); have n2_ := Aside0.mk (hi); clear HK; clear HB; clear HI0; have HK := n0_; have HB := n1_; have HI0 := n2_; clear n0_ n1_ n2_; (try clear hb); (try clear hb2); (try clear hk); (try clear hi)) | ((with_reducible refine gate_callee (f := 73) rfl ?_); refine goesL_ (some 15) rfl rfl Try.func73 (by kernel_rfl) rfl #[.pointer (some ⟨g, 0, none⟩), .int .i64 9100] rfl (by (try simp only [List.map_toArray, List.map_cons, List.map_nil]); first | done | rfl | (simp only [List.length_drop, List.length_take]; rfl)) ?_; (with_reducible refine (spec_l06Least.calls k g t694 s0_1 s0_2 t695 t696 t697 t698 9100 t699 false t703 t704 t705 t706 t707 w0 _ ?side1 ?side2 A4.out).mono ?_); (case side1 => repeat (first | (with_reducible first | exact HI0.out | apply IsS30.alloc | apply IsS30.drewN | apply IsS30.drew | apply IsS30.set_0 | apply IsS30.set_3 | apply IsS30.set_4 | apply IsS30.set_5 | apply IsS30.set_6) | exact HI0.out)); (case side2 => repeat (first | (with_reducible first | exact HB.out | apply below_alloc | apply pw_below_drewN | apply below_drew1 | refine below_set ?_ (IsS30.ge HI0.out)) | exact HB.out)); rintro e w14 ⟨v700, rfl, ho0, hi, hb, hk⟩; refine ⟨_, rfl, ?_⟩; have n0_ := Aside0.mk (Kd.R_lower ho0 (keep_size (w := w) (g := g) (row := none) (by repeat (first | (with_reducible first | exact HK.out | apply KeepBut.set_ | apply keep_drewN | apply keep_drew | apply keep_alloc) | exact HK.out)))); have n1_ := Aside0.mk (KeepBut.trans (by repeat (first | (with_reducible first | exact HK.out | apply KeepBut.set_ | apply keep_drewN | apply keep_drew | apply keep_alloc) | exact HK.out)) hk (.inl rfl)); have n2_ := Aside0.mk (hb); have n3_ := Aside0.mk (hi); clear HK; clear HB; clear HI0; have HO701 := n0_; have HK := n1_; have HB := n2_; have HI0 := n3_; clear n0_ n1_ n2_ n3_; (try clear hb); (try clear hb2); (try clear hk); (try clear hi); (try clear ho0)))
   go_ret2
   exact ⟨by first | rfl | (simp [errW_none, errW_some] <;> rfl) | (simp [*, errW_none, errW_some] <;> rfl), by repeat (first | (with_reducible first | exact HI0.out | apply IsS30.alloc | apply IsS30.drewN | apply IsS30.drew | apply IsS30.set_0 | apply IsS30.set_3 | apply IsS30.set_4 | apply IsS30.set_5 | apply IsS30.set_6) | exact HI0.out), by repeat (first | (with_reducible first | exact HB.out | apply below_alloc | apply pw_below_drewN | apply below_drew1 | refine below_set ?_ (IsS30.ge HI0.out)) | exact HB.out), by repeat (first | (with_reducible first | exact HK.out | apply KeepBut.set_ | apply keep_drewN | apply keep_drew | apply keep_alloc) | exact HK.out)⟩
 ·replace c3 := Bool.eq_false_iff.mpr c3
  subst c3
  have H1 : (some (0, false, t694, t695, t696, t697, t698)) = some (r1, r2, r3, r4, r5, r6, r7) := by rw [if_neg (show ¬ (false = true) by decide)] at H; exact H
  clear H
  have H := H1
  clear H1
  simp only [Option.some.injEq, Prod.mk.injEq] at H
  obtain ⟨rfl, rfl, rfl, rfl, rfl, rfl, rfl⟩ := H
  go_enter Try.func39, Try.ntmps39
  go_wp2_with (first | ((with_reducible refine gate_dst (N := 1) rfl ?_); refine box_here (g := g) (w1 := w) (t := 30) ?hg (N := 1) ?hd HG_.out HW_.out ?hr ?_; (case hd => rfl); (case hg => rfl); (case hr => first | (go_simp; done) | (go_simp; rfl))) | ((with_reducible refine gate_callee (f := 47) rfl ?_); refine goesL_ (some 11) rfl rfl Try.func47 (by kernel_rfl) rfl #[.pointer (some ⟨g, 0, none⟩)] rfl (by (try simp only [List.map_toArray, List.map_cons, List.map_nil]); first | done | rfl | (simp only [List.length_drop, List.length_take]; rfl)) ?_; (with_reducible refine (spec_l06Is.calls g s0_0 s0_1 s0_2 s0_3 s0_4 s0_5 s0_6 false t694 t695 t696 t697 t698 w0 _ ?side1 ?side2 A2.out).mono ?_); (case side1 => repeat (first | (with_reducible first | exact HI0.out | apply IsS30.alloc | apply IsS30.drewN | apply IsS30.drew | apply IsS30.set_0 | apply IsS30.set_3 | apply IsS30.set_4 | apply IsS30.set_5 | apply IsS30.set_6) | exact HI0.out)); (case side2 => repeat (first | (with_reducible first | exact HB.out | apply below_alloc | apply pw_below_drewN | apply below_drew1 | refine below_set ?_ (IsS30.ge HI0.out)) | exact HB.out)); rintro e w15 ⟨rfl, hi, hb, hk⟩; refine ⟨_, rfl, ?_⟩; have n0_ := Aside0.mk (KeepBut.trans (by repeat (first | (with_reducible first | exact HK.out | apply KeepBut.set_ | apply keep_drewN | apply keep_drew | apply keep_alloc) | exact HK.out)) hk (.inl rfl)); have n1_ := Aside0.mk (hb); have n2_ := Aside0.mk (hi); clear HK; clear HB; clear HI0; have HK := n0_; have HB := n1_; have HI0 := n2_; clear n0_ n1_ n2_; (try clear hb); (try clear hb2); (try clear hk); (try clear hi)))
  go_ret2
  exact ⟨by first | rfl | (simp [errW_none, errW_some] <;> rfl) | (simp [*, errW_none, errW_some] <;> rfl), by repeat (first | (with_reducible first | exact HI0.out | apply IsS30.alloc | apply IsS30.drewN | apply IsS30.drew | apply IsS30.set_0 | apply IsS30.set_3 | apply IsS30.set_4 | apply IsS30.set_5 | apply IsS30.set_6) | exact HI0.out), by repeat (first | (with_reducible first | exact HB.out | apply below_alloc | apply pw_below_drewN | apply below_drew1 | refine below_set ?_ (IsS30.ge HI0.out)) | exact HB.out), by repeat (first | (with_reducible first | exact HK.out | apply KeepBut.set_ | apply keep_drewN | apply keep_drew | apply keep_alloc) | exact HK.out)⟩
def spec_LeastSkewedPeriod.f (k : Nat) (s0_0 : Int) (s0_1 : List (S62)) (s0_2 : List Int) (s0_3 : Int) (s0_4 : Int) (s0_5 : Int) (s0_6 : Int) : Option (Int × Bool) := (spec_LeastSkewedPeriod.fB k s0_0 s0_1 s0_2 s0_3 s0_4 s0_5 s0_6).bind fun b => some (b.1, b.2.1)
theorem spec_LeastSkewedPeriod.calls (k : Nat) (s0_0 : Int) (A0_1 : Option Addr) (c0_1 : Nat) (s0_1 : List (S62)) (A0_2 : Option Addr) (c0_2 : Nat) (s0_2 : List Int) (s0_3 : Int) (s0_4 : Int) (s0_5 : Int) (s0_6 : Int) (r1 : Int) (r2 : Bool) (w : World) (hr0_1 : Kd.C k62 w A0_1 s0_1.length s0_1) (hc0_1 : s0_1.length ≤ c0_1) (hr0_2 : Kd.C (Kd.int .i64) w A0_2 s0_2.length s0_2) (hc0_2 : s0_2.length ≤ c0_2) (h : spec_LeastSkewedPeriod.f k s0_0 s0_1 s0_2 s0_3 s0_4 s0_5 s0_6 = some (r1, r2)) :
  Calls Try.prog 39 #[.agg #[.int .i64 s0_0, .slice A0_1 s0_1.length c0_1, .slice A0_2 s0_2.length c0_2, .int .i64 s0_3, .int .i64 s0_4, .int .i64 s0_5, .int .i64 s0_6]] w fun e w' => e = .returned (.tuple #[.int .i64 r1, .bool r2]) ∧ Below w.heap.size w w' := by
 have hB_ : Below w.heap.size w (w.alloc (.cells #[.int .i64 s0_0, .slice A0_1 s0_1.length c0_1, .slice A0_2 s0_2.length c0_2, .int .i64 s0_3, .int .i64 s0_4, .int .i64 s0_5, .int .i64 s0_6] 30)) := below_alloc (Below.refl _ _) _
 have hI_ := IsS30.new w w A0_1 c0_1 A0_2 c0_2 s0_0 s0_1 s0_2 s0_3 s0_4 s0_5 s0_6 (Below.refl _ _) hr0_1 hr0_2
 obtain ⟨b_, h0_, h1_⟩ := Option.bind_eq_some_iff.mp h
 obtain ⟨b0_, b1_, b2_, b3_, b4_, b5_, b6_⟩ := b_
 simp only [Option.some.injEq, Prod.mk.injEq] at h1_
 obtain ⟨rfl, rfl⟩ := h1_
 refine (spec_LeastSkewedPeriod.callsB k A0_1 c0_1 A0_2 c0_2 w.heap.size s0_0 s0_1 s0_2 s0_3 s0_4 s0_5 s0_6 _ _ _ _ _ _ _ w (w.alloc (.cells #[.int .i64 s0_0, .slice A0_1 s0_1.length c0_1, .slice A0_2 s0_2.length c0_2, .int .i64 s0_3, .int .i64 s0_4, .int .i64 s0_5, .int .i64 s0_6] 30)) hI_ hB_  rfl rfl h0_).mono ?_
 rintro e w' ⟨he_, _, hb_, _⟩
 exact ⟨he_, hb_⟩

end Go.Proofs.Ytalafmahgeejiaa.Pa

/- The least skewed period: two searches, with other bounds, come to the same. -/
namespace Go.Proofs.Ytalafmahgeejiaa.Pure
open Go.RowKit Go.Proofs.Ytalafmahgeejiaa.Pa Go.Proofs.YtalafmahgeejiaaW.PrintWords Go.Proofs.YtalafmahgeejiaaW.PrintLast
set_option linter.unusedVariables false
set_option linter.unusedSimpArgs false

/-- The first number from lo on for which something holds that goes on holding. -/
structure FirstOk (ok : Int → Bool) (lo hi m : Int) : Prop where
 ge : lo ≤ m
 le : m ≤ hi
 is : ok m = true
 not : ∀ p, lo ≤ p → p < m → ok p = false
theorem FirstOk.same {ok : Int → Bool} {lo hi hi' m m' : Int} (h : FirstOk ok lo hi m) (h' : FirstOk ok lo hi' m') : m = m' := by
 by_cases c : m < m'
 ·have := h'.not m h.ge c
  rw [h.is] at this
  cases this
 ·by_cases c2 : m' < m
  ·have := h.not m' h'.ge c2
   rw [h'.is] at this
   cases this
  ·omega
theorem FirstOk.high {ok : Int → Bool} {lo hi mid m : Int} (h : FirstOk ok lo mid m) (hm : mid ≤ hi) : FirstOk ok lo hi m := ⟨h.ge, Int.le_trans h.le hm, h.is, h.not⟩
theorem mid_tells {lo hi : Int} (h0 : 0 ≤ lo) (h1 : lo < hi) (h2 : hi ≤ 1000000) : wrap64 (Int.tdiv (wrap64 (lo + hi)) 2) = (lo + hi) / 2 := by
 rw [wrap_id (x := lo + hi) (by omega) (by omega), Int.tdiv_eq_ediv_of_nonneg (by omega), wrap_id (by omega) (by omega)]
section
variable (n a3 a4 a5 a6 : Int) (gates : List S62) (data : List Int) (C : Ready n gates data)
include C
theorem impl_search (mono : ∀ p q, 1 ≤ p → p ≤ q → q ≤ 100000 → skOk n gates data a3 a4 a5 a6 p = true → skOk n gates data a3 a4 a5 a6 q = true) (d : Nat) : ∀ lo hi : Int, 1 ≤ lo → lo ≤ hi → hi ≤ 100000 → hi - lo ≤ d → skOk n gates data a3 a4 a5 a6 hi = true →
  ∃ m, Ev (fun k => impl_LeastSkewedPeriod.l0 k lo hi n gates data a3 a4 a5 a6) (m, true) ∧ FirstOk (skOk n gates data a3 a4 a5 a6) lo hi m := by
 induction d with
 | zero =>
  intro lo hi h0 h1 h2 h3 h4
  refine ⟨lo, ⟨1, fun k hk => ?_⟩, ⟨Int.le_refl _, h1, by rw [show lo = hi by omega]; exact h4, fun p h5 h6 => by omega⟩⟩
  obtain ⟨k, rfl⟩ : ∃ m, k = m + 1 := ⟨k - 1, by omega⟩
  simp only [impl_LeastSkewedPeriod.l0]
  rw [if_neg (by omega)]
 | succ d ih =>
  intro lo hi h0 h1 h2 h3 h4
  by_cases c : lo < hi
  ·have hm := mid_tells (lo := lo) (hi := hi) (by omega) c (by omega)
   obtain ⟨K1, hK1⟩ := implLeast n a3 a4 a5 a6 gates data C ((lo + hi) / 2)
   cases ho : skOk n gates data a3 a4 a5 a6 ((lo + hi) / 2) with
   | true =>
    obtain ⟨m, ⟨K2, hK2⟩, hf⟩ := ih lo ((lo + hi) / 2) h0 (by omega) (by omega) (by omega) ho
    refine ⟨m, ⟨K1 + K2 + 1, fun k hk => ?_⟩, hf.high (by omega)⟩
    obtain ⟨k, rfl⟩ : ∃ m, k = m + 1 := ⟨k - 1, by omega⟩
    have k1 : impl_leastSkews.f k n gates data a3 a4 a5 a6 ((lo + hi) / 2) = _ := hK1 k (by omega)
    have k2 := hK2 k (by omega)
    simp only [impl_LeastSkewedPeriod.l0]
    rw [if_pos c, hm, k1, ho]
    simp only [Option.bind_some, if_true]
    exact k2
   | false =>
    have hw : wrap64 ((lo + hi) / 2 + 1) = (lo + hi) / 2 + 1 := wrap_id (by omega) (by omega)
    obtain ⟨m, ⟨K2, hK2⟩, hf⟩ := ih ((lo + hi) / 2 + 1) hi (by omega) (by omega) (by omega) (by omega) h4
    refine ⟨m, ⟨K1 + K2 + 1, fun k hk => ?_⟩, ⟨by have := hf.ge; omega, hf.le, hf.is, fun p h5 h6 => ?_⟩⟩
    ·obtain ⟨k, rfl⟩ : ∃ m, k = m + 1 := ⟨k - 1, by omega⟩
     have k1 : impl_leastSkews.f k n gates data a3 a4 a5 a6 ((lo + hi) / 2) = _ := hK1 k (by omega)
     have k2 := hK2 k (by omega)
     simp only [impl_LeastSkewedPeriod.l0]
     rw [if_pos c, hm, k1, ho, hw]
     simp only [Option.bind_some]
     rw [if_neg (by decide)]
     exact k2
    ·by_cases c2 : p ≤ (lo + hi) / 2
     ·cases hp : skOk n gates data a3 a4 a5 a6 p with
      | false => rfl
      | true =>
       have := mono p ((lo + hi) / 2) (by omega) c2 (by omega) hp
       rw [ho] at this
       cases this
     ·exact hf.not p (by omega) h6
  ·refine ⟨lo, ⟨1, fun k hk => ?_⟩, ⟨Int.le_refl _, h1, by rw [show lo = hi by omega]; exact h4, fun p h5 h6 => by omega⟩⟩
   obtain ⟨k, rfl⟩ : ∃ m, k = m + 1 := ⟨k - 1, by omega⟩
   simp only [impl_LeastSkewedPeriod.l0]
   rw [if_neg (by omega)]
theorem spec_search (hw : ∀ g ∈ gates, g.f2.length ≤ 1048576) (hd : data.length ≤ 1048576) (mono : ∀ p q, 1 ≤ p → p ≤ q → q ≤ 100000 → skOk n gates data a3 a4 a5 a6 p = true → skOk n gates data a3 a4 a5 a6 q = true) (d : Nat) : ∀ lo hi : Int, 1 ≤ lo → lo ≤ hi → hi ≤ 100000 → hi - lo ≤ d → skOk n gates data a3 a4 a5 a6 hi = true →
  ∃ m, Ev (fun k => spec_LeastSkewedPeriod.l0 k hi lo n gates data a3 a4 a5 a6) (m, true, n, a3, a4, a5, a6) ∧ FirstOk (skOk n gates data a3 a4 a5 a6) lo hi m := by
 induction d with
 | zero =>
  intro lo hi h0 h1 h2 h3 h4
  refine ⟨lo, ⟨1, fun k hk => ?_⟩, ⟨Int.le_refl _, h1, by rw [show lo = hi by omega]; exact h4, fun p h5 h6 => by omega⟩⟩
  obtain ⟨k, rfl⟩ : ∃ m, k = m + 1 := ⟨k - 1, by omega⟩
  simp only [spec_LeastSkewedPeriod.l0]
  rw [if_neg (by omega)]
 | succ d ih =>
  intro lo hi h0 h1 h2 h3 h4
  by_cases c : lo < hi
  ·have hm := mid_tells (lo := lo) (hi := hi) (by omega) c (by omega)
   obtain ⟨l, ⟨K1, hK1⟩, _⟩ := specLeast n a3 a4 a5 a6 gates data C hw hd ((lo + hi) / 2)
   cases ho : skOk n gates data a3 a4 a5 a6 ((lo + hi) / 2) with
   | true =>
    obtain ⟨m, ⟨K2, hK2⟩, hf⟩ := ih lo ((lo + hi) / 2) h0 (by omega) (by omega) (by omega) ho
    refine ⟨m, ⟨K1 + K2 + 1, fun k hk => ?_⟩, hf.high (by omega)⟩
    obtain ⟨k, rfl⟩ : ∃ m, k = m + 1 := ⟨k - 1, by omega⟩
    have k1 : spec_l06Least.f k n gates data a3 a4 a5 a6 ((lo + hi) / 2) = _ := hK1 k (by omega)
    have k2 := hK2 k (by omega)
    simp only [spec_LeastSkewedPeriod.l0]
    rw [if_pos c, hm, k1, ho]
    simp only [Option.bind_some, if_true]
    exact k2
   | false =>
    have hw' : wrap64 ((lo + hi) / 2 + 1) = (lo + hi) / 2 + 1 := wrap_id (by omega) (by omega)
    obtain ⟨m, ⟨K2, hK2⟩, hf⟩ := ih ((lo + hi) / 2 + 1) hi (by omega) (by omega) (by omega) (by omega) h4
    refine ⟨m, ⟨K1 + K2 + 1, fun k hk => ?_⟩, ⟨by have := hf.ge; omega, hf.le, hf.is, fun p h5 h6 => ?_⟩⟩
    ·obtain ⟨k, rfl⟩ : ∃ m, k = m + 1 := ⟨k - 1, by omega⟩
     have k1 : spec_l06Least.f k n gates data a3 a4 a5 a6 ((lo + hi) / 2) = _ := hK1 k (by omega)
     have k2 := hK2 k (by omega)
     simp only [spec_LeastSkewedPeriod.l0]
     rw [if_pos c, hm, k1, ho, hw']
     simp only [Option.bind_some]
     rw [if_neg (by decide)]
     exact k2
    ·by_cases c2 : p ≤ (lo + hi) / 2
     ·cases hp : skOk n gates data a3 a4 a5 a6 p with
      | false => rfl
      | true =>
       have := mono p ((lo + hi) / 2) (by omega) c2 (by omega) hp
       rw [ho] at this
       cases this
     ·exact hf.not p (by omega) h6
  ·refine ⟨lo, ⟨1, fun k hk => ?_⟩, ⟨Int.le_refl _, h1, by rw [show lo = hi by omega]; exact h4, fun p h5 h6 => by omega⟩⟩
   obtain ⟨k, rfl⟩ : ∃ m, k = m + 1 := ⟨k - 1, by omega⟩
   simp only [spec_LeastSkewedPeriod.l0]
   rw [if_neg (by omega)]
end
theorem periods (n : Int) (gates : List S62) (data : List Int) (a3 a4 a5 a6 : Int) (hw : ∀ g ∈ gates, g.f2.length ≤ 1048576) (hd : data.length ≤ 1048576) :
  ∃ r : Int × Bool, Ev (fun k => spec_LeastSkewedPeriod.f k n gates data a3 a4 a5 a6) r ∧ Ev (fun k => impl_LeastSkewedPeriod.f k n gates data a3 a4 a5 a6) r := by
 cases hv : validB n gates data a3 a4 a5 a6 with
 | false =>
  refine ⟨(0, false), ⟨0, fun k hk => ?_⟩, ⟨0, fun k hk => ?_⟩⟩
  ·show spec_LeastSkewedPeriod.f k n gates data a3 a4 a5 a6 = _
   unfold spec_LeastSkewedPeriod.f spec_LeastSkewedPeriod.fB
   rw [is_tells n gates data a3 a4 a5 a6, hv]
   simp
  ·show impl_LeastSkewedPeriod.f k n gates data a3 a4 a5 a6 = _
   unfold impl_LeastSkewedPeriod.f
   rw [valid_tells n gates data a3 a4 a5 a6, hv]
   simp
 | true =>
  have C := circ_of n gates data a3 a4 a5 a6 hw hv
  have R := C.ready hw
  have hn := C.n0
  have hn1 := C.n1
  have hl := link_ok C hw
  have mono : ∀ p q, 1 ≤ p → p ≤ q → q ≤ 100000 → skOk n gates data a3 a4 a5 a6 p = true → skOk n gates data a3 a4 a5 a6 q = true := fun p q h0 h1 h2 h => (skOk_iff hw hv q (by omega) h2).mpr (((skOk_iff hw hv p h0 (by omega)).mp h).mono h1)
  have great : skOk n gates data a3 a4 a5 a6 100000 = skOk n gates data a3 a4 a5 a6 9100 := by
   rw [Bool.eq_iff_iff]
   exact ⟨fun h => (skOk_iff hw hv 9100 (by omega) (by omega)).mpr (((skOk_iff hw hv 100000 (by omega) (by omega)).mp h).great hl (by omega) C.setup.2 C.hold.1 C.hold.2 (by omega)), mono 9100 100000 (by omega) (by omega) (by omega)⟩
  obtain ⟨l, ⟨K1, hK1⟩, _⟩ := specLeast n a3 a4 a5 a6 gates data R hw hd 9100
  obtain ⟨K2, hK2⟩ := implLeast n a3 a4 a5 a6 gates data R 100000
  cases ho : skOk n gates data a3 a4 a5 a6 9100 with
  | false =>
   rw [ho] at hK1 great
   rw [great] at hK2
   refine ⟨(0, false), ⟨K1, fun k hk => ?_⟩, ⟨K2, fun k hk => ?_⟩⟩
   ·have k1 : spec_l06Least.f k n gates data a3 a4 a5 a6 9100 = _ := hK1 k hk
    show spec_LeastSkewedPeriod.f k n gates data a3 a4 a5 a6 = _
    unfold spec_LeastSkewedPeriod.f spec_LeastSkewedPeriod.fB
    rw [is_tells n gates data a3 a4 a5 a6, hv]
    simp only [Option.bind_some, if_true]
    rw [k1]
    simp
   ·have k1 : impl_leastSkews.f k n gates data a3 a4 a5 a6 100000 = _ := hK2 k hk
    show impl_LeastSkewedPeriod.f k n gates data a3 a4 a5 a6 = _
    unfold impl_LeastSkewedPeriod.f
    rw [valid_tells n gates data a3 a4 a5 a6, hv]
    simp only [Option.bind_some, if_true]
    rw [k1]
    simp
  | true =>
   rw [ho] at hK1 great
   rw [great] at hK2
   obtain ⟨m, ⟨K3, hK3⟩, f1⟩ := spec_search n a3 a4 a5 a6 gates data R hw hd mono 100000 1 9100 (by omega) (by omega) (by omega) (by omega) ho
   obtain ⟨m', ⟨K4, hK4⟩, f2⟩ := impl_search n a3 a4 a5 a6 gates data R mono 100000 1 100000 (by omega) (by omega) (by omega) (by omega) great
   obtain rfl := f1.same f2
   refine ⟨(m, true), ⟨K1 + K3, fun k hk => ?_⟩, ⟨K2 + K4, fun k hk => ?_⟩⟩
   ·have k1 : spec_l06Least.f k n gates data a3 a4 a5 a6 9100 = _ := hK1 k (by omega)
    have k2 : spec_LeastSkewedPeriod.l0 k 9100 1 n gates data a3 a4 a5 a6 = _ := hK3 k (by omega)
    show spec_LeastSkewedPeriod.f k n gates data a3 a4 a5 a6 = _
    unfold spec_LeastSkewedPeriod.f spec_LeastSkewedPeriod.fB
    rw [is_tells n gates data a3 a4 a5 a6, hv]
    simp only [Option.bind_some, if_true]
    rw [k1]
    simp only [Option.bind_some, if_true]
    rw [k2]
    rfl
   ·have k1 : impl_leastSkews.f k n gates data a3 a4 a5 a6 100000 = _ := hK2 k (by omega)
    have k2 : impl_LeastSkewedPeriod.l0 k 1 100000 n gates data a3 a4 a5 a6 = _ := hK4 k (by omega)
    show impl_LeastSkewedPeriod.f k n gates data a3 a4 a5 a6 = _
    unfold impl_LeastSkewedPeriod.f
    rw [valid_tells n gates data a3 a4 a5 a6, hv]
    simp only [Option.bind_some, if_true]
    rw [k1]
    simp only [Option.bind_some, if_true]
    exact k2
end Go.Proofs.Ytalafmahgeejiaa.Pure

namespace Go.Proofs.Ytalafmahgeejiaa.Pa
open Go.RowKit Go.Proofs.YtalafmahgeejiaaW.PrintWords Go.Proofs.YtalafmahgeejiaaW.PrintLast Go.Proofs.YtalafmahgeejiaaW.PrintMore
attribute [local go_sem] max2_int min2_int max_two min_two max_three min_three max_four min_four   -- for this text's walks alone
set_option linter.unusedVariables false
set_option linter.unusedSimpArgs false

/-! ### laws_toInt64S: function 22 -/
def laws_toInt64S.l0 : Nat → List Int → List Int → Int → Option (List Int)
 | 0, _, _, _ => none
 | k + 1, x0, x3, x4 => if x4 < (x0.length : Int) then (if 0 ≤ x4 then (if x4 < (x3.length : Int) then (laws_toInt64S.l0 k x0 (x3.set (x4 : Int).toNat (rd x0 x4)) (wrap64 (x4 + 1))) else (none)) else (none)) else (some x3)
def laws_toInt64S.f (k : Nat) (l0 : List Int) : Option (List Int) := if 0 ≤ (l0.length : Int) then (if ((l0.length : Int) : Int).toNat ≤ 35184372088832 then (laws_toInt64S.l0 k l0 (List.replicate ((l0.length : Int) : Int).toNat 0) 0) else (none)) else (none)
set_option maxHeartbeats 8000000 in
set_option maxRecDepth 100000 in
theorem laws_toInt64S.calls (k : Nat) (A0 : Option Addr) (c0 : Nat) (l0 : List Int) (r : List Int) (w : World) (hr0 : Kd.C (Kd.int .i64) w A0 l0.length l0) (hc0 : l0.length ≤ c0) (h : laws_toInt64S.f k l0 = some r) :
  Calls Try.prog 22 #[.slice A0 l0.length c0] w fun e w' => ∃ v0_ : Value, e = .returned (v0_) ∧ Kd.R (Kd.int .i64) 2 w' w.heap.size (fun _ => True) v0_ r ∧ Below w.heap.size w w' := by
 have HR0 := Aside0.mk hr0
 have HC0 := Aside0.mk hc0
 clear hr0 hc0
 have HB := Aside0.mk (Below.refl w.heap.size w)
 have H : (if 0 ≤ (l0.length : Int) then (if ((l0.length : Int) : Int).toNat ≤ 35184372088832 then (laws_toInt64S.l0 k l0 (List.replicate ((l0.length : Int) : Int).toNat 0) 0) else (none)) else (none)) = some r := h
 clear h
 by_cases c2 : 0 ≤ (l0.length : Int)
 ·rw [if_pos c2] at H
  have c2b0 := eq_true c2
  have c2b1 : decide (0 ≤ (l0.length : Int)) = true := decide_eq_true c2
  clear c2
  by_cases c3 : ((l0.length : Int) : Int).toNat ≤ 35184372088832
  ·rw [if_pos c3] at H
   have c3b0 := eq_true c3
   have c3b1 : decide (((l0.length : Int) : Int).toNat ≤ 35184372088832) = true := decide_eq_true c3
   clear c3
   obtain ⟨y120, hy120⟩ : ∃ y_ : List Int, y_ = (List.replicate ((l0.length : Int) : Int).toNat 0) := ⟨_, rfl⟩
   replace H : (laws_toInt64S.l0 k l0 y120 0) = some r := by first | (rw [hy120]; with_reducible exact H) | (have H2_ := (Option.bind_some _ _).symm.trans H; rw [hy120]; with_reducible exact H2_) | (have H2_ := (Option.bind_some _ _).symm.trans H; with_reducible exact H2_) | with_reducible exact H | (rw [hy120]; exact H) | exact H
   have Ny120 := Aside0.mk hy120
   clear hy120
   have H' := Aside0.mk H
   clear H
   go_enter Try.func22, Try.ntmps22
   go_wp2_with (first | ((with_reducible refine gate_dst (N := 7) rfl ?_); refine Kd.R_make (Kd.int .i64) _ 2 rfl (N := 7) rfl 23 _ _ rfl (l0.length : Int) rfl rfl Try.underlying23 (.int .i64 0) 8 info2 rfl (by decide) (by omega) 0 (ok := fun _ => True) (okp := fun _ => True) rfl (fun _ hk => hk) trivial (of_decide_eq_true (by with_reducible assumption)) (Nat.le_trans (Nat.mul_le_mul_right _ (of_decide_eq_true (by with_reducible assumption) : (l0.length : Int).toNat ≤ 35184372088832)) (by omega)) (Below.refl _ _) (Nat.le_refl _) ?_; intro v121 w4 ho5 hb hg_ hnew_; clear hg_ hnew_; (first | rw [← Ny120.out] at ho5 | (simp only [Int.reduceToNat] at ho5; rw [← Ny120.out] at ho5)); have n0_ := Aside0.mk (Kd.R_lower ho5 (below_size (by repeat (first | (with_reducible first | exact HB.out | apply below_alloc | apply pw_below_drewN | apply below_drew1) | exact HB.out)))); have n1_ := Aside0.mk (below_step (by repeat (first | (with_reducible first | exact HB.out | apply below_alloc | apply pw_below_drewN | apply below_drew1) | exact HB.out)) hb); clear HB; have HO122 := n0_; have HB := n1_; clear n0_ n1_; clear hb ho5))
   go_loopg [4] k (fun kq v4 w' => ∃ (x3_1 : List Int) (x4_1 : Int), v4 = .int .i64 x4_1 ∧ Aside0 (laws_toInt64S.l0 kq l0 x3_1 x4_1 = some r) ∧ Aside0 (kq ≤ k) ∧ Aside0 (Kd.R (Kd.int .i64) 2 w' w.heap.size (fun _ => True) v121 x3_1) ∧ Aside0 (Below w.heap.size w w'))
   case atStart => exact ⟨(y120), (0), (by first | rfl | (simp; done) | (simp [*]; done)), H', ⟨Nat.le_refl _⟩, ⟨by (with_reducible repeat (first | apply Kd.R_alloc | apply Kd.R_drewN | apply Kd.R_drew)); exact HO122.out⟩, ⟨by repeat (first | (with_reducible first | exact HB.out | apply below_alloc | apply pw_below_drewN | apply below_drew1) | exact HB.out)⟩⟩
   case round =>
    clear H'
    try clear c2
    try clear c2b0
    try clear c2b1
    try clear p2
    try clear c3
    try clear c3b0
    try clear c3b1
    obtain ⟨x3_1, x4_1, rfl, HA, HK1, HO_3, HB⟩ := hrel
    cases gk with
    | zero => exact absurd HA.out (by simp [laws_toInt64S.l0])
    | succ k1 =>
     have H := HA.out
     clear HA
     simp only [laws_toInt64S.l0] at H
     by_cases c6 : x4_1 < (l0.length : Int)
     ·rw [if_pos c6] at H
      have c6b0 : decide (x4_1 < (l0.length : Int)) = true := decide_eq_true c6
      clear c6
      by_cases c7 : 0 ≤ x4_1
      ·rw [if_pos c7] at H
       have c7b0 : decide (0 ≤ x4_1) = true := decide_eq_true c7
       clear c7
       by_cases c8 : x4_1 < (x3_1.length : Int)
       ·rw [if_pos c8] at H
        have c8b0 : decide (x4_1 < (x3_1.length : Int)) = true := decide_eq_true c8
        clear c8
        obtain ⟨y124, hy124⟩ : ∃ y_ : List Int, y_ = (x3_1.set (x4_1 : Int).toNat (rd l0 x4_1)) := ⟨_, rfl⟩
        replace H : (laws_toInt64S.l0 k1 l0 y124 (wrap64 (x4_1 + 1))) = some r := by first | (rw [hy124]; with_reducible exact H) | (have H2_ := (Option.bind_some _ _).symm.trans H; rw [hy124]; with_reducible exact H2_) | (have H2_ := (Option.bind_some _ _).symm.trans H; with_reducible exact H2_) | with_reducible exact H | (rw [hy124]; exact H) | exact H
        have Ny124 := Aside0.mk hy124
        clear hy124
        have H' := Aside0.mk H
        clear H
        have p123 : 0 ≤ (x4_1 : Int) := of_decide_eq_true (by with_reducible assumption)
        have q123 : x4_1 < (l0.length : Int) := of_decide_eq_true (by with_reducible assumption)
        obtain ⟨ad123, e123, hx123_0⟩ := Kd.at_int HR0.out x4_1 p123 q123
        cases e123
        replace hx123_0 := (HB.out.cell (World.block_lt_of_cell? w _ hx123_0)).trans hx123_0
        replace p123 := eq_true p123
        replace q123 := eq_true q123
        have p9 : 0 ≤ (x4_1 : Int) := of_decide_eq_true (by with_reducible assumption)
        have q9 : (x4_1 : Int) < ((x3_1.length : Int) : Int) := of_decide_eq_true (by with_reducible assumption)
        obtain ⟨go9, co9, eo9, gb9, gl9, cl9, HG9⟩ := Kd.R_form HO_3.out (by omega)
        (first | cases eo9 | (injection eo9 with ea_ en_ ec_; (first | subst ea_ | (injection ea_ with ea_; subst ea_)); subst ec_; clear en_))
        have GB9 := Aside0.mk gb9
        have GG9 := Aside0.mk HG9
        clear gb9 gl9 HG9
        obtain ⟨hx9_0, hf9_0⟩ := Kd.R_celln 0 HO_3.out (x4_1 : Int) p9 q9
        replace p9 := eq_true p9
        replace q9 := eq_true q9
        have HP10 := Kd.R_putg HO_3.out (x4_1 : Int) (rd l0 x4_1)
        go_wp2_with (first | ((with_reducible refine gate_store (t := 2) (p := 20) rfl ?_); refine store_event (t := 2) (p := 20) (v := ?vo_w11) (w1 := (wr.setCell ⟨go9, (x4_1 : Int).toNat, none⟩ (.int .i64 (rd l0 x4_1)))) ?hg ?ho ?hn ?hr ?_; (case ho => rfl); (case hg => rfl); (case hn => rfl); (case hr => first | (go_simp; done) | (go_simp; rfl)); intro w11 hw; have hg : wr.grownBy w11 (some go9) := (by rw [hw]; exact HP10.2); have hp_ : Kd.R (Kd.int .i64) 2 w11 w.heap.size (fun _ => True) (.slice (some ⟨go9, 0, none⟩) x3_1.length co9) y124 := (by rw [hw, Ny124.out]; exact HP10.1); clear HP10; have n0_ := Aside0.mk (hp_); have n1_ := Aside0.mk ((by rw [hw]; exact below_set (HB.out) GB9.out : Below w.heap.size w w11)); clear HO_3; clear HB; have HO_3 := n0_; have HB := n1_; clear n0_ n1_; clear hg hw hp_))
        go_roundg k1
        case measure => have := HK1.out; omega
        case rel => exact ⟨(y124), (wrap64 (x4_1 + 1)), (by first | rfl | (simp; done) | (simp [*]; done)), H', ⟨by have := HK1.out; omega⟩, ⟨by (with_reducible repeat (first | apply Kd.R_alloc | apply Kd.R_drewN | apply Kd.R_drew)); exact HO_3.out⟩, ⟨by repeat (first | (with_reducible first | exact HB.out | apply below_alloc | apply pw_below_drewN | apply below_drew1) | exact HB.out)⟩⟩
       ·rw [if_neg c8] at H
        exact absurd H (by simp)
      ·rw [if_neg c7] at H
       exact absurd H (by simp)
     ·rw [if_neg c6] at H
      have c6b0 : decide (x4_1 < (l0.length : Int)) = false := decide_eq_false c6
      clear c6
      obtain rfl := Option.some.inj H
      go_wp2
      go_ret
      exact ⟨_, by first | rfl | (simp [errW_none, errW_some] <;> rfl) | (simp [*, errW_none, errW_some] <;> rfl), by (with_reducible repeat (first | apply Kd.R_alloc | apply Kd.R_drewN | apply Kd.R_drew)); exact HO_3.out, by repeat (first | (with_reducible first | exact HB.out | apply below_alloc | apply pw_below_drewN | apply below_drew1) | exact HB.out)⟩
  ·rw [if_neg c3] at H
   exact absurd H (by simp)
 ·rw [if_neg c2] at H
  exact absurd H (by simp)

end Go.Proofs.Ytalafmahgeejiaa.Pa

/- A list of whole numbers that a law lays anew. -/
namespace Go.Proofs.Ytalafmahgeejiaa.Pure
open Go.RowKit Go.Proofs.Ytalafmahgeejiaa.Pa Go.Proofs.YtalafmahgeejiaaW.PrintWords Go.Proofs.YtalafmahgeejiaaW.PrintLast
set_option linter.unusedVariables false
set_option linter.unusedSimpArgs false

theorem toI_loop (l : List Int) (hl : l.length ≤ 4611686018427387904) (d : Nat) : ∀ (k : Nat) (acc : List Int) (i : Nat), acc.length = l.length → i + d = l.length → d < k →
  laws_toInt64S.l0 k l acc (i : Int) = some (acc.take i ++ l.drop i) := by
 induction d with
 | zero =>
  intro k acc i ha h hk
  obtain ⟨k, rfl⟩ : ∃ m, k = m + 1 := ⟨k - 1, by omega⟩
  simp only [laws_toInt64S.l0]
  rw [if_neg (by omega), List.take_of_length_le (by omega), List.drop_of_length_le (by omega)]
  simp
 | succ d ih =>
  intro k acc i ha h hk
  obtain ⟨k, rfl⟩ : ∃ m, k = m + 1 := ⟨k - 1, by omega⟩
  have hi : i < l.length := by omega
  simp only [laws_toInt64S.l0]
  rw [if_pos (by omega), if_pos (by omega), if_pos (by omega), wrap_id (by omega) (by omega), Int.toNat_natCast, rd_get hi]
  have := ih k (acc.set i (l[i])) (i + 1) (by simpa using ha) (by omega) (by omega)
  push_cast at this
  rw [this, List.drop_eq_getElem_cons hi]
  have ht : (acc.set i (l[i])).take (i + 1) = acc.take i ++ [l[i]] := by
   rw [List.take_succ_eq_append_getElem (by simp; omega), List.take_set_of_le (by omega)]
   simp
  rw [ht]
  simp
theorem toI (l : List Int) (hl : l.length ≤ 1048576) : ∀ k, l.length < k → laws_toInt64S.f k l = some l := by
 intro k hk
 unfold laws_toInt64S.f
 rw [if_pos (by omega), if_pos (by omega)]
 have := toI_loop l (by omega) l.length k (List.replicate ((l.length : Int)).toNat 0) 0 (by simp) (by omega) hk
 rw [show ((0 : Nat) : Int) = 0 from rfl] at this
 rw [this]
 simp
end Go.Proofs.Ytalafmahgeejiaa.Pure

namespace Go.Proofs.Ytalafmahgeejiaa.Pa
open Go.RowKit Go.Proofs.YtalafmahgeejiaaW.PrintWords Go.Proofs.YtalafmahgeejiaaW.PrintLast Go.Proofs.YtalafmahgeejiaaW.PrintMore
attribute [local go_sem] max2_int min2_int max_two min_two max_three min_three max_four min_four   -- for this text's walks alone
set_option linter.unusedVariables false
set_option linter.unusedSimpArgs false

/-! ### laws_szInt64S: function 46 -/
def laws_szInt64S.f (l0 : List Int) (a1 : Int) : Option (Int) := if (wrap64 (a1 - (l0.length : Int))) < 0 then (some (-1)) else (some (wrap64 (a1 - (l0.length : Int))))
set_option maxHeartbeats 8000000 in
set_option maxRecDepth 100000 in
theorem laws_szInt64S.calls (A0 : Option Addr) (c0 : Nat) (l0 : List Int) (a1 : Int) (r : Int) (w : World) (hr0 : Kd.C (Kd.int .i64) w A0 l0.length l0) (hc0 : l0.length ≤ c0) (h : laws_szInt64S.f l0 a1 = some r) :
  Calls Try.prog 46 #[.slice A0 l0.length c0, .int .i64 a1] w fun e w' => e = .returned (.int .i64 r) ∧ Drawn0 w w' := by
 have HR0 := Aside0.mk hr0
 have HC0 := Aside0.mk hc0
 clear hr0 hc0
 have H : (if (wrap64 (a1 - (l0.length : Int))) < 0 then (some (-1)) else (some (wrap64 (a1 - (l0.length : Int))))) = some r := h
 clear h
 by_cases c3 : (wrap64 (a1 - (l0.length : Int))) < 0
 ·rw [if_pos c3] at H
  have c3b0 : decide ((wrap64 (a1 - (l0.length : Int))) < 0) = true := decide_eq_true c3
  clear c3
  obtain rfl := Option.some.inj H
  go_enter Try.func46, Try.ntmps46
  go_wp2
  go_ret
  exact ⟨by first | rfl | (simp; done) | (simp [*]; done), by repeat (first | exact Drawn0.refl _ | apply Drawn0.step)⟩
 ·rw [if_neg c3] at H
  have c3b0 : decide ((wrap64 (a1 - (l0.length : Int))) < 0) = false := decide_eq_false c3
  clear c3
  obtain rfl := Option.some.inj H
  go_enter Try.func46, Try.ntmps46
  go_wp2
  go_ret
  exact ⟨by first | rfl | (simp; done) | (simp [*]; done), by repeat (first | exact Drawn0.refl _ | apply Drawn0.step)⟩

end Go.Proofs.Ytalafmahgeejiaa.Pa

