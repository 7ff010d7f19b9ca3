-- Written for this claim by a program of this session.
import Derived.Test.YtalafmahgeejiaaPax0
import Derived.Test.YtalafmahgeejiaaCore4
namespace Go.Proofs.Ytalafmahgeejiaa.Pa
open Go.RowKit Go.Proofs.YtalafmahgeejiaaW.PrintWords Go.Proofs.YtalafmahgeejiaaW.PrintLast Go.Proofs.YtalafmahgeejiaaW.PrintMore
attribute [local go_sem] max2_int min2_int max_two min_two max_three min_three max_four min_four   -- for this text's walks alone
set_option linter.unusedVariables false
set_option linter.unusedSimpArgs false

/-! ### impl_holdRoom: function 68 -/
/-- The room of a path for hold. -/
def holdP (hold : Int) (skews : List Int) (x : S72) : Int := wrap64 (wrap64 (wrap64 (x.f2 + rd skews x.f0) - rd skews x.f1) - hold)
def impl_holdRoom.f (k : Nat) (a0_0 : Int) (l0_1 : List (S62)) (l0_2 : List Int) (a0_3 a0_4 a0_5 a0_6 : Int) (l1 : List Int) : Option Int :=
 (impl_Circuit_links.f k a0_0 l0_1 l0_2 a0_3 a0_4 a0_5 a0_6).bind fun ls => if 0 < ls.length ∧ ls.all (linkIn l1) = true then some (leastL (holdP a0_4 l1) ls) else none
theorem impl_holdRoom.mono : ∀ a0 a1 a2 a3 a4 a5 a6 a7 k, LeO (impl_holdRoom.f k a0 a1 a2 a3 a4 a5 a6 a7) (impl_holdRoom.f (k + 1) a0 a1 a2 a3 a4 a5 a6 a7) := by
 intro a0 a1 a2 a3 a4 a5 a6 a7 k
 unfold impl_holdRoom.f
 exact LeO.bind (impl_Circuit_links.mono _ _ _ _ _ _ _ k) (fun _ => LeO.refl _)
set_option maxHeartbeats 4000000 in
set_option maxRecDepth 100000 in
theorem impl_holdRoom.test (hold : Int) (skews : List Int) (A : Option Addr) (c bs bc : Nat) (w : World) (hs : w.cell? ⟨bs, 0, none⟩ = some (.slice A skews.length c)) (hc : w.cell? ⟨bc, 4, none⟩ = some (.int .i64 hold))
  (hr : Kd.C (Kd.int .i64) w A skews.length skews) (W : World) (x : S72) (hx : linkIn skews x = true) (hb : Below w.heap.size w W) :
  Calls Try.prog 90 (#[.agg #[.int .i64 x.f0, .int .i64 x.f1, .int .i64 x.f2, .int .i64 x.f3]] ++ #[.pointer (some ⟨bs, 0, none⟩), .pointer (some ⟨bc, 0, none⟩)]) W fun e w' => e = .returned (.int .i64 (holdP hold skews x)) ∧ Below W.heap.size W w' := by
 have hu := Try.underlying72
 have hu2 := Try.underlying30
 have HB := Aside0.mk hb
 have HS := Aside0.mk (pw_cell_below hb hs)
 have HC := Aside0.mk (pw_cell_below hb hc)
 have HR := Aside0.mk (Kd.C_below hr hb)
 clear hb hs hc hr
 unfold linkIn at hx
 simp only [Bool.and_eq_true, decide_eq_true_eq] at hx
 have HX := Aside0.mk hx
 clear hx
 have HQ := Aside0.mk (show holdP hold skews x = wrap64 (wrap64 (wrap64 (x.f2 + rd skews x.f0) - rd skews x.f1) - hold) from rfl)
 generalize holdP hold skews x = q at HQ ⊢
 show Calls Try.prog 90 #[.agg #[.int .i64 x.f0, .int .i64 x.f1, .int .i64 x.f2, .int .i64 x.f3], .pointer (some ⟨bs, 0, none⟩), .pointer (some ⟨bc, 0, none⟩)] W _
 go_enter Try.func90, Try.ntmps90
 go_wp2_with ((with_reducible refine gate_dst (N := 3) rfl ?_); refine box_event ?hg (N := 3) ?hd (cs := #[.int .i64 x.f0, .int .i64 x.f1, .int .i64 x.f2, .int .i64 x.f3]) (t := 72) ?hr ?_; (case hd => rfl); (case hg => rfl); (case hr => first | (go_simp; done) | (go_simp; rfl)); intro gb hg_ w6 hbox_ hb_; have HX_gb := Aside0.mk hbox_; have HB_w6 := Aside0.mk hb_; have HG_gb := Aside0.mk hg_; clear hbox_ hb_ hg_)
 have b0 : w6.cell? ⟨gb, 0, none⟩ = some (.int .i64 x.f0) := (blk_cell HX_gb.out 0).trans rfl
 have b1 : w6.cell? ⟨gb, 1, none⟩ = some (.int .i64 x.f1) := (blk_cell HX_gb.out 1).trans rfl
 have b3 : w6.cell? ⟨gb, 2, none⟩ = some (.int .i64 x.f2) := (blk_cell HX_gb.out 2).trans rfl
 have t1 := pw_cell_below HB_w6.out HS.out
 have t2 := pw_cell_below HB_w6.out HC.out
 obtain ⟨ad, e, e0⟩ := Kd.at_int HR.out x.f0 HX.out.1.1.1 HX.out.1.1.2
 cases e
 obtain ⟨ad', e', e1⟩ := Kd.at_int HR.out x.f1 HX.out.1.2 HX.out.2
 cases e'
 replace e0 := pw_cell_below HB_w6.out e0
 replace e1 := pw_cell_below HB_w6.out e1
 have p0 := eq_true HX.out.1.1.1
 have p1 := eq_true HX.out.1.1.2
 have p2 := eq_true HX.out.1.2
 have p3 := eq_true HX.out.2
 go_quiet (fail)
 go_wp2
 go_ret
 refine ⟨by rw [HQ.out]; first | rfl | simp only [i64_w], ?_⟩
 repeat (first | exact HB_w6.out | apply pw_below_drewN | apply below_drew)
set_option maxHeartbeats 4000000 in
set_option maxRecDepth 100000 in
theorem impl_holdRoom.calls (k : Nat) (a0_0 : Int) (A0_1 : Option Addr) (c0_1 : Nat) (l0_1 : List (S62)) (A0_2 : Option Addr) (c0_2 : Nat) (l0_2 : List Int) (a0_3 : Int) (a0_4 : Int) (a0_5 : Int) (a0_6 : Int) (A1 : Option Addr) (c1 : Nat) (l1 : List Int) (r : Int) (w : World) (hr0_1 : Kd.C k62 w A0_1 l0_1.length l0_1) (hc0_1 : l0_1.length ≤ c0_1) (hr0_2 : Kd.C (Kd.int .i64) w A0_2 l0_2.length l0_2) (hc0_2 : l0_2.length ≤ c0_2) (hr1 : Kd.C (Kd.int .i64) w A1 l1.length l1) (hc1 : l1.length ≤ c1) (h : impl_holdRoom.f k a0_0 l0_1 l0_2 a0_3 a0_4 a0_5 a0_6 l1 = some r) :
  Calls Try.prog 68 #[.agg #[.int .i64 a0_0, .slice A0_1 l0_1.length c0_1, .slice A0_2 l0_2.length c0_2, .int .i64 a0_3, .int .i64 a0_4, .int .i64 a0_5, .int .i64 a0_6], .slice A1 l1.length c1] w fun e w' => e = .returned (.int .i64 r) ∧ Below w.heap.size w w' := by
 have hu := Try.underlying30
 obtain ⟨ls, hl, h⟩ := Option.bind_eq_some_iff.mp h
 by_cases hh : 0 < ls.length ∧ ls.all (linkIn l1) = true
 ·replace h : (if 0 < ls.length ∧ ls.all (linkIn l1) = true then some (leastL (holdP a0_4 l1) ls) else none) = some r := h
  rw [if_pos hh] at h
  obtain rfl := Option.some.inj h
  clear h
  have HL := Aside0.mk hl
  have HH := Aside0.mk hh
  have HR1 := Aside0.mk hr0_1
  have HC1 := Aside0.mk hc0_1
  have HR2 := Aside0.mk hr0_2
  have HC2 := Aside0.mk hc0_2
  have HR3 := Aside0.mk hr1
  clear hl hh hr0_1 hc0_1 hr0_2 hc0_2 hr1 hc1
  generalize hq : leastL (holdP a0_4 l1) ls = q
  have HQ := Aside0.mk hq
  clear hq
  go_enter Try.func68, Try.ntmps68
  go_wp2_with (first | ((with_reducible refine gate_dst (N := 2) rfl ?_); refine box_event ?hg (N := 2) ?hd (cs := #[.int .i64 a0_0, .slice A0_1 l0_1.length c0_1, .slice A0_2 l0_2.length c0_2, .int .i64 a0_3, .int .i64 a0_4, .int .i64 a0_5, .int .i64 a0_6]) (t := 30) ?hr ?_; (case hd => rfl); (case hg => rfl); (case hr => first | (go_simp; done) | (go_simp; rfl)); intro gb hg_ w6 hbox_ hb_; have HX_gb := Aside0.mk hbox_; have HB_w6 := Aside0.mk hb_; have HG_gb := Aside0.mk hg_; clear hbox_ hb_ hg_) | ((with_reducible refine gate_dst (N := 3) rfl ?_); refine box_event ?hg (N := 3) ?hd (cs := #[.slice A1 l1.length c1]) (t := 23) ?hr ?_; (case hd => rfl); (case hg => rfl); (case hr => first | (go_simp; done) | (go_simp; rfl)); intro gs hg_ w8 hbox_ hb_; have HX_gs := Aside0.mk hbox_; have HB_w8 := Aside0.mk hb_; have HG_gs := Aside0.mk hg_; clear hbox_ hb_ hg_; have b0 := pw_cell_below HB_w8.out ((blk_cell HX_gb.out 0).trans rfl : w6.cell? ⟨gb, 0, none⟩ = some (.int .i64 a0_0)); have b1 := pw_cell_below HB_w8.out ((blk_cell HX_gb.out 1).trans rfl : w6.cell? ⟨gb, 1, none⟩ = some (.slice A0_1 l0_1.length c0_1)); have b2 := pw_cell_below HB_w8.out ((blk_cell HX_gb.out 2).trans rfl : w6.cell? ⟨gb, 2, none⟩ = some (.slice A0_2 l0_2.length c0_2)); have b3 := pw_cell_below HB_w8.out ((blk_cell HX_gb.out 3).trans rfl : w6.cell? ⟨gb, 3, none⟩ = some (.int .i64 a0_3)); have b4 := pw_cell_below HB_w8.out ((blk_cell HX_gb.out 4).trans rfl : w6.cell? ⟨gb, 4, none⟩ = some (.int .i64 a0_4)); have b5 := pw_cell_below HB_w8.out ((blk_cell HX_gb.out 5).trans rfl : w6.cell? ⟨gb, 5, none⟩ = some (.int .i64 a0_5)); have b6 := pw_cell_below HB_w8.out ((blk_cell HX_gb.out 6).trans rfl : w6.cell? ⟨gb, 6, none⟩ = some (.int .i64 a0_6)); have HF := Aside0.mk b4; have HBB := Aside0.mk (below_step HB_w6.out HB_w8.out)) | (go_at_call 89; refine (leastOf.calls k a0_0 A0_1 c0_1 l0_1 A0_2 c0_2 l0_2 a0_3 a0_4 a0_5 a0_6 90 #[.pointer (some ⟨gs, 0, none⟩), .pointer (some ⟨gb, 0, none⟩)] (holdP a0_4 l1) ls _ (Kd.C_below HR1.out HBB.out) HC1.out (Kd.C_below HR2.out HBB.out) HC2.out HL.out HH.out.1 (enters_of Try.func90 (by kernel_rfl) rfl) (fun W x hx hb => impl_holdRoom.test a0_4 l1 A1 c1 gs gb w8 ((blk_cell HX_gs.out 0).trans rfl) HF.out (Kd.C_below HR3.out HBB.out) W x (List.all_eq_true.mp HH.out.2 x hx) hb)).mono ?_; rintro e w9 ⟨rfl, hb9⟩; have HB9 := Aside0.mk hb9; clear hb9))
  go_ret
  exact ⟨by first | rfl | (rw [HQ.out]; rfl), below_step HBB.out HB9.out⟩
 ·replace h : (if 0 < ls.length ∧ ls.all (linkIn l1) = true then some (leastL (holdP a0_4 l1) ls) else none) = some r := h
  rw [if_neg hh] at h
  exact absurd h (by simp)

end Go.Proofs.Ytalafmahgeejiaa.Pa
