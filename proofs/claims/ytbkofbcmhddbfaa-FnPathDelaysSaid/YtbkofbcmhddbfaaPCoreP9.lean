-- Written for this claim by a program of this session.
import Derived.Test.YtbkofbcmhddbfaaPPax0
import Derived.Test.YtbkofbcmhddbfaaPCoreP7
import Derived.Test.YtbkofbcmhddbfaaPCoreP8
import Derived.Test.YtbkofbcmhddbfaaPCoreP1
namespace Go.Proofs.Ytbkofbcmhddbfaa.Pa
open Go.RowKit Go.Proofs.YtbkofbcmhddbfaaW.PrintWords Go.Proofs.YtbkofbcmhddbfaaW.PrintLast Go.Proofs.YtbkofbcmhddbfaaW.PrintMore
attribute [local go_sem] max2_int min2_int max_two min_two max_three min_three max_four min_four   -- for this text's walks alone
set_option linter.unusedVariables false
set_option linter.unusedSimpArgs false

/-! ### spec_R8Circuit: function 6 -/
def spec_R8Circuit.f (k : Nat) (l0 : List Int) : Option (Int × (List (S36)) × List Int × Int × Int × Int × Int) := (spec_l00From.f l0).bind fun bt176 => ((spec_l06DrawOk.f k bt176.1 bt176.2.1 bt176.2.2).bind fun bt180 => (some (bt180.1, bt180.2.1, bt180.2.2.1, bt180.2.2.2.1, bt180.2.2.2.2.1, bt180.2.2.2.2.2.1, bt180.2.2.2.2.2.2.1)))
theorem spec_R8Circuit.mono : ∀ a0 k, LeO (spec_R8Circuit.f k a0) (spec_R8Circuit.f (k + 1) a0) := by
 intro a0 k
 unfold spec_R8Circuit.f
 repeat' first
   | (with_reducible exact spec_l06DrawOk.mono _ _ _ _)
   | (with_reducible exact LeO.refl _)
   | (with_reducible exact LeO.none _)
   | (with_reducible refine LeO.ite ?_ ?_)
   | (with_reducible refine LeO.bind ?_ (fun _ => ?_))
   | exact spec_l06DrawOk.mono _ _ _ _
   | exact LeO.none _
   | refine LeO.ite ?_ ?_
   | refine LeO.bind ?_ (fun _ => ?_)
set_option maxHeartbeats 8000000 in
set_option maxRecDepth 100000 in
theorem spec_R8Circuit.calls (k : Nat) (A0 : Option Addr) (c0 : Nat) (l0 : List Int) (r1 : Int) (r2 : List (S36)) (r3 : List Int) (r4 : Int) (r5 : Int) (r6 : Int) (r7 : Int) (w : World) (hr0 : Kd.C (Kd.int .u8) w A0 l0.length l0) (hc0 : l0.length ≤ c0) (h : spec_R8Circuit.f k l0 = some (r1, r2, r3, r4, r5, r6, r7)) :
  Calls Try.prog 6 #[.slice A0 l0.length c0] w fun e w' => ∃ v1_ v2_ : Value, e = .returned (.agg #[.int .i64 r1, v1_, v2_, .int .i64 r4, .int .i64 r5, .int .i64 r6, .int .i64 r7]) ∧ Kd.S k36 36 w' w.heap.size (fun k_ => some k_ ≠ (v2_ : Value).ownBlock) v1_ r2 ∧ Kd.R (Kd.int .i64) 2 w' w.heap.size (fun _ => True) v2_ r3 ∧ Below w.heap.size w w' := by
 have hu27 := Try.underlying27
 have HR0 := Aside0.mk hr0
 have HC0 := Aside0.mk hc0
 clear hr0 hc0
 have HB := Aside0.mk (Below.refl w.heap.size w)
 have H : ((spec_l00From.f l0).bind fun bt176 => ((spec_l06DrawOk.f k bt176.1 bt176.2.1 bt176.2.2).bind fun bt180 => (some (bt180.1, bt180.2.1, bt180.2.2.1, bt180.2.2.2.1, bt180.2.2.2.2.1, bt180.2.2.2.2.2.1, bt180.2.2.2.2.2.2.1)))) = some (r1, r2, r3, r4, r5, r6, r7) := h
 clear h
 replace H := Option.bind_eq_some_iff.mp H
 obtain ⟨⟨t176, t177, t178⟩, A20, H⟩ := H
 replace H : ((spec_l06DrawOk.f k t176 t177 t178).bind fun bt180 => (some (bt180.1, bt180.2.1, bt180.2.2.1, bt180.2.2.2.1, bt180.2.2.2.2.1, bt180.2.2.2.2.2.1, bt180.2.2.2.2.2.2.1))) = some (r1, r2, r3, r4, r5, r6, r7) := H
 have A2 := Aside0.mk A20
 clear A20
 replace H := Option.bind_eq_some_iff.mp H
 obtain ⟨⟨t180, t181, t184, t187, t188, t189, t190, t191, t192⟩, A30, H⟩ := H
 replace H : (some (t180, t181, t184, t187, t188, t189, t190)) = some (r1, r2, r3, r4, r5, r6, r7) := H
 have A3 := Aside0.mk A30
 clear A30
 simp only [Option.some.injEq, Prod.mk.injEq] at H
 obtain ⟨rfl, rfl, rfl, rfl, rfl, rfl, rfl⟩ := H
 go_enter Try.func6, Try.ntmps6
 go_wp2_with (first | ((with_reducible refine gate_dst (N := 2) rfl ?_); refine box_event ?hg (N := 2) ?hd (cs := #[.int .i64 0, .slice none 0 0, .slice none 0 0, .int .i64 0, .int .i64 0, .int .i64 0, .int .i64 0]) (t := 27) ?hr ?_; (case hd => rfl); (case hg => rfl); (case hr => first | (go_simp; done) | (go_simp; rfl)); intro gb175 hg w4 hbox hb; have n0_ := Aside0.mk (below_step (by repeat (first | (with_reducible first | exact HB.out | apply below_alloc | apply pw_below_drewN | apply below_drew1) | exact HB.out)) hb); have n1_ := Aside0.mk (hbox); have n2_ := Aside0.mk ((by rw [hg]; exact (below_size (by repeat (first | (with_reducible first | exact HB.out | apply below_alloc | apply pw_below_drewN | apply below_drew1) | exact HB.out))) : w.heap.size ≤ gb175)); have n3_ := Aside0.mk ((by rw [hg]; exact (below_size (by repeat (first | (with_reducible first | exact HB.out | apply below_alloc | apply pw_below_drewN | apply below_drew1) | exact HB.out))) : w.heap.size ≤ gb175)); clear HB; have HB := n0_; have BK175 := n1_; have GW175 := n2_; have GE175 := n3_; clear n0_ n1_ n2_ n3_; clear hb hbox hg) | ((with_reducible refine gate_callee (f := 20) rfl ?_); refine goesL_ (some 5) rfl rfl Try.func20 (by kernel_rfl) rfl #[.slice A0 l0.length c0] rfl (by (try simp only [List.map_toArray, List.map_cons, List.map_nil]); first | done | rfl | (simp only [List.length_drop, List.length_take]; rfl)) ?_; (with_reducible refine (spec_l00From.calls _ _ l0 t176 t177 t178 w _ ?side1 ?side2 ?side3 A2.out).mono ?_); (case side1 => repeat (first | (with_reducible first | exact HB.out | apply below_alloc | apply pw_below_drewN | apply below_drew1 | refine below_set ?_ GE175.out) | exact HB.out)); (case side2 => exact HR0.out); (case side3 => exact HC0.out); rintro e w5 ⟨g179, rfl, hi, hb, hb2⟩; refine ⟨_, rfl, ?_⟩; have n0_ := Aside0.mk (blk_below (g := gb175) (o := .cells #[.int .i64 0, .slice none 0 0, .slice none 0 0, .int .i64 0, .int .i64 0, .int .i64 0, .int .i64 0] 27 (0, 0)) (by (with_reducible repeat (first | refine blk_drewN ?_ _ | refine blk_drew ?_ | refine blk_alloc ?_ _)); exact BK175.out) hb2); have n1_ := Aside0.mk (hb); have n2_ := Aside0.mk (hi); have n3_ := Aside0.mk (IsS74.ne_blk hi (blk_below (g := gb175) (o := .cells #[.int .i64 0, .slice none 0 0, .slice none 0 0, .int .i64 0, .int .i64 0, .int .i64 0, .int .i64 0] 27 (0, 0)) (by (with_reducible repeat (first | refine blk_drewN ?_ _ | refine blk_drew ?_ | refine blk_alloc ?_ _)); exact BK175.out) hb2) (by decide)); have n4_ := Aside0.mk (Ne.symm (IsS74.ne_blk hi (blk_below (g := gb175) (o := .cells #[.int .i64 0, .slice none 0 0, .slice none 0 0, .int .i64 0, .int .i64 0, .int .i64 0, .int .i64 0] 27 (0, 0)) (by (with_reducible repeat (first | refine blk_drewN ?_ _ | refine blk_drew ?_ | refine blk_alloc ?_ _)); exact BK175.out) hb2) (by decide))); clear BK175; clear HB; have BK175 := n0_; have HB := n1_; have HI179 := n2_; have NB179_175 := n3_; have NB175_179 := n4_; clear n0_ n1_ n2_ n3_ n4_; (try clear hb); (try clear hb2); (try clear hk); (try clear hi)) | ((with_reducible refine gate_callee (f := 21) rfl ?_); refine goesL_ (some 7) rfl rfl Try.func21 (by kernel_rfl) rfl #[.pointer (some ⟨g179, 0, none⟩)] rfl (by (try simp only [List.map_toArray, List.map_cons, List.map_nil]); first | done | rfl | (simp only [List.length_drop, List.length_take]; rfl)) ?_; (with_reducible refine (spec_l06DrawOk.calls k g179 t176 t177 t178 t180 t181 t184 t187 t188 t189 t190 t191 t192 w _ ?side1 ?side2 A3.out).mono ?_); (case side1 => repeat (first | (with_reducible first | exact HI179.out | apply IsS74.alloc | apply IsS74.drewN | apply IsS74.drew | apply IsS74.set_1 | apply IsS74.set_2 | refine IsS74.far ?_ NB179_175.out _) | exact HI179.out)); (case side2 => repeat (first | (with_reducible first | exact HB.out | apply below_alloc | apply pw_below_drewN | apply below_drew1 | refine below_set ?_ (IsS74.ge HI179.out) | refine below_set ?_ GE175.out) | exact HB.out)); rintro e w6 ⟨v182, v185, rfl, ho0, ho1, hi, hb, hk⟩; refine ⟨_, rfl, ?_⟩; have n0_ := Aside0.mk (KeepBut.blk hk (g' := gb175) (o := .cells #[.int .i64 0, .slice none 0 0, .slice none 0 0, .int .i64 0, .int .i64 0, .int .i64 0, .int .i64 0] 27 (0, 0)) (by (with_reducible repeat (first | refine blk_drewN ?_ _ | refine blk_drew ?_ | refine blk_alloc ?_ _)); exact BK175.out) NB175_179.out (by simp)); have n1_ := Aside0.mk (Kd.S_lower ho0 (below_size (by repeat (first | (with_reducible first | exact HB.out | apply below_alloc | apply pw_below_drewN | apply below_drew1 | refine below_set ?_ (IsS74.ge HI179.out) | refine below_set ?_ GE175.out) | exact HB.out)))); have n2_ := Aside0.mk (Kd.R_lower ho1 (below_size (by repeat (first | (with_reducible first | exact HB.out | apply below_alloc | apply pw_below_drewN | apply below_drew1 | refine below_set ?_ (IsS74.ge HI179.out) | refine below_set ?_ GE175.out) | exact HB.out)))); have n3_ := Aside0.mk (hb); have n4_ := Aside0.mk (hi); clear BK175; clear HB; clear HI179; have BK175 := n0_; have HO183 := n1_; have HO186 := n2_; have HB := n3_; have HI179 := n4_; clear n0_ n1_ n2_ n3_ n4_; (try clear hb); (try clear hb2); (try clear hk); (try clear hi); (try clear ho0); (try clear ho1); have hnb7 := NB175_179.out; have hnc7 := NB179_175.out; have hcz8_0 : w6.cell? ⟨gb175, 0, none⟩ = some (.int .i64 0) := (blk_cell BK175.out 0).trans rfl; have hcz8_1 : w6.cell? ⟨gb175, 1, none⟩ = some (.slice none 0 0) := (blk_cell BK175.out 1).trans rfl; have hcz8_2 : w6.cell? ⟨gb175, 2, none⟩ = some (.slice none 0 0) := (blk_cell BK175.out 2).trans rfl; have hcz8_3 : w6.cell? ⟨gb175, 3, none⟩ = some (.int .i64 0) := (blk_cell BK175.out 3).trans rfl; have hcz8_4 : w6.cell? ⟨gb175, 4, none⟩ = some (.int .i64 0) := (blk_cell BK175.out 4).trans rfl; have hcz8_5 : w6.cell? ⟨gb175, 5, none⟩ = some (.int .i64 0) := (blk_cell BK175.out 5).trans rfl; have hcz8_6 : w6.cell? ⟨gb175, 6, none⟩ = some (.int .i64 0) := (blk_cell BK175.out 6).trans rfl; have hfz8_0 := blk_frozen BK175.out 0; have hfz8_1 := blk_frozen BK175.out 1; have hfz8_2 := blk_frozen BK175.out 2; have hfz8_3 := blk_frozen BK175.out 3; have hfz8_4 := blk_frozen BK175.out 4; have hfz8_5 := blk_frozen BK175.out 5; have hfz8_6 := blk_frozen BK175.out 6; obtain ⟨Ao9, co9, eo9⟩ := Kd.S_slice HO183.out; subst eo9; obtain ⟨Ao10, co10, eo10⟩ := Kd.R_slice HO186.out; subst eo10))
 refine bodyPost_ret (results_cell_row rfl _ _ gb175 27 #[.int .i64 t180, .slice Ao9 t181.length co9, .slice Ao10 t184.length co10, .int .i64 t187, .int .i64 t188, .int .i64 t189, .int .i64 t190] (0, 0) _ rfl (by (with_reducible repeat (first | refine blk_drewN ?_ _ | refine blk_drew ?_ | refine blk_alloc ?_ _)); refine blk_put (cs := #[.int .i64 t180, .slice Ao9 t181.length co9, .slice Ao10 t184.length co10, .int .i64 t187, .int .i64 t188, .int .i64 t189, .int .i64 0]) ?_ 6 _ rfl; (with_reducible repeat (first | refine blk_drewN ?_ _ | refine blk_drew ?_ | refine blk_alloc ?_ _)); refine blk_put (cs := #[.int .i64 t180, .slice Ao9 t181.length co9, .slice Ao10 t184.length co10, .int .i64 t187, .int .i64 t188, .int .i64 0, .int .i64 0]) ?_ 5 _ rfl; (with_reducible repeat (first | refine blk_drewN ?_ _ | refine blk_drew ?_ | refine blk_alloc ?_ _)); refine blk_put (cs := #[.int .i64 t180, .slice Ao9 t181.length co9, .slice Ao10 t184.length co10, .int .i64 t187, .int .i64 0, .int .i64 0, .int .i64 0]) ?_ 4 _ rfl; (with_reducible repeat (first | refine blk_drewN ?_ _ | refine blk_drew ?_ | refine blk_alloc ?_ _)); refine blk_put (cs := #[.int .i64 t180, .slice Ao9 t181.length co9, .slice Ao10 t184.length co10, .int .i64 0, .int .i64 0, .int .i64 0, .int .i64 0]) ?_ 3 _ rfl; (with_reducible repeat (first | refine blk_drewN ?_ _ | refine blk_drew ?_ | refine blk_alloc ?_ _)); refine blk_put (cs := #[.int .i64 t180, .slice Ao9 t181.length co9, .slice none 0 0, .int .i64 0, .int .i64 0, .int .i64 0, .int .i64 0]) ?_ 2 _ rfl; (with_reducible repeat (first | refine blk_drewN ?_ _ | refine blk_drew ?_ | refine blk_alloc ?_ _)); refine blk_put (cs := #[.int .i64 t180, .slice none 0 0, .slice none 0 0, .int .i64 0, .int .i64 0, .int .i64 0, .int .i64 0]) ?_ 1 _ rfl; (with_reducible repeat (first | refine blk_drewN ?_ _ | refine blk_drew ?_ | refine blk_alloc ?_ _)); refine blk_put (cs := #[.int .i64 0, .slice none 0 0, .slice none 0 0, .int .i64 0, .int .i64 0, .int .i64 0, .int .i64 0]) ?_ 0 _ rfl; (with_reducible repeat (first | refine blk_drewN ?_ _ | refine blk_drew ?_ | refine blk_alloc ?_ _)); exact BK175.out) Try.underlying27 rfl (by kernel_rfl)) rfl ?_
 exact ⟨_, _, by first | rfl | (simp [errW_none, errW_some] <;> rfl) | (simp [*, errW_none, errW_some] <;> rfl), by (with_reducible repeat (first | apply Kd.S_alloc | apply Kd.S_drewN | apply Kd.S_drew)); exact Kd.S_mono (Kd.S_far (p := ⟨gb175, 6, none⟩) (Kd.S_far (p := ⟨gb175, 5, none⟩) (Kd.S_far (p := ⟨gb175, 4, none⟩) (Kd.S_far (p := ⟨gb175, 3, none⟩) (Kd.S_far (p := ⟨gb175, 2, none⟩) (Kd.S_far (p := ⟨gb175, 1, none⟩) (Kd.S_far (p := ⟨gb175, 0, none⟩) (Kd.S_types HO183.out BK175.out (by decide)) (fun _ hk => hk.2) (.int .i64 t180)) (fun _ hk => hk.2) (.slice Ao9 t181.length co9)) (fun _ hk => hk.2) (.slice Ao10 t184.length co10)) (fun _ hk => hk.2) (.int .i64 t187)) (fun _ hk => hk.2) (.int .i64 t188)) (fun _ hk => hk.2) (.int .i64 t189)) (fun _ hk => hk.2) (.int .i64 t190)) (fun _ hk => hk.1), by (with_reducible repeat (first | apply Kd.R_alloc | apply Kd.R_drewN | apply Kd.R_drew)); exact Kd.R_mono (Kd.R_far (p := ⟨gb175, 6, none⟩) (Kd.R_far (p := ⟨gb175, 5, none⟩) (Kd.R_far (p := ⟨gb175, 4, none⟩) (Kd.R_far (p := ⟨gb175, 3, none⟩) (Kd.R_far (p := ⟨gb175, 2, none⟩) (Kd.R_far (p := ⟨gb175, 1, none⟩) (Kd.R_far (p := ⟨gb175, 0, none⟩) (Kd.R_types HO186.out BK175.out (by decide)) (fun _ hk => hk.2) (.int .i64 t180)) (fun _ hk => hk.2) (.slice Ao9 t181.length co9)) (fun _ hk => hk.2) (.slice Ao10 t184.length co10)) (fun _ hk => hk.2) (.int .i64 t187)) (fun _ hk => hk.2) (.int .i64 t188)) (fun _ hk => hk.2) (.int .i64 t189)) (fun _ hk => hk.2) (.int .i64 t190)) (fun _ hk => trivial), by repeat (first | (with_reducible first | exact HB.out | apply below_alloc | apply pw_below_drewN | apply below_drew1 | refine below_set ?_ (IsS74.ge HI179.out) | refine below_set ?_ GE175.out) | exact HB.out)⟩

end Go.Proofs.Ytbkofbcmhddbfaa.Pa

/- The circuits and skews that the short laws draw are valid. -/
namespace Go.Proofs.Ytbkofbcmhddbfaa.Pure
open Go.RowKit Go.Proofs.Ytbkofbcmhddbfaa.Pa Go.Proofs.YtbkofbcmhddbfaaW.PrintWords Go.Proofs.YtbkofbcmhddbfaaW.PrintLast Go.Proofs.YtbkofbcmhddbfaaW.PrintMore
set_option linter.unusedVariables false
set_option linter.unusedSimpArgs false

theorem wrap_succ (i : Nat) (h : i ≤ 1000) : wrap64 ((i : Int) + 1) = ((i + 1 : Nat) : Int) := by
 rw [wrap_id (by omega) (by omega)]
 omega
theorem wrap_add (a b : Nat) (h : a ≤ 1000) (h' : b ≤ 1000) : wrap64 ((a : Int) + (b : Int)) = (a : Int) + b := wrap_id (by omega) (by omega)
theorem inB_of {x l u : Int} (h0 : l ≤ x) (h1 : x ≤ u) : inB x l u = true := inB_iff.2 ⟨h0, h1⟩
theorem rises_snoc (hi j : Int) (h0 : 0 ≤ j) (h1 : j ≤ hi) (l : List Int) : ∀ p : Option Int, (∀ q, p = some q → q < j) → (∀ x ∈ l, x < j) → risesFrom hi p l = true → risesFrom hi p (l ++ [j]) = true := by
 induction l with
 | nil =>
  intro p hp _ _
  simp only [List.nil_append, risesFrom]
  rw [inB_of h0 h1]
  cases p with
  | none => rfl
  | some q => simp only [Bool.true_and, Bool.and_true]; exact decide_eq_true (hp q rfl)
 | cons x l ih =>
  intro p hp hl h
  simp only [List.cons_append, risesFrom, Bool.and_eq_true] at h ⊢
  exact ⟨h.1, ih (some x) (fun q hq => by rw [← Option.some.inj hq]; exact hl x (List.mem_cons_self ..)) (fun y hy => hl y (List.mem_cons_of_mem _ hy)) h.2⟩
theorem gatesB_snoc (n : Int) (g : S36) (l : List S36) : ∀ j : Nat, gatesB n j l = true → gateB n ((j + l.length : Nat) : Int) g = true → gatesB n j (l ++ [g]) = true := by
 induction l with
 | nil =>
  intro j _ h
  simp only [List.nil_append, gatesB, Bool.and_true]
  exact h
 | cons x l ih =>
  intro j h hg
  simp only [List.cons_append, gatesB, Bool.and_eq_true] at h ⊢
  exact ⟨h.1, ih (j + 1) h.2 (by rw [show j + 1 + l.length = j + (x :: l).length by simp; omega]; exact hg)⟩
/-- The inputs of one gate. -/
theorem inputs_loop (l : List Int) (hl : Bytes l) (hlen : l.length ≤ 1000) (R i n : Nat) (hR : 1 ≤ R) (hR2 : R ≤ 4) (hi : i < 10) (least most : Int) (h0 : 0 ≤ least) (h1 : least ≤ most) (h2 : most ≤ 100) (gs : List S36) (hgs : gs.length = i) (a2 : List Int) (a3 a4 a5 a6 : Int) (d : Nat) :
  ∀ (k j : Nat) (p h : Int) (inp : List Int), j + d = R + i → 0 ≤ p → p + d ≤ 900 → (∀ x ∈ inp, x < (j : Int)) → inp.length ≤ j → risesB inp ((R : Int) + i - 1) = true → d + 2 < k →
  ∃ k' p' h' g, k ≤ k' + d + 2 ∧ spec_l06DrawOk.l1 k (n : Int) (i : Int) (j : Int) l p h (R : Int) gs a2 a3 a4 a5 a6 least most inp = spec_l06DrawOk.l0 k' (n : Int) ((i + 1 : Nat) : Int) l p' h' (R : Int) (gs ++ [g]) a2 a3 a4 a5 a6 ∧ p ≤ p' ∧ p' ≤ p + d + 1 ∧ gateB (R : Int) (i : Int) g = true ∧ g.f2.length ≤ 100 := by
 induction d with
 | zero =>
  intro k j p h inp hj hp hp2 hin hle hr hk
  obtain ⟨k, rfl⟩ : ∃ q, k = q + 1 := ⟨k - 1, by omega⟩
  simp only [spec_l06DrawOk.l1]
  rw [wrap_add R i (by omega) (by omega), if_neg (by omega), wrap_succ i (by omega)]
  have hg : ∀ inp' : List Int, inp'.length ≠ 0 → risesB inp' ((R : Int) + i - 1) = true → gateB (R : Int) (i : Int) (⟨least, most, inp'⟩ : S36) = true := by
   intro inp' hne hr'
   unfold gateB
   simp only
   rw [inB_of (x := most) (l := 0) (u := 100) (by omega) h2, inB_of h0 h1, decide_eq_false hne, hr']
   rfl
  by_cases hz : (inp.length : Int) = 0
  ·obtain ⟨v, p', h', e, v0, v1, v2, q0, q1⟩ := pick_tells l hl hlen p h ((R : Int) + i) hp (by omega) (by omega)
   have hv : v ≤ (R : Int) + i - 1 := by
    by_cases c : (2 : Int) ≤ (R : Int) + i
    ·have := v1 c; omega
    ·have := v2 (by omega); omega
   have hnil : inp = [] := List.length_eq_zero_iff.1 (by omega)
   subst hnil
   rw [if_pos hz, e]
   simp only [Option.bind_some]
   rw [if_pos (by simp), if_pos (by omega)]
   refine ⟨k, p', h', _, by omega, rfl, q0, by omega, hg _ (by simp) ?_, by simp⟩
   unfold risesB
   simp only [List.nil_append, risesFrom]
   rw [inB_of v0 hv]
   rfl
  ·rw [if_neg hz, if_pos (by omega)]
   exact ⟨k, p, h, _, by omega, rfl, by omega, by omega, hg _ (by omega) hr, by show inp.length ≤ 100; omega⟩
 | succ d ih =>
  intro k j p h inp hj hp hp2 hin hle hr hk
  obtain ⟨k, rfl⟩ : ∃ q, k = q + 1 := ⟨k - 1, by omega⟩
  obtain ⟨o, p1, g1, e1, q0, q1⟩ := one_tells l hl hlen p h 3 hp (by omega) (by omega)
  simp only [spec_l06DrawOk.l1]
  rw [wrap_add R i (by omega) (by omega), if_pos (by omega), e1, wrap_succ j (by omega)]
  simp only [Option.bind_some]
  cases o with
  | true =>
   rw [if_pos rfl, if_pos (by omega)]
   obtain ⟨k', p', h', g, x1, x2, x3, x4, x5, x6⟩ := ih k (j + 1) p1 g1 (inp ++ [(j : Int)]) (by omega) (by omega) (by omega) (fun x hx => by
    rcases List.mem_append.1 hx with hx | hx
    ·have := hin x hx; omega
    ·rw [List.mem_singleton.1 hx]; omega) (by rw [List.length_append, List.length_singleton]; omega) (rises_snoc _ _ (by omega) (by omega) inp none (fun q hq => by cases hq) hin hr) (by omega)
   exact ⟨k', p', h', g, by omega, x2, by omega, by omega, x5, x6⟩
  | false =>
   rw [if_neg (by decide)]
   obtain ⟨k', p', h', g, x1, x2, x3, x4, x5, x6⟩ := ih k (j + 1) p1 g1 inp (by omega) (by omega) (by omega) (fun x hx => by have := hin x hx; omega) (by omega) hr (by omega)
   exact ⟨k', p', h', g, by omega, x2, by omega, by omega, x5, x6⟩
theorem gates_loop (l : List Int) (hl : Bytes l) (hlen : l.length ≤ 1000) (R n : Nat) (hR : 1 ≤ R) (hR2 : R ≤ 4) (hn : n ≤ 10) (a2 : List Int) (a3 a4 a5 a6 : Int) (d : Nat) :
  ∀ (k i : Nat) (p h : Int) (gs : List S36), i + d = n → 0 ≤ p → p ≤ 10 + 25 * i → gs.length = i → gatesB (R : Int) 0 gs = true → (∀ g ∈ gs, g.f2.length ≤ 100) → d * 30 + 2 < k →
  ∃ k' p' h' gs', k ≤ k' + d * 30 + 2 ∧ spec_l06DrawOk.l0 k (n : Int) (i : Int) l p h (R : Int) gs a2 a3 a4 a5 a6 = spec_l06DrawOk.l2 k' (n : Int) 0 l p' h' (R : Int) gs' a2 a3 a4 a5 a6 ∧ 0 ≤ p' ∧ p' ≤ 300 ∧ gs'.length = n ∧ gatesB (R : Int) 0 gs' = true ∧ ∀ g ∈ gs', g.f2.length ≤ 100 := by
 induction d with
 | zero =>
  intro k i p h gs hi hp hp2 hg hgb hgl hk
  obtain ⟨k, rfl⟩ : ∃ q, k = q + 1 := ⟨k - 1, by omega⟩
  simp only [spec_l06DrawOk.l0]
  rw [if_neg (by omega)]
  exact ⟨k, p, h, gs, by omega, rfl, hp, by omega, by omega, hgb, hgl⟩
 | succ d ih =>
  intro k i p h gs hi hp hp2 hg hgb hgl hk
  obtain ⟨k, rfl⟩ : ∃ q, k = q + 1 := ⟨k - 1, by omega⟩
  obtain ⟨a, p1, g1, e1, a0, a1, _, q1, q2⟩ := pick_tells l hl hlen p h 5 hp (by omega) (by omega)
  obtain ⟨b, p2, g2, e2, b0, b1, _, q3, q4⟩ := pick_tells l hl hlen p1 g1 6 (by omega) (by omega) (by omega)
  have a2' := a1 (by omega)
  have b2 := b1 (by omega)
  simp only [spec_l06DrawOk.l0]
  rw [if_pos (by omega), e1]
  simp only [Option.bind_some]
  rw [e2]
  simp only [Option.bind_some]
  rw [wrap_id (x := a + b) (by omega) (by omega)]
  obtain ⟨k1, p3, g3, g, x1, x2, x3, x4, x5, x6⟩ := inputs_loop l hl hlen R i n hR hR2 (by omega) a (a + b) a0 (by omega) (by omega) gs hg a2 a3 a4 a5 a6 (R + i) k 0 p2 g2 [] (by omega) (by omega) (by omega) (by simp) (by simp) rfl (by omega)
  rw [show ((0 : Nat) : Int) = 0 from rfl] at x2
  rw [x2]
  obtain ⟨k', p', h', gs', y1, y2, y3, y4, y5, y6, y7⟩ := ih k1 (i + 1) p3 g3 (gs ++ [g]) (by omega) (by omega) (by omega) (by rw [List.length_append, List.length_singleton]; omega) (gatesB_snoc _ g gs 0 hgb (by rw [Nat.zero_add, hg]; exact x5)) (fun y hy => by
   rcases List.mem_append.1 hy with hy | hy
   ·exact hgl y hy
   ·rw [List.mem_singleton.1 hy]; exact x6) (by omega)
  exact ⟨k', p', h', gs', by omega, y2, y3, y4, y5, y6, y7⟩
theorem data_loop (l : List Int) (hl : Bytes l) (hlen : l.length ≤ 1000) (R n : Nat) (hR : 1 ≤ R) (hR2 : R ≤ 4) (hn : n ≤ 10) (gs : List S36) (z3 z4 z5 z6 : Int) (d : Nat) :
  ∀ (k i : Nat) (p h : Int) (data : List Int), i + d = R → 0 ≤ p → p ≤ 400 + i → data.length = i → (∀ x ∈ data, 0 ≤ x ∧ x ≤ (R : Int) + n - 1) → d + 2 < k →
  ∃ data' a3 a4 a5 a6 p' h', spec_l06DrawOk.l2 k (n : Int) (i : Int) l p h (R : Int) gs data z3 z4 z5 z6 = some ((R : Int), gs, data', a3, a4, a5, a6, p', h') ∧ data'.length = R ∧ (∀ x ∈ data', 0 ≤ x ∧ x ≤ (R : Int) + n - 1) ∧ 0 ≤ a3 ∧ a3 ≤ 3 ∧ 0 ≤ a4 ∧ a4 ≤ 3 ∧ 0 ≤ a5 ∧ a5 ≤ a6 ∧ a6 ≤ 6 := by
 induction d with
 | zero =>
  intro k i p h data hi hp hp2 hd hx hk
  obtain ⟨k, rfl⟩ : ∃ q, k = q + 1 := ⟨k - 1, by omega⟩
  obtain ⟨a, p1, g1, e1, a0, a1, _, q1, q2⟩ := pick_tells l hl hlen p h 4 hp (by omega) (by omega)
  obtain ⟨b, p2, g2, e2, b0, b1, _, q3, q4⟩ := pick_tells l hl hlen p1 g1 4 (by omega) (by omega) (by omega)
  obtain ⟨c, p3, g3, e3, c0, c1, _, q5, q6⟩ := pick_tells l hl hlen p2 g2 4 (by omega) (by omega) (by omega)
  obtain ⟨e, p4, g4, e4, d0, d1, _, q7, q8⟩ := pick_tells l hl hlen p3 g3 4 (by omega) (by omega) (by omega)
  have a2 := a1 (by omega)
  have b2 := b1 (by omega)
  have c2 := c1 (by omega)
  have d2 := d1 (by omega)
  simp only [spec_l06DrawOk.l2]
  rw [if_neg (by omega), e1]
  simp only [Option.bind_some]
  rw [e2]
  simp only [Option.bind_some]
  rw [e3]
  simp only [Option.bind_some]
  rw [e4]
  simp only [Option.bind_some]
  rw [wrap_id (x := c + e) (by omega) (by omega)]
  exact ⟨data, a, b, c, c + e, p4, g4, rfl, by omega, hx, by omega, by omega, by omega, by omega, by omega, by omega, by omega⟩
 | succ d ih =>
  intro k i p h data hi hp hp2 hd hx hk
  obtain ⟨k, rfl⟩ : ∃ q, k = q + 1 := ⟨k - 1, by omega⟩
  obtain ⟨v, p1, g1, e1, v0, v1, v2, q1, q2⟩ := pick_tells l hl hlen p h ((R : Int) + n) hp (by omega) (by omega)
  have hv : v ≤ (R : Int) + n - 1 := by
   by_cases c : (2 : Int) ≤ (R : Int) + n
   ·have := v1 c; omega
   ·have := v2 (by omega); omega
  simp only [spec_l06DrawOk.l2]
  rw [if_pos (by omega), wrap_add R n (by omega) (by omega), e1]
  simp only [Option.bind_some]
  rw [if_pos (by omega), wrap_succ i (by omega)]
  exact ih k (i + 1) p1 g1 (data ++ [v]) (by omega) (by omega) (by omega) (by rw [List.length_append, List.length_singleton]; omega) (fun x hm => by
   rcases List.mem_append.1 hm with hm | hm
   ·exact hx x hm
   ·rw [List.mem_singleton.1 hm]; exact ⟨v0, hv⟩) (by omega)
/-- A drawn circuit is valid. -/
theorem circuit_tells (l : List Int) (hl : Bytes l) (hlen : l.length ≤ 1000) (k : Nat) (hk : 1000 ≤ k) : ∃ (R : Nat) (gs : List S36) (data : List Int) (a3 a4 a5 a6 : Int), spec_R8Circuit.f k l = some ((R : Int), gs, data, a3, a4, a5, a6) ∧ 1 ≤ R ∧ R ≤ 4 ∧ validB (R : Int) gs data a3 a4 a5 a6 = true ∧ (∀ g ∈ gs, g.f2.length ≤ 100) ∧ data.length = R ∧ a3 ≤ 3 ∧ a4 ≤ 3 ∧ a6 ≤ 6 := by
 obtain ⟨a, p1, g1, e1, a0, a1, _, q1, q2⟩ := pick_tells l hl hlen 0 0 4 (by omega) (by omega) (by omega)
 obtain ⟨b, p2, g2, e2, b0, b1, _, q3, q4⟩ := pick_tells l hl hlen p1 g1 7 (by omega) (by omega) (by omega)
 obtain ⟨o, p3, g3, e3, q5, q6⟩ := one_tells l hl hlen p2 g2 20 (by omega) (by omega) (by omega)
 have a2 := a1 (by omega)
 have b2 := b1 (by omega)
 obtain ⟨R, rfl⟩ : ∃ R : Nat, a = (R : Int) := ⟨a.toNat, by omega⟩
 have run : ∀ n : Nat, n ≤ 10 → ∃ (gs : List S36) (data : List Int) (a3 a4 a5 a6 p' h' : Int), spec_l06DrawOk.j0 k (n : Int) l p3 g3 ((R + 1 : Nat) : Int) [] [] 0 0 0 0 = some (((R + 1 : Nat) : Int), gs, data, a3, a4, a5, a6, p', h') ∧ validB ((R + 1 : Nat) : Int) gs data a3 a4 a5 a6 = true ∧ (∀ g ∈ gs, g.f2.length ≤ 100) ∧ data.length = R + 1 ∧ a3 ≤ 3 ∧ a4 ≤ 3 ∧ a6 ≤ 6 := by
  intro n hn
  obtain ⟨q, rfl⟩ : ∃ q, k = q + 1 := ⟨k - 1, by omega⟩
  simp only [spec_l06DrawOk.j0]
  obtain ⟨k', p', h', gs, x1, x2, x3, x4, x5, x6, x7⟩ := gates_loop l hl hlen (R + 1) n (by omega) (by omega) hn [] 0 0 0 0 n q 0 p3 g3 [] (by omega) (by omega) (by omega) rfl rfl (by simp) (by omega)
  rw [show ((0 : Nat) : Int) = 0 from rfl] at x2
  rw [x2]
  obtain ⟨data, a3, a4, a5, a6, p4, h4, y1, y2, y3, y4, y5, y6, y7, y8, y9, y10⟩ := data_loop l hl hlen (R + 1) n (by omega) (by omega) hn gs 0 0 0 0 (R + 1) k' 0 p' h' [] (by omega) x3 (by omega) rfl (by simp) (by omega)
  rw [show ((0 : Nat) : Int) = 0 from rfl] at y1
  refine ⟨gs, data, a3, a4, a5, a6, p4, h4, y1, ?_, x7, y2, by omega, by omega, by omega⟩
  unfold validB
  rw [inB_of (x := ((R + 1 : Nat) : Int)) (by omega) (by omega), decide_eq_true (by omega : gs.length ≤ 10), decide_eq_true (by omega : (data.length : Int) = ((R + 1 : Nat) : Int)), inB_of (x := a3) (by omega) (by omega), inB_of (x := a4) (by omega) (by omega), inB_of (x := a6) (by omega) (by omega), inB_of (x := a5) y8 y9, x6]
  simp only [Bool.true_and, List.all_eq_true]
  intro x hx
  have := y3 x hx
  exact inB_of this.1 (by omega)
 have both : ∃ (gs : List S36) (data : List Int) (a3 a4 a5 a6 p' h' : Int), spec_l06DrawOk.f k l 0 0 = some (((R + 1 : Nat) : Int), gs, data, a3, a4, a5, a6, p', h') ∧ validB ((R + 1 : Nat) : Int) gs data a3 a4 a5 a6 = true ∧ (∀ g ∈ gs, g.f2.length ≤ 100) ∧ data.length = R + 1 ∧ a3 ≤ 3 ∧ a4 ≤ 3 ∧ a6 ≤ 6 := by
  unfold spec_l06DrawOk.f
  rw [e1]
  simp only [Option.bind_some]
  rw [e2]
  simp only [Option.bind_some]
  rw [e3]
  simp only [Option.bind_some]
  rw [show wrap64 (1 + (R : Int)) = ((R + 1 : Nat) : Int) by rw [wrap_id (by omega) (by omega)]; omega]
  cases o with
  | true => rw [if_pos rfl]; exact run 10 (by omega)
  | false =>
   rw [if_neg (by decide)]
   have := run b.toNat (by omega)
   rw [show ((b.toNat : Nat) : Int) = b by omega] at this
   exact this
 obtain ⟨gs, data, a3, a4, a5, a6, p', h', z1, z2, z3, z4, z5, z6, z7⟩ := both
 refine ⟨R + 1, gs, data, a3, a4, a5, a6, ?_, by omega, by omega, z2, z3, z4, z5, z6, z7⟩
 unfold spec_R8Circuit.f spec_l00From.f
 simp only [Option.bind_some]
 rw [z1]
 rfl
end Go.Proofs.Ytbkofbcmhddbfaa.Pure

