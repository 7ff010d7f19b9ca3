-- Written for this claim by a program of this session.
import Derived.Test.YtbkofbcmhddbfaaFPax0
import Derived.Test.YtbkofbcmhddbfaaFCoreF1
import Derived.Test.YtbkofbcmhddbfaaFKFPaxf15
namespace Go.Proofs.Ytbkofbcmhddbfaa.Pa
open Go.RowKit Go.Proofs.YtbkofbcmhddbfaaW.PrintWords Go.Proofs.YtbkofbcmhddbfaaW.PrintLast Go.Proofs.YtbkofbcmhddbfaaW.PrintMore
attribute [local go_sem] max2_int min2_int max_two min_two max_three min_three max_four min_four   -- for this text's walks alone
set_option linter.unusedVariables false
set_option linter.unusedSimpArgs false

/-! ### laws_eqGate: function 52 -/
instance : DecidableEq S36 := fun a b => decidable_of_iff (a.f0 = b.f0 ∧ a.f1 = b.f1 ∧ a.f2 = b.f2) (by cases a; cases b; simp)
theorem eqInts_loop (l : List Int) (hl : l.length ≤ 9223372036854775807) (d : Nat) : ∀ (k i : Nat), i + d = l.length → d < k → laws_eqInt64S.l0 k l l (i : Int) = some true := by
 induction d with
 | zero =>
  intro k i h hk
  obtain ⟨k, rfl⟩ : ∃ m, k = m + 1 := ⟨k - 1, by omega⟩
  simp only [laws_eqInt64S.l0]
  rw [if_neg (by omega)]
 | succ d ih =>
  intro k i h hk
  obtain ⟨k, rfl⟩ : ∃ m, k = m + 1 := ⟨k - 1, by omega⟩
  simp only [laws_eqInt64S.l0]
  rw [if_pos (by omega), if_pos (by omega), if_pos (by omega), if_pos trivial, show wrap64 ((i : Int) + 1) = ((i + 1 : Nat) : Int) by unfold wrap64; omega]
  exact ih k (i + 1) (by omega) (by omega)
theorem eqInts (l : List Int) (hl : l.length ≤ 9223372036854775807) : laws_eqInt64S.f (l.length + 1) l l = some true := by
 unfold laws_eqInt64S.f
 rw [if_pos rfl]
 exact eqInts_loop l hl l.length (l.length + 1) 0 (by omega) (by omega)
/-- Told of equal ones alone. -/
def laws_eqGate.f (a0_0 a0_1 : Int) (l0_2 : List Int) (a1_0 a1_1 : Int) (l1_2 : List Int) : Option Bool := if a0_0 = a1_0 ∧ a0_1 = a1_1 ∧ l0_2 = l1_2 then some true else none
set_option maxHeartbeats 4000000 in
set_option maxRecDepth 100000 in
theorem laws_eqGate.calls (a0_0 : Int) (a0_1 : Int) (A0_2 : Option Addr) (c0_2 : Nat) (l0_2 : List Int) (a1_0 : Int) (a1_1 : Int) (A1_2 : Option Addr) (c1_2 : Nat) (l1_2 : List Int) (r : Bool) (w : World) (hr0_2 : Kd.C (Kd.int .i64) w A0_2 l0_2.length l0_2) (hc0_2 : l0_2.length ≤ c0_2) (hr1_2 : Kd.C (Kd.int .i64) w A1_2 l1_2.length l1_2) (hc1_2 : l1_2.length ≤ c1_2) (h : laws_eqGate.f a0_0 a0_1 l0_2 a1_0 a1_1 l1_2 = some r) :
  Calls Try.prog 52 #[.agg #[.int .i64 a0_0, .int .i64 a0_1, .slice A0_2 l0_2.length c0_2], .agg #[.int .i64 a1_0, .int .i64 a1_1, .slice A1_2 l1_2.length c1_2]] w fun e w' => e = .returned (.bool r) ∧ Below w.heap.size w w' := by
 unfold laws_eqGate.f at h
 split at h
 ·rename_i hh
  obtain ⟨rfl, rfl, rfl⟩ := hh
  obtain rfl := Option.some.inj h
  clear h
  have hu := Try.underlying36
  have HR0 := Aside0.mk hr0_2
  have HC0 := Aside0.mk hc0_2
  have HR1 := Aside0.mk hr1_2
  have HC1 := Aside0.mk hc1_2
  have HE := Aside0.mk (eqInts l0_2 hr0_2.2.1)
  clear hr0_2 hc0_2 hr1_2 hc1_2
  go_enter Try.func52, Try.ntmps52
  go_wp2_with (first | ((with_reducible refine gate_dst (N := 2) rfl ?_); refine box_event ?hg (N := 2) ?hd (cs := #[.int .i64 a0_0, .int .i64 a0_1, .slice A0_2 l0_2.length c0_2]) (t := 36) ?hr ?_; (case hd => rfl); (case hg => rfl); (case hr => first | (go_simp; done) | (go_simp; rfl)); intro ga hg_ w1 hbox_ hb_; have HX_ga := Aside0.mk hbox_; have HB_w1 := Aside0.mk hb_; have HG_ga := Aside0.mk hg_; clear hbox_ hb_ hg_) | ((with_reducible refine gate_dst (N := 3) rfl ?_); refine box_event ?hg (N := 3) ?hd (cs := #[.int .i64 a0_0, .int .i64 a0_1, .slice A1_2 l0_2.length c1_2]) (t := 36) ?hr ?_; (case hd => rfl); (case hg => rfl); (case hr => first | (go_simp; done) | (go_simp; rfl)); intro gb hg_ w2 hbox_ hb_; have HX_gb := Aside0.mk hbox_; have HB_w2 := Aside0.mk hb_; have HG_gb := Aside0.mk hg_; clear hbox_ hb_ hg_; obtain ⟨b0, b1, b2⟩ := cells3 (blk_below HX_ga.out HB_w2.out); obtain ⟨d0, d1, d2⟩ := cells3 HX_gb.out) | (go_at_call 15; refine (laws_eqInt64S.calls (hr0 := Kd.C_below HR0.out (below_step HB_w1.out HB_w2.out)) (hc0 := HC0.out) (hr1 := Kd.C_below HR1.out (below_step HB_w1.out HB_w2.out)) (hc1 := HC1.out) (h := HE.out)).mono ?_; rintro e w' ⟨rfl, ⟨nd, rfl⟩⟩))
  go_ret
  exact ⟨rfl, pw_below_drewN (below_step HB_w1.out HB_w2.out) nd⟩
 ·simp at h

end Go.Proofs.Ytbkofbcmhddbfaa.Pa
