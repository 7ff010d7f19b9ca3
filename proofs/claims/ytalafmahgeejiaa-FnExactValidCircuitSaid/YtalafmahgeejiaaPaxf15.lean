-- Written for this claim by a program of this session.
import Derived.Test.YtalafmahgeejiaaPax0
import Derived.Test.YtalafmahgeejiaaPaxf47
namespace Go.Proofs.Ytalafmahgeejiaa.Pa
open Go.RowKit Go.Proofs.YtalafmahgeejiaaW.PrintWords Go.Proofs.YtalafmahgeejiaaW.PrintLast Go.Proofs.YtalafmahgeejiaaW.PrintMore
attribute [local go_sem] max2_int min2_int max_two min_two max_three min_three max_four min_four   -- for this text's walks alone
set_option linter.unusedVariables false
set_option linter.unusedSimpArgs false

/-! ### spec_ValidCircuit: function 15 -/
def spec_ValidCircuit.fB (k : Nat) (s0_0 : Int) (s0_1 : List (S62)) (s0_2 : List Int) (s0_3 : Int) (s0_4 : Int) (s0_5 : Int) (s0_6 : Int) : Option (Bool × Int × Int × Int × Int × Int) := (spec_l06Is.f k s0_0 s0_1 s0_2 s0_3 s0_4 s0_5 s0_6).bind fun bt124 => (some (bt124.1, bt124.2.1, bt124.2.2.1, bt124.2.2.2.1, bt124.2.2.2.2.1, bt124.2.2.2.2.2))
theorem spec_ValidCircuit.monoB : ∀ a0 a1 a2 a3 a4 a5 a6 k, LeO (spec_ValidCircuit.fB k a0 a1 a2 a3 a4 a5 a6) (spec_ValidCircuit.fB (k + 1) a0 a1 a2 a3 a4 a5 a6) := by
  intro a0 a1 a2 a3 a4 a5 a6 k
  unfold spec_ValidCircuit.fB
  repeat' first
      | (with_reducible exact spec_l06Is.mono _ _ _ _ _ _ _ _)
      | (with_reducible exact LeO.refl _)
      | (with_reducible exact LeO.none _)
      | (with_reducible refine LeO.ite ?_ ?_)
      | (with_reducible refine LeO.bind ?_ (fun _ => ?_))
      | exact spec_l06Is.mono _ _ _ _ _ _ _ _
      | exact LeO.none _
      | refine LeO.ite ?_ ?_
      | refine LeO.bind ?_ (fun _ => ?_)
set_option maxHeartbeats 8000000 in
set_option maxRecDepth 100000 in
theorem spec_ValidCircuit.callsB (k : Nat) (A0_1 : Option Addr) (c0_1 : Nat) (A0_2 : Option Addr) (c0_2 : Nat) (g : Nat) (s0_0 : Int) (s0_1 : List (S62)) (s0_2 : List Int) (s0_3 : Int) (s0_4 : Int) (s0_5 : Int) (s0_6 : Int) (r1 : Bool) (r2 : Int) (r3 : Int) (r4 : Int) (r5 : Int) (r6 : Int) (w0 w : World) (hI : IsS30 w0 w g s0_0 s0_1 s0_2 s0_3 s0_4 s0_5 s0_6) (hB : Below w0.heap.size w0 w) (hg_ : g = w0.heap.size) (hw_ : w = w0.alloc (.cells #[.int .i64 s0_0, .slice A0_1 s0_1.length c0_1, .slice A0_2 s0_2.length c0_2, .int .i64 s0_3, .int .i64 s0_4, .int .i64 s0_5, .int .i64 s0_6] 30)) (h : spec_ValidCircuit.fB k s0_0 s0_1 s0_2 s0_3 s0_4 s0_5 s0_6 = some (r1, r2, r3, r4, r5, r6)) :
    Calls Try.prog 15 #[.agg #[.int .i64 s0_0, .slice A0_1 s0_1.length c0_1, .slice A0_2 s0_2.length c0_2, .int .i64 s0_3, .int .i64 s0_4, .int .i64 s0_5, .int .i64 s0_6]] w0 fun e w' => e = .returned (.bool r1) ∧ IsS30 w0 w' g r2 s0_1 s0_2 r3 r4 r5 r6 ∧ Below w0.heap.size w0 w' ∧ KeepBut w w' g none := by
  have hu30_ := Try.underlying30
  have HG_ := Aside0.mk hg_
  have HW_ := Aside0.mk hw_
  clear hg_ hw_
  have HI0 := Aside0.mk hI
  have HK := Aside0.mk (KeepBut.refl w g none)
  have HL := Aside0.mk hB.size
  clear hI
  have HW0 := Aside0.mk hB.size
  have HB := Aside0.mk hB
  clear hB
  have H : ((spec_l06Is.f k s0_0 s0_1 s0_2 s0_3 s0_4 s0_5 s0_6).bind fun bt124 => (some (bt124.1, bt124.2.1, bt124.2.2.1, bt124.2.2.2.1, bt124.2.2.2.2.1, bt124.2.2.2.2.2))) = some (r1, r2, r3, r4, r5, r6) := h
  clear h
  replace H := Option.bind_eq_some_iff.mp H
  obtain ⟨⟨t124, t125, t126, t127, t128, t129⟩, A20, H⟩ := H
  replace H : (some (t124, t125, t126, t127, t128, t129)) = some (r1, r2, r3, r4, r5, r6) := H
  have A2 := Aside0.mk A20
  clear A20
  simp only [Option.some.injEq, Prod.mk.injEq] at H
  obtain ⟨rfl, rfl, rfl, rfl, rfl, rfl⟩ := H
  go_enter Try.func15, Try.ntmps15
  go_wp2_with (first | ((with_reducible refine gate_dst (N := 1) rfl ?_); refine box_here (g := g) (w1 := w) (t := 30) ?hg (N := 1) ?hd HG_.out HW_.out ?hr ?_; (case hd => rfl); (case hg => rfl); (case hr => first | (go_simp; done) | (go_simp; rfl))) | ((with_reducible refine gate_callee (f := 47) rfl ?_); refine goesL_ (some 3) rfl rfl Try.func47 (by kernel_rfl) rfl #[.pointer (some ⟨g, 0, none⟩)] rfl (by (try simp only [List.map_toArray, List.map_cons, List.map_nil]); first | done | rfl | (simp only [List.length_drop, List.length_take]; rfl)) ?_; (with_reducible refine (spec_l06Is.calls k g s0_0 s0_1 s0_2 s0_3 s0_4 s0_5 s0_6 t124 t125 t126 t127 t128 t129 w0 _ ?side1 ?side2 A2.out).mono ?_); (case side1 => repeat (first | (with_reducible first | exact HI0.out | apply IsS30.alloc | apply IsS30.drewN | apply IsS30.drew | apply IsS30.set_0 | apply IsS30.set_3 | apply IsS30.set_4 | apply IsS30.set_5 | apply IsS30.set_6) | exact HI0.out)); (case side2 => repeat (first | (with_reducible first | exact HB.out | apply below_alloc | apply pw_below_drewN | apply below_drew1 | refine below_set ?_ (IsS30.ge HI0.out)) | exact HB.out)); rintro e w3 ⟨rfl, hi, hb, hk⟩; refine ⟨_, rfl, ?_⟩; have n0_ := Aside0.mk (KeepBut.trans (by repeat (first | (with_reducible first | exact HK.out | apply KeepBut.set_ | apply keep_drewN | apply keep_drew | apply keep_alloc) | exact HK.out)) hk (.inl rfl)); have n1_ := Aside0.mk (hb); have n2_ := Aside0.mk (hi); clear HK; clear HB; clear HI0; have HK := n0_; have HB := n1_; have HI0 := n2_; clear n0_ n1_ n2_; (try clear hb); (try clear hb2); (try clear hk); (try clear hi)))
  go_ret
  exact ⟨by first | rfl | (simp [errW_none, errW_some] <;> rfl) | (simp [*, errW_none, errW_some] <;> rfl), by repeat (first | (with_reducible first | exact HI0.out | apply IsS30.alloc | apply IsS30.drewN | apply IsS30.drew | apply IsS30.set_0 | apply IsS30.set_3 | apply IsS30.set_4 | apply IsS30.set_5 | apply IsS30.set_6) | exact HI0.out), by repeat (first | (with_reducible first | exact HB.out | apply below_alloc | apply pw_below_drewN | apply below_drew1 | refine below_set ?_ (IsS30.ge HI0.out)) | exact HB.out), by repeat (first | (with_reducible first | exact HK.out | apply KeepBut.set_ | apply keep_drewN | apply keep_drew | apply keep_alloc) | exact HK.out)⟩
def spec_ValidCircuit.f (k : Nat) (s0_0 : Int) (s0_1 : List (S62)) (s0_2 : List Int) (s0_3 : Int) (s0_4 : Int) (s0_5 : Int) (s0_6 : Int) : Option (Bool) := (spec_ValidCircuit.fB k s0_0 s0_1 s0_2 s0_3 s0_4 s0_5 s0_6).bind fun b => some b.1
theorem spec_ValidCircuit.mono : ∀ a0 a1 a2 a3 a4 a5 a6 k, LeO (spec_ValidCircuit.f k a0 a1 a2 a3 a4 a5 a6) (spec_ValidCircuit.f (k + 1) a0 a1 a2 a3 a4 a5 a6) := by
  intro a0 a1 a2 a3 a4 a5 a6 k
  unfold spec_ValidCircuit.f
  exact LeO.bind (spec_ValidCircuit.monoB a0 a1 a2 a3 a4 a5 a6 k) (fun _ => LeO.refl _)
theorem spec_ValidCircuit.calls (k : Nat) (s0_0 : Int) (A0_1 : Option Addr) (c0_1 : Nat) (s0_1 : List (S62)) (A0_2 : Option Addr) (c0_2 : Nat) (s0_2 : List Int) (s0_3 : Int) (s0_4 : Int) (s0_5 : Int) (s0_6 : Int) (r1 : Bool) (w : World) (hr0_1 : Kd.C k62 w A0_1 s0_1.length s0_1) (hc0_1 : s0_1.length ≤ c0_1) (hr0_2 : Kd.C (Kd.int .i64) w A0_2 s0_2.length s0_2) (hc0_2 : s0_2.length ≤ c0_2) (h : spec_ValidCircuit.f k s0_0 s0_1 s0_2 s0_3 s0_4 s0_5 s0_6 = some r1) :
    Calls Try.prog 15 #[.agg #[.int .i64 s0_0, .slice A0_1 s0_1.length c0_1, .slice A0_2 s0_2.length c0_2, .int .i64 s0_3, .int .i64 s0_4, .int .i64 s0_5, .int .i64 s0_6]] w fun e w' => e = .returned (.bool r1) ∧ Below w.heap.size w w' := by
  have hB_ : Below w.heap.size w (w.alloc (.cells #[.int .i64 s0_0, .slice A0_1 s0_1.length c0_1, .slice A0_2 s0_2.length c0_2, .int .i64 s0_3, .int .i64 s0_4, .int .i64 s0_5, .int .i64 s0_6] 30)) := below_alloc (Below.refl _ _) _
  have hI_ := IsS30.new w w A0_1 c0_1 A0_2 c0_2 s0_0 s0_1 s0_2 s0_3 s0_4 s0_5 s0_6 (Below.refl _ _) hr0_1 hr0_2
  obtain ⟨b_, h0_, h1_⟩ := Option.bind_eq_some_iff.mp h
  obtain ⟨b0_, b1_, b2_, b3_, b4_, b5_⟩ := b_
  obtain rfl := Option.some.inj h1_
  refine (spec_ValidCircuit.callsB k A0_1 c0_1 A0_2 c0_2 w.heap.size s0_0 s0_1 s0_2 s0_3 s0_4 s0_5 s0_6 _ _ _ _ _ _ w (w.alloc (.cells #[.int .i64 s0_0, .slice A0_1 s0_1.length c0_1, .slice A0_2 s0_2.length c0_2, .int .i64 s0_3, .int .i64 s0_4, .int .i64 s0_5, .int .i64 s0_6] 30)) hI_ hB_  rfl rfl h0_).mono ?_
  rintro e w' ⟨he_, _, hb_, _⟩
  exact ⟨he_, hb_⟩

end Go.Proofs.Ytalafmahgeejiaa.Pa
