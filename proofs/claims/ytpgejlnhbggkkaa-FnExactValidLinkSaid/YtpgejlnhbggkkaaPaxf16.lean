-- Written for this claim by a program of this session.
import Derived.Test.YtpgejlnhbggkkaaPax0
import Derived.Test.YtpgejlnhbggkkaaPaxf37
namespace Go.Proofs.Ytpgejlnhbggkkaa.Pa
open Go.RowKit Go.Proofs.YtpgejlnhbggkkaaW.PrintWords Go.Proofs.YtpgejlnhbggkkaaW.PrintLast Go.Proofs.YtpgejlnhbggkkaaW.PrintMore
attribute [local go_sem] max2_int min2_int max_two min_two max_three min_three max_four min_four   -- for this text's walks alone
set_option linter.unusedVariables false
set_option linter.unusedSimpArgs false

/-! ### spec_ValidLink: function 16 -/
def spec_ValidLink.fB (s0_0 : Int) (s0_1 : Int) (s0_2 : Int) (s0_3 : Int) : Option (Bool × Int × Int × Int × Int) := (spec_l05Link.f s0_0 s0_1 s0_2 s0_3).bind fun bt143 => (some (bt143.1, bt143.2.1, bt143.2.2.1, bt143.2.2.2.1, bt143.2.2.2.2))
set_option maxHeartbeats 8000000 in
set_option maxRecDepth 100000 in
theorem spec_ValidLink.callsB (g : Nat) (s0_0 : Int) (s0_1 : Int) (s0_2 : Int) (s0_3 : Int) (r1 : Bool) (r2 : Int) (r3 : Int) (r4 : Int) (r5 : Int) (w0 w : World) (hI : IsS37 w0 w g s0_0 s0_1 s0_2 s0_3) (hB : Below w0.heap.size w0 w) (hg_ : g = w0.heap.size) (hw_ : w = w0.alloc (.cells #[.int .i64 s0_0, .int .i64 s0_1, .int .i64 s0_2, .int .i64 s0_3] 37)) (h : spec_ValidLink.fB s0_0 s0_1 s0_2 s0_3 = some (r1, r2, r3, r4, r5)) :
    Calls Try.prog 16 #[.agg #[.int .i64 s0_0, .int .i64 s0_1, .int .i64 s0_2, .int .i64 s0_3]] w0 fun e w' => e = .returned (.bool r1) ∧ IsS37 w0 w' g r2 r3 r4 r5 ∧ Below w0.heap.size w0 w' ∧ KeepBut w w' g none := by
  have hu37_ := Try.underlying37
  have HG_ := Aside0.mk hg_
  have HW_ := Aside0.mk hw_
  clear hg_ hw_
  have HI0 := Aside0.mk hI
  have HK := Aside0.mk (KeepBut.refl w g none)
  have HL := Aside0.mk hB.size
  clear hI
  have HW0 := Aside0.mk hB.size
  have HB := Aside0.mk hB
  clear hB
  have H : ((spec_l05Link.f s0_0 s0_1 s0_2 s0_3).bind fun bt143 => (some (bt143.1, bt143.2.1, bt143.2.2.1, bt143.2.2.2.1, bt143.2.2.2.2))) = some (r1, r2, r3, r4, r5) := h
  clear h
  replace H := Option.bind_eq_some_iff.mp H
  obtain ⟨⟨t143, t144, t145, t146, t147⟩, A20, H⟩ := H
  replace H : (some (t143, t144, t145, t146, t147)) = some (r1, r2, r3, r4, r5) := H
  have A2 := Aside0.mk A20
  clear A20
  simp only [Option.some.injEq, Prod.mk.injEq] at H
  obtain ⟨rfl, rfl, rfl, rfl, rfl⟩ := H
  go_enter Try.func16, Try.ntmps16
  go_wp2_with (first | ((with_reducible refine gate_dst (N := 1) rfl ?_); refine box_here (g := g) (w1 := w) (t := 37) ?hg (N := 1) ?hd HG_.out HW_.out ?hr ?_; (case hd => rfl); (case hg => rfl); (case hr => first | (go_simp; done) | (go_simp; rfl))) | ((with_reducible refine gate_callee (f := 37) rfl ?_); refine goesL_ (some 3) rfl rfl Try.func37 (by kernel_rfl) rfl #[.pointer (some ⟨g, 0, none⟩)] rfl (by (try simp only [List.map_toArray, List.map_cons, List.map_nil]); first | done | rfl | (simp only [List.length_drop, List.length_take]; rfl)) ?_; (with_reducible refine (spec_l05Link.calls g s0_0 s0_1 s0_2 s0_3 t143 t144 t145 t146 t147 w0 _ ?side1 ?side2 A2.out).mono ?_); (case side1 => repeat (first | (with_reducible first | exact HI0.out | apply IsS37.alloc | apply IsS37.drewN | apply IsS37.drew | apply IsS37.set_0 | apply IsS37.set_1 | apply IsS37.set_2 | apply IsS37.set_3) | exact HI0.out)); (case side2 => repeat (first | (with_reducible first | exact HB.out | apply below_alloc | apply pw_below_drewN | apply below_drew1 | refine below_set ?_ (IsS37.ge HI0.out)) | exact HB.out)); rintro e w3 ⟨rfl, hi, hb, hk⟩; refine ⟨_, rfl, ?_⟩; have n0_ := Aside0.mk (KeepBut.trans (by repeat (first | (with_reducible first | exact HK.out | apply KeepBut.set_ | apply keep_drewN | apply keep_drew | apply keep_alloc) | exact HK.out)) hk (.inl rfl)); have n1_ := Aside0.mk (hb); have n2_ := Aside0.mk (hi); clear HK; clear HB; clear HI0; have HK := n0_; have HB := n1_; have HI0 := n2_; clear n0_ n1_ n2_; (try clear hb); (try clear hb2); (try clear hk); (try clear hi)))
  go_ret
  exact ⟨by first | rfl | (simp [errW_none, errW_some] <;> rfl) | (simp [*, errW_none, errW_some] <;> rfl), by repeat (first | (with_reducible first | exact HI0.out | apply IsS37.alloc | apply IsS37.drewN | apply IsS37.drew | apply IsS37.set_0 | apply IsS37.set_1 | apply IsS37.set_2 | apply IsS37.set_3) | exact HI0.out), by repeat (first | (with_reducible first | exact HB.out | apply below_alloc | apply pw_below_drewN | apply below_drew1 | refine below_set ?_ (IsS37.ge HI0.out)) | exact HB.out), by repeat (first | (with_reducible first | exact HK.out | apply KeepBut.set_ | apply keep_drewN | apply keep_drew | apply keep_alloc) | exact HK.out)⟩
def spec_ValidLink.f (s0_0 : Int) (s0_1 : Int) (s0_2 : Int) (s0_3 : Int) : Option (Bool) := (spec_ValidLink.fB s0_0 s0_1 s0_2 s0_3).bind fun b => some b.1
theorem spec_ValidLink.calls (s0_0 : Int) (s0_1 : Int) (s0_2 : Int) (s0_3 : Int) (r1 : Bool) (w : World) (h : spec_ValidLink.f s0_0 s0_1 s0_2 s0_3 = some r1) :
    Calls Try.prog 16 #[.agg #[.int .i64 s0_0, .int .i64 s0_1, .int .i64 s0_2, .int .i64 s0_3]] w fun e w' => e = .returned (.bool r1) ∧ Below w.heap.size w w' := by
  have hB_ : Below w.heap.size w (w.alloc (.cells #[.int .i64 s0_0, .int .i64 s0_1, .int .i64 s0_2, .int .i64 s0_3] 37)) := below_alloc (Below.refl _ _) _
  have hI_ := IsS37.new w w s0_0 s0_1 s0_2 s0_3 (Below.refl _ _)
  obtain ⟨b_, h0_, h1_⟩ := Option.bind_eq_some_iff.mp h
  obtain ⟨b0_, b1_, b2_, b3_, b4_⟩ := b_
  obtain rfl := Option.some.inj h1_
  refine (spec_ValidLink.callsB w.heap.size s0_0 s0_1 s0_2 s0_3 _ _ _ _ _ w (w.alloc (.cells #[.int .i64 s0_0, .int .i64 s0_1, .int .i64 s0_2, .int .i64 s0_3] 37)) hI_ hB_  rfl rfl h0_).mono ?_
  rintro e w' ⟨he_, _, hb_, _⟩
  exact ⟨he_, hb_⟩

end Go.Proofs.Ytpgejlnhbggkkaa.Pa
