-- Written for this claim by a program of this session.
import Derived.Test.YtljboamepnhfpaaPax0
import Derived.Test.YtljboamepnhfpaaPaxf46
namespace Go.Proofs.Ytljboamepnhfpaa.Pa
open Go.RowKit Go.Proofs.YtljboamepnhfpaaW.PrintWords Go.Proofs.YtljboamepnhfpaaW.PrintLast Go.Proofs.YtljboamepnhfpaaW.PrintMore
attribute [local go_sem] max2_int min2_int max_two min_two max_three min_three max_four min_four   -- for this text's walks alone
set_option linter.unusedVariables false
set_option linter.unusedSimpArgs false

/-! ### spec_ValidDiagram: function 14 -/
def spec_ValidDiagram.fB (s0_0 : Int) (s0_1 : List (S45)) : Option (Bool × Int) := (spec_l04Is.f s0_0 s0_1).bind fun bt107 => (some (bt107.1, bt107.2))
set_option maxHeartbeats 8000000 in
set_option maxRecDepth 100000 in
theorem spec_ValidDiagram.callsB (A0_1 : Option Addr) (c0_1 : Nat) (g : Nat) (s0_0 : Int) (s0_1 : List (S45)) (r1 : Bool) (r2 : Int) (w0 w : World) (hI : IsS29 w0 w g s0_0 s0_1) (hB : Below w0.heap.size w0 w) (hg_ : g = w0.heap.size) (hw_ : w = w0.alloc (.cells #[.int .i64 s0_0, .slice A0_1 s0_1.length c0_1] 29)) (h : spec_ValidDiagram.fB s0_0 s0_1 = some (r1, r2)) :
    Calls Try.prog 14 #[.agg #[.int .i64 s0_0, .slice A0_1 s0_1.length c0_1]] w0 fun e w' => e = .returned (.bool r1) ∧ IsS29 w0 w' g r2 s0_1 ∧ Below w0.heap.size w0 w' ∧ KeepBut w w' g none := by
  have hu29_ := Try.underlying29
  have HG_ := Aside0.mk hg_
  have HW_ := Aside0.mk hw_
  clear hg_ hw_
  have HI0 := Aside0.mk hI
  have HK := Aside0.mk (KeepBut.refl w g none)
  have HL := Aside0.mk hB.size
  clear hI
  have HW0 := Aside0.mk hB.size
  have HB := Aside0.mk hB
  clear hB
  have H : ((spec_l04Is.f s0_0 s0_1).bind fun bt107 => (some (bt107.1, bt107.2))) = some (r1, r2) := h
  clear h
  replace H := Option.bind_eq_some_iff.mp H
  obtain ⟨⟨t107, t108⟩, A20, H⟩ := H
  replace H : (some (t107, t108)) = some (r1, r2) := H
  have A2 := Aside0.mk A20
  clear A20
  simp only [Option.some.injEq, Prod.mk.injEq] at H
  obtain ⟨rfl, rfl⟩ := H
  go_enter Try.func14, Try.ntmps14
  go_wp2_with (first | ((with_reducible refine gate_dst (N := 1) rfl ?_); refine box_here (g := g) (w1 := w) (t := 29) ?hg (N := 1) ?hd HG_.out HW_.out ?hr ?_; (case hd => rfl); (case hg => rfl); (case hr => first | (go_simp; done) | (go_simp; rfl))) | ((with_reducible refine gate_callee (f := 46) rfl ?_); refine goesL_ (some 3) rfl rfl Try.func46 (by kernel_rfl) rfl #[.pointer (some ⟨g, 0, none⟩)] rfl (by (try simp only [List.map_toArray, List.map_cons, List.map_nil]); first | done | rfl | (simp only [List.length_drop, List.length_take]; rfl)) ?_; (with_reducible refine (spec_l04Is.calls g s0_0 s0_1 t107 t108 w0 _ ?side1 ?side2 A2.out).mono ?_); (case side1 => repeat (first | (with_reducible first | exact HI0.out | apply IsS29.alloc | apply IsS29.drewN | apply IsS29.drew | apply IsS29.set_0) | exact HI0.out)); (case side2 => repeat (first | (with_reducible first | exact HB.out | apply below_alloc | apply pw_below_drewN | apply below_drew1 | refine below_set ?_ (IsS29.ge HI0.out)) | exact HB.out)); rintro e w3 ⟨rfl, hi, hb, hk⟩; refine ⟨_, rfl, ?_⟩; have n0_ := Aside0.mk (KeepBut.trans (by repeat (first | (with_reducible first | exact HK.out | apply KeepBut.set_ | apply keep_drewN | apply keep_drew | apply keep_alloc) | exact HK.out)) hk (.inl rfl)); have n1_ := Aside0.mk (hb); have n2_ := Aside0.mk (hi); clear HK; clear HB; clear HI0; have HK := n0_; have HB := n1_; have HI0 := n2_; clear n0_ n1_ n2_; (try clear hb); (try clear hb2); (try clear hk); (try clear hi)))
  go_ret
  exact ⟨by first | rfl | (simp [errW_none, errW_some] <;> rfl) | (simp [*, errW_none, errW_some] <;> rfl), by repeat (first | (with_reducible first | exact HI0.out | apply IsS29.alloc | apply IsS29.drewN | apply IsS29.drew | apply IsS29.set_0) | exact HI0.out), by repeat (first | (with_reducible first | exact HB.out | apply below_alloc | apply pw_below_drewN | apply below_drew1 | refine below_set ?_ (IsS29.ge HI0.out)) | exact HB.out), by repeat (first | (with_reducible first | exact HK.out | apply KeepBut.set_ | apply keep_drewN | apply keep_drew | apply keep_alloc) | exact HK.out)⟩
def spec_ValidDiagram.f (s0_0 : Int) (s0_1 : List (S45)) : Option (Bool) := (spec_ValidDiagram.fB s0_0 s0_1).bind fun b => some b.1
theorem spec_ValidDiagram.calls (s0_0 : Int) (A0_1 : Option Addr) (c0_1 : Nat) (s0_1 : List (S45)) (r1 : Bool) (w : World) (hr0_1 : Kd.C k45 w A0_1 s0_1.length s0_1) (hc0_1 : s0_1.length ≤ c0_1) (h : spec_ValidDiagram.f s0_0 s0_1 = some r1) :
    Calls Try.prog 14 #[.agg #[.int .i64 s0_0, .slice A0_1 s0_1.length c0_1]] w fun e w' => e = .returned (.bool r1) ∧ Below w.heap.size w w' := by
  have hB_ : Below w.heap.size w (w.alloc (.cells #[.int .i64 s0_0, .slice A0_1 s0_1.length c0_1] 29)) := below_alloc (Below.refl _ _) _
  have hI_ := IsS29.new w w A0_1 c0_1 s0_0 s0_1 (Below.refl _ _) hr0_1
  obtain ⟨b_, h0_, h1_⟩ := Option.bind_eq_some_iff.mp h
  obtain ⟨b0_, b1_⟩ := b_
  obtain rfl := Option.some.inj h1_
  refine (spec_ValidDiagram.callsB A0_1 c0_1 w.heap.size s0_0 s0_1 _ _ w (w.alloc (.cells #[.int .i64 s0_0, .slice A0_1 s0_1.length c0_1] 29)) hI_ hB_  rfl rfl h0_).mono ?_
  rintro e w' ⟨he_, _, hb_, _⟩
  exact ⟨he_, hb_⟩

end Go.Proofs.Ytljboamepnhfpaa.Pa
