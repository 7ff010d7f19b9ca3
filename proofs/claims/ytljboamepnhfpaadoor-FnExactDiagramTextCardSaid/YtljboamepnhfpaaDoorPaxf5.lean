-- Written for this claim by a program of this session.
import Derived.Test.YtljboamepnhfpaaDoorPax0
import Derived.Test.YtljboamepnhfpaaDoorPaxf10
import Derived.Test.YtljboamepnhfpaaDoorPaxf11
namespace Go.Proofs.YtljboamepnhfpaaDoor.Pa
open Go.RowKit Go.Proofs.YtljboamepnhfpaaDoorW.PrintWords Go.Proofs.YtljboamepnhfpaaDoorW.PrintLast Go.Proofs.YtljboamepnhfpaaDoorW.PrintMore
attribute [local go_sem] max2_int min2_int max_two min_two max_three min_three max_four min_four   -- for this text's walks alone
set_option linter.unusedVariables false
set_option linter.unusedSimpArgs false

/-! ### spec_DiagramText: function 5 -/
def spec_DiagramText.fB (k : Nat) (s0_0 : Int) (s0_1 : List (S42)) : Option (ByteArray × Bool × Int) := (spec_l04Is.f s0_0 s0_1).bind fun bt132 => (if bt132.1 = true then ((spec_l04Text.f k bt132.2 s0_1).bind fun bt134 => (some (bt134.1, true, bt134.2))) else (some ((⟨#[]⟩ : ByteArray), false, bt132.2)))
theorem spec_DiagramText.monoB : ∀ a0 a1 k, LeO (spec_DiagramText.fB k a0 a1) (spec_DiagramText.fB (k + 1) a0 a1) := by
  intro a0 a1 k
  unfold spec_DiagramText.fB
  repeat' first
      | (with_reducible exact spec_l04Text.mono _ _ _)
      | (with_reducible exact LeO.refl _)
      | (with_reducible exact LeO.none _)
      | (with_reducible refine LeO.ite ?_ ?_)
      | (with_reducible refine LeO.bind ?_ (fun _ => ?_))
      | exact spec_l04Text.mono _ _ _
      | exact LeO.none _
      | refine LeO.ite ?_ ?_
      | refine LeO.bind ?_ (fun _ => ?_)
set_option maxHeartbeats 8000000 in
set_option maxRecDepth 100000 in
theorem spec_DiagramText.callsB (k : Nat) (A0_1 : Option Addr) (c0_1 : Nat) (g : Nat) (s0_0 : Int) (s0_1 : List (S42)) (r1 : ByteArray) (r2 : Bool) (r3 : Int) (w0 w : World) (hI : IsS30 w0 w g s0_0 s0_1) (hB : Below w0.heap.size w0 w) (hg_ : g = w0.heap.size) (hw_ : w = w0.alloc (.cells #[.int .i64 s0_0, .slice A0_1 s0_1.length c0_1] 30)) (h : spec_DiagramText.fB k s0_0 s0_1 = some (r1, r2, r3)) :
    Calls Tryd.prog 5 #[.agg #[.int .i64 s0_0, .slice A0_1 s0_1.length c0_1]] w0 fun e w' => e = .returned (.tuple #[.string r1, .bool r2]) ∧ IsS30 w0 w' g r3 s0_1 ∧ Below w0.heap.size w0 w' ∧ KeepBut w w' g none := by
  have hu30_ := Tryd.underlying30
  have HG_ := Aside0.mk hg_
  have HW_ := Aside0.mk hw_
  clear hg_ hw_
  have HI0 := Aside0.mk hI
  have HK := Aside0.mk (KeepBut.refl w g none)
  have HL := Aside0.mk hB.size
  clear hI
  have HW0 := Aside0.mk hB.size
  have HB := Aside0.mk hB
  clear hB
  have H : ((spec_l04Is.f s0_0 s0_1).bind fun bt132 => (if bt132.1 = true then ((spec_l04Text.f k bt132.2 s0_1).bind fun bt134 => (some (bt134.1, true, bt134.2))) else (some ((⟨#[]⟩ : ByteArray), false, bt132.2)))) = some (r1, r2, r3) := h
  clear h
  replace H := Option.bind_eq_some_iff.mp H
  obtain ⟨⟨t132, t133⟩, A20, H⟩ := H
  replace H : (if t132 = true then ((spec_l04Text.f k t133 s0_1).bind fun bt134 => (some (bt134.1, true, bt134.2))) else (some ((⟨#[]⟩ : ByteArray), false, t133))) = some (r1, r2, r3) := H
  have A2 := Aside0.mk A20
  clear A20
  by_cases c3 : t132 = true
  · subst c3
    have H1 : ((spec_l04Text.f k t133 s0_1).bind fun bt134 => (some (bt134.1, true, bt134.2))) = some (r1, r2, r3) := by rw [if_pos rfl] at H; exact H
    clear H
    have H := H1
    clear H1
    replace H := Option.bind_eq_some_iff.mp H
    obtain ⟨⟨t134, t135⟩, A40, H⟩ := H
    replace H : (some (t134, true, t135)) = some (r1, r2, r3) := H
    have A4 := Aside0.mk A40
    clear A40
    simp only [Option.some.injEq, Prod.mk.injEq] at H
    obtain ⟨rfl, rfl, rfl⟩ := H
    go_enter Tryd.func5, Tryd.ntmps5
    go_wp2_with (first | ((with_reducible refine gate_dst (N := 1) rfl ?_); refine box_here (g := g) (w1 := w) (t := 30) ?hg (N := 1) ?hd HG_.out HW_.out ?hr ?_; (case hd => rfl); (case hg => rfl); (case hr => first | (go_simp; done) | (go_simp; rfl))) | ((with_reducible refine gate_callee (f := 10) rfl ?_); refine goesL_ (some 4) rfl rfl Tryd.func10 (by kernel_rfl) rfl #[.pointer (some ⟨g, 0, none⟩)] rfl (by (try simp only [List.map_toArray, List.map_cons, List.map_nil]); first | done | rfl | (simp only [List.length_drop, List.length_take]; rfl)) ?_; (with_reducible refine (spec_l04Is.calls g s0_0 s0_1 true t133 w0 _ ?side1 ?side2 A2.out).mono ?_); (case side1 => repeat (first | (with_reducible first | exact HI0.out | apply IsS30.alloc | apply IsS30.drewN | apply IsS30.drew | apply IsS30.set_0) | exact HI0.out)); (case side2 => repeat (first | (with_reducible first | exact HB.out | apply below_alloc | apply pw_below_drewN | apply below_drew1 | refine below_set ?_ (IsS30.ge HI0.out)) | exact HB.out)); rintro e w5 ⟨rfl, hi, hb, hk⟩; refine ⟨_, rfl, ?_⟩; have n0_ := Aside0.mk (KeepBut.trans (by repeat (first | (with_reducible first | exact HK.out | apply KeepBut.set_ | apply keep_drewN | apply keep_drew | apply keep_alloc) | exact HK.out)) hk (.inl rfl)); have n1_ := Aside0.mk (hb); have n2_ := Aside0.mk (hi); clear HK; clear HB; clear HI0; have HK := n0_; have HB := n1_; have HI0 := n2_; clear n0_ n1_ n2_; (try clear hb); (try clear hb2); (try clear hk); (try clear hi)) | ((with_reducible refine gate_callee (f := 11) rfl ?_); refine goesL_ (some 6) rfl rfl Tryd.func11 (by kernel_rfl) rfl #[.pointer (some ⟨g, 0, none⟩)] rfl (by (try simp only [List.map_toArray, List.map_cons, List.map_nil]); first | done | rfl | (simp only [List.length_drop, List.length_take]; rfl)) ?_; (with_reducible refine (spec_l04Text.calls k g t133 s0_1 t134 t135 w0 _ ?side1 ?side2 A4.out).mono ?_); (case side1 => repeat (first | (with_reducible first | exact HI0.out | apply IsS30.alloc | apply IsS30.drewN | apply IsS30.drew | apply IsS30.set_0) | exact HI0.out)); (case side2 => repeat (first | (with_reducible first | exact HB.out | apply below_alloc | apply pw_below_drewN | apply below_drew1 | refine below_set ?_ (IsS30.ge HI0.out)) | exact HB.out)); rintro e w6 ⟨rfl, hi, hb, hk⟩; refine ⟨_, rfl, ?_⟩; have n0_ := Aside0.mk (KeepBut.trans (by repeat (first | (with_reducible first | exact HK.out | apply KeepBut.set_ | apply keep_drewN | apply keep_drew | apply keep_alloc) | exact HK.out)) hk (.inl rfl)); have n1_ := Aside0.mk (hb); have n2_ := Aside0.mk (hi); clear HK; clear HB; clear HI0; have HK := n0_; have HB := n1_; have HI0 := n2_; clear n0_ n1_ n2_; (try clear hb); (try clear hb2); (try clear hk); (try clear hi)))
    go_ret2
    exact ⟨by first | rfl | (simp [errW_none, errW_some] <;> rfl) | (simp [*, errW_none, errW_some] <;> rfl), by repeat (first | (with_reducible first | exact HI0.out | apply IsS30.alloc | apply IsS30.drewN | apply IsS30.drew | apply IsS30.set_0) | exact HI0.out), by repeat (first | (with_reducible first | exact HB.out | apply below_alloc | apply pw_below_drewN | apply below_drew1 | refine below_set ?_ (IsS30.ge HI0.out)) | exact HB.out), by repeat (first | (with_reducible first | exact HK.out | apply KeepBut.set_ | apply keep_drewN | apply keep_drew | apply keep_alloc) | exact HK.out)⟩
  · replace c3 := Bool.eq_false_iff.mpr c3
    subst c3
    have H1 : (some ((⟨#[]⟩ : ByteArray), false, t133)) = some (r1, r2, r3) := by rw [if_neg (show ¬ (false = true) by decide)] at H; exact H
    clear H
    have H := H1
    clear H1
    simp only [Option.some.injEq, Prod.mk.injEq] at H
    obtain ⟨rfl, rfl, rfl⟩ := H
    go_enter Tryd.func5, Tryd.ntmps5
    go_wp2_with (first | ((with_reducible refine gate_dst (N := 1) rfl ?_); refine box_here (g := g) (w1 := w) (t := 30) ?hg (N := 1) ?hd HG_.out HW_.out ?hr ?_; (case hd => rfl); (case hg => rfl); (case hr => first | (go_simp; done) | (go_simp; rfl))) | ((with_reducible refine gate_callee (f := 10) rfl ?_); refine goesL_ (some 4) rfl rfl Tryd.func10 (by kernel_rfl) rfl #[.pointer (some ⟨g, 0, none⟩)] rfl (by (try simp only [List.map_toArray, List.map_cons, List.map_nil]); first | done | rfl | (simp only [List.length_drop, List.length_take]; rfl)) ?_; (with_reducible refine (spec_l04Is.calls g s0_0 s0_1 false t133 w0 _ ?side1 ?side2 A2.out).mono ?_); (case side1 => repeat (first | (with_reducible first | exact HI0.out | apply IsS30.alloc | apply IsS30.drewN | apply IsS30.drew | apply IsS30.set_0) | exact HI0.out)); (case side2 => repeat (first | (with_reducible first | exact HB.out | apply below_alloc | apply pw_below_drewN | apply below_drew1 | refine below_set ?_ (IsS30.ge HI0.out)) | exact HB.out)); rintro e w7 ⟨rfl, hi, hb, hk⟩; refine ⟨_, rfl, ?_⟩; have n0_ := Aside0.mk (KeepBut.trans (by repeat (first | (with_reducible first | exact HK.out | apply KeepBut.set_ | apply keep_drewN | apply keep_drew | apply keep_alloc) | exact HK.out)) hk (.inl rfl)); have n1_ := Aside0.mk (hb); have n2_ := Aside0.mk (hi); clear HK; clear HB; clear HI0; have HK := n0_; have HB := n1_; have HI0 := n2_; clear n0_ n1_ n2_; (try clear hb); (try clear hb2); (try clear hk); (try clear hi)))
    go_ret2
    exact ⟨by first | rfl | (simp [errW_none, errW_some] <;> rfl) | (simp [*, errW_none, errW_some] <;> rfl), by repeat (first | (with_reducible first | exact HI0.out | apply IsS30.alloc | apply IsS30.drewN | apply IsS30.drew | apply IsS30.set_0) | exact HI0.out), by repeat (first | (with_reducible first | exact HB.out | apply below_alloc | apply pw_below_drewN | apply below_drew1 | refine below_set ?_ (IsS30.ge HI0.out)) | exact HB.out), by repeat (first | (with_reducible first | exact HK.out | apply KeepBut.set_ | apply keep_drewN | apply keep_drew | apply keep_alloc) | exact HK.out)⟩
def spec_DiagramText.f (k : Nat) (s0_0 : Int) (s0_1 : List (S42)) : Option (ByteArray × Bool) := (spec_DiagramText.fB k s0_0 s0_1).bind fun b => some (b.1, b.2.1)
theorem spec_DiagramText.mono : ∀ a0 a1 k, LeO (spec_DiagramText.f k a0 a1) (spec_DiagramText.f (k + 1) a0 a1) := by
  intro a0 a1 k
  unfold spec_DiagramText.f
  exact LeO.bind (spec_DiagramText.monoB a0 a1 k) (fun _ => LeO.refl _)
theorem spec_DiagramText.calls (k : Nat) (s0_0 : Int) (A0_1 : Option Addr) (c0_1 : Nat) (s0_1 : List (S42)) (r1 : ByteArray) (r2 : Bool) (w : World) (hr0_1 : Kd.C k42 w A0_1 s0_1.length s0_1) (hc0_1 : s0_1.length ≤ c0_1) (h : spec_DiagramText.f k s0_0 s0_1 = some (r1, r2)) :
    Calls Tryd.prog 5 #[.agg #[.int .i64 s0_0, .slice A0_1 s0_1.length c0_1]] w fun e w' => e = .returned (.tuple #[.string r1, .bool r2]) ∧ Below w.heap.size w w' := by
  have hB_ : Below w.heap.size w (w.alloc (.cells #[.int .i64 s0_0, .slice A0_1 s0_1.length c0_1] 30)) := below_alloc (Below.refl _ _) _
  have hI_ := IsS30.new w w A0_1 c0_1 s0_0 s0_1 (Below.refl _ _) hr0_1
  obtain ⟨b_, h0_, h1_⟩ := Option.bind_eq_some_iff.mp h
  obtain ⟨b0_, b1_, b2_⟩ := b_
  simp only [Option.some.injEq, Prod.mk.injEq] at h1_
  obtain ⟨rfl, rfl⟩ := h1_
  refine (spec_DiagramText.callsB k A0_1 c0_1 w.heap.size s0_0 s0_1 _ _ _ w (w.alloc (.cells #[.int .i64 s0_0, .slice A0_1 s0_1.length c0_1] 30)) hI_ hB_  rfl rfl h0_).mono ?_
  rintro e w' ⟨he_, _, hb_, _⟩
  exact ⟨he_, hb_⟩

end Go.Proofs.YtljboamepnhfpaaDoor.Pa
