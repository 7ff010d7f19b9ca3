-- Written for this claim by a program of this session.
import Derived.Test.YtahjcmmgdcedpaaVPax0
import Derived.Test.YtahjcmmgdcedpaaVCore1
import Derived.Test.YtahjcmmgdcedpaaVCore3
namespace Go.Proofs.Ytahjcmmgdcedpaa.Pa
open Go.RowKit Go.Proofs.YtahjcmmgdcedpaaW.PrintWords Go.Proofs.YtahjcmmgdcedpaaW.PrintLast Go.Proofs.YtahjcmmgdcedpaaW.PrintMore
attribute [local go_sem] max2_int min2_int max_two min_two max_three min_three max_four min_four   -- for this text's walks alone
set_option linter.unusedVariables false
set_option linter.unusedSimpArgs false

/-! ### spec_l06Path: function 65 -/
def spec_l06Path.f (k : Nat) (s0_0 : Int) (s0_1 : List (S56)) (s0_2 : List Int) (s0_3 : Int) (s0_4 : Int) (s0_5 : Int) (s0_6 : Int) (a1 : Int) (a2 : Int) : Option (Int × Int × Bool × Int × Int × Int × Int × Int) := (spec_l06From.f k s0_0 s0_1 s0_2 s0_3 s0_4 s0_5 s0_6 a1).bind fun bt683 => (if 0 ≤ a2 then (if a2 < (s0_2.length : Int) then (if 0 ≤ (rd s0_2 a2) then (if (rd s0_2 a2) < (bt683.1.length : Int) then (if (rd s0_2 a2) < (bt683.2.1.length : Int) then (some (wrap64 ((rd bt683.1 (rd s0_2 a2)) + bt683.2.2.2.2.2.1), wrap64 ((rd bt683.2.1 (rd s0_2 a2)) + bt683.2.2.2.2.2.2), decide ((rd bt683.2.1 (rd s0_2 a2)) ≥ 0), bt683.2.2.1, bt683.2.2.2.1, bt683.2.2.2.2.1, bt683.2.2.2.2.2.1, bt683.2.2.2.2.2.2)) else (none)) else (none)) else (none)) else (none)) else (none))
theorem spec_l06Path.mono : ∀ a0 a1 a2 a3 a4 a5 a6 a7 a8 k, LeO (spec_l06Path.f k a0 a1 a2 a3 a4 a5 a6 a7 a8) (spec_l06Path.f (k + 1) a0 a1 a2 a3 a4 a5 a6 a7 a8) := by
 intro a0 a1 a2 a3 a4 a5 a6 a7 a8 k
 unfold spec_l06Path.f
 repeat' first
   | (with_reducible exact spec_l06From.mono _ _ _ _ _ _ _ _ _)
   | (with_reducible exact LeO.refl _)
   | (with_reducible exact LeO.none _)
   | (with_reducible refine LeO.ite ?_ ?_)
   | (with_reducible refine LeO.bind ?_ (fun _ => ?_))
   | exact spec_l06From.mono _ _ _ _ _ _ _ _ _
   | exact LeO.none _
   | refine LeO.ite ?_ ?_
   | refine LeO.bind ?_ (fun _ => ?_)
set_option maxHeartbeats 8000000 in
set_option maxRecDepth 100000 in
theorem spec_l06Path.calls (k : Nat) (g : Nat) (s0_0 : Int) (s0_1 : List (S56)) (s0_2 : List Int) (s0_3 : Int) (s0_4 : Int) (s0_5 : Int) (s0_6 : Int) (a1 : Int) (a2 : Int) (r1 : Int) (r2 : Int) (r3 : Bool) (r4 : Int) (r5 : Int) (r6 : Int) (r7 : Int) (r8 : Int) (w0 w : World) (hI : IsS45 w0 w g s0_0 s0_1 s0_2 s0_3 s0_4 s0_5 s0_6) (hB : Below w0.heap.size w0 w) (h : spec_l06Path.f k s0_0 s0_1 s0_2 s0_3 s0_4 s0_5 s0_6 a1 a2 = some (r1, r2, r3, r4, r5, r6, r7, r8)) :
  Calls Try.prog 65 #[.pointer (some ⟨g, 0, none⟩), .int .i64 a1, .int .i64 a2] w fun e w' => e = .returned (.tuple #[.int .i64 r1, .int .i64 r2, .bool r3]) ∧ IsS45 w0 w' g r4 s0_1 s0_2 r5 r6 r7 r8 ∧ Below w0.heap.size w0 w' ∧ KeepBut w w' g none := by
 have HI0 := Aside0.mk hI
 have HK := Aside0.mk (KeepBut.refl w g none)
 have HL := Aside0.mk hB.size
 clear hI
 have HW0 := Aside0.mk hB.size
 have HB := Aside0.mk hB
 clear hB
 have H : ((spec_l06From.f k s0_0 s0_1 s0_2 s0_3 s0_4 s0_5 s0_6 a1).bind fun bt683 => (if 0 ≤ a2 then (if a2 < (s0_2.length : Int) then (if 0 ≤ (rd s0_2 a2) then (if (rd s0_2 a2) < (bt683.1.length : Int) then (if (rd s0_2 a2) < (bt683.2.1.length : Int) then (some (wrap64 ((rd bt683.1 (rd s0_2 a2)) + bt683.2.2.2.2.2.1), wrap64 ((rd bt683.2.1 (rd s0_2 a2)) + bt683.2.2.2.2.2.2), decide ((rd bt683.2.1 (rd s0_2 a2)) ≥ 0), bt683.2.2.1, bt683.2.2.2.1, bt683.2.2.2.2.1, bt683.2.2.2.2.2.1, bt683.2.2.2.2.2.2)) else (none)) else (none)) else (none)) else (none)) else (none))) = some (r1, r2, r3, r4, r5, r6, r7, r8) := h
 clear h
 replace H := Option.bind_eq_some_iff.mp H
 obtain ⟨⟨t683, t686, t689, t690, t691, t692, t693⟩, A40, H⟩ := H
 replace H : (if 0 ≤ a2 then (if a2 < (s0_2.length : Int) then (if 0 ≤ (rd s0_2 a2) then (if (rd s0_2 a2) < (t683.length : Int) then (if (rd s0_2 a2) < (t686.length : Int) then (some (wrap64 ((rd t683 (rd s0_2 a2)) + t692), wrap64 ((rd t686 (rd s0_2 a2)) + t693), decide ((rd t686 (rd s0_2 a2)) ≥ 0), t689, t690, t691, t692, t693)) else (none)) else (none)) else (none)) else (none)) else (none)) = some (r1, r2, r3, r4, r5, r6, r7, r8) := H
 have A4 := Aside0.mk A40
 clear A40
 by_cases c5 : 0 ≤ a2
 ·rw [if_pos c5] at H
  have c5b0 : decide (0 ≤ a2) = true := decide_eq_true c5
  clear c5
  by_cases c6 : a2 < (s0_2.length : Int)
  ·rw [if_pos c6] at H
   have c6b0 : decide (a2 < (s0_2.length : Int)) = true := decide_eq_true c6
   clear c6
   by_cases c7 : 0 ≤ (rd s0_2 a2)
   ·rw [if_pos c7] at H
    have c7b0 : decide (0 ≤ (rd s0_2 a2)) = true := decide_eq_true c7
    clear c7
    by_cases c8 : (rd s0_2 a2) < (t683.length : Int)
    ·rw [if_pos c8] at H
     have c8b0 : decide ((rd s0_2 a2) < (t683.length : Int)) = true := decide_eq_true c8
     clear c8
     by_cases c9 : (rd s0_2 a2) < (t686.length : Int)
     ·rw [if_pos c9] at H
      have c9b0 : decide ((rd s0_2 a2) < (t686.length : Int)) = true := decide_eq_true c9
      clear c9
      simp only [Option.some.injEq, Prod.mk.injEq] at H
      obtain ⟨rfl, rfl, rfl, rfl, rfl, rfl, rfl, rfl⟩ := H
      go_enter Try.func65, Try.ntmps65
      go_wp2_with (first | (go_at_call 83; (with_reducible refine (spec_l06From.calls k g s0_0 s0_1 s0_2 s0_3 s0_4 s0_5 s0_6 a1 t683 t686 t689 t690 t691 t692 t693 w0 _ ?side1 ?side2 A4.out).mono ?_); (case side1 => repeat (first | (with_reducible first | exact HI0.out | apply IsS45.alloc | apply IsS45.drewN | apply IsS45.drew | apply IsS45.set_0 | apply IsS45.set_3 | apply IsS45.set_4 | apply IsS45.set_5 | apply IsS45.set_6) | exact HI0.out)); (case side2 => repeat (first | (with_reducible first | exact HB.out | apply below_alloc | apply pw_below_drewN | apply below_drew1 | refine below_set ?_ (IsS45.ge HI0.out)) | exact HB.out)); rintro e w10 ⟨v684, v687, rfl, ho0, ho1, hi, hb, hk⟩; have n0_ := Aside0.mk (Kd.R_lower ho0 (keep_size (w := w) (g := g) (row := none) (by repeat (first | (with_reducible first | exact HK.out | apply KeepBut.set_ | apply keep_drewN | apply keep_drew | apply keep_alloc) | exact HK.out)))); have n1_ := Aside0.mk (Kd.R_lower ho1 (keep_size (w := w) (g := g) (row := none) (by repeat (first | (with_reducible first | exact HK.out | apply KeepBut.set_ | apply keep_drewN | apply keep_drew | apply keep_alloc) | exact HK.out)))); have n2_ := Aside0.mk (KeepBut.trans (by repeat (first | (with_reducible first | exact HK.out | apply KeepBut.set_ | apply keep_drewN | apply keep_drew | apply keep_alloc) | exact HK.out)) hk (.inl rfl)); have n3_ := Aside0.mk (hb); have n4_ := Aside0.mk (hi); clear HK; clear HB; clear HI0; have HO685 := n0_; have HO688 := n1_; have HK := n2_; have HB := n3_; have HI0 := n4_; clear n0_ n1_ n2_ n3_ n4_; (try clear hb); (try clear hb2); (try clear hk); (try clear hi); (try clear ho0); (try clear ho1); obtain ⟨ASz11_1, cSz11_1, ASz11_2, cSz11_2, HGz11, hgz11, HSz11_1, HSz11_2⟩ := HI0.out; have hcz11_0 := cellS45_0 HGz11; have hcz11_1 := cellS45_1 HGz11; have hcz11_2 := cellS45_2 HGz11; have hcz11_3 := cellS45_3 HGz11; have hcz11_4 := cellS45_4 HGz11; have hcz11_5 := cellS45_5 HGz11; have hcz11_6 := cellS45_6 HGz11; have hfz11_0 := blk_frozen HGz11 0; have hfz11_3 := blk_frozen HGz11 3; have hfz11_4 := blk_frozen HGz11 4; have hfz11_5 := blk_frozen HGz11 5; have hfz11_6 := blk_frozen HGz11 6; clear HGz11 hgz11; have p694 : 0 ≤ (a2 : Int) := of_decide_eq_true (by with_reducible assumption); have q694 : a2 < (s0_2.length : Int) := of_decide_eq_true (by with_reducible assumption); obtain ⟨ad694, e694, hx694_0⟩ := Kd.at_int HSz11_2 a2 p694 q694; cases e694; replace hx694_0 := pw_cell_below HB.out hx694_0; replace p694 := eq_true p694; replace q694 := eq_true q694; obtain ⟨Ao12, co12, eo12⟩ := Kd.R_slice HO685.out; subst eo12; have p695 : 0 ≤ ((rd s0_2 a2) : Int) := of_decide_eq_true (by with_reducible assumption); have q695 : (rd s0_2 a2) < (t683.length : Int) := of_decide_eq_true (by with_reducible assumption); obtain ⟨ad695, e695, hx695_0⟩ := Kd.at_int (Kd.R_reads' HO685.out).2.2 (rd s0_2 a2) p695 q695; cases e695; replace p695 := eq_true p695; replace q695 := eq_true q695; obtain ⟨Ao13, co13, eo13⟩ := Kd.R_slice HO688.out; subst eo13; have p696 : 0 ≤ ((rd s0_2 a2) : Int) := of_decide_eq_true (by with_reducible assumption); have q696 : (rd s0_2 a2) < (t686.length : Int) := of_decide_eq_true (by with_reducible assumption); obtain ⟨ad696, e696, hx696_0⟩ := Kd.at_int (Kd.R_reads' HO688.out).2.2 (rd s0_2 a2) p696 q696; cases e696; replace p696 := eq_true p696; replace q696 := eq_true q696; have p697 : 0 ≤ ((rd s0_2 a2) : Int) := of_decide_eq_true (by with_reducible assumption); have q697 : (rd s0_2 a2) < (t686.length : Int) := of_decide_eq_true (by with_reducible assumption); obtain ⟨ad697, e697, hx697_0⟩ := Kd.at_int (Kd.R_reads' HO688.out).2.2 (rd s0_2 a2) p697 q697; obtain rfl : ad696 = ad697 := (by injection e697); replace p697 := eq_true p697; replace q697 := eq_true q697))
      repeat (go_quiet (first | (go_at_call 83; (with_reducible refine (spec_l06From.calls k g s0_0 s0_1 s0_2 s0_3 s0_4 s0_5 s0_6 a1 t683 t686 t689 t690 t691 t692 t693 w0 _ ?side1 ?side2 A4.out).mono ?_); (case side1 => repeat (first | (with_reducible first | exact HI0.out | apply IsS45.alloc | apply IsS45.drewN | apply IsS45.drew | apply IsS45.set_0 | apply IsS45.set_3 | apply IsS45.set_4 | apply IsS45.set_5 | apply IsS45.set_6) | exact HI0.out)); (case side2 => repeat (first | (with_reducible first | exact HB.out | apply below_alloc | apply pw_below_drewN | apply below_drew1 | refine below_set ?_ (IsS45.ge HI0.out)) | exact HB.out)); rintro e w10 ⟨v684, v687, rfl, ho0, ho1, hi, hb, hk⟩; have n0_ := Aside0.mk (Kd.R_lower ho0 (keep_size (w := w) (g := g) (row := none) (by repeat (first | (with_reducible first | exact HK.out | apply KeepBut.set_ | apply keep_drewN | apply keep_drew | apply keep_alloc) | exact HK.out)))); have n1_ := Aside0.mk (Kd.R_lower ho1 (keep_size (w := w) (g := g) (row := none) (by repeat (first | (with_reducible first | exact HK.out | apply KeepBut.set_ | apply keep_drewN | apply keep_drew | apply keep_alloc) | exact HK.out)))); have n2_ := Aside0.mk (KeepBut.trans (by repeat (first | (with_reducible first | exact HK.out | apply KeepBut.set_ | apply keep_drewN | apply keep_drew | apply keep_alloc) | exact HK.out)) hk (.inl rfl)); have n3_ := Aside0.mk (hb); have n4_ := Aside0.mk (hi); clear HK; clear HB; clear HI0; have HO685 := n0_; have HO688 := n1_; have HK := n2_; have HB := n3_; have HI0 := n4_; clear n0_ n1_ n2_ n3_ n4_; (try clear hb); (try clear hb2); (try clear hk); (try clear hi); (try clear ho0); (try clear ho1); obtain ⟨ASz11_1, cSz11_1, ASz11_2, cSz11_2, HGz11, hgz11, HSz11_1, HSz11_2⟩ := HI0.out; have hcz11_0 := cellS45_0 HGz11; have hcz11_1 := cellS45_1 HGz11; have hcz11_2 := cellS45_2 HGz11; have hcz11_3 := cellS45_3 HGz11; have hcz11_4 := cellS45_4 HGz11; have hcz11_5 := cellS45_5 HGz11; have hcz11_6 := cellS45_6 HGz11; have hfz11_0 := blk_frozen HGz11 0; have hfz11_3 := blk_frozen HGz11 3; have hfz11_4 := blk_frozen HGz11 4; have hfz11_5 := blk_frozen HGz11 5; have hfz11_6 := blk_frozen HGz11 6; clear HGz11 hgz11; have p694 : 0 ≤ (a2 : Int) := of_decide_eq_true (by with_reducible assumption); have q694 : a2 < (s0_2.length : Int) := of_decide_eq_true (by with_reducible assumption); obtain ⟨ad694, e694, hx694_0⟩ := Kd.at_int HSz11_2 a2 p694 q694; cases e694; replace hx694_0 := pw_cell_below HB.out hx694_0; replace p694 := eq_true p694; replace q694 := eq_true q694; obtain ⟨Ao12, co12, eo12⟩ := Kd.R_slice HO685.out; subst eo12; have p695 : 0 ≤ ((rd s0_2 a2) : Int) := of_decide_eq_true (by with_reducible assumption); have q695 : (rd s0_2 a2) < (t683.length : Int) := of_decide_eq_true (by with_reducible assumption); obtain ⟨ad695, e695, hx695_0⟩ := Kd.at_int (Kd.R_reads' HO685.out).2.2 (rd s0_2 a2) p695 q695; cases e695; replace p695 := eq_true p695; replace q695 := eq_true q695; obtain ⟨Ao13, co13, eo13⟩ := Kd.R_slice HO688.out; subst eo13; have p696 : 0 ≤ ((rd s0_2 a2) : Int) := of_decide_eq_true (by with_reducible assumption); have q696 : (rd s0_2 a2) < (t686.length : Int) := of_decide_eq_true (by with_reducible assumption); obtain ⟨ad696, e696, hx696_0⟩ := Kd.at_int (Kd.R_reads' HO688.out).2.2 (rd s0_2 a2) p696 q696; cases e696; replace p696 := eq_true p696; replace q696 := eq_true q696; have p697 : 0 ≤ ((rd s0_2 a2) : Int) := of_decide_eq_true (by with_reducible assumption); have q697 : (rd s0_2 a2) < (t686.length : Int) := of_decide_eq_true (by with_reducible assumption); obtain ⟨ad697, e697, hx697_0⟩ := Kd.at_int (Kd.R_reads' HO688.out).2.2 (rd s0_2 a2) p697 q697; obtain rfl : ad696 = ad697 := (by injection e697); replace p697 := eq_true p697; replace q697 := eq_true q697)); try go_wp2_with (first | (go_at_call 83; (with_reducible refine (spec_l06From.calls k g s0_0 s0_1 s0_2 s0_3 s0_4 s0_5 s0_6 a1 t683 t686 t689 t690 t691 t692 t693 w0 _ ?side1 ?side2 A4.out).mono ?_); (case side1 => repeat (first | (with_reducible first | exact HI0.out | apply IsS45.alloc | apply IsS45.drewN | apply IsS45.drew | apply IsS45.set_0 | apply IsS45.set_3 | apply IsS45.set_4 | apply IsS45.set_5 | apply IsS45.set_6) | exact HI0.out)); (case side2 => repeat (first | (with_reducible first | exact HB.out | apply below_alloc | apply pw_below_drewN | apply below_drew1 | refine below_set ?_ (IsS45.ge HI0.out)) | exact HB.out)); rintro e w10 ⟨v684, v687, rfl, ho0, ho1, hi, hb, hk⟩; have n0_ := Aside0.mk (Kd.R_lower ho0 (keep_size (w := w) (g := g) (row := none) (by repeat (first | (with_reducible first | exact HK.out | apply KeepBut.set_ | apply keep_drewN | apply keep_drew | apply keep_alloc) | exact HK.out)))); have n1_ := Aside0.mk (Kd.R_lower ho1 (keep_size (w := w) (g := g) (row := none) (by repeat (first | (with_reducible first | exact HK.out | apply KeepBut.set_ | apply keep_drewN | apply keep_drew | apply keep_alloc) | exact HK.out)))); have n2_ := Aside0.mk (KeepBut.trans (by repeat (first | (with_reducible first | exact HK.out | apply KeepBut.set_ | apply keep_drewN | apply keep_drew | apply keep_alloc) | exact HK.out)) hk (.inl rfl)); have n3_ := Aside0.mk (hb); have n4_ := Aside0.mk (hi); clear HK; clear HB; clear HI0; have HO685 := n0_; have HO688 := n1_; have HK := n2_; have HB := n3_; have HI0 := n4_; clear n0_ n1_ n2_ n3_ n4_; (try clear hb); (try clear hb2); (try clear hk); (try clear hi); (try clear ho0); (try clear ho1); obtain ⟨ASz11_1, cSz11_1, ASz11_2, cSz11_2, HGz11, hgz11, HSz11_1, HSz11_2⟩ := HI0.out; have hcz11_0 := cellS45_0 HGz11; have hcz11_1 := cellS45_1 HGz11; have hcz11_2 := cellS45_2 HGz11; have hcz11_3 := cellS45_3 HGz11; have hcz11_4 := cellS45_4 HGz11; have hcz11_5 := cellS45_5 HGz11; have hcz11_6 := cellS45_6 HGz11; have hfz11_0 := blk_frozen HGz11 0; have hfz11_3 := blk_frozen HGz11 3; have hfz11_4 := blk_frozen HGz11 4; have hfz11_5 := blk_frozen HGz11 5; have hfz11_6 := blk_frozen HGz11 6; clear HGz11 hgz11; have p694 : 0 ≤ (a2 : Int) := of_decide_eq_true (by with_reducible assumption); have q694 : a2 < (s0_2.length : Int) := of_decide_eq_true (by with_reducible assumption); obtain ⟨ad694, e694, hx694_0⟩ := Kd.at_int HSz11_2 a2 p694 q694; cases e694; replace hx694_0 := pw_cell_below HB.out hx694_0; replace p694 := eq_true p694; replace q694 := eq_true q694; obtain ⟨Ao12, co12, eo12⟩ := Kd.R_slice HO685.out; subst eo12; have p695 : 0 ≤ ((rd s0_2 a2) : Int) := of_decide_eq_true (by with_reducible assumption); have q695 : (rd s0_2 a2) < (t683.length : Int) := of_decide_eq_true (by with_reducible assumption); obtain ⟨ad695, e695, hx695_0⟩ := Kd.at_int (Kd.R_reads' HO685.out).2.2 (rd s0_2 a2) p695 q695; cases e695; replace p695 := eq_true p695; replace q695 := eq_true q695; obtain ⟨Ao13, co13, eo13⟩ := Kd.R_slice HO688.out; subst eo13; have p696 : 0 ≤ ((rd s0_2 a2) : Int) := of_decide_eq_true (by with_reducible assumption); have q696 : (rd s0_2 a2) < (t686.length : Int) := of_decide_eq_true (by with_reducible assumption); obtain ⟨ad696, e696, hx696_0⟩ := Kd.at_int (Kd.R_reads' HO688.out).2.2 (rd s0_2 a2) p696 q696; cases e696; replace p696 := eq_true p696; replace q696 := eq_true q696; have p697 : 0 ≤ ((rd s0_2 a2) : Int) := of_decide_eq_true (by with_reducible assumption); have q697 : (rd s0_2 a2) < (t686.length : Int) := of_decide_eq_true (by with_reducible assumption); obtain ⟨ad697, e697, hx697_0⟩ := Kd.at_int (Kd.R_reads' HO688.out).2.2 (rd s0_2 a2) p697 q697; obtain rfl : ad696 = ad697 := (by injection e697); replace p697 := eq_true p697; replace q697 := eq_true q697)))
      go_ret3
      exact ⟨by first | rfl | (simp [errW_none, errW_some] <;> rfl) | (simp [*, errW_none, errW_some] <;> rfl), by repeat (first | (with_reducible first | exact HI0.out | apply IsS45.alloc | apply IsS45.drewN | apply IsS45.drew | apply IsS45.set_0 | apply IsS45.set_3 | apply IsS45.set_4 | apply IsS45.set_5 | apply IsS45.set_6) | exact HI0.out), by repeat (first | (with_reducible first | exact HB.out | apply below_alloc | apply pw_below_drewN | apply below_drew1 | refine below_set ?_ (IsS45.ge HI0.out)) | exact HB.out), by repeat (first | (with_reducible first | exact HK.out | apply KeepBut.set_ | apply keep_drewN | apply keep_drew | apply keep_alloc) | exact HK.out)⟩
     ·rw [if_neg c9] at H
      exact absurd H (by simp)
    ·rw [if_neg c8] at H
     exact absurd H (by simp)
   ·rw [if_neg c7] at H
    exact absurd H (by simp)
  ·rw [if_neg c6] at H
   exact absurd H (by simp)
 ·rw [if_neg c5] at H
  exact absurd H (by simp)

end Go.Proofs.Ytahjcmmgdcedpaa.Pa

namespace Go.Proofs.Ytahjcmmgdcedpaa.Pa
open Go.RowKit Go.Proofs.YtahjcmmgdcedpaaW.PrintWords Go.Proofs.YtahjcmmgdcedpaaW.PrintLast Go.Proofs.YtahjcmmgdcedpaaW.PrintMore
attribute [local go_sem] max2_int min2_int max_two min_two max_three min_three max_four min_four   -- for this text's walks alone
set_option linter.unusedVariables false
set_option linter.unusedSimpArgs false

/-! ### impl_Circuit_nodes: function 53 -/
def impl_Circuit_nodes.f (a0_0 : Int) (l0_1 : List (S56)) (l0_2 : List Int) (a0_3 : Int) (a0_4 : Int) (a0_5 : Int) (a0_6 : Int) : Option (Int) := some (wrap64 (a0_0 + (l0_1.length : Int)))
set_option maxHeartbeats 8000000 in
set_option maxRecDepth 100000 in
theorem impl_Circuit_nodes.calls (a0_0 : Int) (A0_1 : Option Addr) (c0_1 : Nat) (l0_1 : List (S56)) (A0_2 : Option Addr) (c0_2 : Nat) (l0_2 : List Int) (a0_3 : Int) (a0_4 : Int) (a0_5 : Int) (a0_6 : Int) (r : Int) (w : World) (hr0_1 : Kd.C k56 w A0_1 l0_1.length l0_1) (hc0_1 : l0_1.length ≤ c0_1) (hr0_2 : Kd.C (Kd.int .i64) w A0_2 l0_2.length l0_2) (hc0_2 : l0_2.length ≤ c0_2) (h : impl_Circuit_nodes.f a0_0 l0_1 l0_2 a0_3 a0_4 a0_5 a0_6 = some r) :
  Calls Try.prog 53 #[.agg #[.int .i64 a0_0, .slice A0_1 l0_1.length c0_1, .slice A0_2 l0_2.length c0_2, .int .i64 a0_3, .int .i64 a0_4, .int .i64 a0_5, .int .i64 a0_6]] w fun e w' => e = .returned (.int .i64 r) ∧ Below w.heap.size w w' := by
 have hu45 := Try.underlying45
 have HR0_1 := Aside0.mk hr0_1
 have HC0_1 := Aside0.mk hc0_1
 clear hr0_1 hc0_1
 have HR0_2 := Aside0.mk hr0_2
 have HC0_2 := Aside0.mk hc0_2
 clear hr0_2 hc0_2
 have HB := Aside0.mk (Below.refl w.heap.size w)
 have H : (some (wrap64 (a0_0 + (l0_1.length : Int)))) = some r := h
 clear h
 obtain rfl := Option.some.inj H
 go_enter Try.func53, Try.ntmps53
 go_wp2_with (first | ((with_reducible refine gate_dst (N := 1) rfl ?_); refine box_event ?hg (N := 1) ?hd (cs := #[.int .i64 a0_0, .slice A0_1 l0_1.length c0_1, .slice A0_2 l0_2.length c0_2, .int .i64 a0_3, .int .i64 a0_4, .int .i64 a0_5, .int .i64 a0_6]) (t := 45) ?hr ?_; (case hd => rfl); (case hg => rfl); (case hr => first | (go_simp; done) | (go_simp; rfl)); intro gb429 hg w2 hbox hb; have n0_ := Aside0.mk (below_step (by repeat (first | (with_reducible first | exact HB.out | apply below_alloc | apply pw_below_drewN | apply below_drew1) | exact HB.out)) hb); have n1_ := Aside0.mk (hbox); have n2_ := Aside0.mk ((by rw [hg]; exact (below_size (by repeat (first | (with_reducible first | exact HB.out | apply below_alloc | apply pw_below_drewN | apply below_drew1) | exact HB.out))) : w.heap.size ≤ gb429)); have n3_ := Aside0.mk ((by rw [hg]; exact (below_size (by repeat (first | (with_reducible first | exact HB.out | apply below_alloc | apply pw_below_drewN | apply below_drew1) | exact HB.out))) : w.heap.size ≤ gb429)); clear HB; have HB := n0_; have BK429 := n1_; have GW429 := n2_; have GE429 := n3_; clear n0_ n1_ n2_ n3_; clear hb hbox hg; have hcz3_0 : w2.cell? ⟨gb429, 0, none⟩ = some (.int .i64 a0_0) := (blk_cell BK429.out 0).trans rfl; have hcz3_1 : w2.cell? ⟨gb429, 1, none⟩ = some (.slice A0_1 l0_1.length c0_1) := (blk_cell BK429.out 1).trans rfl; have hcz3_2 : w2.cell? ⟨gb429, 2, none⟩ = some (.slice A0_2 l0_2.length c0_2) := (blk_cell BK429.out 2).trans rfl; have hcz3_3 : w2.cell? ⟨gb429, 3, none⟩ = some (.int .i64 a0_3) := (blk_cell BK429.out 3).trans rfl; have hcz3_4 : w2.cell? ⟨gb429, 4, none⟩ = some (.int .i64 a0_4) := (blk_cell BK429.out 4).trans rfl; have hcz3_5 : w2.cell? ⟨gb429, 5, none⟩ = some (.int .i64 a0_5) := (blk_cell BK429.out 5).trans rfl; have hcz3_6 : w2.cell? ⟨gb429, 6, none⟩ = some (.int .i64 a0_6) := (blk_cell BK429.out 6).trans rfl; have hfz3_0 := blk_frozen BK429.out 0; have hfz3_1 := blk_frozen BK429.out 1; have hfz3_2 := blk_frozen BK429.out 2; have hfz3_3 := blk_frozen BK429.out 3; have hfz3_4 := blk_frozen BK429.out 4; have hfz3_5 := blk_frozen BK429.out 5; have hfz3_6 := blk_frozen BK429.out 6))
 go_ret
 exact ⟨by first | rfl | (simp [errW_none, errW_some] <;> rfl) | (simp [*, errW_none, errW_some] <;> rfl), by repeat (first | (with_reducible first | exact HB.out | apply below_alloc | apply pw_below_drewN | apply below_drew1 | refine below_set ?_ GE429.out) | exact HB.out)⟩

end Go.Proofs.Ytahjcmmgdcedpaa.Pa

