-- Written for this claim by a program of this session.
import Derived.Test.YtalafmahgeejiaaXPax0
import Derived.Test.YtalafmahgeejiaaXKPPaxf38
namespace Go.Proofs.Ytalafmahgeejiaa.Pa
open Go.RowKit Go.Proofs.YtalafmahgeejiaaW.PrintWords Go.Proofs.YtalafmahgeejiaaW.PrintLast Go.Proofs.YtalafmahgeejiaaW.PrintMore
attribute [local go_sem] max2_int min2_int max_two min_two max_three min_three max_four min_four   -- for this text's walks alone
set_option linter.unusedVariables false
set_option linter.unusedSimpArgs false

/-! ### laws_heldGateS: function 64 -/
def laws_heldGateS.l0 : Nat → List (S62) → Int → Int → Option (Int)
 | 0, _, _, _ => none
 | k + 1, x0, x1, x5 => if x5 < (x0.length : Int) then (if 0 ≤ x5 then (if ((rd_T62 x0 x5).f0) = x1 then (if ((rd_T62 x0 x5).f1) = (wrap64 (x1 + 1)) then ((laws_heldInt64S.f k ((rd_T62 x0 x5).f2) (wrap64 ((wrap64 (x1 + 1)) + 1))).bind fun t420 => (if t420 < 0 then (some (-1)) else (laws_heldGateS.l0 k x0 t420 (wrap64 (x5 + 1))))) else (some (-1))) else (some (-1))) else (none)) else (some x1)
def laws_heldGateS.f (k : Nat) (l0 : List (S62)) (a1 : Int) : Option (Int) := laws_heldGateS.l0 k l0 a1 0
theorem laws_heldGateS.mono_l : ∀ k, (∀ y0 y1 y2, LeO (laws_heldGateS.l0 k y0 y1 y2) (laws_heldGateS.l0 (k + 1) y0 y1 y2))
 | 0 => fun _ _ _ r h => by simp [laws_heldGateS.l0] at h
 | k + 1 => by
  have ih0 := laws_heldGateS.mono_l k
  ·intro y0 y1 y2
   unfold laws_heldGateS.l0
   repeat' first
   | (with_reducible exact ih0 _ _ _)
   | (with_reducible exact laws_heldInt64S.mono _ _ _)
   | (with_reducible exact LeO.refl _)
   | (with_reducible exact LeO.none _)
   | (with_reducible refine LeO.ite ?_ ?_)
   | (with_reducible refine LeO.bind ?_ (fun _ => ?_))
   | exact ih0 _ _ _
   | exact laws_heldInt64S.mono _ _ _
   | exact LeO.none _
   | refine LeO.ite ?_ ?_
   | refine LeO.bind ?_ (fun _ => ?_)
theorem laws_heldGateS.mono : ∀ a0 a1 k, LeO (laws_heldGateS.f k a0 a1) (laws_heldGateS.f (k + 1) a0 a1) := by
 intro a0 a1 k
 have ih0 := laws_heldGateS.mono_l k
 unfold laws_heldGateS.f
 repeat' first
   | (with_reducible exact ih0 _ _ _)
   | (with_reducible exact laws_heldInt64S.mono _ _ _)
   | (with_reducible exact LeO.refl _)
   | (with_reducible exact LeO.none _)
   | (with_reducible refine LeO.ite ?_ ?_)
   | (with_reducible refine LeO.bind ?_ (fun _ => ?_))
   | exact ih0 _ _ _
   | exact laws_heldInt64S.mono _ _ _
   | exact LeO.none _
   | refine LeO.ite ?_ ?_
   | refine LeO.bind ?_ (fun _ => ?_)
set_option maxHeartbeats 8000000 in
set_option maxRecDepth 100000 in
theorem laws_heldGateS.calls (k : Nat) (A0 : Option Addr) (c0 : Nat) (l0 : List (S62)) (a1 : Int) (r : Int) (w : World) (hr0 : Kd.C k62 w A0 l0.length l0) (hc0 : l0.length ≤ c0) (h : laws_heldGateS.f k l0 a1 = some r) :
  Calls Try.prog 64 #[.slice A0 l0.length c0, .int .i64 a1] w fun e w' => e = .returned (.int .i64 r) ∧ Drawn0 w w' := by
 have HR0 := Aside0.mk hr0
 have HC0 := Aside0.mk hc0
 clear hr0 hc0
 have H : (laws_heldGateS.l0 k l0 a1 0) = some r := h
 clear h
 have H' := Aside0.mk H
 clear H
 go_enter Try.func64, Try.ntmps64
 go_wp2
 go_loopg [1, 5] k (fun kq v1 v5 w' => ∃ (x1_1 : Int) (x5_1 : Int), v1 = .int .i64 x1_1 ∧ v5 = .int .i64 x5_1 ∧ Aside0 (laws_heldGateS.l0 kq l0 x1_1 x5_1 = some r) ∧ Aside0 (kq ≤ k) ∧ Drawn0 w w')
 case atStart => exact ⟨(a1), (0), (by first | rfl | (simp; done) | (simp [*]; done)), (by first | rfl | (simp; done) | (simp [*]; done)), H', ⟨Nat.le_refl _⟩, by repeat (first | exact Drawn0.refl _ | apply Drawn0.step)⟩
 case round =>
  clear H'
  try clear p2
  obtain ⟨x1_1, x5_1, rfl, rfl, HA, HK1, ⟨m1, rfl⟩⟩ := hrel
  cases gk with
  | zero => exact absurd HA.out (by simp [laws_heldGateS.l0])
  | succ k1 =>
   have H := HA.out
   clear HA
   simp only [laws_heldGateS.l0] at H
   by_cases c3 : x5_1 < (l0.length : Int)
   ·rw [if_pos c3] at H
    have c3b0 : decide (x5_1 < (l0.length : Int)) = true := decide_eq_true c3
    clear c3
    by_cases c4 : 0 ≤ x5_1
    ·rw [if_pos c4] at H
     have c4b0 : decide (0 ≤ x5_1) = true := decide_eq_true c4
     clear c4
     by_cases c5 : ((rd_T62 l0 x5_1).f0) = x1_1
     ·rw [if_pos c5] at H
      have c5b0 : (((rd_T62 l0 x5_1).f0) == x1_1) = true := beq_iff_eq.mpr c5
      have c5b1 : (((rd_T62 l0 x5_1).f0) != x1_1) = false := bne_eq_false_iff_eq.mpr c5
      clear c5
      by_cases c6 : ((rd_T62 l0 x5_1).f1) = (wrap64 (x1_1 + 1))
      ·rw [if_pos c6] at H
       have c6b0 : (((rd_T62 l0 x5_1).f1) == (wrap64 (x1_1 + 1))) = true := beq_iff_eq.mpr c6
       have c6b1 : (((rd_T62 l0 x5_1).f1) != (wrap64 (x1_1 + 1))) = false := bne_eq_false_iff_eq.mpr c6
       clear c6
       replace H := Option.bind_eq_some_iff.mp H
       obtain ⟨t420, A70, H⟩ := H
       replace H : (if t420 < 0 then (some (-1)) else (laws_heldGateS.l0 k1 l0 t420 (wrap64 (x5_1 + 1)))) = some r := H
       have A7 := Aside0.mk A70
       clear A70
       by_cases c8 : t420 < 0
       ·rw [if_pos c8] at H
        have c8b0 : decide (t420 < 0) = true := decide_eq_true c8
        clear c8
        obtain rfl := Option.some.inj H
        have p417 : 0 ≤ (x5_1 : Int) := of_decide_eq_true (by with_reducible assumption)
        have q417 : x5_1 < (l0.length : Int) := of_decide_eq_true (by with_reducible assumption)
        obtain ⟨ad417, A417_2, c417_2, e417, hx417_0, hx417_1, hx417_2, hl417_2, hi417_2⟩ := at_T62 HR0.out x5_1 p417 q417
        cases e417
        have HR417_2 := Aside0.mk hi417_2
        have HC417_2 := Aside0.mk hl417_2
        clear hi417_2 hl417_2
        replace p417 := eq_true p417
        replace q417 := eq_true q417
        have p418 : 0 ≤ (x5_1 : Int) := of_decide_eq_true (by with_reducible assumption)
        have q418 : x5_1 < (l0.length : Int) := of_decide_eq_true (by with_reducible assumption)
        obtain ⟨ad418, A418_2, c418_2, e418, hx418_0, hx418_1, hx418_2, hl418_2, hi418_2⟩ := at_T62 HR0.out x5_1 p418 q418
        obtain rfl : ad417 = ad418 := (by injection e418)
        have HR418_2 := Aside0.mk hi418_2
        have HC418_2 := Aside0.mk hl418_2
        clear hi418_2 hl418_2
        replace p418 := eq_true p418
        replace q418 := eq_true q418
        have ea_ := Option.some.inj (hx417_2.symm.trans hx418_2)
        injection ea_ with ea_ en_ ec_
        subst ea_
        subst ec_
        clear en_
        have p419 : 0 ≤ (x5_1 : Int) := of_decide_eq_true (by with_reducible assumption)
        have q419 : x5_1 < (l0.length : Int) := of_decide_eq_true (by with_reducible assumption)
        obtain ⟨ad419, A419_2, c419_2, e419, hx419_0, hx419_1, hx419_2, hl419_2, hi419_2⟩ := at_T62 HR0.out x5_1 p419 q419
        obtain rfl : ad417 = ad419 := (by injection e419)
        have HR419_2 := Aside0.mk hi419_2
        have HC419_2 := Aside0.mk hl419_2
        clear hi419_2 hl419_2
        replace p419 := eq_true p419
        replace q419 := eq_true q419
        have ea_ := Option.some.inj (hx417_2.symm.trans hx419_2)
        injection ea_ with ea_ en_ ec_
        subst ea_
        subst ec_
        clear en_
        go_wp2_with (first | ((with_reducible refine gate_callee (f := 38) rfl ?_); refine goesL_ (some 36) rfl rfl Try.func38 (by kernel_rfl) rfl #[.slice A417_2 ((rd_T62 l0 x5_1).f2).length c417_2, .int .i64 (wrap64 ((wrap64 (x1_1 + 1)) + 1))] rfl (by (try simp only [List.map_toArray, List.map_cons, List.map_nil]); first | done | rfl | (simp only [List.length_drop, List.length_take]; rfl)) ?_; (with_reducible refine (laws_heldInt64S.calls k1 _ _ ((rd_T62 l0 x5_1).f2) (wrap64 ((wrap64 (x1_1 + 1)) + 1)) t420 _ ?side1 ?side2 A7.out).mono ?_); (case side1 => repeat (first | exact HR419_2.out | (with_reducible refine Kd.C_alloc ?_ _) | (with_reducible refine Kd.C_drewN ?_ _) | (with_reducible refine Kd.C_drew ?_))); (case side2 => exact HC419_2.out); rintro e w' ⟨rfl, ⟨nd, rfl⟩⟩; refine ⟨_, rfl, ?_⟩))
        go_ret
        exact ⟨by first | rfl | (simp; done) | (simp [*]; done), by repeat (first | exact Drawn0.refl _ | apply Drawn0.step)⟩
       ·rw [if_neg c8] at H
        have c8b0 : decide (t420 < 0) = false := decide_eq_false c8
        clear c8
        have H' := Aside0.mk H
        clear H
        have p417 : 0 ≤ (x5_1 : Int) := of_decide_eq_true (by with_reducible assumption)
        have q417 : x5_1 < (l0.length : Int) := of_decide_eq_true (by with_reducible assumption)
        obtain ⟨ad417, A417_2, c417_2, e417, hx417_0, hx417_1, hx417_2, hl417_2, hi417_2⟩ := at_T62 HR0.out x5_1 p417 q417
        cases e417
        have HR417_2 := Aside0.mk hi417_2
        have HC417_2 := Aside0.mk hl417_2
        clear hi417_2 hl417_2
        replace p417 := eq_true p417
        replace q417 := eq_true q417
        have p418 : 0 ≤ (x5_1 : Int) := of_decide_eq_true (by with_reducible assumption)
        have q418 : x5_1 < (l0.length : Int) := of_decide_eq_true (by with_reducible assumption)
        obtain ⟨ad418, A418_2, c418_2, e418, hx418_0, hx418_1, hx418_2, hl418_2, hi418_2⟩ := at_T62 HR0.out x5_1 p418 q418
        obtain rfl : ad417 = ad418 := (by injection e418)
        have HR418_2 := Aside0.mk hi418_2
        have HC418_2 := Aside0.mk hl418_2
        clear hi418_2 hl418_2
        replace p418 := eq_true p418
        replace q418 := eq_true q418
        have ea_ := Option.some.inj (hx417_2.symm.trans hx418_2)
        injection ea_ with ea_ en_ ec_
        subst ea_
        subst ec_
        clear en_
        have p419 : 0 ≤ (x5_1 : Int) := of_decide_eq_true (by with_reducible assumption)
        have q419 : x5_1 < (l0.length : Int) := of_decide_eq_true (by with_reducible assumption)
        obtain ⟨ad419, A419_2, c419_2, e419, hx419_0, hx419_1, hx419_2, hl419_2, hi419_2⟩ := at_T62 HR0.out x5_1 p419 q419
        obtain rfl : ad417 = ad419 := (by injection e419)
        have HR419_2 := Aside0.mk hi419_2
        have HC419_2 := Aside0.mk hl419_2
        clear hi419_2 hl419_2
        replace p419 := eq_true p419
        replace q419 := eq_true q419
        have ea_ := Option.some.inj (hx417_2.symm.trans hx419_2)
        injection ea_ with ea_ en_ ec_
        subst ea_
        subst ec_
        clear en_
        go_wp2_with (first | ((with_reducible refine gate_callee (f := 38) rfl ?_); refine goesL_ (some 36) rfl rfl Try.func38 (by kernel_rfl) rfl #[.slice A417_2 ((rd_T62 l0 x5_1).f2).length c417_2, .int .i64 (wrap64 ((wrap64 (x1_1 + 1)) + 1))] rfl (by (try simp only [List.map_toArray, List.map_cons, List.map_nil]); first | done | rfl | (simp only [List.length_drop, List.length_take]; rfl)) ?_; (with_reducible refine (laws_heldInt64S.calls k1 _ _ ((rd_T62 l0 x5_1).f2) (wrap64 ((wrap64 (x1_1 + 1)) + 1)) t420 _ ?side1 ?side2 A7.out).mono ?_); (case side1 => repeat (first | exact HR419_2.out | (with_reducible refine Kd.C_alloc ?_ _) | (with_reducible refine Kd.C_drewN ?_ _) | (with_reducible refine Kd.C_drew ?_))); (case side2 => exact HC419_2.out); rintro e w' ⟨rfl, ⟨nd, rfl⟩⟩; refine ⟨_, rfl, ?_⟩))
        go_roundg k1
        case measure => have := HK1.out; omega
        case rel => exact ⟨(t420), (wrap64 (x5_1 + 1)), (by first | rfl | (simp; done) | (simp [*]; done)), (by first | rfl | (simp; done) | (simp [*]; done)), H', ⟨by have := HK1.out; omega⟩, by repeat (first | exact Drawn0.refl _ | apply Drawn0.step)⟩
      ·rw [if_neg c6] at H
       have c6b0 : (((rd_T62 l0 x5_1).f1) == (wrap64 (x1_1 + 1))) = false := beq_eq_false_iff_ne.mpr c6
       have c6b1 : (((rd_T62 l0 x5_1).f1) != (wrap64 (x1_1 + 1))) = true := bne_iff_ne.mpr c6
       obtain rfl := Option.some.inj H
       have p417 : 0 ≤ (x5_1 : Int) := of_decide_eq_true (by with_reducible assumption)
       have q417 : x5_1 < (l0.length : Int) := of_decide_eq_true (by with_reducible assumption)
       obtain ⟨ad417, A417_2, c417_2, e417, hx417_0, hx417_1, hx417_2, hl417_2, hi417_2⟩ := at_T62 HR0.out x5_1 p417 q417
       cases e417
       have HR417_2 := Aside0.mk hi417_2
       have HC417_2 := Aside0.mk hl417_2
       clear hi417_2 hl417_2
       replace p417 := eq_true p417
       replace q417 := eq_true q417
       have p418 : 0 ≤ (x5_1 : Int) := of_decide_eq_true (by with_reducible assumption)
       have q418 : x5_1 < (l0.length : Int) := of_decide_eq_true (by with_reducible assumption)
       obtain ⟨ad418, A418_2, c418_2, e418, hx418_0, hx418_1, hx418_2, hl418_2, hi418_2⟩ := at_T62 HR0.out x5_1 p418 q418
       obtain rfl : ad417 = ad418 := (by injection e418)
       have HR418_2 := Aside0.mk hi418_2
       have HC418_2 := Aside0.mk hl418_2
       clear hi418_2 hl418_2
       replace p418 := eq_true p418
       replace q418 := eq_true q418
       have ea_ := Option.some.inj (hx417_2.symm.trans hx418_2)
       injection ea_ with ea_ en_ ec_
       subst ea_
       subst ec_
       clear en_
       go_wp2
       go_ret
       exact ⟨by first | rfl | (simp; done) | (simp [*]; done), by repeat (first | exact Drawn0.refl _ | apply Drawn0.step)⟩
     ·rw [if_neg c5] at H
      have c5b0 : (((rd_T62 l0 x5_1).f0) == x1_1) = false := beq_eq_false_iff_ne.mpr c5
      have c5b1 : (((rd_T62 l0 x5_1).f0) != x1_1) = true := bne_iff_ne.mpr c5
      obtain rfl := Option.some.inj H
      have p417 : 0 ≤ (x5_1 : Int) := of_decide_eq_true (by with_reducible assumption)
      have q417 : x5_1 < (l0.length : Int) := of_decide_eq_true (by with_reducible assumption)
      obtain ⟨ad417, A417_2, c417_2, e417, hx417_0, hx417_1, hx417_2, hl417_2, hi417_2⟩ := at_T62 HR0.out x5_1 p417 q417
      cases e417
      have HR417_2 := Aside0.mk hi417_2
      have HC417_2 := Aside0.mk hl417_2
      clear hi417_2 hl417_2
      replace p417 := eq_true p417
      replace q417 := eq_true q417
      go_wp2
      go_ret
      exact ⟨by first | rfl | (simp; done) | (simp [*]; done), by repeat (first | exact Drawn0.refl _ | apply Drawn0.step)⟩
    ·rw [if_neg c4] at H
     exact absurd H (by simp)
   ·rw [if_neg c3] at H
    have c3b0 : decide (x5_1 < (l0.length : Int)) = false := decide_eq_false c3
    clear c3
    obtain rfl := Option.some.inj H
    go_wp2
    go_ret
    exact ⟨by first | rfl | (simp; done) | (simp [*]; done), by repeat (first | exact Drawn0.refl _ | apply Drawn0.step)⟩

end Go.Proofs.Ytalafmahgeejiaa.Pa
