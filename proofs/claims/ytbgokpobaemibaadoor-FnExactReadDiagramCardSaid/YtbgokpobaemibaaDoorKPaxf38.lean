-- Written for this claim by a program of this session.
import Derived.Test.YtbgokpobaemibaaDoorPax0
namespace Go.Proofs.YtbgokpobaemibaaDoor.Pa
open Go.RowKit Go.Proofs.YtbgokpobaemibaaDoorW.PrintWords Go.Proofs.YtbgokpobaemibaaDoorW.PrintLast Go.Proofs.YtbgokpobaemibaaDoorW.PrintMore
attribute [local go_sem] max2_int min2_int max_two min_two max_three min_three max_four min_four   -- for this text's walks alone
set_option linter.unusedVariables false
set_option linter.unusedSimpArgs false

/-! ### laws_heldBoundS: function 38 -/
def laws_heldBoundS.l0 : Nat → List (S39) → Int → Int → Option (Int)
 | 0, _, _, _ => none
 | k + 1, x0, x1, x5 => if x5 < (x0.length : Int) then (if 0 ≤ x5 then (if ((rd_T39 x0 x5).f0) = x1 then (if ((rd_T39 x0 x5).f1) = (wrap64 (x1 + 1)) then (if ((rd_T39 x0 x5).f2) = (wrap64 ((wrap64 (x1 + 1)) + 1)) then (laws_heldBoundS.l0 k x0 (wrap64 ((wrap64 ((wrap64 (x1 + 1)) + 1)) + 1)) (wrap64 (x5 + 1))) else (some (-1))) else (some (-1))) else (some (-1))) else (none)) else (some x1)
def laws_heldBoundS.f (k : Nat) (l0 : List (S39)) (a1 : Int) : Option (Int) := laws_heldBoundS.l0 k l0 a1 0
theorem laws_heldBoundS.mono_l : ∀ k, (∀ y0 y1 y2, LeO (laws_heldBoundS.l0 k y0 y1 y2) (laws_heldBoundS.l0 (k + 1) y0 y1 y2))
 | 0 => fun _ _ _ r h => by simp [laws_heldBoundS.l0] at h
 | k + 1 => by
  have ih0 := laws_heldBoundS.mono_l k
  ·intro y0 y1 y2
   unfold laws_heldBoundS.l0
   repeat' first
   | (with_reducible exact ih0 _ _ _)
   | (with_reducible exact LeO.refl _)
   | (with_reducible exact LeO.none _)
   | (with_reducible refine LeO.ite ?_ ?_)
   | (with_reducible refine LeO.bind ?_ (fun _ => ?_))
   | exact ih0 _ _ _
   | exact LeO.none _
   | refine LeO.ite ?_ ?_
   | refine LeO.bind ?_ (fun _ => ?_)
theorem laws_heldBoundS.mono : ∀ a0 a1 k, LeO (laws_heldBoundS.f k a0 a1) (laws_heldBoundS.f (k + 1) a0 a1) := by
 intro a0 a1 k
 have ih0 := laws_heldBoundS.mono_l k
 unfold laws_heldBoundS.f
 repeat' first
   | (with_reducible exact ih0 _ _ _)
   | (with_reducible exact LeO.refl _)
   | (with_reducible exact LeO.none _)
   | (with_reducible refine LeO.ite ?_ ?_)
   | (with_reducible refine LeO.bind ?_ (fun _ => ?_))
   | exact ih0 _ _ _
   | exact LeO.none _
   | refine LeO.ite ?_ ?_
   | refine LeO.bind ?_ (fun _ => ?_)
set_option maxHeartbeats 8000000 in
set_option maxRecDepth 100000 in
theorem laws_heldBoundS.calls (k : Nat) (A0 : Option Addr) (c0 : Nat) (l0 : List (S39)) (a1 : Int) (r : Int) (w : World) (hr0 : Kd.C k39 w A0 l0.length l0) (hc0 : l0.length ≤ c0) (h : laws_heldBoundS.f k l0 a1 = some r) :
  Calls Tryd.prog 38 #[.slice A0 l0.length c0, .int .i64 a1] w fun e w' => e = .returned (.int .i64 r) ∧ Drawn0 w w' := by
 have HR0 := Aside0.mk hr0
 have HC0 := Aside0.mk hc0
 clear hr0 hc0
 have H : (laws_heldBoundS.l0 k l0 a1 0) = some r := h
 clear h
 have H' := Aside0.mk H
 clear H
 go_enter Tryd.func38, Tryd.ntmps38
 go_wp2
 go_loopg [1, 5] k (fun kq v1 v5 w' => ∃ (x1_1 : Int) (x5_1 : Int), v1 = .int .i64 x1_1 ∧ v5 = .int .i64 x5_1 ∧ Aside0 (laws_heldBoundS.l0 kq l0 x1_1 x5_1 = some r) ∧ Aside0 (kq ≤ k) ∧ Drawn0 w w')
 case atStart => exact ⟨(a1), (0), (by first | rfl | (simp; done) | (simp [*]; done)), (by first | rfl | (simp; done) | (simp [*]; done)), H', ⟨Nat.le_refl _⟩, by repeat (first | exact Drawn0.refl _ | apply Drawn0.step)⟩
 case round =>
  clear H'
  try clear p2
  obtain ⟨x1_1, x5_1, rfl, rfl, HA, HK1, ⟨m1, rfl⟩⟩ := hrel
  cases gk with
  | zero => exact absurd HA.out (by simp [laws_heldBoundS.l0])
  | succ k1 =>
   have H := HA.out
   clear HA
   simp only [laws_heldBoundS.l0] at H
   by_cases c3 : x5_1 < (l0.length : Int)
   ·rw [if_pos c3] at H
    have c3b0 : decide (x5_1 < (l0.length : Int)) = true := decide_eq_true c3
    clear c3
    by_cases c4 : 0 ≤ x5_1
    ·rw [if_pos c4] at H
     have c4b0 : decide (0 ≤ x5_1) = true := decide_eq_true c4
     clear c4
     by_cases c5 : ((rd_T39 l0 x5_1).f0) = x1_1
     ·rw [if_pos c5] at H
      have c5b0 : (((rd_T39 l0 x5_1).f0) == x1_1) = true := beq_iff_eq.mpr c5
      have c5b1 : (((rd_T39 l0 x5_1).f0) != x1_1) = false := bne_eq_false_iff_eq.mpr c5
      clear c5
      by_cases c6 : ((rd_T39 l0 x5_1).f1) = (wrap64 (x1_1 + 1))
      ·rw [if_pos c6] at H
       have c6b0 : (((rd_T39 l0 x5_1).f1) == (wrap64 (x1_1 + 1))) = true := beq_iff_eq.mpr c6
       have c6b1 : (((rd_T39 l0 x5_1).f1) != (wrap64 (x1_1 + 1))) = false := bne_eq_false_iff_eq.mpr c6
       clear c6
       by_cases c7 : ((rd_T39 l0 x5_1).f2) = (wrap64 ((wrap64 (x1_1 + 1)) + 1))
       ·rw [if_pos c7] at H
        have c7b0 : (((rd_T39 l0 x5_1).f2) == (wrap64 ((wrap64 (x1_1 + 1)) + 1))) = true := beq_iff_eq.mpr c7
        have c7b1 : (((rd_T39 l0 x5_1).f2) != (wrap64 ((wrap64 (x1_1 + 1)) + 1))) = false := bne_eq_false_iff_eq.mpr c7
        clear c7
        have H' := Aside0.mk H
        clear H
        have p422 : 0 ≤ (x5_1 : Int) := of_decide_eq_true (by with_reducible assumption)
        have q422 : x5_1 < (l0.length : Int) := of_decide_eq_true (by with_reducible assumption)
        obtain ⟨ad422, e422, hx422_0, hx422_1, hx422_2⟩ := at_T39 HR0.out x5_1 p422 q422
        cases e422
        replace p422 := eq_true p422
        replace q422 := eq_true q422
        have p423 : 0 ≤ (x5_1 : Int) := of_decide_eq_true (by with_reducible assumption)
        have q423 : x5_1 < (l0.length : Int) := of_decide_eq_true (by with_reducible assumption)
        obtain ⟨ad423, e423, hx423_0, hx423_1, hx423_2⟩ := at_T39 HR0.out x5_1 p423 q423
        obtain rfl : ad422 = ad423 := (by injection e423)
        replace p423 := eq_true p423
        replace q423 := eq_true q423
        have p424 : 0 ≤ (x5_1 : Int) := of_decide_eq_true (by with_reducible assumption)
        have q424 : x5_1 < (l0.length : Int) := of_decide_eq_true (by with_reducible assumption)
        obtain ⟨ad424, e424, hx424_0, hx424_1, hx424_2⟩ := at_T39 HR0.out x5_1 p424 q424
        obtain rfl : ad422 = ad424 := (by injection e424)
        replace p424 := eq_true p424
        replace q424 := eq_true q424
        go_wp2
        go_roundg k1
        case measure => have := HK1.out; omega
        case rel => exact ⟨(wrap64 ((wrap64 ((wrap64 (x1_1 + 1)) + 1)) + 1)), (wrap64 (x5_1 + 1)), (by first | rfl | (simp; done) | (simp [*]; done)), (by first | rfl | (simp; done) | (simp [*]; done)), H', ⟨by have := HK1.out; omega⟩, by repeat (first | exact Drawn0.refl _ | apply Drawn0.step)⟩
       ·rw [if_neg c7] at H
        have c7b0 : (((rd_T39 l0 x5_1).f2) == (wrap64 ((wrap64 (x1_1 + 1)) + 1))) = false := beq_eq_false_iff_ne.mpr c7
        have c7b1 : (((rd_T39 l0 x5_1).f2) != (wrap64 ((wrap64 (x1_1 + 1)) + 1))) = true := bne_iff_ne.mpr c7
        obtain rfl := Option.some.inj H
        have p422 : 0 ≤ (x5_1 : Int) := of_decide_eq_true (by with_reducible assumption)
        have q422 : x5_1 < (l0.length : Int) := of_decide_eq_true (by with_reducible assumption)
        obtain ⟨ad422, e422, hx422_0, hx422_1, hx422_2⟩ := at_T39 HR0.out x5_1 p422 q422
        cases e422
        replace p422 := eq_true p422
        replace q422 := eq_true q422
        have p423 : 0 ≤ (x5_1 : Int) := of_decide_eq_true (by with_reducible assumption)
        have q423 : x5_1 < (l0.length : Int) := of_decide_eq_true (by with_reducible assumption)
        obtain ⟨ad423, e423, hx423_0, hx423_1, hx423_2⟩ := at_T39 HR0.out x5_1 p423 q423
        obtain rfl : ad422 = ad423 := (by injection e423)
        replace p423 := eq_true p423
        replace q423 := eq_true q423
        have p424 : 0 ≤ (x5_1 : Int) := of_decide_eq_true (by with_reducible assumption)
        have q424 : x5_1 < (l0.length : Int) := of_decide_eq_true (by with_reducible assumption)
        obtain ⟨ad424, e424, hx424_0, hx424_1, hx424_2⟩ := at_T39 HR0.out x5_1 p424 q424
        obtain rfl : ad422 = ad424 := (by injection e424)
        replace p424 := eq_true p424
        replace q424 := eq_true q424
        go_wp2
        go_ret
        exact ⟨by first | rfl | (simp; done) | (simp [*]; done), by repeat (first | exact Drawn0.refl _ | apply Drawn0.step)⟩
      ·rw [if_neg c6] at H
       have c6b0 : (((rd_T39 l0 x5_1).f1) == (wrap64 (x1_1 + 1))) = false := beq_eq_false_iff_ne.mpr c6
       have c6b1 : (((rd_T39 l0 x5_1).f1) != (wrap64 (x1_1 + 1))) = true := bne_iff_ne.mpr c6
       obtain rfl := Option.some.inj H
       have p422 : 0 ≤ (x5_1 : Int) := of_decide_eq_true (by with_reducible assumption)
       have q422 : x5_1 < (l0.length : Int) := of_decide_eq_true (by with_reducible assumption)
       obtain ⟨ad422, e422, hx422_0, hx422_1, hx422_2⟩ := at_T39 HR0.out x5_1 p422 q422
       cases e422
       replace p422 := eq_true p422
       replace q422 := eq_true q422
       have p423 : 0 ≤ (x5_1 : Int) := of_decide_eq_true (by with_reducible assumption)
       have q423 : x5_1 < (l0.length : Int) := of_decide_eq_true (by with_reducible assumption)
       obtain ⟨ad423, e423, hx423_0, hx423_1, hx423_2⟩ := at_T39 HR0.out x5_1 p423 q423
       obtain rfl : ad422 = ad423 := (by injection e423)
       replace p423 := eq_true p423
       replace q423 := eq_true q423
       go_wp2
       go_ret
       exact ⟨by first | rfl | (simp; done) | (simp [*]; done), by repeat (first | exact Drawn0.refl _ | apply Drawn0.step)⟩
     ·rw [if_neg c5] at H
      have c5b0 : (((rd_T39 l0 x5_1).f0) == x1_1) = false := beq_eq_false_iff_ne.mpr c5
      have c5b1 : (((rd_T39 l0 x5_1).f0) != x1_1) = true := bne_iff_ne.mpr c5
      obtain rfl := Option.some.inj H
      have p422 : 0 ≤ (x5_1 : Int) := of_decide_eq_true (by with_reducible assumption)
      have q422 : x5_1 < (l0.length : Int) := of_decide_eq_true (by with_reducible assumption)
      obtain ⟨ad422, e422, hx422_0, hx422_1, hx422_2⟩ := at_T39 HR0.out x5_1 p422 q422
      cases e422
      replace p422 := eq_true p422
      replace q422 := eq_true q422
      go_wp2
      go_ret
      exact ⟨by first | rfl | (simp; done) | (simp [*]; done), by repeat (first | exact Drawn0.refl _ | apply Drawn0.step)⟩
    ·rw [if_neg c4] at H
     exact absurd H (by simp)
   ·rw [if_neg c3] at H
    have c3b0 : decide (x5_1 < (l0.length : Int)) = false := decide_eq_false c3
    clear c3
    obtain rfl := Option.some.inj H
    go_wp2
    go_ret
    exact ⟨by first | rfl | (simp; done) | (simp [*]; done), by repeat (first | exact Drawn0.refl _ | apply Drawn0.step)⟩

end Go.Proofs.YtbgokpobaemibaaDoor.Pa
