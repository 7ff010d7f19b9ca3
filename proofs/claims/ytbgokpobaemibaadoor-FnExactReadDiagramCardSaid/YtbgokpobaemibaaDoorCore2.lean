-- Written for this claim by a program of this session.
import Derived.Test.YtbgokpobaemibaaDoorPax0
import Derived.Test.YtbgokpobaemibaaDoorCore1
import Derived.Shelf.Abstract
namespace Go.Proofs.YtbgokpobaemibaaDoor.Pa
open Go.RowKit Go.Proofs.YtbgokpobaemibaaDoorW.PrintWords Go.Proofs.YtbgokpobaemibaaDoorW.PrintLast Go.Proofs.YtbgokpobaemibaaDoorW.PrintMore
attribute [local go_sem] max2_int min2_int max_two min_two max_three min_three max_four min_four   -- for this text's walks alone
set_option linter.unusedVariables false
set_option linter.unusedSimpArgs false

/-! ### spec_l01Great: function 60 -/
mutual
def spec_l01Great.j0 : Nat → ByteArray → ByteArray → Bool → Option (Int × Bool)
 | 0, _, _, _ => none
 | k + 1, x0, x4, x15 => if x15 = true then (if 1 ≤ (x4.size : Int) then (spec_l01Great.j1 k x0 (x4.extract 1 x4.size)) else (none)) else (spec_l01Great.j1 k x0 x4)
def spec_l01Great.j1 : Nat → ByteArray → ByteArray → Option (Int × Bool)
 | 0, _, _ => none
 | k + 1, x0, x4 => if (x4.size : Int) < 1 then (spec_l01Great.j2 k x0 x4 true) else (spec_l01Great.j2 k x0 x4 (decide ((x4.size : Int) > 19)))
def spec_l01Great.j2 : Nat → ByteArray → ByteArray → Bool → Option (Int × Bool)
 | 0, _, _, _ => none
 | k + 1, x0, x4, x25 => if x25 = true then (some (0, false)) else (spec_l01Great.l0 k x0 x4 0 0)
def spec_l01Great.l0 : Nat → ByteArray → ByteArray → Int → Int → Option (Int × Bool)
 | 0, _, _, _, _ => none
 | k + 1, x0, x4, x5, x6 => if x6 < (x4.size : Int) then (if 0 ≤ x6 then (if (bt x4 x6) < 48 then (some (0, false)) else (if (bt x4 x6) > 57 then (some (0, false)) else (if x5 > 100000000000000000 then (some (0, false)) else (spec_l01Great.l0 k x0 x4 (wrap64 ((wrap64 (10 * x5)) + (((bt x4 x6) - 48) % 256))) (wrap64 (x6 + 1)))))) else (none)) else (if (x4.size : Int) < (x0.size : Int) then ((spec_l00In.f (wrap64 (-x5)) (-1000000000000000000) 1000000000000000000).bind fun t389 => (if t389 = true then ((spec_l01Dec.f k (wrap64 (-x5))).bind fun t390 => (some (wrap64 (-x5), (t390.toList == x0.toList)))) else (some (wrap64 (-x5), false)))) else ((spec_l00In.f x5 (-1000000000000000000) 1000000000000000000).bind fun t391 => (if t391 = true then ((spec_l01Dec.f k x5).bind fun t392 => (some (x5, (t392.toList == x0.toList)))) else (some (x5, false)))))
end
def spec_l01Great.f (k : Nat) (a0 : ByteArray) : Option (Int × Bool) := if (a0.size : Int) > 0 then (if 0 < (a0.size : Int) then (spec_l01Great.j0 k a0 a0 ((bt a0 0) == 45)) else (none)) else (spec_l01Great.j0 k a0 a0 false)
theorem spec_l01Great.mono_l : ∀ k, (∀ y0 y1 y2, LeO (spec_l01Great.j0 k y0 y1 y2) (spec_l01Great.j0 (k + 1) y0 y1 y2)) ∧ (∀ y0 y1, LeO (spec_l01Great.j1 k y0 y1) (spec_l01Great.j1 (k + 1) y0 y1)) ∧ (∀ y0 y1 y2, LeO (spec_l01Great.j2 k y0 y1 y2) (spec_l01Great.j2 (k + 1) y0 y1 y2)) ∧ (∀ y0 y1 y2 y3, LeO (spec_l01Great.l0 k y0 y1 y2 y3) (spec_l01Great.l0 (k + 1) y0 y1 y2 y3))
 | 0 => ⟨fun _ _ _ r h => by simp [spec_l01Great.j0] at h, fun _ _ r h => by simp [spec_l01Great.j1] at h, fun _ _ _ r h => by simp [spec_l01Great.j2] at h, fun _ _ _ _ r h => by simp [spec_l01Great.l0] at h⟩
 | k + 1 => by
  obtain ⟨ih0, ih1, ih2, ih3⟩ := spec_l01Great.mono_l k
  refine ⟨?_, ?_, ?_, ?_⟩
  ·intro y0 y1 y2
   unfold spec_l01Great.j0
   repeat' first
   | (with_reducible exact ih0 _ _ _)
   | (with_reducible exact ih1 _ _)
   | (with_reducible exact ih2 _ _ _)
   | (with_reducible exact ih3 _ _ _ _)
   | (with_reducible exact spec_l01Dec.mono _ _)
   | (with_reducible exact LeO.refl _)
   | (with_reducible exact LeO.none _)
   | (with_reducible refine LeO.ite ?_ ?_)
   | (with_reducible refine LeO.bind ?_ (fun _ => ?_))
   | exact ih0 _ _ _
   | exact ih1 _ _
   | exact ih2 _ _ _
   | exact ih3 _ _ _ _
   | exact spec_l01Dec.mono _ _
   | exact LeO.none _
   | refine LeO.ite ?_ ?_
   | refine LeO.bind ?_ (fun _ => ?_)
  ·intro y0 y1
   unfold spec_l01Great.j1
   repeat' first
   | (with_reducible exact ih0 _ _ _)
   | (with_reducible exact ih1 _ _)
   | (with_reducible exact ih2 _ _ _)
   | (with_reducible exact ih3 _ _ _ _)
   | (with_reducible exact spec_l01Dec.mono _ _)
   | (with_reducible exact LeO.refl _)
   | (with_reducible exact LeO.none _)
   | (with_reducible refine LeO.ite ?_ ?_)
   | (with_reducible refine LeO.bind ?_ (fun _ => ?_))
   | exact ih0 _ _ _
   | exact ih1 _ _
   | exact ih2 _ _ _
   | exact ih3 _ _ _ _
   | exact spec_l01Dec.mono _ _
   | exact LeO.none _
   | refine LeO.ite ?_ ?_
   | refine LeO.bind ?_ (fun _ => ?_)
  ·intro y0 y1 y2
   unfold spec_l01Great.j2
   repeat' first
   | (with_reducible exact ih0 _ _ _)
   | (with_reducible exact ih1 _ _)
   | (with_reducible exact ih2 _ _ _)
   | (with_reducible exact ih3 _ _ _ _)
   | (with_reducible exact spec_l01Dec.mono _ _)
   | (with_reducible exact LeO.refl _)
   | (with_reducible exact LeO.none _)
   | (with_reducible refine LeO.ite ?_ ?_)
   | (with_reducible refine LeO.bind ?_ (fun _ => ?_))
   | exact ih0 _ _ _
   | exact ih1 _ _
   | exact ih2 _ _ _
   | exact ih3 _ _ _ _
   | exact spec_l01Dec.mono _ _
   | exact LeO.none _
   | refine LeO.ite ?_ ?_
   | refine LeO.bind ?_ (fun _ => ?_)
  ·intro y0 y1 y2 y3
   unfold spec_l01Great.l0
   repeat' first
   | (with_reducible exact ih0 _ _ _)
   | (with_reducible exact ih1 _ _)
   | (with_reducible exact ih2 _ _ _)
   | (with_reducible exact ih3 _ _ _ _)
   | (with_reducible exact spec_l01Dec.mono _ _)
   | (with_reducible exact LeO.refl _)
   | (with_reducible exact LeO.none _)
   | (with_reducible refine LeO.ite ?_ ?_)
   | (with_reducible refine LeO.bind ?_ (fun _ => ?_))
   | exact ih0 _ _ _
   | exact ih1 _ _
   | exact ih2 _ _ _
   | exact ih3 _ _ _ _
   | exact spec_l01Dec.mono _ _
   | exact LeO.none _
   | refine LeO.ite ?_ ?_
   | refine LeO.bind ?_ (fun _ => ?_)
theorem spec_l01Great.mono : ∀ a0 k, LeO (spec_l01Great.f k a0) (spec_l01Great.f (k + 1) a0) := by
 intro a0 k
 obtain ⟨ih0, ih1, ih2, ih3⟩ := spec_l01Great.mono_l k
 unfold spec_l01Great.f
 repeat' first
   | (with_reducible exact ih0 _ _ _)
   | (with_reducible exact ih1 _ _)
   | (with_reducible exact ih2 _ _ _)
   | (with_reducible exact ih3 _ _ _ _)
   | (with_reducible exact spec_l01Dec.mono _ _)
   | (with_reducible exact LeO.refl _)
   | (with_reducible exact LeO.none _)
   | (with_reducible refine LeO.ite ?_ ?_)
   | (with_reducible refine LeO.bind ?_ (fun _ => ?_))
   | exact ih0 _ _ _
   | exact ih1 _ _
   | exact ih2 _ _ _
   | exact ih3 _ _ _ _
   | exact spec_l01Dec.mono _ _
   | exact LeO.none _
   | refine LeO.ite ?_ ?_
   | refine LeO.bind ?_ (fun _ => ?_)
set_option maxHeartbeats 8000000 in
set_option maxRecDepth 100000 in
theorem spec_l01Great.calls (k : Nat) (a0 : ByteArray) (r1 : Int) (r2 : Bool) (w : World) (h : spec_l01Great.f k a0 = some (r1, r2)) :
  Calls Tryd.prog 60 #[.string a0] w fun e w' => e = .returned (.tuple #[.int .i64 r1, .bool r2]) ∧ Below w.heap.size w w' := by
 have HB := Aside0.mk (Below.refl w.heap.size w)
 have H : (if (a0.size : Int) > 0 then (if 0 < (a0.size : Int) then (spec_l01Great.j0 k a0 a0 ((bt a0 0) == 45)) else (none)) else (spec_l01Great.j0 k a0 a0 false)) = some (r1, r2) := h
 clear h
 have HC2 := Aside0.mk H
 clear H
 go_enter Tryd.func60, Tryd.ntmps60
 go_upto_region 2 with (fail)
 go_cut [15] (fun v15 wc => ∃ (kq : Nat) (x15_1 : Bool), v15 = .bool x15_1 ∧ Aside0 (spec_l01Great.j0 kq a0 a0 x15_1 = some (r1, r2)) ∧ Aside0 (kq ≤ k) ∧ Aside0 (Below w.heap.size w wc))
 case first =>
  have H := HC2.out
  clear HC2
  by_cases c3 : (a0.size : Int) > 0
  ·rw [if_pos c3] at H
   have c3b0 : decide (0 < (a0.size : Int)) = true := decide_eq_true c3
   have c3b1 : decide (0 < a0.size) = true := decide_eq_true (by omega)
   clear c3
   (first | rw [c3b0] | (simp only [i64_w, i32_w]; rw [c3b0]) | skip)
   by_cases c4 : 0 < (a0.size : Int)
   ·rw [if_pos c4] at H
    have c4b0 : decide (0 < (a0.size : Int)) = true := decide_eq_true c4
    have c4b1 : decide (0 < a0.size) = true := decide_eq_true (by omega)
    clear c4
    have H' := Aside0.mk H
    clear H
    have p5 : 0 ≤ (0 : Int) := (by omega)
    have q5 : 0 < a0.size := (by have : (0 : Int) < (a0.size : Int) := of_decide_eq_true (by with_reducible assumption); omega)
    have hx5 : ∀ h : 0 < a0.size, ((a0[0]'h).toNat : Int) = bt a0 0 := bt_at a0 0
    clear p5
    have qi5 : (0 < (a0.size : Int)) = True := eq_true (of_decide_eq_true (by with_reducible assumption))
    replace q5 := eq_true q5
    go_wp2
    go_meet
    case rel => exact ⟨_, (((bt a0 0) == 45)), (by first | rfl | (simp; done) | (simp [*]; done)), H', ⟨by first | omega | exact Nat.le_refl _⟩, ⟨by repeat (first | (with_reducible first | exact HB.out | apply below_alloc | apply pw_below_drewN | apply below_drew1) | exact HB.out)⟩⟩
   ·rw [if_neg c4] at H
    exact absurd H (by simp)
  ·rw [if_neg c3] at H
   have c3b0 : decide (0 < (a0.size : Int)) = false := decide_eq_false c3
   have c3b1 : decide (0 < a0.size) = false := decide_eq_false (by omega)
   clear c3
   (first | rw [c3b0] | (simp only [i64_w, i32_w]; rw [c3b0]) | skip)
   have H' := Aside0.mk H
   clear H
   go_wp2
   go_meet
   case rel => exact ⟨_, (false), (by first | rfl | (simp; done) | (simp [*]; done)), H', ⟨by first | omega | exact Nat.le_refl _⟩, ⟨by repeat (first | (with_reducible first | exact HB.out | apply below_alloc | apply pw_below_drewN | apply below_drew1) | exact HB.out)⟩⟩
 case rest =>
  clear HC2
  try clear p2
  try clear c3
  try clear c3b0
  try clear c3b1
  try clear c4
  try clear c4b0
  try clear c4b1
  try clear p5
  try clear q5
  try clear hx5
  try clear qi5
  try clear p5
  try clear q5
  obtain ⟨kq, x15_1, rfl, HA, HJ1, HB⟩ := hcut
  cases kq with
  | zero => exact absurd HA.out (by simp [spec_l01Great.j0])
  | succ kj1 =>
   have H := HA.out
   clear HA
   simp only [spec_l01Great.j0] at H
   have HC6 := Aside0.mk H
   clear H
   go_upto_if 15 with (fail)
   go_cut [4] (fun v4 wc => ∃ (kq : Nat) (x4_5 : ByteArray), v4 = .string x4_5 ∧ Aside0 (spec_l01Great.j1 kq a0 x4_5 = some (r1, r2)) ∧ Aside0 (kq ≤ kj1) ∧ Aside0 (Below w.heap.size w wc))
   case first =>
    have H := HC6.out
    clear HC6
    by_cases c7 : x15_1 = true
    ·subst c7
     have H1 : (if 1 ≤ (a0.size : Int) then (spec_l01Great.j1 kj1 a0 (a0.extract 1 a0.size)) else (none)) = some (r1, r2) := by rw [if_pos rfl] at H; exact H
     clear H
     have H := H1
     clear H1
     by_cases c8 : 1 ≤ (a0.size : Int)
     ·rw [if_pos c8] at H
      have c8b0 := eq_true c8
      have c8b1 : decide (1 ≤ (a0.size : Int)) = true := decide_eq_true c8
      clear c8
      have H' := Aside0.mk H
      clear H
      go_wp2
      go_meet
      case rel => exact ⟨_, (a0.extract 1 a0.size), (by first | rfl | (simp; done) | (simp [*]; done)), H', ⟨by have := HJ1.out; first | omega | exact Nat.le_refl _⟩, ⟨by repeat (first | (with_reducible first | exact HB.out | apply below_alloc | apply pw_below_drewN | apply below_drew1) | exact HB.out)⟩⟩
     ·rw [if_neg c8] at H
      exact absurd H (by simp)
    ·replace c7 := Bool.eq_false_iff.mpr c7
     subst c7
     have H1 : (spec_l01Great.j1 kj1 a0 a0) = some (r1, r2) := by rw [if_neg (show ¬ (false = true) by decide)] at H; exact H
     clear H
     have H := H1
     clear H1
     have H' := Aside0.mk H
     clear H
     go_wp2
     go_meet
     case rel => exact ⟨_, (a0), (by first | rfl | (simp; done) | (simp [*]; done)), H', ⟨by have := HJ1.out; first | omega | exact Nat.le_refl _⟩, ⟨by repeat (first | (with_reducible first | exact HB.out | apply below_alloc | apply pw_below_drewN | apply below_drew1) | exact HB.out)⟩⟩
   case rest =>
    clear HC6
    try clear p2
    try clear c3
    try clear c3b0
    try clear c3b1
    try clear c4
    try clear c4b0
    try clear c4b1
    try clear p5
    try clear q5
    try clear hx5
    try clear qi5
    try clear c6
    try clear c7
    try clear c8
    try clear c8b0
    try clear c8b1
    try clear p2
    try clear p5
    try clear q5
    obtain ⟨kq, x4_5, rfl, HA, HJ5, HB⟩ := hcut
    cases kq with
    | zero => exact absurd HA.out (by simp [spec_l01Great.j1])
    | succ kj5 =>
     have H := HA.out
     clear HA
     simp only [spec_l01Great.j1] at H
     have HC9 := Aside0.mk H
     clear H
     go_upto_region 4 with (fail)
     go_cut [25] (fun v25 wc => ∃ (kq : Nat) (x25_8 : Bool), v25 = .bool x25_8 ∧ Aside0 (spec_l01Great.j2 kq a0 x4_5 x25_8 = some (r1, r2)) ∧ Aside0 (kq ≤ kj5) ∧ Aside0 (Below w.heap.size w wc))
     case first =>
      have H := HC9.out
      clear HC9
      by_cases c10 : (x4_5.size : Int) < 1
      ·rw [if_pos c10] at H
       have c10b0 : decide ((x4_5.size : Int) < 1) = true := decide_eq_true c10
       have c10b1 : decide (x4_5.size < 1) = true := decide_eq_true (by omega)
       clear c10
       (first | rw [c10b0] | (simp only [i64_w, i32_w]; rw [c10b0]) | skip)
       have H' := Aside0.mk H
       clear H
       go_wp2
       go_meet
       case rel => exact ⟨_, (true), (by first | rfl | (simp; done) | (simp [*]; done)), H', ⟨by have := HJ1.out; have := HJ5.out; first | omega | exact Nat.le_refl _⟩, ⟨by repeat (first | (with_reducible first | exact HB.out | apply below_alloc | apply pw_below_drewN | apply below_drew1) | exact HB.out)⟩⟩
      ·rw [if_neg c10] at H
       have c10b0 : decide ((x4_5.size : Int) < 1) = false := decide_eq_false c10
       have c10b1 : decide (x4_5.size < 1) = false := decide_eq_false (by omega)
       clear c10
       (first | rw [c10b0] | (simp only [i64_w, i32_w]; rw [c10b0]) | skip)
       have H' := Aside0.mk H
       clear H
       go_wp2
       go_meet
       case rel => exact ⟨_, (decide ((x4_5.size : Int) > 19)), (by first | rfl | (simp; done) | (simp [*]; done)), H', ⟨by have := HJ1.out; have := HJ5.out; first | omega | exact Nat.le_refl _⟩, ⟨by repeat (first | (with_reducible first | exact HB.out | apply below_alloc | apply pw_below_drewN | apply below_drew1) | exact HB.out)⟩⟩
     case rest =>
      clear HC9
      try clear c1
      try clear p2
      try clear c3
      try clear c3b0
      try clear c3b1
      try clear c4
      try clear c4b0
      try clear c4b1
      try clear p5
      try clear q5
      try clear hx5
      try clear qi5
      try clear c6
      try clear c7
      try clear c8
      try clear c8b0
      try clear c8b1
      try clear c10
      try clear c10b0
      try clear c10b1
      try clear p2
      try clear p5
      try clear q5
      obtain ⟨kq, x25_8, rfl, HA, HJ8, HB⟩ := hcut
      cases kq with
      | zero => exact absurd HA.out (by simp [spec_l01Great.j2])
      | succ kj8 =>
       have H := HA.out
       clear HA
       simp only [spec_l01Great.j2] at H
       by_cases c11 : x25_8 = true
       ·subst c11
        have H1 : (some (0, false)) = some (r1, r2) := by rw [if_pos rfl] at H; exact H
        clear H
        have H := H1
        clear H1
        simp only [Option.some.injEq, Prod.mk.injEq] at H
        obtain ⟨rfl, rfl⟩ := H
        go_wp2
        go_ret2
        exact ⟨by first | rfl | (simp [errW_none, errW_some] <;> rfl) | (simp [*, errW_none, errW_some] <;> rfl), by repeat (first | (with_reducible first | exact HB.out | apply below_alloc | apply pw_below_drewN | apply below_drew1) | exact HB.out)⟩
       ·replace c11 := Bool.eq_false_iff.mpr c11
        subst c11
        have H1 : (spec_l01Great.l0 kj8 a0 x4_5 0 0) = some (r1, r2) := by rw [if_neg (show ¬ (false = true) by decide)] at H; exact H
        clear H
        have H := H1
        clear H1
        have H' := Aside0.mk H
        clear H
        go_wp2
        go_loopg [5, 6] kj8 (fun kq v5 v6 w' => ∃ (x5_4 : Int) (x6_4 : Int), v5 = .int .i64 x5_4 ∧ v6 = .int .i64 x6_4 ∧ Aside0 (spec_l01Great.l0 kq a0 x4_5 x5_4 x6_4 = some (r1, r2)) ∧ Aside0 (kq ≤ kj8) ∧ Aside0 (Below w.heap.size w w'))
        case atStart => exact ⟨(0), (0), (by first | rfl | (simp; done) | (simp [*]; done)), (by first | rfl | (simp; done) | (simp [*]; done)), H', ⟨Nat.le_refl _⟩, ⟨by repeat (first | (with_reducible first | exact HB.out | apply below_alloc | apply pw_below_drewN | apply below_drew1) | exact HB.out)⟩⟩
        case round =>
         clear H'
         try clear c1
         try clear p2
         try clear c3
         try clear c3b0
         try clear c3b1
         try clear c4
         try clear c4b0
         try clear c4b1
         try clear p5
         try clear q5
         try clear hx5
         try clear qi5
         try clear c6
         try clear c7
         try clear c8
         try clear c8b0
         try clear c8b1
         try clear c10
         try clear c10b0
         try clear c10b1
         try clear c11
         try clear p2
         try clear p5
         try clear q5
         obtain ⟨x5_4, x6_4, rfl, rfl, HA, HK4, HB⟩ := hrel
         cases gk with
         | zero => exact absurd HA.out (by simp [spec_l01Great.l0])
         | succ k4 =>
          have H := HA.out
          clear HA
          simp only [spec_l01Great.l0] at H
          by_cases c12 : x6_4 < (x4_5.size : Int)
          ·rw [if_pos c12] at H
           have c12b0 : decide (x6_4 < (x4_5.size : Int)) = true := decide_eq_true c12
           clear c12
           by_cases c13 : 0 ≤ x6_4
           ·rw [if_pos c13] at H
            have c13b0 : decide (0 ≤ x6_4) = true := decide_eq_true c13
            clear c13
            by_cases c15 : (bt x4_5 x6_4) < 48
            ·rw [if_pos c15] at H
             have c15b0 : decide ((bt x4_5 x6_4) < 48) = true := decide_eq_true c15
             clear c15
             simp only [Option.some.injEq, Prod.mk.injEq] at H
             obtain ⟨rfl, rfl⟩ := H
             have p14 : 0 ≤ (x6_4 : Int) := of_decide_eq_true (by with_reducible assumption)
             have q14 : x6_4 < (x4_5.size : Int) := of_decide_eq_true (by with_reducible assumption)
             have hx14 := bt_at x4_5 x6_4
             replace p14 := eq_true p14
             replace q14 := eq_true q14
             go_wp2
             go_ret2
             exact ⟨by first | rfl | (simp [errW_none, errW_some] <;> rfl) | (simp [*, errW_none, errW_some] <;> rfl), by repeat (first | (with_reducible first | exact HB.out | apply below_alloc | apply pw_below_drewN | apply below_drew1) | exact HB.out)⟩
            ·rw [if_neg c15] at H
             have c15b0 : decide ((bt x4_5 x6_4) < 48) = false := decide_eq_false c15
             clear c15
             by_cases c17 : (bt x4_5 x6_4) > 57
             ·rw [if_pos c17] at H
              have c17b0 : decide (57 < (bt x4_5 x6_4)) = true := decide_eq_true c17
              clear c17
              simp only [Option.some.injEq, Prod.mk.injEq] at H
              obtain ⟨rfl, rfl⟩ := H
              have p14 : 0 ≤ (x6_4 : Int) := of_decide_eq_true (by with_reducible assumption)
              have q14 : x6_4 < (x4_5.size : Int) := of_decide_eq_true (by with_reducible assumption)
              have hx14 := bt_at x4_5 x6_4
              replace p14 := eq_true p14
              replace q14 := eq_true q14
              have p16 : 0 ≤ (x6_4 : Int) := of_decide_eq_true (by with_reducible assumption)
              have q16 : x6_4 < (x4_5.size : Int) := of_decide_eq_true (by with_reducible assumption)
              have hx16 := bt_at x4_5 x6_4
              replace p16 := eq_true p16
              replace q16 := eq_true q16
              go_wp2
              go_ret2
              exact ⟨by first | rfl | (simp [errW_none, errW_some] <;> rfl) | (simp [*, errW_none, errW_some] <;> rfl), by repeat (first | (with_reducible first | exact HB.out | apply below_alloc | apply pw_below_drewN | apply below_drew1) | exact HB.out)⟩
             ·rw [if_neg c17] at H
              have c17b0 : decide (57 < (bt x4_5 x6_4)) = false := decide_eq_false c17
              clear c17
              by_cases c18 : x5_4 > 100000000000000000
              ·rw [if_pos c18] at H
               have c18b0 : decide (100000000000000000 < x5_4) = true := decide_eq_true c18
               clear c18
               simp only [Option.some.injEq, Prod.mk.injEq] at H
               obtain ⟨rfl, rfl⟩ := H
               have p14 : 0 ≤ (x6_4 : Int) := of_decide_eq_true (by with_reducible assumption)
               have q14 : x6_4 < (x4_5.size : Int) := of_decide_eq_true (by with_reducible assumption)
               have hx14 := bt_at x4_5 x6_4
               replace p14 := eq_true p14
               replace q14 := eq_true q14
               have p16 : 0 ≤ (x6_4 : Int) := of_decide_eq_true (by with_reducible assumption)
               have q16 : x6_4 < (x4_5.size : Int) := of_decide_eq_true (by with_reducible assumption)
               have hx16 := bt_at x4_5 x6_4
               replace p16 := eq_true p16
               replace q16 := eq_true q16
               go_wp2
               go_ret2
               exact ⟨by first | rfl | (simp [errW_none, errW_some] <;> rfl) | (simp [*, errW_none, errW_some] <;> rfl), by repeat (first | (with_reducible first | exact HB.out | apply below_alloc | apply pw_below_drewN | apply below_drew1) | exact HB.out)⟩
              ·rw [if_neg c18] at H
               have c18b0 : decide (100000000000000000 < x5_4) = false := decide_eq_false c18
               clear c18
               have H' := Aside0.mk H
               clear H
               have p14 : 0 ≤ (x6_4 : Int) := of_decide_eq_true (by with_reducible assumption)
               have q14 : x6_4 < (x4_5.size : Int) := of_decide_eq_true (by with_reducible assumption)
               have hx14 := bt_at x4_5 x6_4
               replace p14 := eq_true p14
               replace q14 := eq_true q14
               have p16 : 0 ≤ (x6_4 : Int) := of_decide_eq_true (by with_reducible assumption)
               have q16 : x6_4 < (x4_5.size : Int) := of_decide_eq_true (by with_reducible assumption)
               have hx16 := bt_at x4_5 x6_4
               replace p16 := eq_true p16
               replace q16 := eq_true q16
               have p19 : 0 ≤ (x6_4 : Int) := of_decide_eq_true (by with_reducible assumption)
               have q19 : x6_4 < (x4_5.size : Int) := of_decide_eq_true (by with_reducible assumption)
               have hx19 := bt_at x4_5 x6_4
               replace p19 := eq_true p19
               replace q19 := eq_true q19
               go_wp2
               go_roundg k4
               case measure => have := HJ1.out; have := HJ5.out; have := HJ8.out; have := HK4.out; omega
               case rel => exact ⟨(wrap64 ((wrap64 (10 * x5_4)) + (((bt x4_5 x6_4) - 48) % 256))), (wrap64 (x6_4 + 1)), (by first | rfl | (simp; done) | (simp [*]; done)), (by first | rfl | (simp; done) | (simp [*]; done)), H', ⟨by have := HJ1.out; have := HJ5.out; have := HJ8.out; have := HK4.out; omega⟩, ⟨by repeat (first | (with_reducible first | exact HB.out | apply below_alloc | apply pw_below_drewN | apply below_drew1) | exact HB.out)⟩⟩
           ·rw [if_neg c13] at H
            exact absurd H (by simp)
          ·rw [if_neg c12] at H
           have c12b0 : decide (x6_4 < (x4_5.size : Int)) = false := decide_eq_false c12
           clear c12
           by_cases c20 : (x4_5.size : Int) < (a0.size : Int)
           ·rw [if_pos c20] at H
            have c20b0 : decide ((x4_5.size : Int) < (a0.size : Int)) = true := decide_eq_true c20
            have c20b1 : decide (x4_5.size < a0.size) = true := decide_eq_true (Int.ofNat_lt.mp c20)
            clear c20
            replace H := Option.bind_eq_some_iff.mp H
            obtain ⟨t389, A210, H⟩ := H
            replace H : (if t389 = true then ((spec_l01Dec.f k4 (wrap64 (-x5_4))).bind fun t390 => (some (wrap64 (-x5_4), (t390.toList == a0.toList)))) else (some (wrap64 (-x5_4), false))) = some (r1, r2) := H
            have A21 := Aside0.mk A210
            clear A210
            by_cases c22 : t389 = true
            ·subst c22
             have H1 : ((spec_l01Dec.f k4 (wrap64 (-x5_4))).bind fun t390 => (some (wrap64 (-x5_4), (t390.toList == a0.toList)))) = some (r1, r2) := by rw [if_pos rfl] at H; exact H
             clear H
             have H := H1
             clear H1
             replace H := Option.bind_eq_some_iff.mp H
             obtain ⟨t390, A230, H⟩ := H
             replace H : (some (wrap64 (-x5_4), (t390.toList == a0.toList))) = some (r1, r2) := H
             have A23 := Aside0.mk A230
             clear A230
             simp only [Option.some.injEq, Prod.mk.injEq] at H
             obtain ⟨rfl, rfl⟩ := H
             go_wp2_with (first | ((with_reducible refine gate_callee (f := 49) rfl ?_); refine goesL_ (some 63) rfl rfl Tryd.func49 (by kernel_rfl) rfl #[.int .i64 (wrap64 (-x5_4)), .int .i64 (-1000000000000000000), .int .i64 1000000000000000000] rfl (by (try simp only [List.map_toArray, List.map_cons, List.map_nil]); first | done | rfl | (simp only [List.length_drop, List.length_take]; rfl)) ?_; (with_reducible refine (spec_l00In.calls (wrap64 (-x5_4)) (-1000000000000000000) 1000000000000000000 true _ A21.out).mono ?_); rintro e w' ⟨rfl, ⟨nd, rfl⟩⟩; refine ⟨_, rfl, ?_⟩) | (go_at_call 51; (with_reducible refine (spec_l01Dec.calls k4 (wrap64 (-x5_4)) t390 _ A23.out).mono ?_); rintro e w24 ⟨rfl, hb⟩; have n0_ := Aside0.mk (below_step (by repeat (first | (with_reducible first | exact HB.out | apply below_alloc | apply pw_below_drewN | apply below_drew1) | exact HB.out)) hb); clear HB; have HB := n0_; clear n0_; (try clear hb); (try clear hb2); (try clear hk); (try clear hi)))
             go_ret2
             exact ⟨by first | rfl | (simp [errW_none, errW_some] <;> rfl) | (simp [*, errW_none, errW_some] <;> rfl), by repeat (first | (with_reducible first | exact HB.out | apply below_alloc | apply pw_below_drewN | apply below_drew1) | exact HB.out)⟩
            ·replace c22 := Bool.eq_false_iff.mpr c22
             subst c22
             have H1 : (some (wrap64 (-x5_4), false)) = some (r1, r2) := by rw [if_neg (show ¬ (false = true) by decide)] at H; exact H
             clear H
             have H := H1
             clear H1
             simp only [Option.some.injEq, Prod.mk.injEq] at H
             obtain ⟨rfl, rfl⟩ := H
             go_wp2_with (first | ((with_reducible refine gate_callee (f := 49) rfl ?_); refine goesL_ (some 63) rfl rfl Tryd.func49 (by kernel_rfl) rfl #[.int .i64 (wrap64 (-x5_4)), .int .i64 (-1000000000000000000), .int .i64 1000000000000000000] rfl (by (try simp only [List.map_toArray, List.map_cons, List.map_nil]); first | done | rfl | (simp only [List.length_drop, List.length_take]; rfl)) ?_; (with_reducible refine (spec_l00In.calls (wrap64 (-x5_4)) (-1000000000000000000) 1000000000000000000 false _ A21.out).mono ?_); rintro e w' ⟨rfl, ⟨nd, rfl⟩⟩; refine ⟨_, rfl, ?_⟩))
             go_ret2
             exact ⟨by first | rfl | (simp [errW_none, errW_some] <;> rfl) | (simp [*, errW_none, errW_some] <;> rfl), by repeat (first | (with_reducible first | exact HB.out | apply below_alloc | apply pw_below_drewN | apply below_drew1) | exact HB.out)⟩
           ·rw [if_neg c20] at H
            have c20b0 : decide ((x4_5.size : Int) < (a0.size : Int)) = false := decide_eq_false c20
            have c20b1 : decide (x4_5.size < a0.size) = false := decide_eq_false (fun h => c20 (Int.ofNat_lt.mpr h))
            clear c20
            replace H := Option.bind_eq_some_iff.mp H
            obtain ⟨t391, A250, H⟩ := H
            replace H : (if t391 = true then ((spec_l01Dec.f k4 x5_4).bind fun t392 => (some (x5_4, (t392.toList == a0.toList)))) else (some (x5_4, false))) = some (r1, r2) := H
            have A25 := Aside0.mk A250
            clear A250
            by_cases c26 : t391 = true
            ·subst c26
             have H1 : ((spec_l01Dec.f k4 x5_4).bind fun t392 => (some (x5_4, (t392.toList == a0.toList)))) = some (r1, r2) := by rw [if_pos rfl] at H; exact H
             clear H
             have H := H1
             clear H1
             replace H := Option.bind_eq_some_iff.mp H
             obtain ⟨t392, A270, H⟩ := H
             replace H : (some (x5_4, (t392.toList == a0.toList))) = some (r1, r2) := H
             have A27 := Aside0.mk A270
             clear A270
             simp only [Option.some.injEq, Prod.mk.injEq] at H
             obtain ⟨rfl, rfl⟩ := H
             go_wp2_with (first | ((with_reducible refine gate_callee (f := 49) rfl ?_); refine goesL_ (some 63) rfl rfl Tryd.func49 (by kernel_rfl) rfl #[.int .i64 x5_4, .int .i64 (-1000000000000000000), .int .i64 1000000000000000000] rfl (by (try simp only [List.map_toArray, List.map_cons, List.map_nil]); first | done | rfl | (simp only [List.length_drop, List.length_take]; rfl)) ?_; (with_reducible refine (spec_l00In.calls x5_4 (-1000000000000000000) 1000000000000000000 true _ A25.out).mono ?_); rintro e w' ⟨rfl, ⟨nd, rfl⟩⟩; refine ⟨_, rfl, ?_⟩) | (go_at_call 51; (with_reducible refine (spec_l01Dec.calls k4 x5_4 t392 _ A27.out).mono ?_); rintro e w28 ⟨rfl, hb⟩; have n0_ := Aside0.mk (below_step (by repeat (first | (with_reducible first | exact HB.out | apply below_alloc | apply pw_below_drewN | apply below_drew1) | exact HB.out)) hb); clear HB; have HB := n0_; clear n0_; (try clear hb); (try clear hb2); (try clear hk); (try clear hi)))
             go_ret2
             exact ⟨by first | rfl | (simp [errW_none, errW_some] <;> rfl) | (simp [*, errW_none, errW_some] <;> rfl), by repeat (first | (with_reducible first | exact HB.out | apply below_alloc | apply pw_below_drewN | apply below_drew1) | exact HB.out)⟩
            ·replace c26 := Bool.eq_false_iff.mpr c26
             subst c26
             have H1 : (some (x5_4, false)) = some (r1, r2) := by rw [if_neg (show ¬ (false = true) by decide)] at H; exact H
             clear H
             have H := H1
             clear H1
             simp only [Option.some.injEq, Prod.mk.injEq] at H
             obtain ⟨rfl, rfl⟩ := H
             go_wp2_with (first | ((with_reducible refine gate_callee (f := 49) rfl ?_); refine goesL_ (some 63) rfl rfl Tryd.func49 (by kernel_rfl) rfl #[.int .i64 x5_4, .int .i64 (-1000000000000000000), .int .i64 1000000000000000000] rfl (by (try simp only [List.map_toArray, List.map_cons, List.map_nil]); first | done | rfl | (simp only [List.length_drop, List.length_take]; rfl)) ?_; (with_reducible refine (spec_l00In.calls x5_4 (-1000000000000000000) 1000000000000000000 false _ A25.out).mono ?_); rintro e w' ⟨rfl, ⟨nd, rfl⟩⟩; refine ⟨_, rfl, ?_⟩))
             go_ret2
             exact ⟨by first | rfl | (simp [errW_none, errW_some] <;> rfl) | (simp [*, errW_none, errW_some] <;> rfl), by repeat (first | (with_reducible first | exact HB.out | apply below_alloc | apply pw_below_drewN | apply below_drew1) | exact HB.out)⟩

end Go.Proofs.YtbgokpobaemibaaDoor.Pa

namespace Go.Proofs.YtbgokpobaemibaaDoor.Pa
open Go.RowKit Go.Proofs.YtbgokpobaemibaaDoorW.PrintWords Go.Proofs.YtbgokpobaemibaaDoorW.PrintLast Go.Proofs.YtbgokpobaemibaaDoorW.PrintMore
attribute [local go_sem] max2_int min2_int max_two min_two max_three min_three max_four min_four   -- for this text's walks alone
set_option linter.unusedVariables false
set_option linter.unusedSimpArgs false

/-! ### spec_l01Value: function 48 -/
def spec_l01Value.f (k : Nat) (a0 : ByteArray) : Option (Int × Bool) := (spec_l01Great.f k a0).bind fun bt393 => (if bt393.2 = true then ((spec_l00In.f bt393.1 (-1000000000000000) 1000000000000000).bind fun t395 => (if t395 = true then (some (bt393.1, true)) else (some (0, false)))) else (some (0, false)))
theorem spec_l01Value.mono : ∀ a0 k, LeO (spec_l01Value.f k a0) (spec_l01Value.f (k + 1) a0) := by
 intro a0 k
 unfold spec_l01Value.f
 repeat' first
   | (with_reducible exact spec_l01Great.mono _ _)
   | (with_reducible exact LeO.refl _)
   | (with_reducible exact LeO.none _)
   | (with_reducible refine LeO.ite ?_ ?_)
   | (with_reducible refine LeO.bind ?_ (fun _ => ?_))
   | exact spec_l01Great.mono _ _
   | exact LeO.none _
   | refine LeO.ite ?_ ?_
   | refine LeO.bind ?_ (fun _ => ?_)
set_option maxHeartbeats 8000000 in
set_option maxRecDepth 100000 in
theorem spec_l01Value.calls (k : Nat) (a0 : ByteArray) (r1 : Int) (r2 : Bool) (w : World) (h : spec_l01Value.f k a0 = some (r1, r2)) :
  Calls Tryd.prog 48 #[.string a0] w fun e w' => e = .returned (.tuple #[.int .i64 r1, .bool r2]) ∧ Below w.heap.size w w' := by
 have HB := Aside0.mk (Below.refl w.heap.size w)
 have H : ((spec_l01Great.f k a0).bind fun bt393 => (if bt393.2 = true then ((spec_l00In.f bt393.1 (-1000000000000000) 1000000000000000).bind fun t395 => (if t395 = true then (some (bt393.1, true)) else (some (0, false)))) else (some (0, false)))) = some (r1, r2) := h
 clear h
 replace H := Option.bind_eq_some_iff.mp H
 obtain ⟨⟨t393, t394⟩, A20, H⟩ := H
 replace H : (if t394 = true then ((spec_l00In.f t393 (-1000000000000000) 1000000000000000).bind fun t395 => (if t395 = true then (some (t393, true)) else (some (0, false)))) else (some (0, false))) = some (r1, r2) := H
 have A2 := Aside0.mk A20
 clear A20
 by_cases c3 : t394 = true
 ·subst c3
  have H1 : ((spec_l00In.f t393 (-1000000000000000) 1000000000000000).bind fun t395 => (if t395 = true then (some (t393, true)) else (some (0, false)))) = some (r1, r2) := by rw [if_pos rfl] at H; exact H
  clear H
  have H := H1
  clear H1
  replace H := Option.bind_eq_some_iff.mp H
  obtain ⟨t395, A40, H⟩ := H
  replace H : (if t395 = true then (some (t393, true)) else (some (0, false))) = some (r1, r2) := H
  have A4 := Aside0.mk A40
  clear A40
  by_cases c5 : t395 = true
  ·subst c5
   have H1 : (some (t393, true)) = some (r1, r2) := by rw [if_pos rfl] at H; exact H
   clear H
   have H := H1
   clear H1
   simp only [Option.some.injEq, Prod.mk.injEq] at H
   obtain ⟨rfl, rfl⟩ := H
   go_enter Tryd.func48, Tryd.ntmps48
   go_wp2_with (first | ((with_reducible refine gate_callee (f := 60) rfl ?_); refine goesL_ (some 8) rfl rfl Tryd.func60 (by kernel_rfl) rfl #[.string a0] rfl (by (try simp only [List.map_toArray, List.map_cons, List.map_nil]); first | done | rfl | (simp only [List.length_drop, List.length_take]; rfl)) ?_; (with_reducible refine (spec_l01Great.calls k a0 t393 true _ A2.out).mono ?_); rintro e w6 ⟨rfl, hb⟩; refine ⟨_, rfl, ?_⟩; have n0_ := Aside0.mk (below_step (by repeat (first | (with_reducible first | exact HB.out | apply below_alloc | apply pw_below_drewN | apply below_drew1) | exact HB.out)) hb); clear HB; have HB := n0_; clear n0_; (try clear hb); (try clear hb2); (try clear hk); (try clear hi)) | (go_at_call 49; (with_reducible refine (spec_l00In.calls t393 (-1000000000000000) 1000000000000000 true _ A4.out).mono ?_); rintro e w' ⟨rfl, ⟨nd, rfl⟩⟩))
   go_ret2
   exact ⟨by first | rfl | (simp [errW_none, errW_some] <;> rfl) | (simp [*, errW_none, errW_some] <;> rfl), by repeat (first | (with_reducible first | exact HB.out | apply below_alloc | apply pw_below_drewN | apply below_drew1) | exact HB.out)⟩
  ·replace c5 := Bool.eq_false_iff.mpr c5
   subst c5
   have H1 : (some (0, false)) = some (r1, r2) := by rw [if_neg (show ¬ (false = true) by decide)] at H; exact H
   clear H
   have H := H1
   clear H1
   simp only [Option.some.injEq, Prod.mk.injEq] at H
   obtain ⟨rfl, rfl⟩ := H
   go_enter Tryd.func48, Tryd.ntmps48
   go_wp2_with (first | ((with_reducible refine gate_callee (f := 60) rfl ?_); refine goesL_ (some 8) rfl rfl Tryd.func60 (by kernel_rfl) rfl #[.string a0] rfl (by (try simp only [List.map_toArray, List.map_cons, List.map_nil]); first | done | rfl | (simp only [List.length_drop, List.length_take]; rfl)) ?_; (with_reducible refine (spec_l01Great.calls k a0 t393 true _ A2.out).mono ?_); rintro e w7 ⟨rfl, hb⟩; refine ⟨_, rfl, ?_⟩; have n0_ := Aside0.mk (below_step (by repeat (first | (with_reducible first | exact HB.out | apply below_alloc | apply pw_below_drewN | apply below_drew1) | exact HB.out)) hb); clear HB; have HB := n0_; clear n0_; (try clear hb); (try clear hb2); (try clear hk); (try clear hi)) | (go_at_call 49; (with_reducible refine (spec_l00In.calls t393 (-1000000000000000) 1000000000000000 false _ A4.out).mono ?_); rintro e w' ⟨rfl, ⟨nd, rfl⟩⟩))
   go_ret2
   exact ⟨by first | rfl | (simp [errW_none, errW_some] <;> rfl) | (simp [*, errW_none, errW_some] <;> rfl), by repeat (first | (with_reducible first | exact HB.out | apply below_alloc | apply pw_below_drewN | apply below_drew1) | exact HB.out)⟩
 ·replace c3 := Bool.eq_false_iff.mpr c3
  subst c3
  have H1 : (some (0, false)) = some (r1, r2) := by rw [if_neg (show ¬ (false = true) by decide)] at H; exact H
  clear H
  have H := H1
  clear H1
  simp only [Option.some.injEq, Prod.mk.injEq] at H
  obtain ⟨rfl, rfl⟩ := H
  go_enter Tryd.func48, Tryd.ntmps48
  go_wp2_with (first | ((with_reducible refine gate_callee (f := 60) rfl ?_); refine goesL_ (some 8) rfl rfl Tryd.func60 (by kernel_rfl) rfl #[.string a0] rfl (by (try simp only [List.map_toArray, List.map_cons, List.map_nil]); first | done | rfl | (simp only [List.length_drop, List.length_take]; rfl)) ?_; (with_reducible refine (spec_l01Great.calls k a0 t393 false _ A2.out).mono ?_); rintro e w8 ⟨rfl, hb⟩; refine ⟨_, rfl, ?_⟩; have n0_ := Aside0.mk (below_step (by repeat (first | (with_reducible first | exact HB.out | apply below_alloc | apply pw_below_drewN | apply below_drew1) | exact HB.out)) hb); clear HB; have HB := n0_; clear n0_; (try clear hb); (try clear hb2); (try clear hk); (try clear hi)))
  go_ret2
  exact ⟨by first | rfl | (simp [errW_none, errW_some] <;> rfl) | (simp [*, errW_none, errW_some] <;> rfl), by repeat (first | (with_reducible first | exact HB.out | apply below_alloc | apply pw_below_drewN | apply below_drew1) | exact HB.out)⟩

end Go.Proofs.YtbgokpobaemibaaDoor.Pa

namespace Go.Proofs.YtbgokpobaemibaaDoor.Pa
open Go.RowKit Go.Proofs.YtbgokpobaemibaaDoorW.PrintWords Go.Proofs.YtbgokpobaemibaaDoorW.PrintLast Go.Proofs.YtbgokpobaemibaaDoorW.PrintMore
attribute [local go_sem] max2_int min2_int max_two min_two max_three min_three max_four min_four   -- for this text's walks alone
set_option linter.unusedVariables false
set_option linter.unusedSimpArgs false

/-! ### spec_l04Number: function 33 -/
def spec_l04Number.f (k : Nat) (a0 : ByteArray) : Option (Int) := (spec_l01Value.f k a0).bind fun bt396 => (if bt396.2 = true then (some bt396.1) else (some (-1000000)))
theorem spec_l04Number.mono : ∀ a0 k, LeO (spec_l04Number.f k a0) (spec_l04Number.f (k + 1) a0) := by
 intro a0 k
 unfold spec_l04Number.f
 repeat' first
   | (with_reducible exact spec_l01Value.mono _ _)
   | (with_reducible exact LeO.refl _)
   | (with_reducible exact LeO.none _)
   | (with_reducible refine LeO.ite ?_ ?_)
   | (with_reducible refine LeO.bind ?_ (fun _ => ?_))
   | exact spec_l01Value.mono _ _
   | exact LeO.none _
   | refine LeO.ite ?_ ?_
   | refine LeO.bind ?_ (fun _ => ?_)
set_option maxHeartbeats 8000000 in
set_option maxRecDepth 100000 in
theorem spec_l04Number.calls (k : Nat) (a0 : ByteArray) (r : Int) (w : World) (h : spec_l04Number.f k a0 = some r) :
  Calls Tryd.prog 33 #[.string a0] w fun e w' => e = .returned (.int .i64 r) ∧ Below w.heap.size w w' := by
 have HB := Aside0.mk (Below.refl w.heap.size w)
 have H : ((spec_l01Value.f k a0).bind fun bt396 => (if bt396.2 = true then (some bt396.1) else (some (-1000000)))) = some r := h
 clear h
 replace H := Option.bind_eq_some_iff.mp H
 obtain ⟨⟨t396, t397⟩, A20, H⟩ := H
 replace H : (if t397 = true then (some t396) else (some (-1000000))) = some r := H
 have A2 := Aside0.mk A20
 clear A20
 by_cases c3 : t397 = true
 ·subst c3
  have H1 : (some t396) = some r := by rw [if_pos rfl] at H; exact H
  clear H
  have H := H1
  clear H1
  obtain rfl := Option.some.inj H
  go_enter Tryd.func33, Tryd.ntmps33
  go_wp2_with (first | ((with_reducible refine gate_callee (f := 48) rfl ?_); refine goesL_ (some 7) rfl rfl Tryd.func48 (by kernel_rfl) rfl #[.string a0] rfl (by (try simp only [List.map_toArray, List.map_cons, List.map_nil]); first | done | rfl | (simp only [List.length_drop, List.length_take]; rfl)) ?_; (with_reducible refine (spec_l01Value.calls k a0 t396 true _ A2.out).mono ?_); rintro e w4 ⟨rfl, hb⟩; refine ⟨_, rfl, ?_⟩; have n0_ := Aside0.mk (below_step (by repeat (first | (with_reducible first | exact HB.out | apply below_alloc | apply pw_below_drewN | apply below_drew1) | exact HB.out)) hb); clear HB; have HB := n0_; clear n0_; (try clear hb); (try clear hb2); (try clear hk); (try clear hi)))
  go_ret
  exact ⟨by first | rfl | (simp [errW_none, errW_some] <;> rfl) | (simp [*, errW_none, errW_some] <;> rfl), by repeat (first | (with_reducible first | exact HB.out | apply below_alloc | apply pw_below_drewN | apply below_drew1) | exact HB.out)⟩
 ·replace c3 := Bool.eq_false_iff.mpr c3
  subst c3
  have H1 : (some (-1000000)) = some r := by rw [if_neg (show ¬ (false = true) by decide)] at H; exact H
  clear H
  have H := H1
  clear H1
  obtain rfl := Option.some.inj H
  go_enter Tryd.func33, Tryd.ntmps33
  go_wp2_with (first | ((with_reducible refine gate_callee (f := 48) rfl ?_); refine goesL_ (some 7) rfl rfl Tryd.func48 (by kernel_rfl) rfl #[.string a0] rfl (by (try simp only [List.map_toArray, List.map_cons, List.map_nil]); first | done | rfl | (simp only [List.length_drop, List.length_take]; rfl)) ?_; (with_reducible refine (spec_l01Value.calls k a0 t396 false _ A2.out).mono ?_); rintro e w5 ⟨rfl, hb⟩; refine ⟨_, rfl, ?_⟩; have n0_ := Aside0.mk (below_step (by repeat (first | (with_reducible first | exact HB.out | apply below_alloc | apply pw_below_drewN | apply below_drew1) | exact HB.out)) hb); clear HB; have HB := n0_; clear n0_; (try clear hb); (try clear hb2); (try clear hk); (try clear hi)))
  go_ret
  exact ⟨by first | rfl | (simp [errW_none, errW_some] <;> rfl) | (simp [*, errW_none, errW_some] <;> rfl), by repeat (first | (with_reducible first | exact HB.out | apply below_alloc | apply pw_below_drewN | apply below_drew1) | exact HB.out)⟩

end Go.Proofs.YtbgokpobaemibaaDoor.Pa

/- What number the reference's reader of numbers takes a text for: some number always; a numeral's own number. -/
namespace Go.Proofs.YtbgokpobaemibaaDoor.Pure
open Go.RowKit Go.Proofs.YtbgokpobaemibaaDoor.Pa Go.Proofs.YtbgokpobaemibaaDoorW.PrintWords Go.Proofs.YtbgokpobaemibaaDoorW.PrintLast Go.Proofs.YtbgokpobaemibaaDoorW.PrintMore
set_option linter.unusedVariables false
set_option linter.unusedSimpArgs false

theorem in_tells (x l u : Int) : spec_l00In.f x l u = some (decide (l ≤ x) && decide (x ≤ u)) := by
 unfold spec_l00In.f
 by_cases h : l ≤ x <;> simp [h]
/-- The end of the reader. -/
def greatEnd (s : ByteArray) (x : Int) : Int × Bool := (x, (decide (-1000000000000000000 ≤ x) && decide (x ≤ 1000000000000000000)) && ((decB x).toList == s.toList))
theorem great_stop (s r : ByteArray) (x : Int) (h0 : 0 ≤ x) (h1 : x ≤ 2000000000000000000) (i : Nat) (hi : r.size ≤ i) (k : Nat) (hk : 101 < k) :
  spec_l01Great.l0 k s r x (i : Int) = some (greatEnd s (if r.size < s.size then -x else x)) := by
 obtain ⟨k, rfl⟩ : ∃ q, k = q + 1 := ⟨k - 1, by omega⟩
 rw [spec_l01Great.l0, if_neg (by omega), wrap_id (x := -x) (by omega) (by omega), in_tells, in_tells]
 simp only [Option.bind_some]
 have key : ∀ y : Int, (if (decide (-1000000000000000000 ≤ y) && decide (y ≤ 1000000000000000000)) = true then (spec_l01Dec.f k y).bind fun t => some (y, t.toList == s.toList) else some (y, false)) = some (greatEnd s y) := by
  intro y
  unfold greatEnd
  by_cases hy : (decide (-1000000000000000000 ≤ y) && decide (y ≤ 1000000000000000000)) = true
  ·rw [if_pos hy, hy]
   simp only [Bool.and_eq_true, decide_eq_true_eq] at hy
   rw [dec_tellsT y hy.1 hy.2 k (by omega)]
   simp
  ·rw [if_neg hy, Bool.eq_false_iff.2 hy]
   simp
 by_cases hlt : r.size < s.size
 ·rw [if_pos (by omega), if_pos hlt]
  exact key _
 ·rw [if_neg (by omega), if_neg hlt]
  exact key _
theorem great_loop (s r : ByteArray) : ∀ (d i : Nat) (x : Int) (k : Nat), r.size - i = d → i ≤ r.size → r.size ≤ 19 → 0 ≤ x → x ≤ 2000000000000000000 → d + 101 < k → ∃ a, spec_l01Great.l0 k s r x (i : Int) = some a
 | 0, i, x, k, hd, hi, hs, h0, h1, hk => ⟨_, great_stop s r x h0 h1 i (by omega) k (by omega)⟩
 | d + 1, i, x, k, hd, hi, hs, h0, h1, hk => by
  obtain ⟨k, rfl⟩ : ∃ q, k = q + 1 := ⟨k - 1, by omega⟩
  rw [spec_l01Great.l0, if_pos (by omega), if_pos (by omega)]
  by_cases c1 : bt r i < 48
  ·rw [if_pos c1]; exact ⟨_, rfl⟩
  rw [if_neg c1]
  by_cases c2 : bt r i > 57
  ·rw [if_pos c2]; exact ⟨_, rfl⟩
  rw [if_neg c2]
  by_cases c3 : x > 100000000000000000
  ·rw [if_pos c3]; exact ⟨_, rfl⟩
  rw [if_neg c3, wrap_id (x := 10 * x) (by omega) (by omega), wrap_id (x := 10 * x + _) (by omega) (by omega), show wrap64 ((i : Int) + 1) = ((i + 1 : Nat) : Int) by rw [wrap_id (by omega) (by omega)]; omega]
  exact great_loop s r d (i + 1) _ k (by omega) (by omega) hs (by omega) (by omega) (by omega)
theorem great_total (s : ByteArray) (k : Nat) (hk : 200 < k) : ∃ a, spec_l01Great.f k s = some a := by
 have j1 : ∀ (k : Nat), 150 < k → ∀ r : ByteArray, ∃ a, spec_l01Great.j1 k s r = some a := by
  intro k hk r
  obtain ⟨k, rfl⟩ : ∃ q, k = q + 2 := ⟨k - 2, by omega⟩
  rw [spec_l01Great.j1]
  by_cases c : (r.size : Int) < 1
  ·rw [if_pos c, spec_l01Great.j2, if_pos rfl]; exact ⟨_, rfl⟩
  ·rw [if_neg c, spec_l01Great.j2]
   by_cases c2 : (r.size : Int) > 19
   ·rw [if_pos (by simpa using c2)]; exact ⟨_, rfl⟩
   ·rw [if_neg (by simpa using c2)]
    exact great_loop s r r.size 0 0 k (by omega) (by omega) (by omega) (by omega) (by omega) (by omega)
 obtain ⟨k, rfl⟩ : ∃ q, k = q + 1 := ⟨k - 1, by omega⟩
 unfold spec_l01Great.f
 by_cases h : (s.size : Int) > 0
 ·rw [if_pos h, if_pos h, spec_l01Great.j0]
  by_cases c : (bt s 0 == 45) = true
  ·rw [if_pos c, if_pos (by omega)]; exact j1 k (by omega) _
  ·rw [if_neg c]; exact j1 k (by omega) _
 ·rw [if_neg h, spec_l01Great.j0, if_neg (by decide)]
  exact j1 k (by omega) _
theorem number_total (s : ByteArray) (k : Nat) (hk : 200 < k) : ∃ a, spec_l04Number.f k s = some a := by
 obtain ⟨⟨v, o⟩, h⟩ := great_total s k hk
 unfold spec_l04Number.f spec_l01Value.f
 rw [h, Option.bind_some]
 cases o with
 | false => exact ⟨_, rfl⟩
 | true =>
  simp only [if_true]
  rw [in_tells, Option.bind_some]
  by_cases c : (decide (-1000000000000000 ≤ v) && decide (v ≤ 1000000000000000)) = true
  ·rw [if_pos c]; exact ⟨_, rfl⟩
  ·rw [if_neg c]; exact ⟨_, rfl⟩
/-- The number that a text is taken for. -/
def numS (s : ByteArray) : Int := (spec_l04Number.f 201 s).getD 0
theorem numS_at (s : ByteArray) : spec_l04Number.f 201 s = some (numS s) := by
 obtain ⟨a, h⟩ := number_total s 201 (by omega)
 unfold numS
 rw [h]
 rfl
/-- The value of digits. -/
def valD (l : List UInt8) : Int := l.foldl (fun a d => 10 * a + ((d.toNat : Int) - 48)) 0
theorem valD_snoc (l : List UInt8) (d : UInt8) : valD (l ++ [d]) = 10 * valD l + ((d.toNat : Int) - 48) := by
 unfold valD
 rw [List.foldl_append]
 rfl
theorem digU (d : Nat) (h : d < 10) : (UInt8.ofNat (48 + d)).toNat = 48 + d := by
 rw [UInt8.toNat_ofNat']
 exact Nat.mod_eq_of_lt (by omega)
theorem valD_dec (u : Nat) : valD (Lib.decDigits u) = (u : Int) := by
 induction u using Nat.strongRecOn with
 | _ u ih =>
  rw [Lib.decDigits]
  by_cases h : u < 10
  ·rw [dif_pos h]
   have := digU u h
   show 10 * 0 + (((UInt8.ofNat (48 + u)).toNat : Int) - 48) = _
   omega
  ·rw [dif_neg h, valD_snoc, ih (u / 10) (by omega), digU (u % 10) (by omega)]
   omega
theorem dec_in (u : Nat) : ∀ d ∈ Lib.decDigits u, 48 ≤ d.toNat ∧ d.toNat ≤ 57 := by
 induction u using Nat.strongRecOn with
 | _ u ih =>
  rw [Lib.decDigits]
  by_cases h : u < 10
  ·rw [dif_pos h]
   intro d hd
   obtain rfl := List.mem_singleton.1 hd
   rw [digU u h]
   omega
  ·rw [dif_neg h]
   intro d hd
   rcases List.mem_append.1 hd with hd | hd
   ·exact ih _ (by omega) d hd
   ·obtain rfl := List.mem_singleton.1 hd
    rw [digU _ (by omega)]
    omega
theorem fold_nonneg : ∀ (l : List UInt8) (a : Int), 0 ≤ a → (∀ d ∈ l, 48 ≤ d.toNat) → 0 ≤ l.foldl (fun a d => 10 * a + ((d.toNat : Int) - 48)) a
 | [], a, h, _ => h
 | d :: l, a, h, hd => by
  have := hd d (by simp)
  exact fold_nonneg l _ (show (0 : Int) ≤ 10 * a + ((d.toNat : Int) - 48) by omega) fun x hx => hd x (List.mem_cons_of_mem _ hx)
theorem valD_nonneg (l : List UInt8) (h : ∀ d ∈ l, 48 ≤ d.toNat) : 0 ≤ valD l := fold_nonneg l 0 (Int.le_refl _) h
theorem valD_take (l : List UInt8) (h : ∀ d ∈ l, 48 ≤ d.toNat) : ∀ (d i : Nat), l.length - i = d → i ≤ l.length → valD (l.take i) ≤ valD l
 | 0, i, hd, hi => by rw [List.take_of_length_le (by omega)]; exact Int.le_refl _
 | d + 1, i, hd, hi => by
  have hl : i < l.length := by omega
  have h1 := valD_take l h d (i + 1) (by omega) (by omega)
  rw [List.take_add_one, List.getElem?_eq_getElem hl, Option.toList_some, valD_snoc] at h1
  have h2 := valD_nonneg (l.take i) (fun x hx => h x (List.mem_of_mem_take hx))
  have h3 := h _ (List.getElem_mem hl)
  omega
theorem great_reads (s r : ByteArray) (D : List UInt8) (hr : r.data.toList = D) (hD : ∀ d ∈ D, 48 ≤ d.toNat ∧ d.toNat ≤ 57) (hv : valD D ≤ 100000000000000000) (hl : D.length ≤ 19) : ∀ (d i : Nat) (k : Nat), D.length - i = d → i ≤ D.length → d + 101 < k →
  spec_l01Great.l0 k s r (valD (D.take i)) (i : Int) = some (greatEnd s (if r.size < s.size then -valD D else valD D))
 | 0, i, k, hd, hi, hk => by
  have hs : r.size = D.length := by rw [← hr]; simp
  rw [List.take_of_length_le (by omega)]
  exact great_stop s r _ (valD_nonneg D fun x hx => (hD x hx).1) (by omega) i (by omega) k (by omega)
 | d + 1, i, k, hd, hi, hk => by
  have hs : r.size = D.length := by rw [← hr]; simp
  obtain ⟨k, rfl⟩ : ∃ q, k = q + 1 := ⟨k - 1, by omega⟩
  have hlt : i < D.length := by omega
  have hb : bt r (i : Int) = ((D[i]).toNat : Int) := by
   rw [bt_get r i (by omega)]
   subst hr
   rfl
  have h3 := hD _ (List.getElem_mem hlt)
  have h0 := valD_nonneg (D.take i) fun x hx => (hD x (List.mem_of_mem_take hx)).1
  have h4 := valD_take D (fun x hx => (hD x hx).1) _ i rfl (by omega)
  have h1 := valD_take D (fun x hx => (hD x hx).1) _ (i + 1) rfl (by omega)
  have ih := great_reads s r D hr hD hv hl d (i + 1) k (by omega) (by omega) (by omega)
  rw [List.take_add_one, List.getElem?_eq_getElem hlt, Option.toList_some, valD_snoc] at ih
  rw [spec_l01Great.l0, if_pos (by omega), if_pos (by omega), hb, if_neg (by omega), if_neg (by omega), if_neg (by omega), wrap_id (x := 10 * valD (D.take i)) (by omega) (by omega),
   show (((D[i]).toNat : Int) - 48) % 256 = ((D[i]).toNat : Int) - 48 by omega, wrap_id (x := 10 * valD (D.take i) + _) (by omega) (by omega), show wrap64 ((i : Int) + 1) = ((i + 1 : Nat) : Int) by rw [wrap_id (by omega) (by omega)]; omega]
  exact ih
theorem dec_len (u : Nat) (h : u ≤ 1000) : (Lib.decDigits u).length ≤ 19 ∧ 1 ≤ (Lib.decDigits u).length := by
 rw [Lib.decDigits]
 by_cases h1 : u < 10
 ·rw [dif_pos h1]; simp
 ·rw [dif_neg h1, Lib.decDigits]
  by_cases h2 : u / 10 < 10
  ·rw [dif_pos h2]; simp
  ·rw [dif_neg h2, Lib.decDigits]
   by_cases h3 : u / 10 / 10 < 10
   ·rw [dif_pos h3]; simp
   ·rw [dif_neg h3, Lib.decDigits, dif_pos (by omega)]; simp
theorem great_canon (v : Int) (h0 : -1000 ≤ v) (h1 : v ≤ 1000) : spec_l01Great.f 201 (decB v) = some (v, true) := by
 have hend : greatEnd (decB v) v = (v, true) := by
  unfold greatEnd
  simp
  omega
 have j1 : ∀ (k : Nat), 150 < k → ∀ (r : ByteArray) (u : Nat), u ≤ 1000 → r.data.toList = Lib.decDigits u → (if r.size < (decB v).size then -(u : Int) else (u : Int)) = v → spec_l01Great.j1 k (decB v) r = some (v, true) := by
  intro k hk r u hu hr hv
  obtain ⟨k, rfl⟩ : ∃ q, k = q + 2 := ⟨k - 2, by omega⟩
  have hs : r.size = (Lib.decDigits u).length := by rw [← hr]; simp
  have hl := dec_len u hu
  have := great_reads (decB v) r _ hr (dec_in u) (by rw [valD_dec]; omega) hl.1 _ 0 k rfl (by omega) (by omega)
  rw [valD_dec, hv, hend] at this
  rw [spec_l01Great.j1, if_neg (by omega), spec_l01Great.j2, if_neg (by simp; omega)]
  exact this
 have hd : (decB v).data.toList = Lib.itoa v := rfl
 have hsz : (decB v).size = (Lib.itoa v).length := by rw [← hd]; simp
 by_cases hn : v < 0
 ·have hi : Lib.itoa v = 45 :: Lib.decDigits v.natAbs := by unfold Lib.itoa; rw [if_pos hn]
  rw [hi, List.length_cons] at hsz
  have hb : bt (decB v) 0 = 45 := by
   have := bt_get (decB v) 0 (by omega)
   rw [show ((0 : Nat) : Int) = 0 from rfl] at this
   rw [this]
   simp only [hd, hi]
   rfl
  have hx : ((decB v).extract 1 (decB v).size).data.toList = Lib.decDigits v.natAbs := by
   rw [Lib.extract_data, hd, hi, hsz]
   simp
  unfold spec_l01Great.f
  rw [if_pos (by omega), if_pos (by omega), spec_l01Great.j0, hb, if_pos (by decide), if_pos (by omega)]
  refine j1 200 (by omega) _ v.natAbs (by omega) hx ?_
  rw [if_pos (by rw [ByteArray.size_extract]; omega)]
  omega
 ·have hi : Lib.itoa v = Lib.decDigits v.toNat := by unfold Lib.itoa; rw [if_neg hn]
  rw [hi] at hsz hd
  have hl := dec_len v.toNat (by omega)
  have hb : bt (decB v) 0 ≠ 45 := by
   have := bt_get (decB v) 0 (by omega)
   rw [show ((0 : Nat) : Int) = 0 from rfl] at this
   rw [this]
   have h48 := dec_in v.toNat _ (List.getElem_mem (l := Lib.decDigits v.toNat) (n := 0) (by omega))
   simp only [hd]
   omega
  unfold spec_l01Great.f
  rw [if_pos (by omega), if_pos (by omega), spec_l01Great.j0, if_neg (by simpa using hb)]
  refine j1 200 (by omega) _ v.toNat (by omega) hd ?_
  rw [if_neg (by omega)]
  omega
theorem numS_dec (v : Int) (h0 : -1000 ≤ v) (h1 : v ≤ 1000) : numS (decB v) = v := by
 unfold numS spec_l04Number.f spec_l01Value.f
 rw [great_canon v h0 h1]
 simp only [Option.bind_some, if_true]
 rw [in_tells, Option.bind_some, if_pos (by simp; omega)]
 rfl
end Go.Proofs.YtbgokpobaemibaaDoor.Pure

namespace Go.Proofs.YtbgokpobaemibaaDoor.Pa
open Go.RowKit Go.Proofs.YtbgokpobaemibaaDoorW.PrintWords Go.Proofs.YtbgokpobaemibaaDoorW.PrintLast Go.Proofs.YtbgokpobaemibaaDoorW.PrintMore
attribute [local go_sem] max2_int min2_int max_two min_two max_three min_three max_four min_four   -- for this text's walks alone
set_option linter.unusedVariables false
set_option linter.unusedSimpArgs false

/-! ### impl_isLimit: function 46 -/
def impl_isLimit.f (a0 : Int) : Option (Bool) := (impl_within.f a0 (-1000) 1000).bind fun t171 => (some t171)
set_option maxHeartbeats 8000000 in
set_option maxRecDepth 100000 in
theorem impl_isLimit.calls (a0 : Int) (r : Bool) (w : World) (h : impl_isLimit.f a0 = some r) :
  Calls Tryd.prog 46 #[.int .i64 a0] w fun e w' => e = .returned (.bool r) ∧ Drawn0 w w' := by
 have H : ((impl_within.f a0 (-1000) 1000).bind fun t171 => (some t171)) = some r := h
 clear h
 replace H := Option.bind_eq_some_iff.mp H
 obtain ⟨t171, A20, H⟩ := H
 replace H : (some t171) = some r := H
 have A2 := Aside0.mk A20
 clear A20
 obtain rfl := Option.some.inj H
 go_enter Tryd.func46, Tryd.ntmps46
 go_wp2_with (first | ((with_reducible refine gate_callee (f := 29) rfl ?_); refine goesL_ (some 4) rfl rfl Tryd.func29 (by kernel_rfl) rfl #[.int .i64 a0, .int .i64 (-1000), .int .i64 1000] rfl (by (try simp only [List.map_toArray, List.map_cons, List.map_nil]); first | done | rfl | (simp only [List.length_drop, List.length_take]; rfl)) ?_; (with_reducible refine (impl_within.calls a0 (-1000) 1000 t171 _ A2.out).mono ?_); rintro e w' ⟨rfl, ⟨nd, rfl⟩⟩; refine ⟨_, rfl, ?_⟩))
 go_ret
 exact ⟨by first | rfl | (simp; done) | (simp [*]; done), by repeat (first | exact Drawn0.refl _ | apply Drawn0.step)⟩

end Go.Proofs.YtbgokpobaemibaaDoor.Pa

namespace Go.Proofs.YtbgokpobaemibaaDoor.Pa
open Go.RowKit Go.Proofs.YtbgokpobaemibaaDoorW.PrintWords Go.Proofs.YtbgokpobaemibaaDoorW.PrintLast Go.Proofs.YtbgokpobaemibaaDoorW.PrintMore
attribute [local go_sem] max2_int min2_int max_two min_two max_three min_three max_four min_four   -- for this text's walks alone
set_option linter.unusedVariables false
set_option linter.unusedSimpArgs false

/-! ### impl_isBound: function 28 -/
def impl_isBound.f (a0_0 : Int) (a0_1 : Int) (a0_2 : Int) (a1 : Int) : Option (Bool) := (impl_within.f a0_0 0 (wrap64 (a1 - 1))).bind fun t173 => (if t173 = true then ((impl_within.f a0_1 0 (wrap64 (a1 - 1))).bind fun t174 => (if t174 = true then (if a0_0 = a0_1 then (some false) else ((impl_isLimit.f a0_2).bind fun t175 => (some t175))) else (some false))) else (some false))
set_option maxHeartbeats 8000000 in
set_option maxRecDepth 100000 in
theorem impl_isBound.calls (a0_0 : Int) (a0_1 : Int) (a0_2 : Int) (a1 : Int) (r : Bool) (w : World) (h : impl_isBound.f a0_0 a0_1 a0_2 a1 = some r) :
  Calls Tryd.prog 28 #[.agg #[.int .i64 a0_0, .int .i64 a0_1, .int .i64 a0_2], .int .i64 a1] w fun e w' => e = .returned (.bool r) ∧ Below w.heap.size w w' := by
 have hu39 := Tryd.underlying39
 have HB := Aside0.mk (Below.refl w.heap.size w)
 have H : ((impl_within.f a0_0 0 (wrap64 (a1 - 1))).bind fun t173 => (if t173 = true then ((impl_within.f a0_1 0 (wrap64 (a1 - 1))).bind fun t174 => (if t174 = true then (if a0_0 = a0_1 then (some false) else ((impl_isLimit.f a0_2).bind fun t175 => (some t175))) else (some false))) else (some false))) = some r := h
 clear h
 replace H := Option.bind_eq_some_iff.mp H
 obtain ⟨t173, A30, H⟩ := H
 replace H : (if t173 = true then ((impl_within.f a0_1 0 (wrap64 (a1 - 1))).bind fun t174 => (if t174 = true then (if a0_0 = a0_1 then (some false) else ((impl_isLimit.f a0_2).bind fun t175 => (some t175))) else (some false))) else (some false)) = some r := H
 have A3 := Aside0.mk A30
 clear A30
 by_cases c4 : t173 = true
 ·subst c4
  have H1 : ((impl_within.f a0_1 0 (wrap64 (a1 - 1))).bind fun t174 => (if t174 = true then (if a0_0 = a0_1 then (some false) else ((impl_isLimit.f a0_2).bind fun t175 => (some t175))) else (some false))) = some r := by rw [if_pos rfl] at H; exact H
  clear H
  have H := H1
  clear H1
  replace H := Option.bind_eq_some_iff.mp H
  obtain ⟨t174, A50, H⟩ := H
  replace H : (if t174 = true then (if a0_0 = a0_1 then (some false) else ((impl_isLimit.f a0_2).bind fun t175 => (some t175))) else (some false)) = some r := H
  have A5 := Aside0.mk A50
  clear A50
  by_cases c6 : t174 = true
  ·subst c6
   have H1 : (if a0_0 = a0_1 then (some false) else ((impl_isLimit.f a0_2).bind fun t175 => (some t175))) = some r := by rw [if_pos rfl] at H; exact H
   clear H
   have H := H1
   clear H1
   by_cases c7 : a0_0 = a0_1
   ·rw [if_pos c7] at H
    have c7b0 : (a0_0 == a0_1) = true := beq_iff_eq.mpr c7
    have c7b1 : (a0_0 != a0_1) = false := bne_eq_false_iff_eq.mpr c7
    clear c7
    obtain rfl := Option.some.inj H
    go_enter Tryd.func28, Tryd.ntmps28
    go_wp2_with (first | ((with_reducible refine gate_dst (N := 2) rfl ?_); refine box_event ?hg (N := 2) ?hd (cs := #[.int .i64 a0_0, .int .i64 a0_1, .int .i64 a0_2]) (t := 39) ?hr ?_; (case hd => rfl); (case hg => rfl); (case hr => first | (go_simp; done) | (go_simp; rfl)); intro gb172 hg w8 hbox hb; have n0_ := Aside0.mk (below_step (by repeat (first | (with_reducible first | exact HB.out | apply below_alloc | apply pw_below_drewN | apply below_drew1) | exact HB.out)) hb); have n1_ := Aside0.mk (hbox); have n2_ := Aside0.mk ((by rw [hg]; exact (below_size (by repeat (first | (with_reducible first | exact HB.out | apply below_alloc | apply pw_below_drewN | apply below_drew1) | exact HB.out))) : w.heap.size ≤ gb172)); have n3_ := Aside0.mk ((by rw [hg]; exact (below_size (by repeat (first | (with_reducible first | exact HB.out | apply below_alloc | apply pw_below_drewN | apply below_drew1) | exact HB.out))) : w.heap.size ≤ gb172)); clear HB; have HB := n0_; have BK172 := n1_; have GW172 := n2_; have GE172 := n3_; clear n0_ n1_ n2_ n3_; clear hb hbox hg; have hcz9_0 : w8.cell? ⟨gb172, 0, none⟩ = some (.int .i64 a0_0) := (blk_cell BK172.out 0).trans rfl; have hcz9_1 : w8.cell? ⟨gb172, 1, none⟩ = some (.int .i64 a0_1) := (blk_cell BK172.out 1).trans rfl; have hcz9_2 : w8.cell? ⟨gb172, 2, none⟩ = some (.int .i64 a0_2) := (blk_cell BK172.out 2).trans rfl; have hfz9_0 := blk_frozen BK172.out 0; have hfz9_1 := blk_frozen BK172.out 1; have hfz9_2 := blk_frozen BK172.out 2) | ((with_reducible refine gate_callee (f := 29) rfl ?_); refine goesL_ (some 9) rfl rfl Tryd.func29 (by kernel_rfl) rfl #[.int .i64 a0_0, .int .i64 0, .int .i64 (wrap64 (a1 - 1))] rfl (by (try simp only [List.map_toArray, List.map_cons, List.map_nil]); first | done | rfl | (simp only [List.length_drop, List.length_take]; rfl)) ?_; (with_reducible refine (impl_within.calls a0_0 0 (wrap64 (a1 - 1)) true _ A3.out).mono ?_); rintro e w' ⟨rfl, ⟨nd, rfl⟩⟩; refine ⟨_, rfl, ?_⟩) | (go_at_call 29; (with_reducible refine (impl_within.calls a0_1 0 (wrap64 (a1 - 1)) true _ A5.out).mono ?_); rintro e w' ⟨rfl, ⟨nd, rfl⟩⟩))
    go_ret
    exact ⟨by first | rfl | (simp [errW_none, errW_some] <;> rfl) | (simp [*, errW_none, errW_some] <;> rfl), by repeat (first | (with_reducible first | exact HB.out | apply below_alloc | apply pw_below_drewN | apply below_drew1 | refine below_set ?_ GE172.out) | exact HB.out)⟩
   ·rw [if_neg c7] at H
    have c7b0 : (a0_0 == a0_1) = false := beq_eq_false_iff_ne.mpr c7
    have c7b1 : (a0_0 != a0_1) = true := bne_iff_ne.mpr c7
    replace H := Option.bind_eq_some_iff.mp H
    obtain ⟨t175, A100, H⟩ := H
    replace H : (some t175) = some r := H
    have A10 := Aside0.mk A100
    clear A100
    obtain rfl := Option.some.inj H
    go_enter Tryd.func28, Tryd.ntmps28
    go_wp2_with (first | ((with_reducible refine gate_dst (N := 2) rfl ?_); refine box_event ?hg (N := 2) ?hd (cs := #[.int .i64 a0_0, .int .i64 a0_1, .int .i64 a0_2]) (t := 39) ?hr ?_; (case hd => rfl); (case hg => rfl); (case hr => first | (go_simp; done) | (go_simp; rfl)); intro gb172 hg w11 hbox hb; have n0_ := Aside0.mk (below_step (by repeat (first | (with_reducible first | exact HB.out | apply below_alloc | apply pw_below_drewN | apply below_drew1) | exact HB.out)) hb); have n1_ := Aside0.mk (hbox); have n2_ := Aside0.mk ((by rw [hg]; exact (below_size (by repeat (first | (with_reducible first | exact HB.out | apply below_alloc | apply pw_below_drewN | apply below_drew1) | exact HB.out))) : w.heap.size ≤ gb172)); have n3_ := Aside0.mk ((by rw [hg]; exact (below_size (by repeat (first | (with_reducible first | exact HB.out | apply below_alloc | apply pw_below_drewN | apply below_drew1) | exact HB.out))) : w.heap.size ≤ gb172)); clear HB; have HB := n0_; have BK172 := n1_; have GW172 := n2_; have GE172 := n3_; clear n0_ n1_ n2_ n3_; clear hb hbox hg; have hcz12_0 : w11.cell? ⟨gb172, 0, none⟩ = some (.int .i64 a0_0) := (blk_cell BK172.out 0).trans rfl; have hcz12_1 : w11.cell? ⟨gb172, 1, none⟩ = some (.int .i64 a0_1) := (blk_cell BK172.out 1).trans rfl; have hcz12_2 : w11.cell? ⟨gb172, 2, none⟩ = some (.int .i64 a0_2) := (blk_cell BK172.out 2).trans rfl; have hfz12_0 := blk_frozen BK172.out 0; have hfz12_1 := blk_frozen BK172.out 1; have hfz12_2 := blk_frozen BK172.out 2) | ((with_reducible refine gate_callee (f := 29) rfl ?_); refine goesL_ (some 9) rfl rfl Tryd.func29 (by kernel_rfl) rfl #[.int .i64 a0_0, .int .i64 0, .int .i64 (wrap64 (a1 - 1))] rfl (by (try simp only [List.map_toArray, List.map_cons, List.map_nil]); first | done | rfl | (simp only [List.length_drop, List.length_take]; rfl)) ?_; (with_reducible refine (impl_within.calls a0_0 0 (wrap64 (a1 - 1)) true _ A3.out).mono ?_); rintro e w' ⟨rfl, ⟨nd, rfl⟩⟩; refine ⟨_, rfl, ?_⟩) | (go_at_call 29; (with_reducible refine (impl_within.calls a0_1 0 (wrap64 (a1 - 1)) true _ A5.out).mono ?_); rintro e w' ⟨rfl, ⟨nd, rfl⟩⟩) | (go_at_call 46; (with_reducible refine (impl_isLimit.calls a0_2 t175 _ A10.out).mono ?_); rintro e w' ⟨rfl, ⟨nd, rfl⟩⟩))
    go_ret
    exact ⟨by first | rfl | (simp [errW_none, errW_some] <;> rfl) | (simp [*, errW_none, errW_some] <;> rfl), by repeat (first | (with_reducible first | exact HB.out | apply below_alloc | apply pw_below_drewN | apply below_drew1 | refine below_set ?_ GE172.out) | exact HB.out)⟩
  ·replace c6 := Bool.eq_false_iff.mpr c6
   subst c6
   have H1 : (some false) = some r := by rw [if_neg (show ¬ (false = true) by decide)] at H; exact H
   clear H
   have H := H1
   clear H1
   obtain rfl := Option.some.inj H
   go_enter Tryd.func28, Tryd.ntmps28
   go_wp2_with (first | ((with_reducible refine gate_dst (N := 2) rfl ?_); refine box_event ?hg (N := 2) ?hd (cs := #[.int .i64 a0_0, .int .i64 a0_1, .int .i64 a0_2]) (t := 39) ?hr ?_; (case hd => rfl); (case hg => rfl); (case hr => first | (go_simp; done) | (go_simp; rfl)); intro gb172 hg w13 hbox hb; have n0_ := Aside0.mk (below_step (by repeat (first | (with_reducible first | exact HB.out | apply below_alloc | apply pw_below_drewN | apply below_drew1) | exact HB.out)) hb); have n1_ := Aside0.mk (hbox); have n2_ := Aside0.mk ((by rw [hg]; exact (below_size (by repeat (first | (with_reducible first | exact HB.out | apply below_alloc | apply pw_below_drewN | apply below_drew1) | exact HB.out))) : w.heap.size ≤ gb172)); have n3_ := Aside0.mk ((by rw [hg]; exact (below_size (by repeat (first | (with_reducible first | exact HB.out | apply below_alloc | apply pw_below_drewN | apply below_drew1) | exact HB.out))) : w.heap.size ≤ gb172)); clear HB; have HB := n0_; have BK172 := n1_; have GW172 := n2_; have GE172 := n3_; clear n0_ n1_ n2_ n3_; clear hb hbox hg; have hcz14_0 : w13.cell? ⟨gb172, 0, none⟩ = some (.int .i64 a0_0) := (blk_cell BK172.out 0).trans rfl; have hcz14_1 : w13.cell? ⟨gb172, 1, none⟩ = some (.int .i64 a0_1) := (blk_cell BK172.out 1).trans rfl; have hcz14_2 : w13.cell? ⟨gb172, 2, none⟩ = some (.int .i64 a0_2) := (blk_cell BK172.out 2).trans rfl; have hfz14_0 := blk_frozen BK172.out 0; have hfz14_1 := blk_frozen BK172.out 1; have hfz14_2 := blk_frozen BK172.out 2) | ((with_reducible refine gate_callee (f := 29) rfl ?_); refine goesL_ (some 9) rfl rfl Tryd.func29 (by kernel_rfl) rfl #[.int .i64 a0_0, .int .i64 0, .int .i64 (wrap64 (a1 - 1))] rfl (by (try simp only [List.map_toArray, List.map_cons, List.map_nil]); first | done | rfl | (simp only [List.length_drop, List.length_take]; rfl)) ?_; (with_reducible refine (impl_within.calls a0_0 0 (wrap64 (a1 - 1)) true _ A3.out).mono ?_); rintro e w' ⟨rfl, ⟨nd, rfl⟩⟩; refine ⟨_, rfl, ?_⟩) | (go_at_call 29; (with_reducible refine (impl_within.calls a0_1 0 (wrap64 (a1 - 1)) false _ A5.out).mono ?_); rintro e w' ⟨rfl, ⟨nd, rfl⟩⟩))
   go_ret
   exact ⟨by first | rfl | (simp [errW_none, errW_some] <;> rfl) | (simp [*, errW_none, errW_some] <;> rfl), by repeat (first | (with_reducible first | exact HB.out | apply below_alloc | apply pw_below_drewN | apply below_drew1 | refine below_set ?_ GE172.out) | exact HB.out)⟩
 ·replace c4 := Bool.eq_false_iff.mpr c4
  subst c4
  have H1 : (some false) = some r := by rw [if_neg (show ¬ (false = true) by decide)] at H; exact H
  clear H
  have H := H1
  clear H1
  obtain rfl := Option.some.inj H
  go_enter Tryd.func28, Tryd.ntmps28
  go_wp2_with (first | ((with_reducible refine gate_dst (N := 2) rfl ?_); refine box_event ?hg (N := 2) ?hd (cs := #[.int .i64 a0_0, .int .i64 a0_1, .int .i64 a0_2]) (t := 39) ?hr ?_; (case hd => rfl); (case hg => rfl); (case hr => first | (go_simp; done) | (go_simp; rfl)); intro gb172 hg w15 hbox hb; have n0_ := Aside0.mk (below_step (by repeat (first | (with_reducible first | exact HB.out | apply below_alloc | apply pw_below_drewN | apply below_drew1) | exact HB.out)) hb); have n1_ := Aside0.mk (hbox); have n2_ := Aside0.mk ((by rw [hg]; exact (below_size (by repeat (first | (with_reducible first | exact HB.out | apply below_alloc | apply pw_below_drewN | apply below_drew1) | exact HB.out))) : w.heap.size ≤ gb172)); have n3_ := Aside0.mk ((by rw [hg]; exact (below_size (by repeat (first | (with_reducible first | exact HB.out | apply below_alloc | apply pw_below_drewN | apply below_drew1) | exact HB.out))) : w.heap.size ≤ gb172)); clear HB; have HB := n0_; have BK172 := n1_; have GW172 := n2_; have GE172 := n3_; clear n0_ n1_ n2_ n3_; clear hb hbox hg; have hcz16_0 : w15.cell? ⟨gb172, 0, none⟩ = some (.int .i64 a0_0) := (blk_cell BK172.out 0).trans rfl; have hcz16_1 : w15.cell? ⟨gb172, 1, none⟩ = some (.int .i64 a0_1) := (blk_cell BK172.out 1).trans rfl; have hcz16_2 : w15.cell? ⟨gb172, 2, none⟩ = some (.int .i64 a0_2) := (blk_cell BK172.out 2).trans rfl; have hfz16_0 := blk_frozen BK172.out 0; have hfz16_1 := blk_frozen BK172.out 1; have hfz16_2 := blk_frozen BK172.out 2) | ((with_reducible refine gate_callee (f := 29) rfl ?_); refine goesL_ (some 9) rfl rfl Tryd.func29 (by kernel_rfl) rfl #[.int .i64 a0_0, .int .i64 0, .int .i64 (wrap64 (a1 - 1))] rfl (by (try simp only [List.map_toArray, List.map_cons, List.map_nil]); first | done | rfl | (simp only [List.length_drop, List.length_take]; rfl)) ?_; (with_reducible refine (impl_within.calls a0_0 0 (wrap64 (a1 - 1)) false _ A3.out).mono ?_); rintro e w' ⟨rfl, ⟨nd, rfl⟩⟩; refine ⟨_, rfl, ?_⟩))
  go_ret
  exact ⟨by first | rfl | (simp [errW_none, errW_some] <;> rfl) | (simp [*, errW_none, errW_some] <;> rfl), by repeat (first | (with_reducible first | exact HB.out | apply below_alloc | apply pw_below_drewN | apply below_drew1 | refine below_set ?_ GE172.out) | exact HB.out)⟩

end Go.Proofs.YtbgokpobaemibaaDoor.Pa

namespace Go.Proofs.YtbgokpobaemibaaDoor.Pa
open Go.RowKit Go.Proofs.YtbgokpobaemibaaDoorW.PrintWords Go.Proofs.YtbgokpobaemibaaDoorW.PrintLast Go.Proofs.YtbgokpobaemibaaDoorW.PrintMore
attribute [local go_sem] max2_int min2_int max_two min_two max_three min_three max_four min_four   -- for this text's walks alone
set_option linter.unusedVariables false
set_option linter.unusedSimpArgs false

/-! ### AUX firstOf -/
/-- The place of the first element for which a test holds, or -1. -/
def firstOf {α : Type} (p : α → Bool) : List α → Int → Int
 | [], _ => -1
 | x :: l, i => if p x = true then i else firstOf p l (i + 1)
theorem firstOf_step {α : Type} (p : α → Bool) (x : α) (l : List α) (i : Int) : firstOf p (x :: l) i = if p x = true then i else firstOf p l (i + 1) := rfl
theorem firstOf_iff {α : Type} (p : α → Bool) (l : List α) : ∀ i, 0 ≤ i → (0 ≤ firstOf p l i ↔ l.any p = true) := by
 induction l with
 | nil => intro i hi; simp [firstOf]
 | cons x l ih =>
  intro i hi
  rw [firstOf_step, List.any_cons]
  by_cases hx : p x = true
  ·rw [if_pos hx, hx]
   simp [hi]
  ·rw [if_neg hx, Bool.eq_false_iff.mpr hx]
   simpa using ih (i + 1) (by omega)
theorem firstOf_any {α : Type} (p : α → Bool) (l : List α) : decide (0 ≤ firstOf p l 0) = l.any p := by
 rw [Bool.eq_iff_iff, decide_eq_true_iff]
 exact firstOf_iff p l 0 (by omega)
theorem firstOf_range {α : Type} (p : α → Bool) (l : List α) : ∀ i, 0 ≤ i → firstOf p l i = -1 ∨ (i ≤ firstOf p l i ∧ firstOf p l i < i + l.length) := by
 induction l with
 | nil => intro i hi; exact .inl rfl
 | cons x l ih =>
  intro i hi
  rw [firstOf_step, List.length_cons]
  split
  ·right; omega
  ·rcases ih (i + 1) (by omega) with h | h
   ·exact .inl h
   ·right; omega

end Go.Proofs.YtbgokpobaemibaaDoor.Pa

namespace Go.Proofs.YtbgokpobaemibaaDoor.Pa
open Go.RowKit Go.Proofs.YtbgokpobaemibaaDoorW.PrintWords Go.Proofs.YtbgokpobaemibaaDoorW.PrintLast Go.Proofs.YtbgokpobaemibaaDoorW.PrintMore
attribute [local go_sem] max2_int min2_int max_two min_two max_three min_three max_four min_four   -- for this text's walks alone
set_option linter.unusedVariables false
set_option linter.unusedSimpArgs false

/-! ### AUX containsB -/
set_option maxHeartbeats 2000000 in
set_option maxRecDepth 100000 in
theorem indexB.calls (A : Option Addr) (c : Nat) (l : List S39) (g : Nat) (lb : Array Value) (p : S39 → Bool) (w : World) (hr : Kd.C k39 w A l.length l)
  (eg : ∀ args W, (callFunc g args).run Tryd.prog W = .ok (.enter g args) W)
  (hp : ∀ (W : World) (x : S39), x ∈ l → Below w.heap.size w W → Calls Tryd.prog g (#[.agg #[.int .i64 x.f0, .int .i64 x.f1, .int .i64 x.f2]] ++ lb) W fun e w' => e = .returned (.bool (p x)) ∧ Below w.heap.size w w') :
  Calls Tryd.prog 47 #[.slice A l.length c, .func (.func g) #[] lb] w fun e w' => e = .returned (.int .i64 (firstOf p l 0)) ∧ Below w.heap.size w w' := by
 have hu := Tryd.underlying39
 have HR := Aside0.mk hr
 have hlen : l.length ≤ 9223372036854775807 := hr.2.1
 clear hr
 have HP := Aside0.mk hp
 clear hp
 go_enter Tryd.func47, Tryd.ntmps47
 go_wp2
 go_loopg [5, 8] l.length (fun gg _ s8 wr => ∃ x : Int, s8 = .int .i64 x ∧ Aside0 (0 ≤ x ∧ x ≤ l.length ∧ (l.length : Int) - x ≤ gg) ∧ Aside0 (Below w.heap.size w wr) ∧ Aside0 (firstOf p l 0 = firstOf p (l.drop x.toNat) x))
 case atStart => exact ⟨0, rfl, ⟨by omega⟩, ⟨Below.refl _ w⟩, ⟨rfl⟩⟩
 case round =>
  obtain ⟨x, rfl, HX, HB, HF⟩ := hrel
  by_cases hlt : x < (l.length : Int)
  ·have c0 : decide (0 ≤ x) = true := decide_eq_true HX.out.1
   have c1 : decide (x < (l.length : Int)) = true := decide_eq_true hlt
   have HL := Aside0.mk hlt
   clear hlt
   obtain ⟨ad, e, h0, h1, h2⟩ := at_T39 HR.out x HX.out.1 HL.out
   cases e
   replace h0 := (HB.out.cell (World.block_lt_of_cell? w _ h0)).trans h0
   replace h1 := (HB.out.cell (World.block_lt_of_cell? w _ h1)).trans h1
   replace h2 := (HB.out.cell (World.block_lt_of_cell? w _ h2)).trans h2
   have hmem : rd_T39 l x ∈ l := by
    have hx := HX.out
    have hl := HL.out
    unfold rd_T39
    rw [List.getD_eq_getElem?_getD, List.getElem?_eq_getElem (by omega)]
    exact List.getElem_mem _
   have hcall := HP.out wr (rd_T39 l x) hmem HB.out
   clear hmem
   have hd : l.drop x.toNat = rd_T39 l x :: l.drop (x + 1).toNat := by
    have hx := HX.out
    have hl := HL.out
    rw [List.drop_eq_getElem_cons (by omega), show (x + 1).toNat = x.toNat + 1 from by omega]
    unfold rd_T39
    rw [List.getD_eq_getElem?_getD, List.getElem?_eq_getElem (by omega)]
    rfl
   have HD := Aside0.mk hd
   clear hd
   cases hq : p (rd_T39 l x) with
   | true =>
    rw [hq] at hcall
    have HQ := Aside0.mk hq
    clear hq
    have HC := Aside0.mk hcall
    clear hcall
    have p0 := eq_true HX.out.1
    have p1 := eq_true HL.out
    go_wp2_with (go_at_fn g; refine HC.out.mono ?_; rintro e w' ⟨rfl, hb'⟩)
    go_ret
    refine ⟨?_, hb'⟩
    rw [HF.out, HD.out, firstOf_step, if_pos HQ.out]
    rfl
   | false =>
    rw [hq] at hcall
    have HQ := Aside0.mk hq
    clear hq
    have HC := Aside0.mk hcall
    clear hcall
    have p0 := eq_true HX.out.1
    have p1 := eq_true HL.out
    go_wp2_with (go_at_fn g; refine HC.out.mono ?_; rintro e w' ⟨rfl, hb'⟩)
    have hx1 := HX.out
    have hl1 := HL.out
    go_roundg ((l.length : Int) - (x + 1)).toNat
    case measure => omega
    case rel =>
     have hw1 : wrap64 (x + 1) = x + 1 := by unfold wrap64; omega
     refine ⟨x + 1, by rw [hw1], ⟨by omega⟩, ⟨hb'⟩, ⟨?_⟩⟩
     rw [HF.out, HD.out, firstOf_step, if_neg (by rw [HQ.out]; simp)]
  ·have c1 : decide (x < (l.length : Int)) = false := decide_eq_false hlt
   have HL := Aside0.mk hlt
   clear hlt
   go_wp2
   go_ret
   refine ⟨?_, HB.out⟩
   have hx := HX.out
   have hl := HL.out
   rw [HF.out, List.drop_of_length_le (by omega)]
   rfl
set_option maxHeartbeats 1000000 in
theorem containsB.calls (A : Option Addr) (c : Nat) (l : List S39) (g : Nat) (lb : Array Value) (p : S39 → Bool) (w : World) (hr : Kd.C k39 w A l.length l)
  (eg : ∀ args W, (callFunc g args).run Tryd.prog W = .ok (.enter g args) W)
  (hp : ∀ (W : World) (x : S39), x ∈ l → Below w.heap.size w W → Calls Tryd.prog g (#[.agg #[.int .i64 x.f0, .int .i64 x.f1, .int .i64 x.f2]] ++ lb) W fun e w' => e = .returned (.bool (p x)) ∧ Below w.heap.size w w') :
  Calls Tryd.prog 30 #[.slice A l.length c, .func (.func g) #[] lb] w fun e w' => e = .returned (.bool (l.any p)) ∧ Below w.heap.size w w' := by
 have hcall := Aside0.mk (indexB.calls A c l g lb p w hr eg hp)
 clear hp hr eg
 rw [← firstOf_any p l]
 generalize firstOf p l 0 = r at hcall ⊢
 go_enter Tryd.func30, Tryd.ntmps30
 go_wp2_with (go_at_call 47; refine hcall.out.mono ?_; rintro e w' ⟨rfl, hb'⟩)
 go_ret
 exact ⟨rfl, hb'⟩

end Go.Proofs.YtbgokpobaemibaaDoor.Pa

namespace Go.Proofs.YtbgokpobaemibaaDoor.Pa
open Go.RowKit Go.Proofs.YtbgokpobaemibaaDoorW.PrintWords Go.Proofs.YtbgokpobaemibaaDoorW.PrintLast Go.Proofs.YtbgokpobaemibaaDoorW.PrintMore
attribute [local go_sem] max2_int min2_int max_two min_two max_three min_three max_four min_four   -- for this text's walks alone
set_option linter.unusedVariables false
set_option linter.unusedSimpArgs false

/-! ### impl_ValidDiagram: function 15 -/
/-- What a diagram must be. -/
def boundOk (n : Int) (b : S39) : Bool := decide (0 ≤ b.f0) && decide (b.f0 ≤ n - 1) && (decide (0 ≤ b.f1) && decide (b.f1 ≤ n - 1)) && !(b.f0 == b.f1) && (decide (-1000 ≤ b.f2) && decide (b.f2 ≤ 1000))
def diagramOk (n : Int) (l : List S39) : Bool := decide (1 ≤ n) && decide (n ≤ 10) && decide (l.length ≤ 24) && l.all (boundOk n)
theorem isBound_tells (a b c n : Int) (h0 : 1 ≤ n) (h1 : n ≤ 10) : impl_isBound.f a b c n = some (boundOk n ⟨a, b, c⟩) := by
 have hw : wrap64 (n - 1) = n - 1 := by unfold wrap64; omega
 have hin : ∀ x l u : Int, impl_within.f x l u = some (decide (l ≤ x) && decide (x ≤ u)) := by
  intro x l u
  unfold impl_within.f
  by_cases h : l ≤ x <;> simp [h]
 unfold impl_isBound.f impl_isLimit.f boundOk
 simp only [hin, hw, Option.bind_some]
 by_cases h2 : 0 ≤ a <;> by_cases h3 : a ≤ n - 1 <;> by_cases h4 : 0 ≤ b <;> by_cases h5 : b ≤ n - 1 <;> by_cases h6 : a = b <;> simp [h2, h3, h4, h5, h6]
def impl_ValidDiagram.f (a0_0 : Int) (l0_1 : List (S39)) : Option (Bool) := some (diagramOk a0_0 l0_1)
set_option maxHeartbeats 4000000 in
set_option maxRecDepth 100000 in
/-- The test that ValidDiagram hands on. -/
theorem ValidDiagram_test (n : Int) (A : Option Addr) (m c : Nat) (h0 : 1 ≤ n) (h1 : n ≤ 10) (B : Nat) (w : World) (hB : B < w.heap.size) (hc0 : w.cell? ⟨B, 0, none⟩ = some (.int .i64 n)) (W : World) (x : S39) (hb : Below w.heap.size w W) :
  Calls Tryd.prog 31 (#[.agg #[.int .i64 x.f0, .int .i64 x.f1, .int .i64 x.f2]] ++ #[.pointer (some ⟨B, 0, none⟩)]) W fun e w' => e = .returned (.bool (!boundOk n x)) ∧ Below w.heap.size w w' := by
 have hc : W.cell? ⟨B, 0, none⟩ = some (.int .i64 n) := (hb.cell (p := ⟨B, 0, none⟩) hB).trans hc0
 have hu := Tryd.underlying39
 have hu2 := Tryd.underlying26
 have hBW : B < W.heap.size := Nat.lt_of_lt_of_le hB hb.size
 have hne : B ≠ W.heap.size := by omega
 have hq := Aside0.mk (isBound_tells x.f0 x.f1 x.f2 n h0 h1)
 have HB := Aside0.mk hb
 clear hb hc0 h0 h1
 generalize boundOk n x = q at hq ⊢
 show Calls Tryd.prog 31 #[.agg #[.int .i64 x.f0, .int .i64 x.f1, .int .i64 x.f2], .pointer (some ⟨B, 0, none⟩)] W _
 go_enter Tryd.func31, Tryd.ntmps31
 go_wp2_with (go_at_call 28; refine (impl_isBound.calls _ _ _ _ q _ hq.out).mono ?_; rintro e w' ⟨rfl, hb'⟩)
 go_ret
 exact ⟨rfl, HB.out.trans (Below.mono ((below_alloc (Below.refl _ _) _).trans (hb'.mono (by simp))) HB.out.size)⟩
def anyBad (n : Int) (l : List S39) : Bool := l.any fun x => !boundOk n x
theorem anyBad_all (n : Int) (l : List S39) : (!anyBad n l) = l.all (boundOk n) := by
 unfold anyBad
 rw [List.all_eq_not_any_not]
theorem ValidDiagram_contains (n : Int) (A : Option Addr) (c : Nat) (l : List S39) (h0 : 1 ≤ n) (h1 : n ≤ 10) (B : Nat) (w : World) (hB : B < w.heap.size) (hc0 : w.cell? ⟨B, 0, none⟩ = some (.int .i64 n)) (hr : Kd.C k39 w A l.length l) :
  Calls Tryd.prog 30 #[.slice A l.length c, .func (.func 31) #[] #[.pointer (some ⟨B, 0, none⟩)]] w fun e w' => e = .returned (.bool (anyBad n l)) ∧ Below w.heap.size w w' :=
 containsB.calls A c l 31 #[.pointer (some ⟨B, 0, none⟩)] (fun x => !boundOk n x) w hr (enters_of Tryd.func31 (by kernel_rfl) rfl) (fun W x _ hb => ValidDiagram_test n A l.length c h0 h1 B w hB hc0 W x hb)
set_option maxHeartbeats 4000000 in
set_option maxRecDepth 100000 in
theorem impl_ValidDiagram.calls (a0_0 : Int) (A0_1 : Option Addr) (c0_1 : Nat) (l0_1 : List (S39)) (r : Bool) (w : World) (hr0_1 : Kd.C k39 w A0_1 l0_1.length l0_1) (hc0_1 : l0_1.length ≤ c0_1) (h : impl_ValidDiagram.f a0_0 l0_1 = some r) :
  Calls Tryd.prog 15 #[.agg #[.int .i64 a0_0, .slice A0_1 l0_1.length c0_1]] w fun e w' => e = .returned (.bool r) ∧ Below w.heap.size w w' := by
 obtain rfl := Option.some.inj h
 clear h
 have hu := Tryd.underlying26
 have HR := Aside0.mk hr0_1
 clear hr0_1 hc0_1
 by_cases hn : 1 ≤ a0_0 ∧ a0_0 ≤ 10
 ·obtain ⟨h0, h1⟩ := hn
  have HW : Aside0 (impl_within.f a0_0 1 10 = some true) := ⟨by unfold impl_within.f; rw [if_pos h0, decide_eq_true h1]⟩
  by_cases hl : l0_1.length ≤ 24
  ·have c1 : decide ((24 : Int) < (l0_1.length : Int)) = false := decide_eq_false (by omega)
   have c2 : decide (24 < l0_1.length) = false := decide_eq_false (by omega)
   have HE : Aside0 (diagramOk a0_0 l0_1 = !anyBad a0_0 l0_1) := ⟨by unfold diagramOk; rw [anyBad_all, decide_eq_true h0, decide_eq_true h1, decide_eq_true hl]; simp⟩
   have H0 := Aside0.mk h0
   have H1 := Aside0.mk h1
   clear h0 h1 hl
   generalize diagramOk a0_0 l0_1 = q at HE ⊢
   go_enter Tryd.func15, Tryd.ntmps15
   go_wp2_with (first | (go_at_call 29; refine (impl_within.calls _ _ _ true _ HW.out).mono ?_; rintro e w' ⟨rfl, ⟨nd, rfl⟩⟩) | (go_at_call 30; refine (ValidDiagram_contains a0_0 A0_1 c0_1 l0_1 H0.out H1.out w.heap.size _ (by simp) (by simp) (by repeat (first | exact HR.out | (with_reducible refine Kd.C_drewN ?_ _) | (with_reducible refine Kd.C_drew ?_) | (with_reducible refine Kd.C_alloc ?_ _)))).mono ?_; rintro e w' ⟨rfl, hb'⟩))
   go_ret
   exact ⟨by rw [HE.out]; rfl, (below_alloc (Below.refl _ _) _).trans (Below.mono (below_step (pw_below_drewN (Below.refl _ _) nd) hb') (by simp))⟩
  ·have c1 : decide ((24 : Int) < (l0_1.length : Int)) = true := decide_eq_true (by omega)
   have c2 : decide (24 < l0_1.length) = true := decide_eq_true (by omega)
   have HE : Aside0 (diagramOk a0_0 l0_1 = false) := ⟨by unfold diagramOk; rw [decide_eq_false hl]; simp⟩
   clear h0 h1 hl
   generalize diagramOk a0_0 l0_1 = q at HE ⊢
   go_enter Tryd.func15, Tryd.ntmps15
   go_wp2_with (go_at_call 29; refine (impl_within.calls _ _ _ true _ HW.out).mono ?_; rintro e w' ⟨rfl, ⟨nd, rfl⟩⟩)
   go_ret
   exact ⟨by rw [HE.out]; rfl, pw_below_drewN (below_alloc (Below.refl _ _) _) nd⟩
 ·have HW : Aside0 (impl_within.f a0_0 1 10 = some false) := ⟨by
   unfold impl_within.f
   split
   ·rw [decide_eq_false (by omega)]
   ·rfl⟩
  have HE : Aside0 (diagramOk a0_0 l0_1 = false) := ⟨by
   unfold diagramOk
   by_cases h0 : 1 ≤ a0_0
   ·rw [decide_eq_false (show ¬ a0_0 ≤ 10 by omega)]; simp
   ·rw [decide_eq_false h0]; simp⟩
  clear hn
  generalize diagramOk a0_0 l0_1 = q at HE ⊢
  go_enter Tryd.func15, Tryd.ntmps15
  go_wp2_with (go_at_call 29; refine (impl_within.calls _ _ _ false _ HW.out).mono ?_; rintro e w' ⟨rfl, ⟨nd, rfl⟩⟩)
  go_ret
  exact ⟨by rw [HE.out]; rfl, pw_below_drewN (below_alloc (Below.refl _ _) _) nd⟩

end Go.Proofs.YtbgokpobaemibaaDoor.Pa

namespace Go.Proofs.YtbgokpobaemibaaDoor.Pa
open Go.RowKit Go.Proofs.YtbgokpobaemibaaDoorW.PrintWords Go.Proofs.YtbgokpobaemibaaDoorW.PrintLast Go.Proofs.YtbgokpobaemibaaDoorW.PrintMore
attribute [local go_sem] max2_int min2_int max_two min_two max_three min_three max_four min_four   -- for this text's walks alone
set_option linter.unusedVariables false
set_option linter.unusedSimpArgs false

/-! ### impl_ReadDiagram: function 10 -/
def rdRows (ws : List ByteArray) : List S39 := ws.map fun x => ⟨(rd3 x).1, (rd3 x).2.1, (rd3 x).2.2.1⟩
def rdOks (ws : List ByteArray) : Bool := ws.all fun x => (rd3 x).2.2.2
def readF (s : ByteArray) : Int × List S39 × Bool := match wordsB 44 s with
  | [] => (0, [], false)
  | x :: ws => if (rdB x).2 = true ∧ rdOks ws = true ∧ diagramOk (rdB x).1 (rdRows ws) = true then ((rdB x).1, rdRows ws, true) else (0, [], false)
def impl_ReadDiagram.f (s : ByteArray) : Option (Int × List S39 × Bool) := if s.size ≤ 2000000 then some (readF s) else none
set_option maxHeartbeats 16000000 in
set_option maxRecDepth 100000 in
theorem impl_ReadDiagram.calls (s : ByteArray) (r1 : Int) (r2 : List S39) (r3 : Bool) (w : World) (ht_ : EnvOk w) (h : impl_ReadDiagram.f s = some (r1, r2, r3)) :
    Calls Tryd.prog 10 #[.string s] w fun e w' => ∃ v1_ : Value, e = .returned (.tuple #[.agg #[.int .i64 r1, v1_], .bool r3]) ∧ Kd.R k39 39 w' w.heap.size (fun _ => True) v1_ r2 ∧ Below w.heap.size w w' := by
  have hu := Tryd.underlying26
  have hu2 := Tryd.underlying39
  have hu3 := Tryd.underlying55
  have HE := Aside0.mk ht_
  clear ht_
  unfold impl_ReadDiagram.f at h
  by_cases hs : s.size ≤ 2000000
  case neg => rw [if_neg hs] at h; cases h
  rw [if_pos hs] at h
  have hf : readF s = (r1, r2, r3) := Option.some.inj h
  have HS := Aside0.mk hs
  have HZ : Aside0 (∀ x ∈ wordsB 44 s, x.size ≤ 2000000) := ⟨fun x hx => by have := wordsB_size hx; omega⟩
  have HM : Aside0 ((wordsB 44 s).length ≤ 2000001) := ⟨by
    have hlen : (wordsB 44 s).length = Lib.countB s ⟨#[44]⟩ + 1 := Lib.splitB_all ⟨#[44]⟩ (Nat.le_refl 1) 0 _ s rfl
    have := Lib.countB_le ⟨#[44]⟩ (Nat.le_refl 1) s.size s (Nat.le_refl _)
    omega⟩
  have HW : Aside0 (∀ w1, EnvOk w1 → Calls Tryd.prog 25 #[.string s, .string ⟨#[44]⟩] w1 fun e w' => e = .returned (.slice (some ⟨w1.heap.size, 0, none⟩) (wordsB 44 s).length (wordsB 44 s).length) ∧ w' = w1.alloc (.cells ((wordsB 44 s).map Value.string).toArray 9)) := ⟨fun w1 h1 => words_calls 44 s w1 h1 (by omega)⟩
  have HNN : Aside0 (wordsB 44 s ≠ []) := ⟨by
    have hlen : (wordsB 44 s).length = Lib.countB s ⟨#[44]⟩ + 1 := Lib.splitB_all ⟨#[44]⟩ (Nat.le_refl 1) 0 _ s rfl
    intro q
    rw [q] at hlen
    simp at hlen⟩
  unfold readF at hf
  clear h hs
  generalize wordsB 44 s = wl at hf HZ HM HW HNN
  cases wl with
  | nil => exact absurd rfl HNN.out
  | cons x ws =>
    dsimp only at hf
    obtain ⟨ev, o1, h1⟩ : ∃ v o, rdB x = (v, o) := ⟨_, _, rfl⟩
    rw [h1] at hf
    dsimp only at hf
    have H1 := Aside0.mk h1
    have HF := Aside0.mk hf
    have HX := Aside0.mk (HZ.out x (by simp))
    have HY : Aside0 (∀ y ∈ ws, y.size ≤ 2000000) := ⟨fun y hy => HZ.out y (List.mem_cons_of_mem _ hy)⟩
    obtain ⟨m, hm⟩ : ∃ m, ws.length = m := ⟨_, rfl⟩
    have HMM : Aside0 (ws.length = m ∧ m ≤ 2000000) := ⟨hm, by have := HM.out; simp at this; omega⟩
    rw [List.length_cons, hm] at HW
    clear h1 hf HZ HM HNN hm
    go_enter Tryd.func10, Tryd.ntmps10
    go_wp2_with (first | ((with_reducible refine gate_dst (N := 2) rfl ?_); refine box_event ?hg (N := 2) ?hd (cs := #[.int .i64 0, .slice none 0 0]) (t := 26) ?hr ?_; (case hd => rfl); (case hg => rfl); (case hr => first | (go_simp; done) | (go_simp; rfl)); intro g2 hg_ w1 hbox_ hb_; have HX_g2 := Aside0.mk hbox_; have HB_w1 := Aside0.mk hb_; have HG_g2 := Aside0.mk hg_; clear hbox_ hb_ hg_) | (go_at_call 25; refine (HW.out w1 (HE.out.below HB_w1.out)).mono ?_; rintro e w2 ⟨rfl, hw2⟩; obtain ⟨gw, hgw⟩ : ∃ gw, gw = w1.heap.size := ⟨_, rfl⟩; have HK : Aside0 (w2.heap[gw]? = some (.cells ((x :: ws).map Value.string).toArray 9 (0, 0))) := ⟨by rw [hw2, hgw]; exact blk_new w1 _⟩; have hb2 : Below w1.heap.size w1 w2 := (by rw [hw2]; exact below_alloc (Below.refl _ _) _); have HB2 := Aside0.mk (below_step HB_w1.out hb2); have HX2 := Aside0.mk (blk_below HX_g2.out hb2); rw [← hgw]; have k0 : w2.cell? ⟨gw, 0, none⟩ = some (.string x) := (blk_cell HK.out 0).trans rfl; clear hw2 hgw hb2) | (go_at_call 26; refine (ReadDecimal.calls x _ _ w2 (HE.out.below HB2.out) (by have := HX.out; omega) H1.out).mono ?_; rintro e w3 ⟨rfl, hb⟩; have HB3 := Aside0.mk (below_step HB2.out hb); have HK3 := Aside0.mk (blk_below HK.out hb); have HX3 := Aside0.mk (blk_below HX2.out hb); clear k0 hb))
    all_goals
      obtain ⟨g7, hg7⟩ : ∃ g7, w3.heap.size = g7 := ⟨_, rfl⟩
      have HG7 : Aside0 ((w3.alloc (.cells #[.int .i64 ev, .slice none 0 0] 26)).heap[g7]? = some (.cells #[.int .i64 ev, .slice none 0 0] 26 (0, 0))) := ⟨by rw [← hg7]; exact blk_new w3 _⟩
      have HGE : Aside0 (w.heap.size ≤ g7) := ⟨by rw [← hg7]; exact below_size HB3.out⟩
      have HK4 : Aside0 ((w3.alloc (.cells #[.int .i64 ev, .slice none 0 0] 26)).heap[gw]? = some (.cells ((x :: ws).map Value.string).toArray 9 (0, 0))) := ⟨blk_below HK3.out (below_alloc (Below.refl _ _) _)⟩
      have HX4 : Aside0 ((w3.alloc (.cells #[.int .i64 ev, .slice none 0 0] 26)).heap[g2]? = some (.cells #[.int .i64 0, .slice none 0 0] 26 (0, 0))) := ⟨blk_below HX3.out (below_alloc (Below.refl _ _) _)⟩
      have HB4 : Aside0 (Below w.heap.size w (w3.alloc (.cells #[.int .i64 ev, .slice none 0 0] 26))) := ⟨below_alloc HB3.out _⟩
      have HGN : Aside0 (g7 ≠ g2) := ⟨by rw [← hg7]; exact Ne.symm (Nat.ne_of_lt (Array.getElem?_eq_some_iff.mp HX3.out).1)⟩
      have HG2 : Aside0 (w.heap.size ≤ g2) := ⟨by rw [HG_g2.out]; exact Nat.le_refl _⟩
      rw [hg7]
      generalize w3.alloc (.cells #[.int .i64 ev, .slice none 0 0] 26) = w4 at HG7 HK4 HX4 HB4 ⊢
      clear hg7 HB3 HK3 HX3 HB2 HK HX2 HW H1 HX HG_g2
      go_loopg [6, 28] (m + 1) (fun kq v6 v28 w' => ∃ (i : Nat) (v : Value) (oo : Bool), v28 = .int .i64 (i : Int) ∧ v6 = .bool oo ∧ Aside0 (i ≤ m ∧ i + kq = m + 1 ∧ oo = (o1 && rdOks (ws.take i))) ∧ Aside0 (w'.heap[g7]? = some (.cells #[.int .i64 ev, v] 26 (0, 0))) ∧ Aside0 (Kd.R k39 39 w' w.heap.size (fun _ => True) v (rdRows (ws.take i))) ∧ Aside0 (w'.heap[gw]? = some (.cells ((x :: ws).map Value.string).toArray 9 (0, 0))) ∧ Aside0 (w'.heap[g2]? = some (.cells #[.int .i64 0, .slice none 0 0] 26 (0, 0))) ∧ Aside0 (Below w.heap.size w w'))
      case' atStart => exact ⟨0, .slice none 0 0, o1, rfl, rfl, ⟨by simp [rdOks]⟩, HG7, ⟨Kd.R_nil _ _ _ _ _⟩, HK4, HX4, HB4⟩
      case' round =>
        obtain ⟨i, v, oo, rfl, rfl, HI, HG, HR, HKW, HXW, HB⟩ := hrel
        clear HG7 HK4 HX4 HB4
        by_cases hi : i < m
        · obtain ⟨y, hy⟩ : ∃ y, ws[i]? = some y := ⟨_, List.getElem?_eq_getElem (by have := HMM.out; omega)⟩
          obtain ⟨a, b, c, o2, h3⟩ : ∃ a b c o, rd3 y = (a, b, c, o) := ⟨_, _, _, _, rfl⟩
          have kc : wr.cell? ⟨gw, 1 + i, none⟩ = some (.string y) := (blk_cell HKW.out (1 + i)).trans (by rw [Nat.add_comm]; simp [hy])
          have HYS : Aside0 (y.size ≤ 2000000) := ⟨HY.out y (List.mem_of_getElem? hy)⟩
          have HROW : Aside0 (rdRows (ws.take (i + 1)) = rdRows (ws.take i) ++ [⟨a, b, c⟩]) := ⟨by unfold rdRows; rw [List.take_add_one, hy, List.map_append]; simp [h3]⟩
          have HOKS : Aside0 (rdOks (ws.take (i + 1)) = (rdOks (ws.take i) && o2)) := ⟨by unfold rdOks; rw [List.take_add_one, hy, List.all_append]; simp [h3]⟩
          have H3 := Aside0.mk h3
          have HI2 := Aside0.mk hi
          have hiw : wrap64 ((i : Int) + 1) = ((i + 1 : Nat) : Int) := by have := HMM.out; unfold wrap64; omega
          have HIW := Aside0.mk hiw
          clear hy h3 hiw
          first | (exfalso; omega) | skip
          all_goals (cases oo <;> cases o2)
          all_goals
            (go_wp2_with (first | (go_at_call 27; refine (threeNumbers.calls y a b c _ wr (EnvOk.below HE.out HB.out) (by have := HYS.out; omega) H3.out).mono ?_; rintro e w5 ⟨rfl, hb⟩; have HB5 := Aside0.mk (below_step HB.out hb); have HG5 := Aside0.mk (blk_below HG.out hb); have HR5 := Aside0.mk (Kd.R_below HR.out hb); have HK5 := Aside0.mk (blk_below HKW.out hb); have HX5 := Aside0.mk (blk_below HXW.out hb); have m1 := blk_cell HG5.out 1; clear hb kc) | ((with_reducible refine gate_builtin (b := .append) (xs := #[.tmp 44, .tmp 49]) rfl ?_); at_builtin; refine Kd.R_append k39 (w0 := w) w.heap.size rfl (.tmp 44) (.tmp 49) 24 39 (.agg #[(.int .i64 0), (.int .i64 0), (.int .i64 0)]) 24 rfl Tryd.underlying24 info39 rfl (by decide) (by omega) v (rdRows (ws.take i)) (⟨a, b, c⟩ : S39) [.int .i64 a, .int .i64 b, .int .i64 c] (fun _ => True) (fun _ => False) rfl rfl (k39_mkM _ _ _ (⟨a, b, c⟩ : S39)) (fun _ hk => hk.elim) (fun _ _ => trivial) HR5.out HB5.out (below_size HB5.out) (by have := HMM.out; have := HI.out; unfold rdRows; rw [List.length_map, List.length_take]; omega) ?_; intro v6' w6 ho hb hg hat; have HR6 := Aside0.mk ho; have HB6 := Aside0.mk hb; have HG6 := Aside0.mk (blk_grown HG5.out hg (Kd.R_ne HR5.out HG5.out (by decide))); have HK6 := Aside0.mk (blk_grown HK5.out hg (Kd.R_ne HR5.out HK5.out (by decide))); have HX6 := Aside0.mk (blk_grown HX5.out hg (Kd.R_ne HR5.out HX5.out (by decide))); obtain ⟨A6, c6, e6⟩ := Kd.R_slice ho; obtain ⟨L6, hL6⟩ : ∃ L, (rdRows (ws.take i) ++ [(⟨a, b, c⟩ : S39)]).length = L := ⟨_, rfl⟩; rw [hL6] at e6; have HL6 := Aside0.mk hL6; clear hL6; subst e6; clear ho hb hg hat m1; have n1 := blk_cell HG6.out 1; have nf := blk_frozen HG6.out 1))
             go_roundg (m - i)
             case' measure => have := HI.out; omega
             case' rel => exact ⟨i + 1, _, _, by rw [HIW.out], rfl, ⟨by have := HI.out; have := HI2.out; refine ⟨by omega, by omega, ?_⟩; rw [HOKS.out, ← Bool.and_assoc, ← HI.out.2.2]; rfl⟩, ⟨blk_put HG6.out 1 _ rfl⟩, ⟨by rw [HROW.out]; exact Kd.R_set HR6.out HG6.out (by intro q hq; have hq : q ∈ [39] := hq; simp at hq; omega) 1 _⟩, ⟨blk_far HK6.out (p := ⟨g7, 1, none⟩) (blk_ne HK6.out HG6.out (by decide)) _⟩, ⟨blk_far HX6.out (p := ⟨g7, 1, none⟩) (Ne.symm HGN.out) _⟩, ⟨below_set HB6.out HGE.out⟩⟩)
        · obtain rfl : i = m := by have := HI.out; omega
          have hoo := HI.out.2.2
          have htk : ws.take i = ws := List.take_of_length_le (by have := HMM.out; omega)
          have hr := HR.out
          rw [htk] at hoo hr
          have HR := Aside0.mk hr
          obtain ⟨Av, cv, ev_⟩ := Kd.R_slice hr
          have HV := Aside0.mk ev_
          have hf := HF.out
          have HOO := Aside0.mk hoo
          have x0 := blk_cell HXW.out 0
          have x1 := blk_cell HXW.out 1
          have y0 := blk_frozen HXW.out 0
          have y1 := blk_frozen HXW.out 1
          have z0 := blk_cell HG.out 0
          have z1 := blk_cell HG.out 1
          clear hr htk hoo HI
          cases oo with
          | false =>
            rw [if_neg (fun q => by have := HOO.out; rw [q.1, q.2.1] at this; cases this)] at hf
            injection hf with e1 hf
            injection hf with e2 e3
            subst e1
            subst e2
            subst e3
            clear HF z0 z1 ev_
            clear x0 x1 y0 y1
            have x0 := blk_cell HXW.out 0
            have x1 := blk_cell HXW.out 1
            have y0 := blk_frozen HXW.out 0
            have y1 := blk_frozen HXW.out 1
            go_wp2
            clear x0 x1 y0 y1
            have HN : Aside0 (((wr.setCell ⟨g2, 0, none⟩ (.int .i64 0)).setCell ⟨g2, 1, none⟩ (.slice none 0 0)).heap[g2]? = some (.cells #[.int .i64 0, .slice none 0 0] 26 (0, 0))) := ⟨blk_put (blk_put HXW.out 0 (.int .i64 0) rfl) 1 (.slice none 0 0) rfl⟩
            have HNB : Aside0 (Below w.heap.size w ((wr.setCell ⟨g2, 0, none⟩ (.int .i64 0)).setCell ⟨g2, 1, none⟩ (.slice none 0 0))) := ⟨below_set (below_set HB.out HG2.out) HG2.out⟩
            generalize (wr.setCell ⟨g2, 0, none⟩ (.int .i64 0)).setCell ⟨g2, 1, none⟩ (.slice none 0 0) = wz at HN HNB  ⊢
            have n0 := blk_cell HN.out 0
            have n1 := blk_cell HN.out 1
            refine bodyPost_ret (v := .tuple #[.agg #[.int .i64 0, .slice none 0 0], .bool false]) (by simp [results, Tryd.f10, go_sem, n0, n1]) rfl ?_
            exact ⟨_, rfl, Kd.R_nil _ _ _ _ _, HNB.out⟩
          | true =>
            obtain ⟨dk, hd⟩ : ∃ dk, diagramOk ev (rdRows ws) = dk := ⟨_, rfl⟩
            have hrd := Kd.R_reads' (ev_ ▸ HR.out)
            have hcall := impl_ValidDiagram.calls ev Av cv (rdRows ws) dk wr hrd.2.2 hrd.2.1 (by unfold impl_ValidDiagram.f; rw [hd])
            obtain ⟨L, hL⟩ : ∃ L, (rdRows ws).length = L := ⟨_, rfl⟩
            rw [hL] at ev_ hcall
            subst ev_
            have HCL := Aside0.mk hcall
            have HD := Aside0.mk hd
            clear hL hrd hcall hd z0 z1 x0 x1 y0 y1
            have z0 := blk_cell HG.out 0
            have z1 := blk_cell HG.out 1
            cases dk with
            | false =>
              rw [if_neg (fun q => by rw [HD.out] at q; cases q.2.2)] at hf
              injection hf with e1 hf
              injection hf with e2 e3
              subst e1
              subst e2
              subst e3
              clear HF
              go_wp2_with (go_at_call 15; refine HCL.out.mono ?_; rintro e w7 ⟨rfl, hb⟩; have HB7 := Aside0.mk (below_step HB.out hb); have HX7 := Aside0.mk (blk_below HXW.out hb); clear hb z0 z1; have x0 := blk_cell HX7.out 0; have x1 := blk_cell HX7.out 1; have y0 := blk_frozen HX7.out 0; have y1 := blk_frozen HX7.out 1)
              all_goals
                clear x0 x1 y0 y1
                have HN : Aside0 (((w7.setCell ⟨g2, 0, none⟩ (.int .i64 0)).setCell ⟨g2, 1, none⟩ (.slice none 0 0)).heap[g2]? = some (.cells #[.int .i64 0, .slice none 0 0] 26 (0, 0))) := ⟨blk_put (blk_put HX7.out 0 (.int .i64 0) rfl) 1 (.slice none 0 0) rfl⟩
                have HNB : Aside0 (Below w.heap.size w ((w7.setCell ⟨g2, 0, none⟩ (.int .i64 0)).setCell ⟨g2, 1, none⟩ (.slice none 0 0))) := ⟨below_set (below_set HB7.out HG2.out) HG2.out⟩
                generalize (w7.setCell ⟨g2, 0, none⟩ (.int .i64 0)).setCell ⟨g2, 1, none⟩ (.slice none 0 0) = wz at HN HNB ⊢
                have n0 := blk_cell HN.out 0
                have n1 := blk_cell HN.out 1
                refine bodyPost_ret (v := .tuple #[.agg #[.int .i64 0, .slice none 0 0], .bool false]) (by simp [results, Tryd.f10, go_sem, n0, n1]) rfl ?_
                exact ⟨_, rfl, Kd.R_nil _ _ _ _ _, HNB.out⟩
            | true =>
              rw [if_pos (by have := HOO.out; simp at this; exact ⟨this.1, this.2, HD.out⟩)] at hf
              injection hf with e1 hf
              injection hf with e2 e3
              subst e1
              subst e2
              subst e3
              clear HF
              go_wp2_with (go_at_call 15; refine HCL.out.mono ?_; rintro e w7 ⟨rfl, hb⟩; have HB7 := Aside0.mk (below_step HB.out hb); have HX7 := Aside0.mk (blk_below HXW.out hb); have HG7 := Aside0.mk (blk_below HG.out hb); have HR7 := Aside0.mk (Kd.R_below HR.out hb); clear hb z0 z1; have z0 := blk_cell HG7.out 0; have z1 := blk_cell HG7.out 1; have x0 := blk_cell HX7.out 0; have x1 := blk_cell HX7.out 1; have y0 := blk_frozen HX7.out 0; have y1 := blk_frozen HX7.out 1)
              all_goals
                clear x0 x1 y0 y1
                have HN : Aside0 (((w7.setCell ⟨g2, 0, none⟩ (.int .i64 ev)).setCell ⟨g2, 1, none⟩ (.slice Av L cv)).heap[g2]? = some (.cells #[.int .i64 ev, .slice Av L cv] 26 (0, 0))) := ⟨blk_put (blk_put HX7.out 0 (.int .i64 ev) rfl) 1 (.slice Av L cv) rfl⟩
                have HNB : Aside0 (Below w.heap.size w ((w7.setCell ⟨g2, 0, none⟩ (.int .i64 ev)).setCell ⟨g2, 1, none⟩ (.slice Av L cv))) := ⟨below_set (below_set HB7.out HG2.out) HG2.out⟩
                have HRZ : Aside0 (Kd.R k39 39 ((w7.setCell ⟨g2, 0, none⟩ (.int .i64 ev)).setCell ⟨g2, 1, none⟩ (.slice Av L cv)) w.heap.size (fun _ => True) (.slice Av L cv) (rdRows ws)) := ⟨Kd.R_set (Kd.R_set HR7.out HX7.out (by intro q hq; have hq : q ∈ [39] := hq; simp at hq; omega) 0 _) (blk_put HX7.out 0 (.int .i64 ev) rfl) (by intro q hq; have hq : q ∈ [39] := hq; simp at hq; omega) 1 _⟩
                generalize (w7.setCell ⟨g2, 0, none⟩ (.int .i64 ev)).setCell ⟨g2, 1, none⟩ (.slice Av L cv) = wz at HN HNB HRZ ⊢
                have n0 := blk_cell HN.out 0
                have n1 := blk_cell HN.out 1
                refine bodyPost_ret (v := .tuple #[.agg #[.int .i64 ev, .slice Av L cv], .bool true]) (by simp [results, Tryd.f10, go_sem, n0, n1]) rfl ?_
                exact ⟨_, rfl, HRZ.out, HNB.out⟩

end Go.Proofs.YtbgokpobaemibaaDoor.Pa

namespace Go.Proofs.YtbgokpobaemibaaDoor.Pa
open Go.RowKit Go.Proofs.YtbgokpobaemibaaDoorW.PrintWords Go.Proofs.YtbgokpobaemibaaDoorW.PrintLast Go.Proofs.YtbgokpobaemibaaDoorW.PrintMore
attribute [local go_sem] max2_int min2_int max_two min_two max_three min_three max_four min_four   -- for this text's walks alone
set_option linter.unusedVariables false
set_option linter.unusedSimpArgs false

/-! ### spec_ReadDiagram: function 16 -/
def spec_ReadDiagram.T11 : Bool × List (List Nat × List Nat) := (true, [([], []), ([0], [0]), ([], []), ([2], [2]), ([3], [3]), ([4], [4]), ([], []), ([6], [6]), ([7], [7]), ([8, 5], [8]), ([], []), ([10], [10]), ([11], [11]), ([12, 9], [12]), ([5, 9, 13], [5, 9, 13]), ([14], [14]), ([1, 15, 13], [1, 15]), ([0, 1, 2, 3, 4, 5, 6, 7, 8, 9, 10, 11, 12, 13, 14, 15, 16], []), ([17, 16, 16, 0, 1, 2, 3, 4, 5, 6, 7, 8, 9, 10, 11, 12, 13, 14, 15, 16], [16, 17])])
def spec_ReadDiagram.B11 : List Nat := [0, 1, 0, 4, 12, 28, 0, 64, 192, 508, 0, 1024, 3072, 8188, 16380, 32764, 65535, 131071, 262143]
theorem spec_ReadDiagram.tab11 : rtab .any (opsOf Tryd.f16 11) = spec_ReadDiagram.T11 := by kernel_rfl
theorem spec_ReadDiagram.bits11 : waitsOk spec_ReadDiagram.T11.2 spec_ReadDiagram.B11 = true := by kernel_rfl
/-- A text's words, three at the least. -/
def pad3 (l : List ByteArray) : List ByteArray := l ++ List.replicate (3 - l.length) ByteArray.empty
theorem pad3_len (l : List ByteArray) : 3 ≤ (pad3 l).length := by unfold pad3; simp; omega
theorem pad3_more (l : List ByteArray) (h : l.length < 3) : pad3 (l ++ [⟨#[]⟩]) = pad3 l := by
 unfold pad3
 rw [List.length_append, List.length_singleton, List.append_assoc, show 3 - l.length = (3 - (l.length + 1)) + 1 by omega, List.replicate_succ]
 rfl
theorem pad3_full (l : List ByteArray) (h : ¬ l.length < 3) : pad3 l = l := by
 unfold pad3
 rw [show 3 - l.length = 0 by omega]
 simp
def specRow (x : ByteArray) : S39 := ⟨Pure.numS ((pad3 (wordsB 46 x)).getD 0 ByteArray.empty), Pure.numS ((pad3 (wordsB 46 x)).getD 1 ByteArray.empty), Pure.numS ((pad3 (wordsB 46 x)).getD 2 ByteArray.empty)⟩
def specRows (ws : List ByteArray) : List S39 := ws.map specRow
def specReadF (k : Nat) (s : ByteArray) : Option (Int × List S39 × Bool) := if 500 < s.size then some (0, [], false) else match wordsB 44 s with
 | [] => none
 | x :: ws => if diagramOkS (Pure.numS x) (specRows ws) = true then (spec_l04Text.f k (Pure.numS x) (specRows ws)).bind fun t => if t.1 = s then some (Pure.numS x, specRows ws, true) else some (0, [], false) else some (0, [], false)
def spec_ReadDiagram.f (s : ByteArray) : Option (Int × List S39 × Bool) := if s.size ≤ 2000000 then specReadF 3000 s else none
set_option maxHeartbeats 16000000 in
set_option maxRecDepth 100000 in
theorem spec_ReadDiagram.calls (s : ByteArray) (r1 : Int) (r2 : List S39) (r3 : Bool) (w : World) (h : spec_ReadDiagram.f s = some (r1, r2, r3)) :
  Calls Tryd.prog 16 #[.string s] w fun e w' => ∃ v1_ : Value, e = .returned (.tuple #[.agg #[.int .i64 r1, v1_], .bool r3]) ∧ Kd.R k39 39 w' w.heap.size (fun _ => True) v1_ r2 ∧ Below w.heap.size w w' := by
 have hu := Tryd.underlying26
 have hu2 := Tryd.underlying39
 have hu3 := Tryd.underlying55
 have hu4 := Tryd.underlying24
 unfold spec_ReadDiagram.f at h
 by_cases hs : s.size ≤ 2000000
 case neg => rw [if_neg hs] at h; cases h
 rw [if_pos hs] at h
 unfold specReadF at h
 have HS := Aside0.mk hs
 by_cases h5 : 500 < s.size
 ·rw [if_pos h5] at h
  injection h with h
  injection h with e1 h
  injection h with e2 e3
  subst e1
  subst e2
  subst e3
  have t5 : decide ((s.size : Int) > 500) = true := decide_eq_true (by omega)
  clear hs h5
  go_enter Tryd.func16, Tryd.ntmps16
  go_wp2_with (first | ((with_reducible refine gate_dst (N := 2) rfl ?_); refine box_event ?hg (N := 2) ?hd (cs := #[.int .i64 0, .slice none 0 0]) (t := 26) ?hr ?_; (case hd => rfl); (case hg => rfl); (case hr => first | (go_simp; done) | (go_simp; rfl)); intro g2 hg_ w1 hbox_ hb_; have HX_g2 := Aside0.mk hbox_; have HB_w1 := Aside0.mk hb_; have HG_g2 := Aside0.mk hg_; clear hbox_ hb_ hg_; have x0 := blk_cell HX_g2.out 0; have x1 := blk_cell HX_g2.out 1; have y0 := blk_frozen HX_g2.out 0; have y1 := blk_frozen HX_g2.out 1))
  clear x0 x1 y0 y1
  have HG2 : Aside0 (w.heap.size ≤ g2) := ⟨by rw [HG_g2.out]; exact Nat.le_refl _⟩
  have HN : Aside0 (((w1.setCell ⟨g2, 0, none⟩ (.int .i64 0)).setCell ⟨g2, 1, none⟩ (.slice none 0 0)).heap[g2]? = some (.cells #[.int .i64 0, .slice none 0 0] 26 (0, 0))) := ⟨blk_put (blk_put HX_g2.out 0 (.int .i64 0) rfl) 1 (.slice none 0 0) rfl⟩
  have HNB : Aside0 (Below w.heap.size w ((w1.setCell ⟨g2, 0, none⟩ (.int .i64 0)).setCell ⟨g2, 1, none⟩ (.slice none 0 0))) := ⟨below_set (below_set HB_w1.out HG2.out) HG2.out⟩
  generalize (w1.setCell ⟨g2, 0, none⟩ (.int .i64 0)).setCell ⟨g2, 1, none⟩ (.slice none 0 0) = wz at HN HNB ⊢
  have n0 := blk_cell HN.out 0
  have n1 := blk_cell HN.out 1
  refine bodyPost_ret (v := .tuple #[.agg #[.int .i64 0, .slice none 0 0], .bool false]) (by simp [results, Tryd.f16, go_sem, n0, n1]) rfl ?_
  exact ⟨_, rfl, Kd.R_nil _ _ _ _ _, HNB.out⟩
 rw [if_neg h5] at h
 have t5 : decide ((s.size : Int) > 500) = false := decide_eq_false (by omega)
 have HNN : Aside0 (wordsB 44 s ≠ []) := ⟨by
  have hlen : (wordsB 44 s).length = Lib.countB s ⟨#[44]⟩ + 1 := Lib.splitB_all ⟨#[44]⟩ (Nat.le_refl 1) 0 _ s rfl
  intro q
  rw [q] at hlen
  simp at hlen⟩
 have HCUT : Aside0 (∀ t : ByteArray, t.size ≤ 2000000 → ∀ w1, Calls Tryd.prog 32 #[.string t, .int .u8 46] w1 fun e w' => ∃ v0_ : Value, e = .returned (v0_) ∧ Kd.R Kd.string 9 w' w1.heap.size (fun _ => True) v0_ (wordsB 46 t) ∧ Below w1.heap.size w1 w') := ⟨fun t ht w1 => spec_l01Cut.calls (t.size + 2) t 46 _ w1 (Pure.cut_tells t 46 ht _ (by omega))⟩
 have HCS : Aside0 (∀ w1, Calls Tryd.prog 32 #[.string s, .int .u8 44] w1 fun e w' => ∃ v0_ : Value, e = .returned (v0_) ∧ Kd.R Kd.string 9 w' w1.heap.size (fun _ => True) v0_ (wordsB 44 s) ∧ Below w1.heap.size w1 w') := ⟨fun w1 => spec_l01Cut.calls (s.size + 2) s 44 _ w1 (Pure.cut_tells s 44 hs _ (by omega))⟩
 have HZ : Aside0 (∀ x ∈ wordsB 44 s, x.size ≤ 2000000) := ⟨fun x hx => by have := wordsB_size hx; omega⟩
 have HM : Aside0 ((wordsB 44 s).length ≤ 2000001) := ⟨by
  have hlen : (wordsB 44 s).length = Lib.countB s ⟨#[44]⟩ + 1 := Lib.splitB_all ⟨#[44]⟩ (Nat.le_refl 1) 0 _ s rfl
  have := Lib.countB_le ⟨#[44]⟩ (Nat.le_refl 1) s.size s (Nat.le_refl _)
  omega⟩
 clear hs h5
 generalize wordsB 44 s = wl at h HZ HM HNN HCS
 cases wl with
 | nil => exact absurd rfl HNN.out
 | cons x ws =>
  dsimp only at h
  have HF := Aside0.mk h
  have HY : Aside0 (∀ y ∈ ws, y.size ≤ 2000000) := ⟨fun y hy => HZ.out y (List.mem_cons_of_mem _ hy)⟩
  obtain ⟨m, hm⟩ : ∃ m, ws.length = m := ⟨_, rfl⟩
  have HMM : Aside0 (ws.length = m ∧ m ≤ 2000000) := ⟨hm, by have := HM.out; simp at this; omega⟩
  clear h HZ HM HNN hm
  go_enter Tryd.func16, Tryd.ntmps16
  go_wp2_with (first | ((with_reducible refine gate_dst (N := 2) rfl ?_); refine box_event ?hg (N := 2) ?hd (cs := #[.int .i64 0, .slice none 0 0]) (t := 26) ?hr ?_; (case hd => rfl); (case hg => rfl); (case hr => first | (go_simp; done) | (go_simp; rfl)); intro g2 hg_ w1 hbox_ hb_; have HX_g2 := Aside0.mk hbox_; have HB_w1 := Aside0.mk hb_; have HG_g2 := Aside0.mk hg_; clear hbox_ hb_ hg_) | (go_at_call 32; go_loud (refine (HCS.out w1).mono ?_; rintro e wp ⟨vp, rfl, hp, hb⟩; obtain ⟨Ap, cp, ep⟩ := Kd.R_slice hp; have hpr := Kd.R_reads' (ep ▸ hp); obtain ⟨ad4, ea, k0'⟩ := Kd.at_string hpr.2.2 0 (by omega) (by simp); have k0 : wp.cell? ad4 = some (.string x) := k0'; clear k0'; have HPC := Aside0.mk hpr.2.2; have HB2 := Aside0.mk (below_step HB_w1.out hb); have HX2 := Aside0.mk (blk_below HX_g2.out hb); rw [List.length_cons, HMM.out.1] at ep; subst ep; subst ea; clear hp hpr hb HB_w1)) | (go_at_call 33; refine (spec_l04Number.calls 201 x (Pure.numS x) wp (Pure.numS_at x)).mono ?_; rintro e w3 ⟨rfl, hb⟩; have HBP := Aside0.mk hb; clear hb k0) | ((with_reducible refine gate_dst (N := 18) rfl ?_); refine Kd.R_lit k39 _ 39 ?hg (N := 18) ?hd (xs := ([] : List S39)) (inner := []) (ok := fun _ => True) (okp := fun _ => True) ?hr ?hp (fun _ hk => hk) trivial (Below.refl _ _) (Nat.le_refl _) (by simp) ?_; (case hd => rfl); (case hg => rfl); (case hr => first | (go_simp; done) | (go_simp; rfl)); (case hp => exact (Reps.none _ _)); intro v0 w4 ho4 hb hg_ hnew_; clear hg_ hnew_; obtain ⟨A0, c0, e0⟩ := Kd.R_slice ho4; subst e0; have HR4 := Aside0.mk (Kd.R_lower ho4 (below_size HBP.out)); have HB4 := Aside0.mk (below_step HBP.out hb); clear ho4 hb))

  all_goals
   obtain ⟨g7, hg7⟩ : ∃ g7, w4.heap.size = g7 := ⟨_, rfl⟩
   have KG : Aside0 ((w4.alloc (.cells #[.int .i64 (Pure.numS x), .slice A0 0 c0] 26)).heap[g7]? = some (.cells #[.int .i64 (Pure.numS x), .slice A0 0 c0] 26 (0, 0))) := ⟨by rw [← hg7]; exact blk_new w4 _⟩
   have HGP : Aside0 (wp.heap.size ≤ g7) := ⟨by rw [← hg7]; exact below_size HB4.out⟩
   have KB : Aside0 (Below wp.heap.size wp (w4.alloc (.cells #[.int .i64 (Pure.numS x), .slice A0 0 c0] 26))) := ⟨below_alloc HB4.out _⟩
   have KR : Aside0 (Kd.R k39 39 (w4.alloc (.cells #[.int .i64 (Pure.numS x), .slice A0 0 c0] 26)) wp.heap.size (fun _ => True) (.slice A0 0 c0) []) := ⟨Kd.R_below HR4.out (below_alloc (Below.refl _ _) _)⟩
   have HG2 : Aside0 (w.heap.size ≤ g2) := ⟨by rw [HG_g2.out]; exact Nat.le_refl _⟩
   rw [hg7]
   generalize w4.alloc (.cells #[.int .i64 (Pure.numS x), .slice A0 0 c0] 26) = w5 at KG KB KR ⊢
   clear hg7 HR4 HB4 HBP HG_g2 HX_g2 HCS
   go_loopg [6] (m + 1) (fun kq v6 w' => ∃ (i : Nat) (v : Value), v6 = .int .i64 ((i + 1 : Nat) : Int) ∧ Aside0 (i ≤ m ∧ i + kq = m + 1) ∧ Aside0 (w'.heap[g7]? = some (.cells #[.int .i64 (Pure.numS x), v] 26 (0, 0))) ∧ Aside0 (Kd.R k39 39 w' wp.heap.size (fun _ => True) v (specRows (ws.take i))) ∧ Aside0 (Below wp.heap.size wp w'))
   case' atStart => exact ⟨0, .slice A0 0 c0, rfl, ⟨by omega, by omega⟩, KG, KR, KB⟩
   case' round =>
    obtain ⟨i, v, rfl, HI, KG1, KR1, KB1⟩ := hrel
    clear KG KR KB
    by_cases hi : i < m
    ·obtain ⟨y, hy⟩ : ∃ y, ws[i]? = some y := ⟨_, List.getElem?_eq_getElem (by have := HMM.out; omega)⟩
     have HROW : Aside0 (specRows (ws.take (i + 1)) = specRows (ws.take i) ++ [specRow y]) := ⟨by unfold specRows; rw [List.take_add_one, hy, List.map_append]; simp⟩
     have HYS : Aside0 (y.size ≤ 2000000) := ⟨HY.out y (List.mem_of_getElem? hy)⟩
     obtain ⟨ad4', ea, kc'⟩ := Kd.at_string HPC.out ((i + 1 : Nat) : Int) (by omega) (by have := HMM.out; simp; omega)
     cases ea
     have kc : wr.cell? (ad4.add (i + 1)) = some (.string y) := by
      refine (pw_cell_below KB1.out kc').trans ?_
      congr 2
      unfold rdOf
      rw [Int.toNat_natCast, List.getD_eq_getElem?_getD, List.getElem?_cons_succ, hy]
      rfl
     have HI2 := Aside0.mk hi
     have hiw : wrap64 (((i + 1 : Nat) : Int) + 1) = ((i + 1 + 1 : Nat) : Int) := by have := HMM.out; unfold wrap64; omega
     have HIW := Aside0.mk hiw
     obtain ⟨j, hj⟩ : ∃ j, i + 1 = j := ⟨_, rfl⟩
     have HJ := Aside0.mk hj
     have tj : decide ((j : Int) < (m : Int) + 1) = true := decide_eq_true (by omega)
     have tj0 : ((0 : Int) ≤ (j : Int)) = True := eq_true (by omega)
     have tj1 : ((j : Int) < (m : Int) + 1) = True := eq_true (by omega)
     rw [hj] at kc ⊢
     clear hy hiw kc' hj hi
     go_wp2_with (first | (go_at_call 32; refine (HCUT.out y HYS.out wr).mono ?_; rintro e wc ⟨vl, rfl, hl, hb⟩; have KG2 := Aside0.mk (blk_below KG1.out hb); have KR2 := Aside0.mk (Kd.R_below KR1.out hb); have KB2 := Aside0.mk (below_step KB1.out hb); have KL2 := Aside0.mk (Kd.R_lower hl (below_size KB1.out)); clear hl hb kc))
     all_goals
      go_loopg [7] 4 (fun kq v7 w' => ∃ (l : List ByteArray), Aside0 (pad3 l = pad3 (wordsB 46 y) ∧ 3 < l.length + kq ∧ l.length ≤ 2000003) ∧ Aside0 (Kd.R Kd.string 9 w' wp.heap.size (fun _ => True) v7 l) ∧ Aside0 (w'.heap[g7]? = some (.cells #[.int .i64 (Pure.numS x), v] 26 (0, 0))) ∧ Aside0 (Kd.R k39 39 w' wp.heap.size (fun _ => True) v (specRows (ws.take i))) ∧ Aside0 (Below wp.heap.size wp w'))
      case' atStart => exact ⟨wordsB 46 y, ⟨rfl, by omega, by
       have hlen : (wordsB 46 y).length = Lib.countB y ⟨#[46]⟩ + 1 := Lib.splitB_all ⟨#[46]⟩ (Nat.le_refl 1) 0 _ y rfl
       have := Lib.countB_le ⟨#[46]⟩ (Nat.le_refl 1) y.size y (Nat.le_refl _)
       have := HYS.out
       omega⟩, KL2, KG2, KR2, KB2⟩
      case' round =>
       obtain ⟨l, HL, KL3, KG3, KR3, KB3⟩ := hrel
       clear KL2 KG2 KR2 KB2 KG1 KR1 KB1
       obtain ⟨A7, c7, e7⟩ := Kd.R_slice KL3.out
       subst e7
       by_cases hl3 : l.length < 3
       ·have HL3 := Aside0.mk hl3
        have tl : decide ((l.length : Int) < 3) = true := decide_eq_true (by omega)
        have tl1 : (l.length < 3) = True := eq_true hl3
        clear hl3
        go_wp2_with (first | ((with_reducible refine gate_builtin (b := .append) (xs := #[.tmp 34, .tmp 35]) rfl ?_); at_builtin; refine Kd.R_append Kd.string (w0 := wp) wp.heap.size rfl (.tmp 34) (.tmp 35) 55 9 (.string ⟨#[]⟩) 16 rfl Tryd.underlying55 info9 rfl (by decide) (by omega) (.slice A7 l.length c7) l (⟨#[]⟩ : ByteArray) [.string ⟨#[]⟩] (fun _ => True) (fun _ => False) rfl rfl rfl (fun _ hk => hk.elim) (fun _ _ => trivial) KL3.out KB3.out (below_size KB3.out) (by have := HL3.out; omega) ?_; intro v7' wa ho hb hg hat; have KL4 := Aside0.mk ho; have KB4 := Aside0.mk hb; have KR4 := Aside0.mk (Kd.R_over' KR3.out (Kd.R_typed KL3.out) (by decide) hg); have KG4 := Aside0.mk (blk_grown KG3.out hg (Kd.R_ne KL3.out KG3.out (by decide))); clear ho hb hg hat))
        go_roundg (3 - l.length)
        case' measure => have := HL.out; have := HL3.out; omega
        case' rel => exact ⟨l ++ [⟨#[]⟩], ⟨by rw [pad3_more l HL3.out]; exact HL.out.1, by have := HL.out; have := HL3.out; simp; omega, by have := HL3.out; simp; omega⟩, KL4, KG4, KR4, KB4⟩
       ·obtain ⟨y0, y1, y2, t, rfl⟩ : ∃ y0 y1 y2 t, l = y0 :: y1 :: y2 :: t := by
         match l, hl3 with
         | y0 :: y1 :: y2 :: t, _ => exact ⟨y0, y1, y2, t, rfl⟩
         | [], h => exact absurd (by simp) h
         | [_], h => exact absurd (by simp) h
         | [_, _], h => exact absurd (by simp) h
        have HSR : Aside0 (specRow y = (⟨Pure.numS y0, Pure.numS y1, Pure.numS y2⟩ : S39)) := ⟨by unfold specRow; rw [← HL.out.1, pad3_full _ hl3]; rfl⟩
        have HLEN : Aside0 (((specRows (ws.take i)).length + 1) * 24 ≤ 140737488355328) := ⟨by have := HMM.out; have := HI2.out; unfold specRows; rw [List.length_map, List.length_take]; omega⟩
        have LEN := HLEN
        have hd := Kd.R_reads' (Kd.R_drew KL3.out)
        obtain ⟨ad, ea, q0'⟩ := Kd.at_string hd.2.2 0 (by omega) (by simp; omega)
        cases ea
        obtain ⟨ad_, ea, q1'⟩ := Kd.at_string hd.2.2 1 (by omega) (by simp; omega)
        cases ea
        obtain ⟨ad_, ea, q2'⟩ := Kd.at_string hd.2.2 2 (by omega) (by simp; omega)
        cases ea
        have Y0 : Aside0 (wr.drew.cell? ad = some (.string y0)) := ⟨q0'⟩
        have Y1 : Aside0 (wr.drew.cell? (ad.add 1) = some (.string y1)) := ⟨q1'⟩
        have Y2 : Aside0 (wr.drew.cell? (ad.add 2) = some (.string y2)) := ⟨q2'⟩
        have KR := Aside0.mk (Kd.R_drew KR3.out)
        have KB := Aside0.mk (below_drew1 KB3.out)
        have KG := Aside0.mk (blk_drew KG3.out)
        have WB : Aside0 (Below wr.drew.heap.size wr.drew wr.drew) := ⟨Below.refl _ _⟩
        have C1 : Aside0 (wr.drew.cell? ⟨g7, 1, none⟩ = some v) := ⟨(blk_cell KG.out 1).trans rfl⟩
        obtain ⟨m3, hm3⟩ : ∃ m3, t.length = m3 := ⟨_, rfl⟩
        have e3 : (y0 :: y1 :: y2 :: t).length = m3 + 3 := by simp [hm3]
        rw [e3] at KL3 ⊢
        have tl : decide (((m3 + 3 : Nat) : Int) < 3) = false := decide_eq_false (by omega)
        have tl1 : (m3 + 3 < 3) = False := eq_false (by omega)
        clear hd q0' q1' q2' hl3 hm3 e3 KR3 KB3 KG3 KL3 HL
        go_wp2
        refine start_ (n := 19) (S := fun w' => True) (ds := []) #[false, false, false, false, false, false, false, false, false, false, false, false, false, false, false, false, false, false, false] (by kernel_rfl) rfl rfl trivial (fun hHeld => ?_)
        refine with_tabW spec_ReadDiagram.tab11 spec_ReadDiagram.bits11 (fun HT_ HW_ => ?_)
        generalize wr.drew = wk at KR KB KG C1 WB Y0 Y1 Y2 hHeld ⊢
        refine pure_ (i := 0) (N := some 37) (v := ?_) (a' := ?_) #[true, false, false, false, false, false, false, false, false, false, false, false, false, false, false, false, false, false, false] rfl rfl (any_of HT_.out (by kernel_rfl)) (fun _ _ _ h => h) (Or.inl ⟨by rfl, ?_⟩) ?_ ?_
        rotate_left
        ·intro w'
         go_simp
         with_reducible rfl
        rotate_left
        ·simp only [Act.put, List.setIfInBounds_toArray, List.set_cons_zero, List.set_cons_succ, i64_w, i32_w]
         rfl
        refine pure_ (i := 2) (N := some 39) (v := ?_) (a' := ?_) #[true, false, true, false, false, false, false, false, false, false, false, false, false, false, false, false, false, false, false] rfl rfl (any_of HT_.out (by kernel_rfl)) (fun _ _ _ h => h) (Or.inl ⟨by rfl, ?_⟩) ?_ ?_
        rotate_left
        ·intro w'
         go_simp
         with_reducible rfl
        rotate_left
        ·simp only [Act.put, List.setIfInBounds_toArray, List.set_cons_zero, List.set_cons_succ, i64_w, i32_w]
         rfl
        refine pure_ (i := 6) (N := some 43) (v := ?_) (a' := ?_) #[true, false, true, false, false, false, true, false, false, false, false, false, false, false, false, false, false, false, false] rfl rfl (any_of HT_.out (by kernel_rfl)) (fun _ _ _ h => h) (Or.inl ⟨by rfl, ?_⟩) ?_ ?_
        rotate_left
        ·intro w'
         go_simp
         with_reducible rfl
        rotate_left
        ·simp only [Act.put, List.setIfInBounds_toArray, List.set_cons_zero, List.set_cons_succ, i64_w, i32_w]
         rfl
        refine pure_ (i := 10) (N := some 47) (v := ?_) (a' := ?_) #[true, false, true, false, false, false, true, false, false, false, true, false, false, false, false, false, false, false, false] rfl rfl (any_of HT_.out (by kernel_rfl)) (fun _ _ _ h => h) (Or.inl ⟨by rfl, ?_⟩) ?_ ?_
        rotate_left
        ·intro w'
         go_simp
         with_reducible rfl
        rotate_left
        ·simp only [Act.put, List.setIfInBounds_toArray, List.set_cons_zero, List.set_cons_succ, i64_w, i32_w]
         rfl
        refine inv_at [1, 3, 4, 5, 7, 8, 9, 11, 12, 13, 14, 15, 16, 17, 18] (fun a0_ b a w' => ∃ (W5 : World) (A6 : Option Addr) (n6 : Nat) (c6 : Nat) (m15_ : Value) (m16_ : Value), a = putSel a0_ b [(1, 38, v), (3, 40, .pointer (some ad)), (4, 41, .string y0), (5, 42, .int .i64 (Pure.numS y0)), (7, 44, .pointer (some (ad.add 1))), (8, 45, .string y1), (9, 46, .int .i64 (Pure.numS y1)), (11, 48, .pointer (some (ad.add 2))), (12, 49, .string y2), (13, 50, .int .i64 (Pure.numS y2)), (14, 51, .agg #[.int .i64 (Pure.numS y0), .int .i64 (Pure.numS y1), .int .i64 (Pure.numS y2)]), (15, 52, m15_), (16, 53, m16_), (17, 54, .pointer (some ⟨g7, 1, none⟩))] ∧ (b 15 = false → Below wk.heap.size wk w') ∧ (b 16 = false → w'.cell? ⟨g7, 1, none⟩ = some v) ∧ (b 15 = true → b 16 = false → w' = W5.alloc (.cells #[.int .i64 (Pure.numS y0), .int .i64 (Pure.numS y1), .int .i64 (Pure.numS y2)] 39)) ∧ (b 15 = true → Below wk.heap.size wk W5) ∧ (b 16 = true → b 18 = false → Below wp.heap.size wp w') ∧ (b 16 = true → b 18 = false → Kd.R k39 39 w' wp.heap.size (fun _ => True) (.slice A6 n6 c6) (specRows (ws.take i) ++ [(⟨Pure.numS y0, Pure.numS y1, Pure.numS y2⟩ : S39)])) ∧ (b 16 = true → b 18 = false → w'.heap[g7]? = some (.cells #[.int .i64 (Pure.numS x), v] 26 (0, 0))) ∧ (b 18 = true → Below wp.heap.size wp w') ∧ (b 18 = true → Kd.R k39 39 w' wp.heap.size (fun _ => True) (.slice A6 n6 c6) (specRows (ws.take i) ++ [(⟨Pure.numS y0, Pure.numS y1, Pure.numS y2⟩ : S39)])) ∧ (b 18 = true → w'.heap[g7]? = some (.cells #[.int .i64 (Pure.numS x), .slice A6 n6 c6] 26 (0, 0))) ∧ (b 15 = true → (m15_ : Value) = .slice (some ⟨W5.heap.size, 0, none⟩) 1 1) ∧ (b 16 = true → (m16_ : Value) = .slice A6 n6 c6)) HT_.out HW_.out (by kernel_rfl) (by kernel_rfl) ?_ ?_ ?_
        ·exact ⟨wk, none, 0, 0, .bool false, .bool false, by simp only [putSel, Bool.false_eq_true, if_false], fun _ => WB.out, fun _ => C1.out, fun h_ => absurd h_ (by decide), fun h_ => absurd h_ (by decide), fun h_ => absurd h_ (by decide), fun h_ => absurd h_ (by decide), fun h_ => absurd h_ (by decide), fun h_ => absurd h_ (by decide), fun h_ => absurd h_ (by decide), fun h_ => absurd h_ (by decide), fun h_ => absurd h_ (by decide), fun h_ => absurd h_ (by decide)⟩
        ·skip
         clear C1 WB
         refine steps_cons ?_ ?_
         ·rintro b a w' ⟨W5, A6, n6, c6, m15_, m16_, ha, Q_WB, Q_C1, Q_A15, Q_B15, Q_B16, Q_R16, Q_G16, Q_B18, Q_R18, Q_G18, Q_X15_, Q_X16_⟩ hb_ hon hoff
          refine ⟨_, rfl, fun K hK => ?_⟩
          have e37 : a.tmps[37]? = some (.pointer (some ⟨g7, 1, none⟩)) := by rw [ha]; exact (putSel_off rfl).trans rfl
          replace ha := Aside0.mk ha
          have C1 := Aside0.mk (Q_C1 (hoff 16 (by kernel_rfl)))
          have hc_ := C1.out
          refine value_ (w1 := w') (v := v) (by rfl) rfl ?_ ?_
          ·go_simp
           (try simp only [i64_w])
           try rfl
          refine hK.out _ _ ⟨W5, A6, n6, c6, m15_, m16_, (by rw [ha.out]; exact putSel_upk 0 hb_ rfl rfl rfl), Q_WB, Q_C1, Q_A15, Q_B15, fun h0_ _ => absurd ((hoff 16 (by kernel_rfl)).symm.trans h0_) (by decide), fun h0_ _ => absurd ((hoff 16 (by kernel_rfl)).symm.trans h0_) (by decide), fun h0_ _ => absurd ((hoff 16 (by kernel_rfl)).symm.trans h0_) (by decide), fun h0_ => absurd ((hoff 18 (by kernel_rfl)).symm.trans h0_) (by decide), fun h0_ => absurd ((hoff 18 (by kernel_rfl)).symm.trans h0_) (by decide), fun h0_ => absurd ((hoff 18 (by kernel_rfl)).symm.trans h0_) (by decide), Q_X15_, fun h0_ => absurd ((hoff 16 (by kernel_rfl)).symm.trans h0_) (by decide)⟩
         refine steps_cons ?_ ?_
         ·rintro b a w' ⟨W5, A6, n6, c6, m15_, m16_, ha, Q_WB, Q_C1, Q_A15, Q_B15, Q_B16, Q_R16, Q_G16, Q_B18, Q_R18, Q_G18, Q_X15_, Q_X16_⟩ hb_ hon hoff
          refine ⟨_, rfl, fun K hK => ?_⟩
          have e39 : a.tmps[39]? = some (.slice (some ad) (m3 + 3) c7) := by rw [ha]; exact (putSel_off rfl).trans rfl
          replace ha := Aside0.mk ha
          have WB := Aside0.mk (Q_WB (hoff 15 (by kernel_rfl)))
          have C1 := Aside0.mk (Q_C1 (hoff 16 (by kernel_rfl)))
          have u_ : ((m3 : Int) + 3 ≤ 0) = False := eq_false (by omega)
          refine value_ (w1 := w') (v := .pointer (some ad)) (by rfl) rfl ?_ ?_
          ·go_simp
           (try simp only [i64_w])
           try rfl
          refine hK.out _ _ ⟨W5, A6, n6, c6, m15_, m16_, (by rw [ha.out]; exact putSel_upk 1 hb_ rfl rfl rfl), Q_WB, Q_C1, fun h0_ _ => absurd ((hoff 15 (by kernel_rfl)).symm.trans h0_) (by decide), fun h0_ => absurd ((hoff 15 (by kernel_rfl)).symm.trans h0_) (by decide), fun h0_ _ => absurd ((hoff 16 (by kernel_rfl)).symm.trans h0_) (by decide), fun h0_ _ => absurd ((hoff 16 (by kernel_rfl)).symm.trans h0_) (by decide), fun h0_ _ => absurd ((hoff 16 (by kernel_rfl)).symm.trans h0_) (by decide), fun h0_ => absurd ((hoff 18 (by kernel_rfl)).symm.trans h0_) (by decide), fun h0_ => absurd ((hoff 18 (by kernel_rfl)).symm.trans h0_) (by decide), fun h0_ => absurd ((hoff 18 (by kernel_rfl)).symm.trans h0_) (by decide), fun h0_ => absurd ((hoff 15 (by kernel_rfl)).symm.trans h0_) (by decide), fun h0_ => absurd ((hoff 16 (by kernel_rfl)).symm.trans h0_) (by decide)⟩
         refine steps_cons ?_ ?_
         ·rintro b a w' ⟨W5, A6, n6, c6, m15_, m16_, ha, Q_WB, Q_C1, Q_A15, Q_B15, Q_B16, Q_R16, Q_G16, Q_B18, Q_R18, Q_G18, Q_X15_, Q_X16_⟩ hb_ hon hoff
          refine ⟨_, rfl, fun K hK => ?_⟩
          have e40 : a.tmps[40]? = some (.pointer (some ad)) := by rw [ha]; exact putSel_on (e := (3, 40, .pointer (some ad))) 1 rfl rfl (hon 3 (by kernel_rfl)) rfl
          replace ha := Aside0.mk ha
          have WB := Aside0.mk (Q_WB (hoff 15 (by kernel_rfl)))
          have C1 := Aside0.mk (Q_C1 (hoff 16 (by kernel_rfl)))
          have hc_ : w'.cell? ad = some (.string y0) := pw_cell_below WB.out Y0.out
          (try simp [Addr.add] at hc_)
          refine value_ (w1 := w') (v := .string y0) (by rfl) rfl ?_ ?_
          ·go_simp
           (try simp only [i64_w])
           try rfl
          refine hK.out _ _ ⟨W5, A6, n6, c6, m15_, m16_, (by rw [ha.out]; exact putSel_upk 2 hb_ rfl rfl rfl), Q_WB, Q_C1, fun h0_ _ => absurd ((hoff 15 (by kernel_rfl)).symm.trans h0_) (by decide), fun h0_ => absurd ((hoff 15 (by kernel_rfl)).symm.trans h0_) (by decide), fun h0_ _ => absurd ((hoff 16 (by kernel_rfl)).symm.trans h0_) (by decide), fun h0_ _ => absurd ((hoff 16 (by kernel_rfl)).symm.trans h0_) (by decide), fun h0_ _ => absurd ((hoff 16 (by kernel_rfl)).symm.trans h0_) (by decide), fun h0_ => absurd ((hoff 18 (by kernel_rfl)).symm.trans h0_) (by decide), fun h0_ => absurd ((hoff 18 (by kernel_rfl)).symm.trans h0_) (by decide), fun h0_ => absurd ((hoff 18 (by kernel_rfl)).symm.trans h0_) (by decide), fun h0_ => absurd ((hoff 15 (by kernel_rfl)).symm.trans h0_) (by decide), fun h0_ => absurd ((hoff 16 (by kernel_rfl)).symm.trans h0_) (by decide)⟩
         refine steps_cons ?_ ?_
         ·rintro b a w' ⟨W5, A6, n6, c6, m15_, m16_, ha, Q_WB, Q_C1, Q_A15, Q_B15, Q_B16, Q_R16, Q_G16, Q_B18, Q_R18, Q_G18, Q_X15_, Q_X16_⟩ hb_ hon hoff
          refine ⟨_, rfl, fun K hK => ?_⟩
          have e41 : a.tmps[41]? = some (.string y0) := by rw [ha]; exact putSel_on (e := (4, 41, .string y0)) 2 rfl rfl (hon 4 (by kernel_rfl)) rfl
          replace ha := Aside0.mk ha
          have WB := Aside0.mk (Q_WB (hoff 15 (by kernel_rfl)))
          have C1 := Aside0.mk (Q_C1 (hoff 16 (by kernel_rfl)))
          refine goes_ Tryd.func33 (by kernel_rfl) rfl #[.string y0] (by rfl) rfl rfl (by first | (simp only [List.map_toArray, List.map_cons, List.map_nil, Act.eval, Array.getD_eq_getD_getElem?, Option.getD_some, e41]; done) | (simp only [List.map_toArray, List.map_cons, List.map_nil, Act.eval, Array.getD_eq_getD_getElem?, Option.getD_some, e41]; rfl)) ?_
          refine (spec_l04Number.calls 201 y0 (Pure.numS y0) w' (Pure.numS_at y0)).mono ?_
          rintro e w5 ⟨rfl, hb⟩
          refine ⟨_, rfl, ?_⟩
          refine hK.out _ _ ⟨W5, A6, n6, c6, m15_, m16_, (by rw [ha.out]; exact putSel_upk 3 hb_ rfl rfl rfl), fun _ => below_step WB.out hb, fun _ => pw_cell_below hb C1.out, fun h0_ _ => absurd ((hoff 15 (by kernel_rfl)).symm.trans h0_) (by decide), fun h0_ => absurd ((hoff 15 (by kernel_rfl)).symm.trans h0_) (by decide), fun h0_ _ => absurd ((hoff 16 (by kernel_rfl)).symm.trans h0_) (by decide), fun h0_ _ => absurd ((hoff 16 (by kernel_rfl)).symm.trans h0_) (by decide), fun h0_ _ => absurd ((hoff 16 (by kernel_rfl)).symm.trans h0_) (by decide), fun h0_ => absurd ((hoff 18 (by kernel_rfl)).symm.trans h0_) (by decide), fun h0_ => absurd ((hoff 18 (by kernel_rfl)).symm.trans h0_) (by decide), fun h0_ => absurd ((hoff 18 (by kernel_rfl)).symm.trans h0_) (by decide), fun h0_ => absurd ((hoff 15 (by kernel_rfl)).symm.trans h0_) (by decide), fun h0_ => absurd ((hoff 16 (by kernel_rfl)).symm.trans h0_) (by decide)⟩
         refine steps_cons ?_ ?_
         ·rintro b a w' ⟨W5, A6, n6, c6, m15_, m16_, ha, Q_WB, Q_C1, Q_A15, Q_B15, Q_B16, Q_R16, Q_G16, Q_B18, Q_R18, Q_G18, Q_X15_, Q_X16_⟩ hb_ hon hoff
          refine ⟨_, rfl, fun K hK => ?_⟩
          have e43 : a.tmps[43]? = some (.slice (some ad) (m3 + 3) c7) := by rw [ha]; exact (putSel_off rfl).trans rfl
          replace ha := Aside0.mk ha
          have WB := Aside0.mk (Q_WB (hoff 15 (by kernel_rfl)))
          have C1 := Aside0.mk (Q_C1 (hoff 16 (by kernel_rfl)))
          have u_ : ((m3 : Int) + 3 ≤ 1) = False := eq_false (by omega)
          refine value_ (w1 := w') (v := .pointer (some (ad.add 1))) (by rfl) rfl ?_ ?_
          ·go_simp
           (try simp only [i64_w])
           try rfl
          refine hK.out _ _ ⟨W5, A6, n6, c6, m15_, m16_, (by rw [ha.out]; exact putSel_upk 4 hb_ rfl rfl rfl), Q_WB, Q_C1, fun h0_ _ => absurd ((hoff 15 (by kernel_rfl)).symm.trans h0_) (by decide), fun h0_ => absurd ((hoff 15 (by kernel_rfl)).symm.trans h0_) (by decide), fun h0_ _ => absurd ((hoff 16 (by kernel_rfl)).symm.trans h0_) (by decide), fun h0_ _ => absurd ((hoff 16 (by kernel_rfl)).symm.trans h0_) (by decide), fun h0_ _ => absurd ((hoff 16 (by kernel_rfl)).symm.trans h0_) (by decide), fun h0_ => absurd ((hoff 18 (by kernel_rfl)).symm.trans h0_) (by decide), fun h0_ => absurd ((hoff 18 (by kernel_rfl)).symm.trans h0_) (by decide), fun h0_ => absurd ((hoff 18 (by kernel_rfl)).symm.trans h0_) (by decide), fun h0_ => absurd ((hoff 15 (by kernel_rfl)).symm.trans h0_) (by decide), fun h0_ => absurd ((hoff 16 (by kernel_rfl)).symm.trans h0_) (by decide)⟩
         refine steps_cons ?_ ?_
         ·rintro b a w' ⟨W5, A6, n6, c6, m15_, m16_, ha, Q_WB, Q_C1, Q_A15, Q_B15, Q_B16, Q_R16, Q_G16, Q_B18, Q_R18, Q_G18, Q_X15_, Q_X16_⟩ hb_ hon hoff
          refine ⟨_, rfl, fun K hK => ?_⟩
          have e44 : a.tmps[44]? = some (.pointer (some (ad.add 1))) := by rw [ha]; exact putSel_on (e := (7, 44, .pointer (some (ad.add 1)))) 4 rfl rfl (hon 7 (by kernel_rfl)) rfl
          replace ha := Aside0.mk ha
          have WB := Aside0.mk (Q_WB (hoff 15 (by kernel_rfl)))
          have C1 := Aside0.mk (Q_C1 (hoff 16 (by kernel_rfl)))
          have hc_ : w'.cell? (ad.add 1) = some (.string y1) := pw_cell_below WB.out Y1.out
          (try simp [Addr.add] at hc_)
          refine value_ (w1 := w') (v := .string y1) (by rfl) rfl ?_ ?_
          ·go_simp
           (try simp only [i64_w])
           try rfl
          refine hK.out _ _ ⟨W5, A6, n6, c6, m15_, m16_, (by rw [ha.out]; exact putSel_upk 5 hb_ rfl rfl rfl), Q_WB, Q_C1, fun h0_ _ => absurd ((hoff 15 (by kernel_rfl)).symm.trans h0_) (by decide), fun h0_ => absurd ((hoff 15 (by kernel_rfl)).symm.trans h0_) (by decide), fun h0_ _ => absurd ((hoff 16 (by kernel_rfl)).symm.trans h0_) (by decide), fun h0_ _ => absurd ((hoff 16 (by kernel_rfl)).symm.trans h0_) (by decide), fun h0_ _ => absurd ((hoff 16 (by kernel_rfl)).symm.trans h0_) (by decide), fun h0_ => absurd ((hoff 18 (by kernel_rfl)).symm.trans h0_) (by decide), fun h0_ => absurd ((hoff 18 (by kernel_rfl)).symm.trans h0_) (by decide), fun h0_ => absurd ((hoff 18 (by kernel_rfl)).symm.trans h0_) (by decide), fun h0_ => absurd ((hoff 15 (by kernel_rfl)).symm.trans h0_) (by decide), fun h0_ => absurd ((hoff 16 (by kernel_rfl)).symm.trans h0_) (by decide)⟩
         refine steps_cons ?_ ?_
         ·rintro b a w' ⟨W5, A6, n6, c6, m15_, m16_, ha, Q_WB, Q_C1, Q_A15, Q_B15, Q_B16, Q_R16, Q_G16, Q_B18, Q_R18, Q_G18, Q_X15_, Q_X16_⟩ hb_ hon hoff
          refine ⟨_, rfl, fun K hK => ?_⟩
          have e45 : a.tmps[45]? = some (.string y1) := by rw [ha]; exact putSel_on (e := (8, 45, .string y1)) 5 rfl rfl (hon 8 (by kernel_rfl)) rfl
          replace ha := Aside0.mk ha
          have WB := Aside0.mk (Q_WB (hoff 15 (by kernel_rfl)))
          have C1 := Aside0.mk (Q_C1 (hoff 16 (by kernel_rfl)))
          refine goes_ Tryd.func33 (by kernel_rfl) rfl #[.string y1] (by rfl) rfl rfl (by first | (simp only [List.map_toArray, List.map_cons, List.map_nil, Act.eval, Array.getD_eq_getD_getElem?, Option.getD_some, e45]; done) | (simp only [List.map_toArray, List.map_cons, List.map_nil, Act.eval, Array.getD_eq_getD_getElem?, Option.getD_some, e45]; rfl)) ?_
          refine (spec_l04Number.calls 201 y1 (Pure.numS y1) w' (Pure.numS_at y1)).mono ?_
          rintro e w5 ⟨rfl, hb⟩
          refine ⟨_, rfl, ?_⟩
          refine hK.out _ _ ⟨W5, A6, n6, c6, m15_, m16_, (by rw [ha.out]; exact putSel_upk 6 hb_ rfl rfl rfl), fun _ => below_step WB.out hb, fun _ => pw_cell_below hb C1.out, fun h0_ _ => absurd ((hoff 15 (by kernel_rfl)).symm.trans h0_) (by decide), fun h0_ => absurd ((hoff 15 (by kernel_rfl)).symm.trans h0_) (by decide), fun h0_ _ => absurd ((hoff 16 (by kernel_rfl)).symm.trans h0_) (by decide), fun h0_ _ => absurd ((hoff 16 (by kernel_rfl)).symm.trans h0_) (by decide), fun h0_ _ => absurd ((hoff 16 (by kernel_rfl)).symm.trans h0_) (by decide), fun h0_ => absurd ((hoff 18 (by kernel_rfl)).symm.trans h0_) (by decide), fun h0_ => absurd ((hoff 18 (by kernel_rfl)).symm.trans h0_) (by decide), fun h0_ => absurd ((hoff 18 (by kernel_rfl)).symm.trans h0_) (by decide), fun h0_ => absurd ((hoff 15 (by kernel_rfl)).symm.trans h0_) (by decide), fun h0_ => absurd ((hoff 16 (by kernel_rfl)).symm.trans h0_) (by decide)⟩
         refine steps_cons ?_ ?_
         ·rintro b a w' ⟨W5, A6, n6, c6, m15_, m16_, ha, Q_WB, Q_C1, Q_A15, Q_B15, Q_B16, Q_R16, Q_G16, Q_B18, Q_R18, Q_G18, Q_X15_, Q_X16_⟩ hb_ hon hoff
          refine ⟨_, rfl, fun K hK => ?_⟩
          have e47 : a.tmps[47]? = some (.slice (some ad) (m3 + 3) c7) := by rw [ha]; exact (putSel_off rfl).trans rfl
          replace ha := Aside0.mk ha
          have WB := Aside0.mk (Q_WB (hoff 15 (by kernel_rfl)))
          have C1 := Aside0.mk (Q_C1 (hoff 16 (by kernel_rfl)))
          have u_ : ((m3 : Int) + 3 ≤ 2) = False := eq_false (by omega)
          refine value_ (w1 := w') (v := .pointer (some (ad.add 2))) (by rfl) rfl ?_ ?_
          ·go_simp
           (try simp only [i64_w])
           try rfl
          refine hK.out _ _ ⟨W5, A6, n6, c6, m15_, m16_, (by rw [ha.out]; exact putSel_upk 7 hb_ rfl rfl rfl), Q_WB, Q_C1, fun h0_ _ => absurd ((hoff 15 (by kernel_rfl)).symm.trans h0_) (by decide), fun h0_ => absurd ((hoff 15 (by kernel_rfl)).symm.trans h0_) (by decide), fun h0_ _ => absurd ((hoff 16 (by kernel_rfl)).symm.trans h0_) (by decide), fun h0_ _ => absurd ((hoff 16 (by kernel_rfl)).symm.trans h0_) (by decide), fun h0_ _ => absurd ((hoff 16 (by kernel_rfl)).symm.trans h0_) (by decide), fun h0_ => absurd ((hoff 18 (by kernel_rfl)).symm.trans h0_) (by decide), fun h0_ => absurd ((hoff 18 (by kernel_rfl)).symm.trans h0_) (by decide), fun h0_ => absurd ((hoff 18 (by kernel_rfl)).symm.trans h0_) (by decide), fun h0_ => absurd ((hoff 15 (by kernel_rfl)).symm.trans h0_) (by decide), fun h0_ => absurd ((hoff 16 (by kernel_rfl)).symm.trans h0_) (by decide)⟩
         refine steps_cons ?_ ?_
         ·rintro b a w' ⟨W5, A6, n6, c6, m15_, m16_, ha, Q_WB, Q_C1, Q_A15, Q_B15, Q_B16, Q_R16, Q_G16, Q_B18, Q_R18, Q_G18, Q_X15_, Q_X16_⟩ hb_ hon hoff
          refine ⟨_, rfl, fun K hK => ?_⟩
          have e48 : a.tmps[48]? = some (.pointer (some (ad.add 2))) := by rw [ha]; exact putSel_on (e := (11, 48, .pointer (some (ad.add 2)))) 7 rfl rfl (hon 11 (by kernel_rfl)) rfl
          replace ha := Aside0.mk ha
          have WB := Aside0.mk (Q_WB (hoff 15 (by kernel_rfl)))
          have C1 := Aside0.mk (Q_C1 (hoff 16 (by kernel_rfl)))
          have hc_ : w'.cell? (ad.add 2) = some (.string y2) := pw_cell_below WB.out Y2.out
          (try simp [Addr.add] at hc_)
          refine value_ (w1 := w') (v := .string y2) (by rfl) rfl ?_ ?_
          ·go_simp
           (try simp only [i64_w])
           try rfl
          refine hK.out _ _ ⟨W5, A6, n6, c6, m15_, m16_, (by rw [ha.out]; exact putSel_upk 8 hb_ rfl rfl rfl), Q_WB, Q_C1, fun h0_ _ => absurd ((hoff 15 (by kernel_rfl)).symm.trans h0_) (by decide), fun h0_ => absurd ((hoff 15 (by kernel_rfl)).symm.trans h0_) (by decide), fun h0_ _ => absurd ((hoff 16 (by kernel_rfl)).symm.trans h0_) (by decide), fun h0_ _ => absurd ((hoff 16 (by kernel_rfl)).symm.trans h0_) (by decide), fun h0_ _ => absurd ((hoff 16 (by kernel_rfl)).symm.trans h0_) (by decide), fun h0_ => absurd ((hoff 18 (by kernel_rfl)).symm.trans h0_) (by decide), fun h0_ => absurd ((hoff 18 (by kernel_rfl)).symm.trans h0_) (by decide), fun h0_ => absurd ((hoff 18 (by kernel_rfl)).symm.trans h0_) (by decide), fun h0_ => absurd ((hoff 15 (by kernel_rfl)).symm.trans h0_) (by decide), fun h0_ => absurd ((hoff 16 (by kernel_rfl)).symm.trans h0_) (by decide)⟩
         refine steps_cons ?_ ?_
         ·rintro b a w' ⟨W5, A6, n6, c6, m15_, m16_, ha, Q_WB, Q_C1, Q_A15, Q_B15, Q_B16, Q_R16, Q_G16, Q_B18, Q_R18, Q_G18, Q_X15_, Q_X16_⟩ hb_ hon hoff
          refine ⟨_, rfl, fun K hK => ?_⟩
          have e49 : a.tmps[49]? = some (.string y2) := by rw [ha]; exact putSel_on (e := (12, 49, .string y2)) 8 rfl rfl (hon 12 (by kernel_rfl)) rfl
          replace ha := Aside0.mk ha
          have WB := Aside0.mk (Q_WB (hoff 15 (by kernel_rfl)))
          have C1 := Aside0.mk (Q_C1 (hoff 16 (by kernel_rfl)))
          refine goes_ Tryd.func33 (by kernel_rfl) rfl #[.string y2] (by rfl) rfl rfl (by first | (simp only [List.map_toArray, List.map_cons, List.map_nil, Act.eval, Array.getD_eq_getD_getElem?, Option.getD_some, e49]; done) | (simp only [List.map_toArray, List.map_cons, List.map_nil, Act.eval, Array.getD_eq_getD_getElem?, Option.getD_some, e49]; rfl)) ?_
          refine (spec_l04Number.calls 201 y2 (Pure.numS y2) w' (Pure.numS_at y2)).mono ?_
          rintro e w5 ⟨rfl, hb⟩
          refine ⟨_, rfl, ?_⟩
          refine hK.out _ _ ⟨W5, A6, n6, c6, m15_, m16_, (by rw [ha.out]; exact putSel_upk 9 hb_ rfl rfl rfl), fun _ => below_step WB.out hb, fun _ => pw_cell_below hb C1.out, fun h0_ _ => absurd ((hoff 15 (by kernel_rfl)).symm.trans h0_) (by decide), fun h0_ => absurd ((hoff 15 (by kernel_rfl)).symm.trans h0_) (by decide), fun h0_ _ => absurd ((hoff 16 (by kernel_rfl)).symm.trans h0_) (by decide), fun h0_ _ => absurd ((hoff 16 (by kernel_rfl)).symm.trans h0_) (by decide), fun h0_ _ => absurd ((hoff 16 (by kernel_rfl)).symm.trans h0_) (by decide), fun h0_ => absurd ((hoff 18 (by kernel_rfl)).symm.trans h0_) (by decide), fun h0_ => absurd ((hoff 18 (by kernel_rfl)).symm.trans h0_) (by decide), fun h0_ => absurd ((hoff 18 (by kernel_rfl)).symm.trans h0_) (by decide), fun h0_ => absurd ((hoff 15 (by kernel_rfl)).symm.trans h0_) (by decide), fun h0_ => absurd ((hoff 16 (by kernel_rfl)).symm.trans h0_) (by decide)⟩
         refine steps_cons ?_ ?_
         ·rintro b a w' ⟨W5, A6, n6, c6, m15_, m16_, ha, Q_WB, Q_C1, Q_A15, Q_B15, Q_B16, Q_R16, Q_G16, Q_B18, Q_R18, Q_G18, Q_X15_, Q_X16_⟩ hb_ hon hoff
          refine ⟨_, rfl, fun K hK => ?_⟩
          have e42 : a.tmps[42]? = some (.int .i64 (Pure.numS y0)) := by rw [ha]; exact putSel_on (e := (5, 42, .int .i64 (Pure.numS y0))) 3 rfl rfl (hon 5 (by kernel_rfl)) rfl
          have e46 : a.tmps[46]? = some (.int .i64 (Pure.numS y1)) := by rw [ha]; exact putSel_on (e := (9, 46, .int .i64 (Pure.numS y1))) 6 rfl rfl (hon 9 (by kernel_rfl)) rfl
          have e50 : a.tmps[50]? = some (.int .i64 (Pure.numS y2)) := by rw [ha]; exact putSel_on (e := (13, 50, .int .i64 (Pure.numS y2))) 9 rfl rfl (hon 13 (by kernel_rfl)) rfl
          replace ha := Aside0.mk ha
          have WB := Aside0.mk (Q_WB (hoff 15 (by kernel_rfl)))
          have C1 := Aside0.mk (Q_C1 (hoff 16 (by kernel_rfl)))
          refine value_ (w1 := w') (v := .agg #[.int .i64 (Pure.numS y0), .int .i64 (Pure.numS y1), .int .i64 (Pure.numS y2)]) (by rfl) rfl ?_ ?_
          ·go_simp
           (try simp only [i64_w])
           try rfl
          refine hK.out _ _ ⟨W5, A6, n6, c6, m15_, m16_, (by rw [ha.out]; exact putSel_upk 10 hb_ rfl rfl rfl), Q_WB, Q_C1, fun h0_ _ => absurd ((hoff 15 (by kernel_rfl)).symm.trans h0_) (by decide), fun h0_ => absurd ((hoff 15 (by kernel_rfl)).symm.trans h0_) (by decide), fun h0_ _ => absurd ((hoff 16 (by kernel_rfl)).symm.trans h0_) (by decide), fun h0_ _ => absurd ((hoff 16 (by kernel_rfl)).symm.trans h0_) (by decide), fun h0_ _ => absurd ((hoff 16 (by kernel_rfl)).symm.trans h0_) (by decide), fun h0_ => absurd ((hoff 18 (by kernel_rfl)).symm.trans h0_) (by decide), fun h0_ => absurd ((hoff 18 (by kernel_rfl)).symm.trans h0_) (by decide), fun h0_ => absurd ((hoff 18 (by kernel_rfl)).symm.trans h0_) (by decide), fun h0_ => absurd ((hoff 15 (by kernel_rfl)).symm.trans h0_) (by decide), fun h0_ => absurd ((hoff 16 (by kernel_rfl)).symm.trans h0_) (by decide)⟩
         refine steps_cons ?_ ?_
         ·rintro b a w' ⟨W5, A6, n6, c6, m15_, m16_, ha, Q_WB, Q_C1, Q_A15, Q_B15, Q_B16, Q_R16, Q_G16, Q_B18, Q_R18, Q_G18, Q_X15_, Q_X16_⟩ hb_ hon hoff
          refine ⟨_, rfl, fun K hK => ?_⟩
          have e51 : a.tmps[51]? = some (.agg #[.int .i64 (Pure.numS y0), .int .i64 (Pure.numS y1), .int .i64 (Pure.numS y2)]) := by rw [ha]; exact putSel_on (e := (14, 51, .agg #[.int .i64 (Pure.numS y0), .int .i64 (Pure.numS y1), .int .i64 (Pure.numS y2)])) 10 rfl rfl (hon 14 (by kernel_rfl)) rfl
          replace ha := Aside0.mk ha
          have WB := Aside0.mk (Q_WB hb_)
          have C1 := Aside0.mk (Q_C1 (hoff 16 (by kernel_rfl)))
          refine value_ (w1 := w'.alloc (.cells #[.int .i64 (Pure.numS y0), .int .i64 (Pure.numS y1), .int .i64 (Pure.numS y2)] 39)) (v := .slice (some ⟨w'.heap.size, 0, none⟩) 1 1) (by rfl) rfl ?_ ?_
          ·first | (go_simp; done) | (go_simp; rfl) | (go_simp; constructor <;> rfl)
          refine hK.out _ _ ⟨w', A6, n6, c6, (.slice (some ⟨w'.heap.size, 0, none⟩) 1 1), m16_, (by rw [ha.out]; exact putSel_upk 11 hb_ rfl rfl rfl), fun h0_ => absurd ((up_self b 15).symm.trans h0_) (by decide), fun _ => pw_cell_below (below_alloc (Below.refl _ _) _) C1.out, fun _ _ => rfl, fun _ => WB.out, fun h0_ _ => absurd ((hoff 16 (by kernel_rfl)).symm.trans h0_) (by decide), fun h0_ _ => absurd ((hoff 16 (by kernel_rfl)).symm.trans h0_) (by decide), fun h0_ _ => absurd ((hoff 16 (by kernel_rfl)).symm.trans h0_) (by decide), fun h0_ => absurd ((hoff 18 (by kernel_rfl)).symm.trans h0_) (by decide), fun h0_ => absurd ((hoff 18 (by kernel_rfl)).symm.trans h0_) (by decide), fun h0_ => absurd ((hoff 18 (by kernel_rfl)).symm.trans h0_) (by decide), fun _ => rfl, fun h0_ => absurd ((hoff 16 (by kernel_rfl)).symm.trans h0_) (by decide)⟩
         refine steps_cons ?_ ?_
         ·rintro b a w' ⟨W5, A6, n6, c6, m15_, m16_, ha, Q_WB, Q_C1, Q_A15, Q_B15, Q_B16, Q_R16, Q_G16, Q_B18, Q_R18, Q_G18, Q_X15_, Q_X16_⟩ hb_ hon hoff
          refine ⟨_, rfl, fun K hK => ?_⟩
          have e38 : a.tmps[38]? = some (v) := by rw [ha]; exact putSel_on (e := (1, 38, v)) 0 rfl rfl (hon 1 (by kernel_rfl)) rfl
          have e52 : a.tmps[52]? = some (m15_) := by rw [ha]; exact putSel_on (e := (15, 52, m15_)) 11 rfl rfl (hon 15 (by kernel_rfl)) rfl
          rw [Q_X15_ (hon 15 (by kernel_rfl))] at e52
          replace ha := Aside0.mk ha
          have C1 := Aside0.mk (Q_C1 hb_)
          have A15 := Aside0.mk (Q_A15 (hon 15 (by kernel_rfl)) hb_)
          have B15 := Aside0.mk (Q_B15 (hon 15 (by kernel_rfl)))
          have hw_ := A15.out
          subst hw_
          refine Kd.R_append_step k39 (w0 := wp) wp.heap.size (by rfl) (.tmp 38) (.tmp 52) 24 39 (.agg #[(.int .i64 0), (.int .i64 0), (.int .i64 0)]) 24 rfl Tryd.underlying24 info39 rfl (by decide) (by omega) v (specRows (ws.take i)) (⟨Pure.numS y0, Pure.numS y1, Pure.numS y2⟩ : S39) [.int .i64 (Pure.numS y0), .int .i64 (Pure.numS y1), .int .i64 (Pure.numS y2)] (fun _ => True) (fun _ => False) (by simp only [Act.eval, Array.getD_eq_getD_getElem?, e38, Option.getD_some]) (by simp only [Act.eval, Array.getD_eq_getD_getElem?, e52, Option.getD_some]) (k39_mkM _ _ _ (⟨Pure.numS y0, Pure.numS y1, Pure.numS y2⟩ : S39)) (fun _ hk => hk.elim) (fun _ _ => trivial) (Kd.R_below KR.out B15.out) (below_step KB.out B15.out) (below_size (below_step KB.out B15.out)) LEN.out ?_
          intro v6' w5 ho hb hg hat
          obtain ⟨A6', c6', e6_⟩ := Kd.R_slice ho
          subst e6_
          refine hK.out _ _ ⟨W5, A6', (specRows (ws.take i) ++ [(⟨Pure.numS y0, Pure.numS y1, Pure.numS y2⟩ : S39)]).length, c6', m15_, (.slice A6' (specRows (ws.take i) ++ [(⟨Pure.numS y0, Pure.numS y1, Pure.numS y2⟩ : S39)]).length c6'), (by rw [ha.out]; exact putSel_upk 12 hb_ rfl rfl rfl), fun h0_ => absurd ((hon 15 (by kernel_rfl)).symm.trans h0_) (by decide), fun h0_ => absurd ((up_self b 16).symm.trans h0_) (by decide), fun _ h1_ => absurd ((up_self b 16).symm.trans h1_) (by decide), Q_B15, fun _ _ => hb, fun _ _ => ho, fun _ _ => blk_grown (blk_below KG.out B15.out) hg (Kd.R_ne (Kd.R_below KR.out B15.out) (blk_below KG.out B15.out) (by decide)), fun h0_ => absurd ((hoff 18 (by kernel_rfl)).symm.trans h0_) (by decide), fun h0_ => absurd ((hoff 18 (by kernel_rfl)).symm.trans h0_) (by decide), fun h0_ => absurd ((hoff 18 (by kernel_rfl)).symm.trans h0_) (by decide), Q_X15_, fun _ => rfl⟩
         refine steps_cons ?_ ?_
         ·rintro b a w' ⟨W5, A6, n6, c6, m15_, m16_, ha, Q_WB, Q_C1, Q_A15, Q_B15, Q_B16, Q_R16, Q_G16, Q_B18, Q_R18, Q_G18, Q_X15_, Q_X16_⟩ hb_ hon hoff
          refine ⟨_, rfl, fun K hK => ?_⟩
          have e5 : a.tmps[5]? = some (.pointer (some ⟨g7, 0, none⟩)) := by rw [ha]; exact (putSel_off rfl).trans rfl
          replace ha := Aside0.mk ha
          have B15 := Aside0.mk (Q_B15 (hon 15 (by kernel_rfl)))
          have B16 := Aside0.mk (Q_B16 (hon 16 (by kernel_rfl)) (hoff 18 (by kernel_rfl)))
          have R16 := Aside0.mk (Q_R16 (hon 16 (by kernel_rfl)) (hoff 18 (by kernel_rfl)))
          have G16 := Aside0.mk (Q_G16 (hon 16 (by kernel_rfl)) (hoff 18 (by kernel_rfl)))
          refine value_ (w1 := w') (v := .pointer (some ⟨g7, 1, none⟩)) (by rfl) rfl ?_ ?_
          ·go_simp
           (try simp only [i64_w])
           try rfl
          refine hK.out _ _ ⟨W5, A6, n6, c6, m15_, m16_, (by rw [ha.out]; exact putSel_upk 13 hb_ rfl rfl rfl), fun h0_ => absurd ((hon 15 (by kernel_rfl)).symm.trans h0_) (by decide), fun h0_ => absurd ((hon 16 (by kernel_rfl)).symm.trans h0_) (by decide), fun _ h1_ => absurd ((hon 16 (by kernel_rfl)).symm.trans h1_) (by decide), Q_B15, Q_B16, Q_R16, Q_G16, fun h0_ => absurd ((hoff 18 (by kernel_rfl)).symm.trans h0_) (by decide), fun h0_ => absurd ((hoff 18 (by kernel_rfl)).symm.trans h0_) (by decide), fun h0_ => absurd ((hoff 18 (by kernel_rfl)).symm.trans h0_) (by decide), Q_X15_, Q_X16_⟩
         refine steps_cons ?_ ?_
         ·rintro b a w' ⟨W5, A6, n6, c6, m15_, m16_, ha, Q_WB, Q_C1, Q_A15, Q_B15, Q_B16, Q_R16, Q_G16, Q_B18, Q_R18, Q_G18, Q_X15_, Q_X16_⟩ hb_ hon hoff
          refine ⟨_, rfl, fun K hK => ?_⟩
          have e54 : a.tmps[54]? = some (.pointer (some ⟨g7, 1, none⟩)) := by rw [ha]; exact putSel_on (e := (17, 54, .pointer (some ⟨g7, 1, none⟩))) 13 rfl rfl (hon 17 (by kernel_rfl)) rfl
          have e53 : a.tmps[53]? = some (m16_) := by rw [ha]; exact putSel_on (e := (16, 53, m16_)) 12 rfl rfl (hon 16 (by kernel_rfl)) rfl
          rw [Q_X16_ (hon 16 (by kernel_rfl))] at e53
          replace ha := Aside0.mk ha
          have B15 := Aside0.mk (Q_B15 (hon 15 (by kernel_rfl)))
          have B16 := Aside0.mk (Q_B16 (hon 16 (by kernel_rfl)) hb_)
          have R16 := Aside0.mk (Q_R16 (hon 16 (by kernel_rfl)) hb_)
          have G16 := Aside0.mk (Q_G16 (hon 16 (by kernel_rfl)) hb_)
          have hz_ := blk_cell G16.out 1
          have hf_ := blk_frozen G16.out 1
          refine skip_ (w1 := w'.setCell ⟨g7, 1, none⟩ (.slice A6 n6 c6)) (by rfl) rfl ?_ ?_
          ·go_simp
          refine hK.out _ _ ⟨W5, A6, n6, c6, m15_, m16_, (by rw [ha.out]; exact putSel_none (v := undef) rfl), fun h0_ => absurd ((hon 15 (by kernel_rfl)).symm.trans h0_) (by decide), fun h0_ => absurd ((hon 16 (by kernel_rfl)).symm.trans h0_) (by decide), fun _ h1_ => absurd ((hon 16 (by kernel_rfl)).symm.trans h1_) (by decide), Q_B15, fun _ h1_ => absurd ((up_self b 18).symm.trans h1_) (by decide), fun _ h1_ => absurd ((up_self b 18).symm.trans h1_) (by decide), fun _ h1_ => absurd ((up_self b 18).symm.trans h1_) (by decide), fun _ => below_set B16.out HGP.out, fun _ => Kd.R_set R16.out G16.out (by intro q hq; have hq : q ∈ [39] := hq; simp at hq; omega) 1 (.slice A6 n6 c6), fun _ => blk_put G16.out 1 (.slice A6 n6 c6) rfl, Q_X15_, Q_X16_⟩
         exact steps_nil
        rintro b a w9 hall ⟨W5, A6, n6, c6, m15_, m16_, ha, Q_WB, Q_C1, Q_A15, Q_B15, Q_B16, Q_R16, Q_G16, Q_B18, Q_R18, Q_G18, Q_X15_, Q_X16_⟩
        clear C1 WB
        have hb1_ := hall 1 (by kernel_rfl)
        have hb3_ := hall 3 (by kernel_rfl)
        have hb4_ := hall 4 (by kernel_rfl)
        have hb5_ := hall 5 (by kernel_rfl)
        have hb7_ := hall 7 (by kernel_rfl)
        have hb8_ := hall 8 (by kernel_rfl)
        have hb9_ := hall 9 (by kernel_rfl)
        have hb11_ := hall 11 (by kernel_rfl)
        have hb12_ := hall 12 (by kernel_rfl)
        have hb13_ := hall 13 (by kernel_rfl)
        have hb14_ := hall 14 (by kernel_rfl)
        have hb15_ := hall 15 (by kernel_rfl)
        have hb16_ := hall 16 (by kernel_rfl)
        have hb17_ := hall 17 (by kernel_rfl)
        have hb18_ := hall 18 (by kernel_rfl)
        subst ha
        obtain rfl := Q_X15_ hb15_
        obtain rfl := Q_X16_ hb16_
        simp only [putSel, hb1_, hb3_, hb4_, hb5_, hb7_, hb8_, hb9_, hb11_, hb12_, hb13_, hb14_, hb15_, hb16_, hb17_, hb18_, if_true, Act.put, List.setIfInBounds_toArray, List.set_cons_zero, List.set_cons_succ]
        clear Q_WB
        clear Q_C1
        clear Q_A15
        have B15 := Aside0.mk (Q_B15 hb15_)
        clear Q_B15
        clear Q_B16
        clear Q_R16
        clear Q_G16
        have B18 := Aside0.mk (Q_B18 hb18_)
        clear Q_B18
        have R18 := Aside0.mk (Q_R18 hb18_)
        clear Q_R18
        have G18 := Aside0.mk (Q_G18 hb18_)
        clear Q_G18
        clear hall hb1_ hb3_ hb4_ hb5_ hb7_ hb8_ hb9_ hb11_ hb12_ hb13_ hb14_ hb15_ hb16_ hb17_ hb18_
        go_wp2
        go_roundg (m - i)
        case' measure => have := HI.out; omega
        case' rel => exact ⟨i + 1, .slice A6 n6 c6, by rw [← HJ.out, HIW.out], ⟨by have := HI.out; have := HI2.out; omega⟩, G18, ⟨by rw [HROW.out, HSR.out]; exact R18.out⟩, B18⟩
    ·obtain rfl : i = m := by have := HI.out; omega
     have htk : ws.take i = ws := List.take_of_length_le (by have := HMM.out; omega)
     have hr := KR1.out
     rw [htk] at hr
     clear KR1 htk HI
     obtain ⟨Av, cv, ev_⟩ := Kd.R_slice hr
     subst ev_
     have hrd := Kd.R_reads' hr
     obtain ⟨dk, hd⟩ : ∃ dk, diagramOkS (Pure.numS x) (specRows ws) = dk := ⟨_, rfl⟩
     have HIS : Aside0 (Calls Tryd.prog 34 #[.pointer (some ⟨g7, 0, none⟩)] wr fun e w' => e = .returned (.bool dk) ∧ Below wr.heap.size wr w') := ⟨hd ▸ l04Is_walk g7 (Pure.numS x) (specRows ws) Av cv wr wr KG1.out hrd.2.2 (Below.refl _ _)⟩
     have HTX : Aside0 (∀ (t : ByteArray) (q : Int) (w6 : World), spec_l04Text.f 3000 (Pure.numS x) (specRows ws) = some (t, q) → Below wr.heap.size wr w6 → Calls Tryd.prog 35 #[.pointer (some ⟨g7, 0, none⟩)] w6 fun e w' => e = .returned (.string t) ∧ Below wr.heap.size wr w') := ⟨fun t q w6 ht hb => (spec_l04Text.calls 3000 g7 (Pure.numS x) (specRows ws) t q wr w6 ⟨Av, cv, blk_below KG1.out hb, trivial, hrd.2.2⟩ hb ht).mono fun e w' h => ⟨h.1, h.2.2.1⟩⟩
     have KR := Aside0.mk hr
     have HF2 := HF.out
     rw [hd] at HF2
     clear HF hd hrd hr
     generalize hL : (specRows ws).length = L at KG1 KR ⊢
     have tj : decide (((i + 1 : Nat) : Int) < (i : Int) + 1) = false := decide_eq_false (by omega)
     cases dk with
     | false =>
      rw [if_neg (by decide)] at HF2
      injection HF2 with e0
      injection e0 with e1 e0
      injection e0 with e2 e3
      subst e1
      subst e2
      subst e3
      go_wp2_with (first | (go_at_call 34; refine HIS.out.mono ?_; rintro e w6 ⟨rfl, hb⟩; have HB6 := Aside0.mk (below_step HB2.out (below_step KB1.out hb)); have HX6 := Aside0.mk (blk_below HX2.out (below_step KB1.out hb)); clear hb; have x0 := blk_cell HX6.out 0; have x1 := blk_cell HX6.out 1; have y0 := blk_frozen HX6.out 0; have y1 := blk_frozen HX6.out 1))
      all_goals (first | (exfalso; omega) | skip)
      all_goals
       clear x0 x1 y0 y1
       have HN : Aside0 (((w6.setCell ⟨g2, 0, none⟩ (.int .i64 0)).setCell ⟨g2, 1, none⟩ (.slice none 0 0)).heap[g2]? = some (.cells #[.int .i64 0, .slice none 0 0] 26 (0, 0))) := ⟨blk_put (blk_put HX6.out 0 (.int .i64 0) rfl) 1 (.slice none 0 0) rfl⟩
       have HNB : Aside0 (Below w.heap.size w ((w6.setCell ⟨g2, 0, none⟩ (.int .i64 0)).setCell ⟨g2, 1, none⟩ (.slice none 0 0))) := ⟨below_set (below_set HB6.out HG2.out) HG2.out⟩
       generalize (w6.setCell ⟨g2, 0, none⟩ (.int .i64 0)).setCell ⟨g2, 1, none⟩ (.slice none 0 0) = wz at HN HNB ⊢
       have n0 := blk_cell HN.out 0
       have n1 := blk_cell HN.out 1
       refine bodyPost_ret (v := .tuple #[.agg #[.int .i64 0, .slice none 0 0], .bool false]) (by simp [results, Tryd.f16, go_sem, n0, n1]) rfl ?_
       exact ⟨_, rfl, Kd.R_nil _ _ _ _ _, HNB.out⟩
     | true =>
      rw [if_pos rfl] at HF2
      obtain ⟨⟨t, q⟩, ht, HF3⟩ := Option.bind_eq_some_iff.mp HF2
      dsimp only at HF3
      have HT := Aside0.mk (fun w6 hb => HTX.out t q w6 ht hb)
      clear HF2 HTX ht
      by_cases hts : t = s
      ·rw [if_pos hts] at HF3
       injection HF3 with e0
       injection e0 with e1 e0
       injection e0 with e2 e3
       subst e1
       subst e2
       subst e3
       have tq := bq_true hts
       clear hts
       go_wp2_with (first | (go_at_call 34; refine HIS.out.mono ?_; rintro e w6 ⟨rfl, hb⟩; have HBW := Aside0.mk hb; clear hb) | (go_at_call 35; refine (HT.out w6 HBW.out).mono ?_; rintro e w7 ⟨rfl, hb⟩; have HB7 := Aside0.mk (below_step HB2.out (below_step KB1.out hb)); have HX7 := Aside0.mk (blk_below HX2.out (below_step KB1.out hb)); have HG7 := Aside0.mk (blk_below KG1.out hb); have HR7 := Aside0.mk (Kd.R_below KR.out hb); clear hb; have z0 := blk_cell HG7.out 0; have z1 := blk_cell HG7.out 1; have x0 := blk_cell HX7.out 0; have x1 := blk_cell HX7.out 1; have y0 := blk_frozen HX7.out 0; have y1 := blk_frozen HX7.out 1))
       all_goals (first | (exfalso; omega) | skip)
       all_goals
        clear x0 x1 y0 y1 z0 z1
        have HN : Aside0 (((w7.setCell ⟨g2, 0, none⟩ (.int .i64 (Pure.numS x))).setCell ⟨g2, 1, none⟩ (.slice Av L cv)).heap[g2]? = some (.cells #[.int .i64 (Pure.numS x), .slice Av L cv] 26 (0, 0))) := ⟨blk_put (blk_put HX7.out 0 (.int .i64 (Pure.numS x)) rfl) 1 (.slice Av L cv) rfl⟩
        have HNB : Aside0 (Below w.heap.size w ((w7.setCell ⟨g2, 0, none⟩ (.int .i64 (Pure.numS x))).setCell ⟨g2, 1, none⟩ (.slice Av L cv))) := ⟨below_set (below_set HB7.out HG2.out) HG2.out⟩
        have HRZ : Aside0 (Kd.R k39 39 ((w7.setCell ⟨g2, 0, none⟩ (.int .i64 (Pure.numS x))).setCell ⟨g2, 1, none⟩ (.slice Av L cv)) w.heap.size (fun _ => True) (.slice Av L cv) (specRows ws)) := ⟨Kd.R_set (Kd.R_set (Kd.R_lower HR7.out (below_size HB2.out)) HX7.out (by intro q hq; have hq : q ∈ [39] := hq; simp at hq; omega) 0 _) (blk_put HX7.out 0 (.int .i64 (Pure.numS x)) rfl) (by intro q hq; have hq : q ∈ [39] := hq; simp at hq; omega) 1 _⟩
        generalize (w7.setCell ⟨g2, 0, none⟩ (.int .i64 (Pure.numS x))).setCell ⟨g2, 1, none⟩ (.slice Av L cv) = wz at HN HNB HRZ ⊢
        have n0 := blk_cell HN.out 0
        have n1 := blk_cell HN.out 1
        refine bodyPost_ret (v := .tuple #[.agg #[.int .i64 (Pure.numS x), .slice Av L cv], .bool true]) (by simp [results, Tryd.f16, go_sem, n0, n1]) rfl ?_
        exact ⟨_, rfl, HRZ.out, HNB.out⟩
      ·rw [if_neg hts] at HF3
       injection HF3 with e0
       injection e0 with e1 e0
       injection e0 with e2 e3
       subst e1
       subst e2
       subst e3
       have tq := bq_false hts
       clear hts
       go_wp2_with (first | (go_at_call 34; refine HIS.out.mono ?_; rintro e w6 ⟨rfl, hb⟩; have HBW := Aside0.mk hb; clear hb) | (go_at_call 35; refine (HT.out w6 HBW.out).mono ?_; rintro e w7 ⟨rfl, hb⟩; have HB7 := Aside0.mk (below_step HB2.out (below_step KB1.out hb)); have HX7 := Aside0.mk (blk_below HX2.out (below_step KB1.out hb)); clear hb; have x0 := blk_cell HX7.out 0; have x1 := blk_cell HX7.out 1; have y0 := blk_frozen HX7.out 0; have y1 := blk_frozen HX7.out 1))
       all_goals (first | (exfalso; omega) | skip)
       all_goals
        clear x0 x1 y0 y1
        have HN : Aside0 (((w7.setCell ⟨g2, 0, none⟩ (.int .i64 0)).setCell ⟨g2, 1, none⟩ (.slice none 0 0)).heap[g2]? = some (.cells #[.int .i64 0, .slice none 0 0] 26 (0, 0))) := ⟨blk_put (blk_put HX7.out 0 (.int .i64 0) rfl) 1 (.slice none 0 0) rfl⟩
        have HNB : Aside0 (Below w.heap.size w ((w7.setCell ⟨g2, 0, none⟩ (.int .i64 0)).setCell ⟨g2, 1, none⟩ (.slice none 0 0))) := ⟨below_set (below_set HB7.out HG2.out) HG2.out⟩
        generalize (w7.setCell ⟨g2, 0, none⟩ (.int .i64 0)).setCell ⟨g2, 1, none⟩ (.slice none 0 0) = wz at HN HNB ⊢
        have n0 := blk_cell HN.out 0
        have n1 := blk_cell HN.out 1
        refine bodyPost_ret (v := .tuple #[.agg #[.int .i64 0, .slice none 0 0], .bool false]) (by simp [results, Tryd.f16, go_sem, n0, n1]) rfl ?_
        exact ⟨_, rfl, Kd.R_nil _ _ _ _ _, HNB.out⟩

end Go.Proofs.YtbgokpobaemibaaDoor.Pa

/- What the program and the reference read out of a text: of a valid diagram's text that diagram, else nothing. -/
namespace Go.Proofs.YtbgokpobaemibaaDoor.Pure
open Go.RowKit Go.Proofs.YtbgokpobaemibaaDoor.Pa Go.Proofs.YtbgokpobaemibaaDoorW.PrintWords Go.Proofs.YtbgokpobaemibaaDoorW.PrintLast Go.Proofs.YtbgokpobaemibaaDoorW.PrintMore
set_option linter.unusedVariables false
set_option linter.unusedSimpArgs false

theorem words_join (c : UInt8) (ws : List ByteArray) (hne : ws ≠ []) (hf : ∀ w ∈ ws, c ∉ w.data.toList) (s : ByteArray) (h : s.data.toList = joinL c (ws.map (·.data.toList))) : wordsB c s = ws := by
 apply toLists_inj
 rw [wordsB_cut, h, cutL_join c _ (by simpa using hne)]
 intro w hw
 obtain ⟨x, hx, rfl⟩ := List.mem_map.1 hw
 exact hf x hx
theorem triple_eta (b : S39) : (⟨(tri b).1, (tri b).2.1, (tri b).2.2⟩ : S39) = b := rfl
theorem rdB_some {x : ByteArray} {v : Int} (h : rdDec x.data.toList = some v) : rdB x = (v, true) := by
 unfold rdB
 rw [h]
theorem rdB_ok {x : ByteArray} (h : (rdB x).2 = true) : rdDec x.data.toList = some (rdB x).1 := by
 unfold rdB at h ⊢
 cases q : rdDec x.data.toList with
 | none => rw [q] at h; cases h
 | some v => rfl
theorem rd3_some {x : ByteArray} {b : Int × Int × Int} (h : rdThree x.data.toList = some b) : rd3 x = (b.1, b.2.1, b.2.2, true) := by
 unfold rdThree at h
 rw [← wordsB_cut] at h
 unfold rd3
 match hw : wordsB 46 x with
 | [] => rw [hw] at h; cases h
 | [_] => rw [hw] at h; cases h
 | [_, _] => rw [hw] at h; cases h
 | _ :: _ :: _ :: _ :: _ => rw [hw] at h; cases h
 | [u, v, w] =>
  rw [hw] at h
  simp only [List.map_cons, List.map_nil] at h
  obtain ⟨a, ha, h⟩ := Option.bind_eq_some_iff.mp h
  obtain ⟨b', hb, h⟩ := Option.bind_eq_some_iff.mp h
  obtain ⟨c, hc, h⟩ := Option.bind_eq_some_iff.mp h
  obtain rfl := Option.some.inj h
  dsimp only
  rw [rdB_some ha, rdB_some hb, rdB_some hc]
  rfl
theorem rd3_ok {x : ByteArray} (h : (rd3 x).2.2.2 = true) : rdThree x.data.toList = some ((rd3 x).1, (rd3 x).2.1, (rd3 x).2.2.1) := by
 unfold rdThree
 rw [← wordsB_cut]
 unfold rd3 at h ⊢
 match hw : wordsB 46 x with
 | [] => rw [hw] at h; cases h
 | [_] => rw [hw] at h; cases h
 | [_, _] => rw [hw] at h; cases h
 | _ :: _ :: _ :: _ :: _ => rw [hw] at h; cases h
 | [u, v, w] =>
  rw [hw] at h
  simp only [Bool.and_eq_true] at h
  simp only [List.map_cons, List.map_nil]
  rw [rdB_ok h.1.1, rdB_ok h.1.2, rdB_ok h.2]
  rfl
theorem rows_some : ∀ (xs : List ByteArray) (bs : List S39), rdAll (xs.map (·.data.toList)) = some (bs.map tri) → rdRows xs = bs ∧ rdOks xs = true
 | [], bs, h => by
  cases bs with
  | nil => exact ⟨rfl, rfl⟩
  | cons _ _ => cases h
 | x :: xs, bs, h => by
  obtain ⟨b, hb, h⟩ := Option.bind_eq_some_iff.mp h
  obtain ⟨l, hl, h⟩ := Option.bind_eq_some_iff.mp h
  have h := Option.some.inj h
  cases bs with
  | nil => cases h
  | cons b' bs =>
   rw [List.map_cons] at h
   injection h with h1 h2
   subst h1
   rw [h2] at hl
   have ih := rows_some xs bs hl
   have h3 := rd3_some hb
   refine ⟨?_, ?_⟩
   ·show _ :: rdRows xs = _
    dsimp only
    rw [ih.1, h3]
    rfl
   ·show ((rd3 x).2.2.2 && rdOks xs) = true
    rw [ih.2, h3]
    rfl
theorem rows_ok : ∀ xs : List ByteArray, rdOks xs = true → rdAll (xs.map (·.data.toList)) = some ((rdRows xs).map tri)
 | [], _ => rfl
 | x :: xs, h => by
  have h : ((rd3 x).2.2.2 && rdOks xs) = true := h
  rw [Bool.and_eq_true] at h
  show (rdThree x.data.toList).bind _ = _
  rw [rd3_ok h.1, Option.bind_some, rows_ok xs h.2]
  rfl
theorem ok_near {n : Int} {bs : List S39} (h : diagramOk n bs = true) : (1 ≤ n ∧ n ≤ 10) ∧ bs.length ≤ 24 ∧ ∀ b ∈ bs, Near b := by
 unfold diagramOk at h
 simp only [Bool.and_eq_true, decide_eq_true_eq, List.all_eq_true] at h
 refine ⟨⟨h.1.1.1, h.1.1.2⟩, h.1.2, fun b hb => ?_⟩
 have := h.2 b hb
 unfold boundOk at this
 simp only [Bool.and_eq_true, decide_eq_true_eq] at this
 have h1 := h.1.1.1
 have h2 := h.1.1.2
 unfold Near
 omega
theorem readF_yes {n : Int} {bs : List S39} (h : diagramOk n bs = true) (s : ByteArray) (hs : s.data.toList = textD n (bs.map tri)) : readF s = (n, bs, true) := by
 obtain ⟨hn, hl, hb⟩ := ok_near h
 have hr : rdD s.data.toList = some (n, bs.map tri) := (rdD_iff _ _ _).2 ⟨hs, by omega, fun t ht => by
  obtain ⟨b, hb', rfl⟩ := List.mem_map.1 ht
  have := hb b hb'
  unfold Near at this
  unfold inThree tri
  dsimp only
  omega⟩
 unfold rdD at hr
 rw [← wordsB_cut] at hr
 unfold readF
 cases hw : wordsB 44 s with
 | nil => rw [hw] at hr; cases hr
 | cons x xs =>
  rw [hw] at hr
  simp only [List.map_cons] at hr
  obtain ⟨n', hn', hr⟩ := Option.bind_eq_some_iff.mp hr
  obtain ⟨l, hl', hr⟩ := Option.bind_eq_some_iff.mp hr
  have hr := Option.some.inj hr
  injection hr with e1 e2
  subst e1
  subst e2
  have h1 := rdB_some hn'
  have h2 := rows_some xs bs hl'
  dsimp only
  rw [h1, h2.1, h2.2, if_pos ⟨rfl, rfl, h⟩]
theorem readF_cases (s : ByteArray) : readF s = (0, [], false) ∨ ∃ n bs, diagramOk n bs = true ∧ s.data.toList = textD n (bs.map tri) := by
 unfold readF
 cases hw : wordsB 44 s with
 | nil => exact .inl rfl
 | cons x xs =>
  dsimp only
  by_cases h : (rdB x).2 = true ∧ rdOks xs = true ∧ diagramOk (rdB x).1 (rdRows xs) = true
  ·refine .inr ⟨_, _, h.2.2, ?_⟩
   refine ((rdD_iff s.data.toList (rdB x).1 ((rdRows xs).map tri)).1 ?_).1
   unfold rdD
   rw [← wordsB_cut, hw]
   simp only [List.map_cons]
   rw [rdB_ok h.1, Option.bind_some, rows_ok xs h.2.1]
   rfl
  ·rw [if_neg h]
   exact .inl rfl
theorem specRow_three (b : S39) (h : Near b) (x : ByteArray) (hx : x.data.toList = textThree (tri b)) : specRow x = b := by
 have hw : wordsB 46 x = [decB b.f0, decB b.f1, decB b.f2] := words_join 46 _ (by simp) (by
  intro w hw
  simp only [List.mem_cons, List.not_mem_nil, or_false] at hw
  rcases hw with rfl | rfl | rfl <;> exact itoa_free 46 (.inr rfl) _) x (by rw [hx]; rfl)
 unfold specRow
 rw [hw]
 unfold Near at h
 show (⟨numS (decB b.f0), numS (decB b.f1), numS (decB b.f2)⟩ : S39) = b
 rw [numS_dec _ h.1.1 h.1.2, numS_dec _ h.2.1.1 h.2.1.2, numS_dec _ h.2.2.1 h.2.2.2]
def threeB (b : S39) : ByteArray := ⟨(textThree (tri b)).toArray⟩
theorem threeB_data (b : S39) : (threeB b).data.toList = textThree (tri b) := rfl
theorem decB_data (n : Int) : (decB n).data.toList = Lib.itoa n := rfl
theorem specReadF_yes {n : Int} {bs : List S39} (h : diagramOk n bs = true) (s : ByteArray) (hs : s.data.toList = textD n (bs.map tri)) (k : Nat) (hk : 1300 < k) : specReadF k s = some (n, bs, true) := by
 obtain ⟨hn, hl, hb⟩ := ok_near h
 have ht : s = tx (decB n) bs := ByteArray.ext (Array.ext' (by rw [hs]; exact (text_is n bs).symm))
 have hsz : ¬ 500 < s.size := by
  have h1 := tx_size bs (decB n) hb
  have h2 := decB_size5 n (by omega) (by omega)
  rw [ht]
  omega
 have hw : wordsB 44 s = decB n :: bs.map threeB := words_join 44 _ (by simp) (by
  intro w hw
  rcases List.mem_cons.1 hw with rfl | hw
  ·exact itoa_free 44 (.inl rfl) n
  ·obtain ⟨b, _, rfl⟩ := List.mem_map.1 hw
   exact three_free (tri b)) s (by
  rw [hs]
  unfold textD
  rw [List.map_cons, decB_data, List.map_map, List.map_map]
  rfl)
 have hr : specRows (bs.map threeB) = bs := by
  unfold specRows
  rw [List.map_map]
  conv => rhs; rw [← List.map_id bs]
  exact List.map_congr_left fun b hb' => specRow_three b (hb b hb') _ (threeB_data b)
 unfold specReadF
 rw [if_neg hsz, hw]
 dsimp only
 rw [hr, numS_dec n (by omega) (by omega), if_pos (show diagramOkS n bs = true from h), text_tells n (by omega) (by omega) bs hl hb k hk, Option.bind_some, if_pos ht.symm]
theorem specReadF_cases (s : ByteArray) (k : Nat) (hk : 1300 < k) : specReadF k s = some (0, [], false) ∨ ∃ n bs, diagramOk n bs = true ∧ s.data.toList = textD n (bs.map tri) := by
 unfold specReadF
 by_cases h5 : 500 < s.size
 ·rw [if_pos h5]; exact .inl rfl
 rw [if_neg h5]
 cases hw : wordsB 44 s with
 | nil =>
  have := wordsB_cut 44 s
  rw [hw] at this
  exact absurd this.symm (cutL_ne 44 _)
 | cons x xs =>
  dsimp only
  by_cases h : diagramOkS (numS x) (specRows xs) = true
  ·have h' : diagramOk (numS x) (specRows xs) = true := h
   obtain ⟨hn, hl, hb⟩ := ok_near h'
   rw [if_pos h, text_tells _ (by omega) (by omega) _ hl hb k hk, Option.bind_some]
   by_cases ht : tx (decB (numS x)) (specRows xs) = s
   ·refine .inr ⟨_, _, h', ?_⟩
    rw [← text_is, ht]
   ·rw [if_neg ht]; exact .inl rfl
  ·rw [if_neg h]; exact .inl rfl
/-- Both read alike. -/
theorem read_same (s : ByteArray) : specReadF 3000 s = some (readF s) := by
 by_cases h : ∃ n bs, diagramOk n bs = true ∧ s.data.toList = textD n (bs.map tri)
 ·obtain ⟨n, bs, h1, h2⟩ := h
  rw [readF_yes h1 s h2, specReadF_yes h1 s h2 3000 (by omega)]
 ·rcases readF_cases s with h1 | h1
  ·rcases specReadF_cases s 3000 (by omega) with h2 | h2
   ·rw [h1, h2]
   ·exact absurd h2 h
  ·exact absurd h1 h
theorem readF_len (s : ByteArray) : (readF s).2.1.length ≤ 24 := by
 rcases readF_cases s with h | ⟨n, bs, h1, h2⟩
 ·rw [h]; simp
 ·rw [readF_yes h1 s h2]
  exact (ok_near h1).2.1
end Go.Proofs.YtbgokpobaemibaaDoor.Pure

