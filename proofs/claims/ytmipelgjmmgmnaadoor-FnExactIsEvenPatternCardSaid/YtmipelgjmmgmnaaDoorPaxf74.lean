-- Written for this claim by a program of this session.
import Derived.Test.YtmipelgjmmgmnaaDoorPax0
import Derived.Test.YtmipelgjmmgmnaaDoorPaxf105
import Derived.Test.YtmipelgjmmgmnaaDoorPaxf106
import Derived.Test.YtmipelgjmmgmnaaDoorPaxf107
namespace Go.Proofs.YtmipelgjmmgmnaaDoor.Pa
open Go.RowKit Go.Proofs.YtmipelgjmmgmnaaDoorW.PrintWords Go.Proofs.YtmipelgjmmgmnaaDoorW.PrintLast Go.Proofs.YtmipelgjmmgmnaaDoorW.PrintMore
attribute [local go_sem] max2_int min2_int max_two min_two max_three min_three max_four min_four   -- for this text's walks alone
set_option linter.unusedVariables false
set_option linter.unusedSimpArgs false

/-! ### spec_l03Uneven: function 74 -/
mutual
def spec_l03Uneven.l0 : Nat → Int → Int → ByteArray → Int → Option (Int)
  | 0, _, _, _, _ => none
  | k + 1, x3, x4, x5, x6 => if x6 < x4 then (spec_l03Uneven.l1 k x3 x4 x5 x6 x4 0 0) else (some x3)
def spec_l03Uneven.l1 : Nat → Int → Int → ByteArray → Int → Int → Int → Int → Option (Int)
  | 0, _, _, _, _, _, _, _ => none
  | k + 1, x3, x4, x5, x6, x7, x8, x9 => if x9 < x4 then (if 0 ≤ x9 then (if x9 ≤ (wrap64 (x9 + x6)) then (if (wrap64 (x9 + x6)) ≤ (x5.size : Int) then ((spec_l01Ones.f k (x5.extract (x9 : Int).toNat ((wrap64 (x9 + x6)) : Int).toNat)).bind fun t256 => ((spec_l00Min.f x7 t256).bind fun t257 => ((spec_l00Max.f x8 t256).bind fun t258 => (spec_l03Uneven.l1 k x3 x4 x5 x6 t257 t258 (wrap64 (x9 + 1)))))) else (none)) else (none)) else (none)) else ((spec_l00Max.f x3 (wrap64 (x8 - x7))).bind fun t259 => (spec_l03Uneven.l0 k t259 x4 x5 (wrap64 (x6 + 1))))
end
def spec_l03Uneven.f (k : Nat) (a0 : ByteArray) : Option (Int) := if a0.size + a0.size ≤ 9223372036854775807 then (spec_l03Uneven.l0 k 0 (a0.size : Int) (a0 ++ a0) 1) else (none)
theorem spec_l03Uneven.mono_l : ∀ k, (∀ y0 y1 y2 y3, LeO (spec_l03Uneven.l0 k y0 y1 y2 y3) (spec_l03Uneven.l0 (k + 1) y0 y1 y2 y3)) ∧ (∀ y0 y1 y2 y3 y4 y5 y6, LeO (spec_l03Uneven.l1 k y0 y1 y2 y3 y4 y5 y6) (spec_l03Uneven.l1 (k + 1) y0 y1 y2 y3 y4 y5 y6))
  | 0 => ⟨fun _ _ _ _ r h => by simp [spec_l03Uneven.l0] at h, fun _ _ _ _ _ _ _ r h => by simp [spec_l03Uneven.l1] at h⟩
  | k + 1 => by
    obtain ⟨ih0, ih1⟩ := spec_l03Uneven.mono_l k
    refine ⟨?_, ?_⟩
    · intro y0 y1 y2 y3
      unfold spec_l03Uneven.l0
      repeat' first
      | (with_reducible exact ih0 _ _ _ _)
      | (with_reducible exact ih1 _ _ _ _ _ _ _)
      | (with_reducible exact spec_l01Ones.mono _ _)
      | (with_reducible exact LeO.refl _)
      | (with_reducible exact LeO.none _)
      | (with_reducible refine LeO.ite ?_ ?_)
      | (with_reducible refine LeO.bind ?_ (fun _ => ?_))
      | exact ih0 _ _ _ _
      | exact ih1 _ _ _ _ _ _ _
      | exact spec_l01Ones.mono _ _
      | exact LeO.none _
      | refine LeO.ite ?_ ?_
      | refine LeO.bind ?_ (fun _ => ?_)
    · intro y0 y1 y2 y3 y4 y5 y6
      unfold spec_l03Uneven.l1
      repeat' first
      | (with_reducible exact ih0 _ _ _ _)
      | (with_reducible exact ih1 _ _ _ _ _ _ _)
      | (with_reducible exact spec_l01Ones.mono _ _)
      | (with_reducible exact LeO.refl _)
      | (with_reducible exact LeO.none _)
      | (with_reducible refine LeO.ite ?_ ?_)
      | (with_reducible refine LeO.bind ?_ (fun _ => ?_))
      | exact ih0 _ _ _ _
      | exact ih1 _ _ _ _ _ _ _
      | exact spec_l01Ones.mono _ _
      | exact LeO.none _
      | refine LeO.ite ?_ ?_
      | refine LeO.bind ?_ (fun _ => ?_)
theorem spec_l03Uneven.mono : ∀ a0 k, LeO (spec_l03Uneven.f k a0) (spec_l03Uneven.f (k + 1) a0) := by
  intro a0 k
  obtain ⟨ih0, ih1⟩ := spec_l03Uneven.mono_l k
  unfold spec_l03Uneven.f
  repeat' first
      | (with_reducible exact ih0 _ _ _ _)
      | (with_reducible exact ih1 _ _ _ _ _ _ _)
      | (with_reducible exact spec_l01Ones.mono _ _)
      | (with_reducible exact LeO.refl _)
      | (with_reducible exact LeO.none _)
      | (with_reducible refine LeO.ite ?_ ?_)
      | (with_reducible refine LeO.bind ?_ (fun _ => ?_))
      | exact ih0 _ _ _ _
      | exact ih1 _ _ _ _ _ _ _
      | exact spec_l01Ones.mono _ _
      | exact LeO.none _
      | refine LeO.ite ?_ ?_
      | refine LeO.bind ?_ (fun _ => ?_)
set_option maxHeartbeats 8000000 in
set_option maxRecDepth 100000 in
theorem spec_l03Uneven.calls (k : Nat) (a0 : ByteArray) (r : Int) (w : World) (h : spec_l03Uneven.f k a0 = some r) :
    Calls Tryd.prog 74 #[.string a0] w fun e w' => e = .returned (.int .i64 r) ∧ Drawn0 w w' := by
  have H : (if a0.size + a0.size ≤ 9223372036854775807 then (spec_l03Uneven.l0 k 0 (a0.size : Int) (a0 ++ a0) 1) else (none)) = some r := h
  clear h
  by_cases c2 : a0.size + a0.size ≤ 9223372036854775807
  · rw [if_pos c2] at H
    have c2b0 := eq_true c2
    have c2b1 : decide (a0.size + a0.size ≤ 9223372036854775807) = true := decide_eq_true c2
    try have c2b2 : (9223372036854775807 < a0.size + a0.size) = False := eq_false (Nat.not_lt.2 c2)
    have H' := Aside0.mk H
    clear H
    go_enter Tryd.func74, Tryd.ntmps74
    go_wp2
    go_loopg [3, 6] k (fun kq v3 v6 w' => ∃ (x3_1 : Int) (x6_1 : Int), v3 = .int .i64 x3_1 ∧ v6 = .int .i64 x6_1 ∧ Aside0 (spec_l03Uneven.l0 kq x3_1 (a0.size : Int) (a0 ++ a0) x6_1 = some r) ∧ Aside0 (kq ≤ k) ∧ Drawn0 w w')
    case atStart => exact ⟨(0), (1), (by first | rfl | (simp; done) | (simp [*]; done)), (by first | rfl | (simp; done) | (simp [*]; done)), H', ⟨Nat.le_refl _⟩, by repeat (first | exact Drawn0.refl _ | apply Drawn0.step)⟩
    case round =>
      clear H'
      try clear c2
      try clear c2b0
      try clear c2b1
      try clear c2b2
      try clear p2
      obtain ⟨x3_1, x6_1, rfl, rfl, HA, HK1, ⟨m1, rfl⟩⟩ := hrel
      cases gk with
      | zero => exact absurd HA.out (by simp [spec_l03Uneven.l0])
      | succ k1 =>
        have H := HA.out
        clear HA
        simp only [spec_l03Uneven.l0] at H
        by_cases c3 : x6_1 < (a0.size : Int)
        · rw [if_pos c3] at H
          have c3b0 : decide (x6_1 < (a0.size : Int)) = true := decide_eq_true c3
          clear c3
          have H' := Aside0.mk H
          clear H
          go_wp2
          go_loopg [7, 8, 9] k1 (fun kq v7 v8 v9 w' => ∃ (x7_2 : Int) (x8_2 : Int) (x9_2 : Int), v7 = .int .i64 x7_2 ∧ v8 = .int .i64 x8_2 ∧ v9 = .int .i64 x9_2 ∧ Aside0 (spec_l03Uneven.l1 kq x3_1 (a0.size : Int) (a0 ++ a0) x6_1 x7_2 x8_2 x9_2 = some r) ∧ Aside0 (kq ≤ k1) ∧ Drawn0 w w')
          case atStart => exact ⟨((a0.size : Int)), (0), (0), (by first | rfl | (simp; done) | (simp [*]; done)), (by first | rfl | (simp; done) | (simp [*]; done)), (by first | rfl | (simp; done) | (simp [*]; done)), H', ⟨Nat.le_refl _⟩, by repeat (first | exact Drawn0.refl _ | apply Drawn0.step)⟩
          case round =>
            clear H'
            try clear c2
            try clear c2b0
            try clear c2b1
            try clear c2b2
            try clear p2
            try clear c3
            try clear c3b0
            try clear p2
            obtain ⟨x7_2, x8_2, x9_2, rfl, rfl, rfl, HA, HK2, ⟨m2, rfl⟩⟩ := hrel
            cases gk with
            | zero => exact absurd HA.out (by simp [spec_l03Uneven.l1])
            | succ k2 =>
              have H := HA.out
              clear HA
              simp only [spec_l03Uneven.l1] at H
              by_cases c4 : x9_2 < (a0.size : Int)
              · rw [if_pos c4] at H
                have c4b0 : decide (x9_2 < (a0.size : Int)) = true := decide_eq_true c4
                clear c4
                by_cases c5 : 0 ≤ x9_2
                · rw [if_pos c5] at H
                  have c5b0 := eq_true c5
                  have c5b1 : decide (0 ≤ x9_2) = true := decide_eq_true c5
                  clear c5
                  by_cases c6 : x9_2 ≤ (wrap64 (x9_2 + x6_1))
                  · rw [if_pos c6] at H
                    have c6b0 := eq_true c6
                    have c6b1 : decide (x9_2 ≤ (wrap64 (x9_2 + x6_1))) = true := decide_eq_true c6
                    by_cases c7 : (wrap64 (x9_2 + x6_1)) ≤ ((a0 ++ a0).size : Int)
                    · rw [if_pos c7] at H
                      have c7b0 := eq_true c7
                      have c7b1 : decide ((wrap64 (x9_2 + x6_1)) ≤ ((a0 ++ a0).size : Int)) = true := decide_eq_true c7
                      have c7b2 : (wrap64 (x9_2 + x6_1) ≤ (a0.size : Int) + (a0.size : Int)) = True := eq_true (by have := c7; rw [ByteArray.size_append] at this; omega)
                      have c7b3 : decide (wrap64 (x9_2 + x6_1) ≤ (a0.size : Int) + (a0.size : Int)) = true := decide_eq_true (by have := c7; rw [ByteArray.size_append] at this; omega)
                      replace H := Option.bind_eq_some_iff.mp H
                      obtain ⟨t256, A80, H⟩ := H
                      replace H : ((spec_l00Min.f x7_2 t256).bind fun t257 => ((spec_l00Max.f x8_2 t256).bind fun t258 => (spec_l03Uneven.l1 k2 x3_1 (a0.size : Int) (a0 ++ a0) x6_1 t257 t258 (wrap64 (x9_2 + 1))))) = some r := H
                      have A8 := Aside0.mk A80
                      clear A80
                      replace H := Option.bind_eq_some_iff.mp H
                      obtain ⟨t257, A90, H⟩ := H
                      replace H : ((spec_l00Max.f x8_2 t256).bind fun t258 => (spec_l03Uneven.l1 k2 x3_1 (a0.size : Int) (a0 ++ a0) x6_1 t257 t258 (wrap64 (x9_2 + 1)))) = some r := H
                      have A9 := Aside0.mk A90
                      clear A90
                      replace H := Option.bind_eq_some_iff.mp H
                      obtain ⟨t258, A100, H⟩ := H
                      replace H : (spec_l03Uneven.l1 k2 x3_1 (a0.size : Int) (a0 ++ a0) x6_1 t257 t258 (wrap64 (x9_2 + 1))) = some r := H
                      have A10 := Aside0.mk A100
                      clear A100
                      have H' := Aside0.mk H
                      clear H
                      go_wp2_with (first | ((with_reducible refine gate_callee (f := 105) rfl ?_); refine goesL_ (some 33) rfl rfl Tryd.func105 (by kernel_rfl) rfl #[.string ((a0 ++ a0).extract (x9_2 : Int).toNat ((wrap64 (x9_2 + x6_1)) : Int).toNat)] rfl (by (try simp only [List.map_toArray, List.map_cons, List.map_nil]); first | done | rfl | (simp only [List.length_drop, List.length_take]; rfl)) ?_; (with_reducible refine (spec_l01Ones.calls k2 ((a0 ++ a0).extract (x9_2 : Int).toNat ((wrap64 (x9_2 + x6_1)) : Int).toNat) t256 _ A8.out).mono ?_); rintro e w' ⟨rfl, ⟨nd, rfl⟩⟩; refine ⟨_, rfl, ?_⟩) | ((with_reducible refine gate_callee (f := 106) rfl ?_); refine goesL_ (some 36) rfl rfl Tryd.func106 (by kernel_rfl) rfl #[.int .i64 x7_2, .int .i64 t256] rfl (by (try simp only [List.map_toArray, List.map_cons, List.map_nil]); first | done | rfl | (simp only [List.length_drop, List.length_take]; rfl)) ?_; (with_reducible refine (spec_l00Min.calls x7_2 t256 t257 _ A9.out).mono ?_); rintro e w' ⟨rfl, ⟨nd, rfl⟩⟩; refine ⟨_, rfl, ?_⟩) | ((with_reducible refine gate_callee (f := 107) rfl ?_); refine goesL_ (some 39) rfl rfl Tryd.func107 (by kernel_rfl) rfl #[.int .i64 x8_2, .int .i64 t256] rfl (by (try simp only [List.map_toArray, List.map_cons, List.map_nil]); first | done | rfl | (simp only [List.length_drop, List.length_take]; rfl)) ?_; (with_reducible refine (spec_l00Max.calls x8_2 t256 t258 _ A10.out).mono ?_); rintro e w' ⟨rfl, ⟨nd, rfl⟩⟩; refine ⟨_, rfl, ?_⟩))
                      go_roundg k2
                      case measure => have := HK1.out; have := HK2.out; omega
                      case rel => exact ⟨(t257), (t258), (wrap64 (x9_2 + 1)), (by first | rfl | (simp; done) | (simp [*]; done)), (by first | rfl | (simp; done) | (simp [*]; done)), (by first | rfl | (simp; done) | (simp [*]; done)), H', ⟨by have := HK1.out; have := HK2.out; omega⟩, by repeat (first | exact Drawn0.refl _ | apply Drawn0.step)⟩
                    · rw [if_neg c7] at H
                      exact absurd H (by simp)
                  · rw [if_neg c6] at H
                    exact absurd H (by simp)
                · rw [if_neg c5] at H
                  exact absurd H (by simp)
              · rw [if_neg c4] at H
                have c4b0 : decide (x9_2 < (a0.size : Int)) = false := decide_eq_false c4
                clear c4
                replace H := Option.bind_eq_some_iff.mp H
                obtain ⟨t259, A110, H⟩ := H
                replace H : (spec_l03Uneven.l0 k2 t259 (a0.size : Int) (a0 ++ a0) (wrap64 (x6_1 + 1))) = some r := H
                have A11 := Aside0.mk A110
                clear A110
                have H' := Aside0.mk H
                clear H
                go_wp2_with (first | ((with_reducible refine gate_callee (f := 107) rfl ?_); refine goesL_ (some 44) rfl rfl Tryd.func107 (by kernel_rfl) rfl #[.int .i64 x3_1, .int .i64 (wrap64 (x8_2 - x7_2))] rfl (by (try simp only [List.map_toArray, List.map_cons, List.map_nil]); first | done | rfl | (simp only [List.length_drop, List.length_take]; rfl)) ?_; (with_reducible refine (spec_l00Max.calls x3_1 (wrap64 (x8_2 - x7_2)) t259 _ A11.out).mono ?_); rintro e w' ⟨rfl, ⟨nd, rfl⟩⟩; refine ⟨_, rfl, ?_⟩))
                go_roundg k2
                case measure => have := HK1.out; have := HK2.out; omega
                case rel => exact ⟨(t259), (wrap64 (x6_1 + 1)), (by first | rfl | (simp; done) | (simp [*]; done)), (by first | rfl | (simp; done) | (simp [*]; done)), H', ⟨by have := HK1.out; have := HK2.out; omega⟩, by repeat (first | exact Drawn0.refl _ | apply Drawn0.step)⟩
        · rw [if_neg c3] at H
          have c3b0 : decide (x6_1 < (a0.size : Int)) = false := decide_eq_false c3
          clear c3
          obtain rfl := Option.some.inj H
          go_wp2
          go_ret
          exact ⟨by first | rfl | (simp; done) | (simp [*]; done), by repeat (first | exact Drawn0.refl _ | apply Drawn0.step)⟩
  · rw [if_neg c2] at H
    exact absurd H (by simp)

end Go.Proofs.YtmipelgjmmgmnaaDoor.Pa
