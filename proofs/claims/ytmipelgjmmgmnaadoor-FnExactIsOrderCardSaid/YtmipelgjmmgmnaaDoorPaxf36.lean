-- Written for this claim by a program of this session.
import Derived.Test.YtmipelgjmmgmnaaDoorPax0
import Derived.Test.YtmipelgjmmgmnaaDoorPaxf61
import Derived.Test.YtmipelgjmmgmnaaDoorPaxf77
import Derived.Test.YtmipelgjmmgmnaaDoorPaxf78
import Derived.Test.YtmipelgjmmgmnaaDoorShelfR
namespace Go.Proofs.YtmipelgjmmgmnaaDoor.Pa
open Go.RowKit Go.Proofs.YtmipelgjmmgmnaaDoorW.PrintWords Go.Proofs.YtmipelgjmmgmnaaDoorW.PrintLast Go.Proofs.YtmipelgjmmgmnaaDoorW.PrintMore
attribute [local go_sem] max2_int min2_int max_two min_two max_three min_three max_four min_four   -- for this text's walks alone
set_option linter.unusedVariables false
set_option linter.unusedSimpArgs false

/-! ### impl_IsOrder: function 36 -/
/-- Whether a text bears as many of one letter in a row. -/
def hasRun (s : ByteArray) (c : UInt8) (n : Nat) : Bool := Lib.contains s.data.toList (Lib.repeatL [c] n)
def ratioB (n : Int) : Bool := decide (1 ≤ n) && decide (n ≤ 4)
theorem ratio_tells (n : Int) : impl_isRatio.f n = some (ratioB n) := by
  have hin : impl_within.f n 1 4 = some (ratioB n) := by
    unfold impl_within.f ratioB
    by_cases h : (1 : Int) ≤ n <;> simp [h]
  unfold impl_isRatio.f
  rw [hin]
  rfl
def impl_IsOrder.f (a0 : ByteArray) (a1 : Int) : Option Bool := some (isOrderB a0 && (ratioB a1 && (!(hasRun a0 115 (a1 + 1).toNat) && !(hasRun a0 114 (a1 + 1).toNat))))
set_option maxHeartbeats 4000000 in
set_option maxRecDepth 100000 in
theorem impl_IsOrder.calls (a0 : ByteArray) (a1 : Int) (r : Bool) (w : World) (m : Int) (hm : w.cell? ⟨0, 0, none⟩ = some (.int .i64 m)) (h : impl_IsOrder.f a0 a1 = some r) :
    Calls Tryd.prog 36 #[.string a0, .int .i64 a1] w fun e w' => e = .returned (.bool r) ∧ Below w.heap.size w w' := by
  obtain rfl := Option.some.inj h
  clear h
  have HO : Aside0 (impl_isOrder.f a0 = some (isOrderB a0)) := ⟨rfl⟩
  have HR : Aside0 (impl_isRatio.f a1 = some (ratioB a1)) := ⟨ratio_tells a1⟩
  have HM := Aside0.mk hm
  clear hm
  have HL : Aside0 (isOrderB a0 = true → a0.size < 4294967281) := ⟨fun h => by
    unfold isOrderB at h
    rw [Bool.and_eq_true, decide_eq_true_eq] at h
    omega⟩
  have HQ : Aside0 (ratioB a1 = true → 1 ≤ a1 ∧ a1 ≤ 4) := ⟨fun h => by
    unfold ratioB at h
    rw [Bool.and_eq_true, decide_eq_true_eq, decide_eq_true_eq] at h
    exact h⟩
  cases h1 : isOrderB a0 with
  | false =>
    rw [h1] at HO
    clear h1 HL HQ HR
    go_enter Tryd.func36, Tryd.ntmps36
    go_wp2_with (go_at_call 77; with_reducible refine (impl_isOrder.calls _ _ _ HO.out).mono ?_; rintro e w1 ⟨rfl, hb1⟩)
    go_ret
    exact ⟨rfl, hb1⟩
  | true =>
    rw [h1] at HO
    cases h2 : ratioB a1 with
    | false =>
      rw [h2] at HR
      clear h1 h2 HL HQ
      go_enter Tryd.func36, Tryd.ntmps36
      go_wp2_with (first | (go_at_call 77; with_reducible refine (impl_isOrder.calls _ _ _ HO.out).mono ?_; rintro e w1 ⟨rfl, hb1⟩) | (go_at_call 78; with_reducible refine (impl_isRatio.calls _ _ _ HR.out).mono ?_; rintro e w2 ⟨rfl, nd, rfl⟩))
      go_ret
      exact ⟨rfl, pw_below_drewN hb1 _⟩
    | true =>
      rw [h2] at HR
      have hl := HL.out h1
      have hq := HQ.out h2
      clear h1 h2 HL HQ
      obtain ⟨n, rfl⟩ : ∃ n : Nat, a1 = n := ⟨a1.toNat, by omega⟩
      have hn : n ≤ 4 := by omega
      have hw : wrap64 ((n : Int) + 1) = ((n + 1 : Nat) : Int) := by unfold wrap64; omega
      have HN : Aside0 (((n : Int) + 1).toNat = n + 1) := ⟨by omega⟩
      have HL := Aside0.mk hl
      have HK := Aside0.mk hn
      have HS := Aside0.mk (fun (c : UInt8) (w : World) => Tryd.strings_Repeat ⟨#[c]⟩ (n + 1) w (by omega) (by show 1 * (n + 1) ≤ _; omega))
      rw [← hw] at HS
      have HC : Aside0 (∀ (c : UInt8) (w1 : World), Below w.heap.size w w1 → Calls Tryd.prog 79 #[.string a0, .string ⟨(Lib.repeatL (⟨#[c]⟩ : ByteArray).data.toList (n + 1)).toArray⟩] w1 fun e w' => e = .returned (.bool (hasRun a0 c (n + 1))) ∧ w' = w1) :=
        ⟨fun c w1 hb => Tryd.strings_Contains a0 ⟨(Lib.repeatL [c] (n + 1)).toArray⟩ m w1 HL.out (pw_cell_below hb HM.out)⟩
      rw [HN.out]
      clear hl hq hn hw HN HK HL HM
      generalize hasRun a0 = z at HC ⊢
      cases q1 : z 115 (n + 1) with
      | true =>
        have HZ := Aside0.mk q1
        clear q1
        go_enter Tryd.func36, Tryd.ntmps36
        go_wp2_with (first | (go_at_call 77; with_reducible refine (impl_isOrder.calls _ _ _ HO.out).mono ?_; rintro e w1 ⟨rfl, hb1⟩) | (go_at_call 78; with_reducible refine (impl_isRatio.calls _ _ _ HR.out).mono ?_; rintro e w2 ⟨rfl, nd, rfl⟩; have HB := Aside0.mk (pw_below_drewN hb1 nd); clear hb1) | (go_at_call 80; with_reducible refine (HS.out 115 _).mono ?_; rintro e w3 ⟨rfl, hb3⟩; have HB3 := Aside0.mk (below_step HB.out hb3); clear hb3 HB) | (go_at_call 79; with_reducible refine (HC.out 115 _ HB3.out).mono ?_; rw [HZ.out]; rintro e w4 ⟨rfl, rfl⟩))
        go_ret
        exact ⟨rfl, HB3.out⟩
      | false =>
        cases q2 : z 114 (n + 1) with
        | true =>
          have HZ := Aside0.mk q1
          have HY := Aside0.mk q2
          clear q1 q2
          go_enter Tryd.func36, Tryd.ntmps36
          go_wp2_with (first | (go_at_call 77; with_reducible refine (impl_isOrder.calls _ _ _ HO.out).mono ?_; rintro e w1 ⟨rfl, hb1⟩) | (go_at_call 78; with_reducible refine (impl_isRatio.calls _ _ _ HR.out).mono ?_; rintro e w2 ⟨rfl, nd, rfl⟩; have HB := Aside0.mk (pw_below_drewN hb1 nd); clear hb1) | (go_at_call 80; with_reducible refine (HS.out 115 _).mono ?_; rintro e w3 ⟨rfl, hb3⟩; have HB3 := Aside0.mk (below_step HB.out hb3); clear hb3 HB) | (go_at_call 79; with_reducible refine (HC.out 115 _ HB3.out).mono ?_; rw [HZ.out]; rintro e w4 ⟨rfl, rfl⟩) | (go_at_call 80; with_reducible refine (HS.out 114 _).mono ?_; rintro e w5 ⟨rfl, hb5⟩; have HB5 := Aside0.mk (below_step HB3.out hb5); clear hb5) | (go_at_call 79; with_reducible refine (HC.out 114 _ HB5.out).mono ?_; rw [HY.out]; rintro e w4 ⟨rfl, rfl⟩))
          go_ret
          exact ⟨rfl, HB5.out⟩
        | false =>
          have HZ := Aside0.mk q1
          have HY := Aside0.mk q2
          clear q1 q2
          go_enter Tryd.func36, Tryd.ntmps36
          go_wp2_with (first | (go_at_call 77; with_reducible refine (impl_isOrder.calls _ _ _ HO.out).mono ?_; rintro e w1 ⟨rfl, hb1⟩) | (go_at_call 78; with_reducible refine (impl_isRatio.calls _ _ _ HR.out).mono ?_; rintro e w2 ⟨rfl, nd, rfl⟩; have HB := Aside0.mk (pw_below_drewN hb1 nd); clear hb1) | (go_at_call 80; with_reducible refine (HS.out 115 _).mono ?_; rintro e w3 ⟨rfl, hb3⟩; have HB3 := Aside0.mk (below_step HB.out hb3); clear hb3 HB) | (go_at_call 79; with_reducible refine (HC.out 115 _ HB3.out).mono ?_; rw [HZ.out]; rintro e w4 ⟨rfl, rfl⟩) | (go_at_call 80; with_reducible refine (HS.out 114 _).mono ?_; rintro e w5 ⟨rfl, hb5⟩; have HB5 := Aside0.mk (below_step HB3.out hb5); clear hb5) | (go_at_call 79; with_reducible refine (HC.out 114 _ HB5.out).mono ?_; rw [HY.out]; rintro e w4 ⟨rfl, rfl⟩))
          go_ret
          exact ⟨rfl, HB5.out⟩

end Go.Proofs.YtmipelgjmmgmnaaDoor.Pa
