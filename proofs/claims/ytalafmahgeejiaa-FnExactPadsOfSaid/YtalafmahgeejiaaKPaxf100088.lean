-- Written for this claim by a program of this session.
import Derived.Test.YtalafmahgeejiaaPax0
import Derived.Test.YtalafmahgeejiaaCore1
namespace Go.Proofs.Ytalafmahgeejiaa.Pa
open Go.RowKit Go.Proofs.YtalafmahgeejiaaW.PrintWords Go.Proofs.YtalafmahgeejiaaW.PrintLast Go.Proofs.YtalafmahgeejiaaW.PrintMore
attribute [local go_sem] max2_int min2_int max_two min_two max_three min_three max_four min_four   -- for this text's walks alone
set_option linter.unusedVariables false
set_option linter.unusedSimpArgs false

/-! ### impl_areSkews_1: function 100088 -/
/-- The test that areSkews hands on: a number that is no skew. -/
def badSkew (x : Int) : Bool := !(decide (0 ≤ x) && decide (x ≤ 100000))
def impl_areSkews_1.f (l : List Int) : Option Bool := some (l.any badSkew)
set_option maxHeartbeats 4000000 in
set_option maxRecDepth 100000 in
theorem impl_areSkews_1.test (w W : World) (x : Int) (hb : Below w.heap.size w W) :
  Calls Try.prog 88 (#[.int .i64 x] ++ #[]) W fun e w' => e = .returned (.bool (badSkew x)) ∧ Below w.heap.size w w' := by
 have HB := Aside0.mk hb
 clear hb
 have hq : impl_within.f x 0 100000 = some (decide (0 ≤ x) && decide (x ≤ 100000)) := by
  unfold impl_within.f
  by_cases h : 0 ≤ x <;> simp [h]
 have HQ := Aside0.mk hq
 clear hq
 unfold badSkew
 generalize (decide (0 ≤ x) && decide (x ≤ 100000)) = q at HQ ⊢
 show Calls Try.prog 88 #[.int .i64 x] W _
 go_enter Try.func88, Try.ntmps88
 go_wp2_with (go_at_call 49; refine (impl_within.calls _ _ _ q _ HQ.out).mono ?_; rintro e w' ⟨rfl, ⟨nd, rfl⟩⟩)
 go_ret
 exact ⟨rfl, pw_below_drewN HB.out nd⟩
theorem impl_areSkews_1.calls (A : Option Addr) (c : Nat) (l : List Int) (r : Bool) (w : World) (hr : Kd.C (Kd.int .i64) w A l.length l) (hc : l.length ≤ c) (h : impl_areSkews_1.f l = some r) :
  Calls Try.prog 52 #[.slice A l.length c, .func (.func 88) #[] #[]] w fun e w' => e = .returned (.bool r) ∧ Below w.heap.size w w' := by
 obtain rfl := Option.some.inj h
 exact containsI.calls A c l 88 #[] badSkew w hr (enters_of Try.func88 (by kernel_rfl) rfl) (fun W x _ hb => impl_areSkews_1.test w W x hb)

end Go.Proofs.Ytalafmahgeejiaa.Pa
