-- Written for this claim by a program of this session.
import Derived.Test.YtalafmahgeejiaaPax0
import Derived.Test.YtalafmahgeejiaaPaxf49
import Derived.Test.YtalafmahgeejiaaPaxacontainsI
namespace Go.Proofs.Ytalafmahgeejiaa.Pa
open Go.RowKit Go.Proofs.YtalafmahgeejiaaW.PrintWords Go.Proofs.YtalafmahgeejiaaW.PrintLast Go.Proofs.YtalafmahgeejiaaW.PrintMore
attribute [local go_sem] max2_int min2_int max_two min_two max_three min_three max_four min_four   -- for this text's walks alone
set_option linter.unusedVariables false
set_option linter.unusedSimpArgs false

/-! ### impl_ValidCircuit_1: function 100053 -/
/-- The test that ValidCircuit hands on: a node that is none. -/
def badNode (n m x : Int) : Bool := !(decide (0 ≤ x) && decide (x ≤ wrap64 (wrap64 (n + m) - 1)))
def impl_ValidCircuit_1.f (l : List Int) (n m : Int) : Option Bool := some (l.any (badNode n m))
set_option maxHeartbeats 4000000 in
set_option maxRecDepth 100000 in
theorem impl_ValidCircuit_1.test {g : Nat} {n a3 a4 a5 a6 : Int} {Ag A2 : Option Addr} {mm cg n2 c2 : Nat} (w W : World) (x : Int)
    (hbk : w.heap[g]? = some (.cells #[.int .i64 n, .slice Ag mm cg, .slice A2 n2 c2, .int .i64 a3, .int .i64 a4, .int .i64 a5, .int .i64 a6] 30 (0, 0))) (hb : Below w.heap.size w W) :
    Calls Try.prog 53 (#[.int .i64 x] ++ #[.pointer (some ⟨g, 0, none⟩)]) W fun e w' => e = .returned (.bool (badNode n (mm : Int) x)) ∧ Below w.heap.size w w' := by
  have hu := Try.underlying30
  have c0 : W.cell? ⟨g, 0, none⟩ = some (.int .i64 n) := pw_cell_below hb ((blk_cell hbk 0).trans rfl)
  have c1 : W.cell? ⟨g, 1, none⟩ = some (.slice Ag mm cg) := pw_cell_below hb ((blk_cell hbk 1).trans rfl)
  have c2' : W.cell? ⟨g, 2, none⟩ = some (.slice A2 n2 c2) := pw_cell_below hb ((blk_cell hbk 2).trans rfl)
  have c3 : W.cell? ⟨g, 3, none⟩ = some (.int .i64 a3) := pw_cell_below hb ((blk_cell hbk 3).trans rfl)
  have c4 : W.cell? ⟨g, 4, none⟩ = some (.int .i64 a4) := pw_cell_below hb ((blk_cell hbk 4).trans rfl)
  have c5 : W.cell? ⟨g, 5, none⟩ = some (.int .i64 a5) := pw_cell_below hb ((blk_cell hbk 5).trans rfl)
  have c6 : W.cell? ⟨g, 6, none⟩ = some (.int .i64 a6) := pw_cell_below hb ((blk_cell hbk 6).trans rfl)
  have HB := Aside0.mk hb
  clear hb hbk
  have hq : impl_within.f x 0 (wrap64 (wrap64 (n + (mm : Int)) - 1)) = some (decide (0 ≤ x) && decide (x ≤ wrap64 (wrap64 (n + (mm : Int)) - 1))) := by
    unfold impl_within.f
    by_cases h : 0 ≤ x <;> simp [h]
  have HQ := Aside0.mk hq
  clear hq
  have HE : Aside0 (badNode n (mm : Int) x = !(decide (0 ≤ x) && decide (x ≤ wrap64 (wrap64 (n + (mm : Int)) - 1)))) := ⟨rfl⟩
  generalize badNode n (mm : Int) x = b at HE ⊢
  generalize (decide (0 ≤ x) && decide (x ≤ wrap64 (wrap64 (n + (mm : Int)) - 1))) = q at HQ HE
  show Calls Try.prog 53 #[.int .i64 x, .pointer (some ⟨g, 0, none⟩)] W _
  go_enter Try.func53, Try.ntmps53
  go_wp2_with (first | (go_at_call 49; refine (impl_within.calls _ _ _ q _ HQ.out).mono ?_; rintro e w' ⟨rfl, ⟨nd, rfl⟩⟩) | go_in)
  go_ret
  exact ⟨by rw [HE.out]; rfl, HB.out.trans (Below.mono (pw_below_drewN (below_alloc (Below.refl _ _) _) nd) HB.out.size)⟩
theorem impl_ValidCircuit_1.calls {g : Nat} {a3 a4 a5 a6 : Int} {Ag A2 : Option Addr} {mm cg n2 c2 : Nat} (A : Option Addr) (c : Nat) (l : List Int) (n m : Int) (r : Bool) (w : World) (hr : Kd.C (Kd.int .i64) w A l.length l) (hc : l.length ≤ c) (h : impl_ValidCircuit_1.f l n m = some r)
    (hbk : w.heap[g]? = some (.cells #[.int .i64 n, .slice Ag mm cg, .slice A2 n2 c2, .int .i64 a3, .int .i64 a4, .int .i64 a5, .int .i64 a6] 30 (0, 0))) (hm : m = (mm : Int)) :
    Calls Try.prog 52 #[.slice A l.length c, .func (.func 53) #[] #[.pointer (some ⟨g, 0, none⟩)]] w fun e w' => e = .returned (.bool r) ∧ Below w.heap.size w w' := by
  subst hm
  obtain rfl := Option.some.inj h
  exact containsI.calls A c l 53 #[.pointer (some ⟨g, 0, none⟩)] (badNode n (mm : Int)) w hr (enters_of Try.func53 (by kernel_rfl) rfl) (fun W x _ hb => impl_ValidCircuit_1.test w W x hbk hb)

end Go.Proofs.Ytalafmahgeejiaa.Pa
