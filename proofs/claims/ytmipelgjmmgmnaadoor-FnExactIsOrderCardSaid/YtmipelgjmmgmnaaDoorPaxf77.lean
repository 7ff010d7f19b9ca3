-- Written for this claim by a program of this session.
import Derived.Test.YtmipelgjmmgmnaaDoorPax0
import Derived.Test.YtmipelgjmmgmnaaDoorPaxatrimmed
import Derived.Test.YtmipelgjmmgmnaaDoorShelfT
import Derived.Shelf.Abstract
namespace Go.Proofs.YtmipelgjmmgmnaaDoor.Pa
open Go.RowKit Go.Proofs.YtmipelgjmmgmnaaDoorW.PrintWords Go.Proofs.YtmipelgjmmgmnaaDoorW.PrintLast Go.Proofs.YtmipelgjmmgmnaaDoorW.PrintMore
attribute [local go_sem] max2_int min2_int max_two min_two max_three min_three max_four min_four   -- for this text's walks alone
set_option linter.unusedVariables false
set_option linter.unusedSimpArgs false

/-! ### impl_isOrder: function 77 -/
/-- The letters of an order. -/
def orderB (l : List UInt8) : Bool := l.all fun b => [(114 : UInt8), 115].contains b
def isOrderB (s : ByteArray) : Bool := decide (s.size ≤ 300) && orderB s.data.toList
def impl_isOrder.f (a0 : ByteArray) : Option (Bool) := some (isOrderB a0)
set_option maxHeartbeats 2000000 in
set_option maxRecDepth 100000 in
theorem impl_isOrder.calls (a0 : ByteArray) (r : Bool) (w : World) (h : impl_isOrder.f a0 = some r) :
    Calls Tryd.prog 77 #[.string a0] w fun e w' => e = .returned (.bool r) ∧ Below w.heap.size w w' := by
  obtain rfl := Option.some.inj h
  clear h
  by_cases hl : a0.size ≤ 300
  · have c1 : decide ((a0.size : Int) ≤ 300) = true := decide_eq_true (by omega)
    have c2 : decide (a0.size ≤ 300) = true := decide_eq_true hl
    have HT := Aside0.mk (Any.strings_Trim_laid Tryd.lays160 (by kernel_rfl) a0 ⟨#[114, 115]⟩ w (by omega) (by decide) (ascii_of_all (by decide)))
    have HE : Aside0 (isOrderB a0 = orderB a0.data.toList) := ⟨by unfold isOrderB; rw [c2]; rfl⟩
    have HN : Aside0 ((txt (Lib.trimS a0.data.toList [114, 115])).toList.isEmpty = orderB a0.data.toList) := ⟨by
      rw [txt_empty, Bool.eq_iff_iff, List.isEmpty_iff]
      exact trimS_nil _ _⟩
    replace HT : Aside0 (Calls Tryd.prog 99 #[.string a0, .string ⟨#[114, 115]⟩] w fun e w' => e = .returned (.string (txt (Lib.trimS a0.data.toList [114, 115]))) ∧ Below w.heap.size w w') := HT
    clear hl
    generalize isOrderB a0 = q at HE ⊢
    generalize txt (Lib.trimS a0.data.toList [114, 115]) = t at HT HN
    generalize orderB a0.data.toList = q1 at HE HN
    cases q1 with
    | true =>
      have n1 := HN.out
      go_enter Tryd.func77, Tryd.ntmps77
      go_wp2_with (go_at_call 99; refine HT.out.mono ?_; rintro e w' ⟨rfl, hb'⟩)
      go_ret
      exact ⟨by rw [HE.out]; rfl, hb'⟩
    | false =>
      have n1 := HN.out
      go_enter Tryd.func77, Tryd.ntmps77
      go_wp2_with (go_at_call 99; refine HT.out.mono ?_; rintro e w' ⟨rfl, hb'⟩)
      go_ret
      exact ⟨by rw [HE.out]; rfl, hb'⟩
  · have c1 : decide ((a0.size : Int) ≤ 300) = false := decide_eq_false (by omega)
    have c2 : decide (a0.size ≤ 300) = false := decide_eq_false hl
    have HE : Aside0 (isOrderB a0 = false) := ⟨by unfold isOrderB; rw [c2]; rfl⟩
    clear hl
    generalize isOrderB a0 = q at HE ⊢
    go_enter Tryd.func77, Tryd.ntmps77
    go_wp2
    go_ret
    exact ⟨by rw [HE.out]; rfl, Below.refl _ _⟩

end Go.Proofs.YtmipelgjmmgmnaaDoor.Pa
