-- Written for this claim by a program of this session.
import Derived.Test.YtmipelgjmmgmnaaDoorPax0
import Derived.Test.YtmipelgjmmgmnaaDoorPaxatrimmed
import Derived.Test.YtmipelgjmmgmnaaDoorShelfT
import Derived.Shelf.Abstract
namespace Go.Proofs.YtmipelgjmmgmnaaDoor.Pa
open Go.RowKit Go.Proofs.YtmipelgjmmgmnaaDoorW.PrintWords Go.Proofs.YtmipelgjmmgmnaaDoorW.PrintLast Go.Proofs.YtmipelgjmmgmnaaDoorW.PrintMore
attribute [local go_sem] max2_int min2_int max_two min_two max_three min_three max_four min_four   -- for this text's walks alone
set_option linter.unusedVariables false
set_option linter.unusedSimpArgs false

/-! ### impl_IsWave: function 62 -/
/-- The letters of a wave. -/
def waveB (l : List UInt8) : Bool := l.all fun b => [(48 : UInt8), 49].contains b
def isWaveB (s : ByteArray) : Bool := decide (s.size ≤ 400) && waveB s.data.toList
def impl_IsWave.f (a0 : ByteArray) : Option (Bool) := some (isWaveB a0)
set_option maxHeartbeats 2000000 in
set_option maxRecDepth 100000 in
theorem impl_IsWave.calls (a0 : ByteArray) (r : Bool) (w : World) (h : impl_IsWave.f a0 = some r) :
    Calls Tryd.prog 62 #[.string a0] w fun e w' => e = .returned (.bool r) ∧ Below w.heap.size w w' := by
  obtain rfl := Option.some.inj h
  clear h
  by_cases hl : a0.size ≤ 400
  · have c1 : decide ((a0.size : Int) ≤ 400) = true := decide_eq_true (by omega)
    have c2 : decide (a0.size ≤ 400) = true := decide_eq_true hl
    have HT := Aside0.mk (Any.strings_Trim_laid Tryd.lays160 (by kernel_rfl) a0 ⟨#[48, 49]⟩ w (by omega) (by decide) (ascii_of_all (by decide)))
    have HE : Aside0 (isWaveB a0 = waveB a0.data.toList) := ⟨by unfold isWaveB; rw [c2]; rfl⟩
    have HN : Aside0 ((txt (Lib.trimS a0.data.toList [48, 49])).toList.isEmpty = waveB a0.data.toList) := ⟨by
      rw [txt_empty, Bool.eq_iff_iff, List.isEmpty_iff]
      exact trimS_nil _ _⟩
    replace HT : Aside0 (Calls Tryd.prog 99 #[.string a0, .string ⟨#[48, 49]⟩] w fun e w' => e = .returned (.string (txt (Lib.trimS a0.data.toList [48, 49]))) ∧ Below w.heap.size w w') := HT
    clear hl
    generalize isWaveB a0 = q at HE ⊢
    generalize txt (Lib.trimS a0.data.toList [48, 49]) = t at HT HN
    generalize waveB a0.data.toList = q1 at HE HN
    cases q1 with
    | true =>
      have n1 := HN.out
      go_enter Tryd.func62, Tryd.ntmps62
      go_wp2_with (go_at_call 99; refine HT.out.mono ?_; rintro e w' ⟨rfl, hb'⟩)
      go_ret
      exact ⟨by rw [HE.out]; rfl, hb'⟩
    | false =>
      have n1 := HN.out
      go_enter Tryd.func62, Tryd.ntmps62
      go_wp2_with (go_at_call 99; refine HT.out.mono ?_; rintro e w' ⟨rfl, hb'⟩)
      go_ret
      exact ⟨by rw [HE.out]; rfl, hb'⟩
  · have c1 : decide ((a0.size : Int) ≤ 400) = false := decide_eq_false (by omega)
    have c2 : decide (a0.size ≤ 400) = false := decide_eq_false hl
    have HE : Aside0 (isWaveB a0 = false) := ⟨by unfold isWaveB; rw [c2]; rfl⟩
    clear hl
    generalize isWaveB a0 = q at HE ⊢
    go_enter Tryd.func62, Tryd.ntmps62
    go_wp2
    go_ret
    exact ⟨by rw [HE.out]; rfl, Below.refl _ _⟩

end Go.Proofs.YtmipelgjmmgmnaaDoor.Pa
