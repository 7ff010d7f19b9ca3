-- Written for this claim by a program of this session.
import Derived.Test.YtbkofbcmhddbfaaFPax0
import Derived.Test.YtbkofbcmhddbfaaFKFPaxf52
namespace Go.Proofs.Ytbkofbcmhddbfaa.Pa
open Go.RowKit Go.Proofs.YtbkofbcmhddbfaaW.PrintWords Go.Proofs.YtbkofbcmhddbfaaW.PrintLast Go.Proofs.YtbkofbcmhddbfaaW.PrintMore
attribute [local go_sem] max2_int min2_int max_two min_two max_three min_three max_four min_four   -- for this text's walks alone
set_option linter.unusedVariables false
set_option linter.unusedSimpArgs false

/-! ### laws_eqGateS: function 39 -/
/-- Told of equal ones alone. -/
def laws_eqGateS.f (l0 l1 : List S36) : Option Bool := if l0 = l1 then some true else none
set_option maxHeartbeats 4000000 in
set_option maxRecDepth 100000 in
theorem laws_eqGateS.calls (A0 : Option Addr) (c0 : Nat) (l0 : List S36) (A1 : Option Addr) (c1 : Nat) (l1 : List S36) (r : Bool) (w : World) (hr0 : Kd.C k36 w A0 l0.length l0) (hc0 : l0.length ≤ c0) (hr1 : Kd.C k36 w A1 l1.length l1) (hc1 : l1.length ≤ c1) (h : laws_eqGateS.f l0 l1 = some r) :
  Calls Try.prog 39 #[.slice A0 l0.length c0, .slice A1 l1.length c1] w fun e w' => e = .returned (.bool r) ∧ Below w.heap.size w w' := by
 unfold laws_eqGateS.f at h
 split at h
 ·rename_i hh
  subst hh
  obtain rfl := Option.some.inj h
  clear h
  have hu := Try.underlying36
  have HR0 := Aside0.mk hr0
  have HR1 := Aside0.mk hr1
  have hlen : l0.length ≤ 9223372036854775807 := hr0.2.1
  clear hr0 hr1 hc0 hc1
  go_enter Try.func39, Try.ntmps39
  go_wp2
  go_loopg [5] l0.length (fun gg s5 wr => ∃ x : Int, s5 = .int .i64 x ∧ Aside0 (0 ≤ x ∧ x ≤ l0.length ∧ (l0.length : Int) - x ≤ gg) ∧ Aside0 (Below w.heap.size w wr))
  case atStart => exact ⟨0, rfl, ⟨by omega⟩, ⟨Below.refl _ _⟩⟩
  case round =>
   obtain ⟨x, rfl, HX, HB⟩ := hrel
   by_cases hlt : x < (l0.length : Int)
   ·have d0 : decide (0 ≤ x) = true := decide_eq_true HX.out.1
    have d1 : decide (x < (l0.length : Int)) = true := decide_eq_true hlt
    have HL := Aside0.mk hlt
    clear hlt
    obtain ⟨ad, Ai, ci, e, e0, e1, e2, e3, e4⟩ := at_T36 HR0.out x HX.out.1 HL.out
    cases e
    obtain ⟨bd, Bi, di, f, f0, f1, f2, f3, f4⟩ := at_T36 HR1.out x HX.out.1 HL.out
    cases f
    replace e0 := pw_cell_below HB.out e0
    replace e1 := pw_cell_below HB.out e1
    replace e2 := pw_cell_below HB.out e2
    replace f0 := pw_cell_below HB.out f0
    replace f1 := pw_cell_below HB.out f1
    replace f2 := pw_cell_below HB.out f2
    have H3 := Aside0.mk e3
    have H4 := Aside0.mk (Kd.C_below e4 HB.out)
    have G3 := Aside0.mk f3
    have G4 := Aside0.mk (Kd.C_below f4 HB.out)
    clear e3 e4 f3 f4
    have p0 := eq_true HX.out.1
    have p1 := eq_true HL.out
    have HQ := Aside0.mk (show laws_eqGate.f (rd_T36 l0 x).f0 (rd_T36 l0 x).f1 (rd_T36 l0 x).f2 (rd_T36 l0 x).f0 (rd_T36 l0 x).f1 (rd_T36 l0 x).f2 = some true from if_pos ⟨rfl, rfl, rfl⟩)
    go_wp2
    go_region_held3 (fun w' => Aside0 (Below wr.heap.size wr w') ∧ w'.cell? (ad.add (x.toNat * 3)) = some (.int .i64 (rd_T36 l0 x).f0) ∧ w'.cell? ⟨(ad.add (x.toNat * 3)).block, (ad.add (x.toNat * 3)).off + 1, none⟩ = some (.int .i64 (rd_T36 l0 x).f1) ∧ w'.cell? ⟨(ad.add (x.toNat * 3)).block, (ad.add (x.toNat * 3)).off + 2, none⟩ = some (.slice Ai (rd_T36 l0 x).f2.length ci) ∧ w'.cell? (bd.add (x.toNat * 3)) = some (.int .i64 (rd_T36 l0 x).f0) ∧ w'.cell? ⟨(bd.add (x.toNat * 3)).block, (bd.add (x.toNat * 3)).off + 1, none⟩ = some (.int .i64 (rd_T36 l0 x).f1) ∧ w'.cell? ⟨(bd.add (x.toNat * 3)).block, (bd.add (x.toNat * 3)).off + 2, none⟩ = some (.slice Bi (rd_T36 l0 x).f2.length di)) ((first | exact ⟨⟨below_drew (Below.refl _ _)⟩, e0, e1, e2, f0, f1, f2⟩ | exact ⟨⟨below_step (below_drew (Below.refl _ _)) hb'⟩, pw_cell_below hb' e0, pw_cell_below hb' e1, pw_cell_below hb' e2, pw_cell_below hb' f0, pw_cell_below hb' f1, pw_cell_below hb' f2⟩)) ((go_at_call 52; refine (laws_eqGate.calls (hr0_2 := by repeat (first | exact H4.out | (with_reducible refine Kd.C_drewN ?_ _) | (with_reducible refine Kd.C_drew ?_))) (hc0_2 := H3.out) (hr1_2 := by repeat (first | exact G4.out | (with_reducible refine Kd.C_drewN ?_ _) | (with_reducible refine Kd.C_drew ?_))) (hc1_2 := G3.out) (h := HQ.out)).mono ?_; rintro e w' ⟨rfl, hb'⟩))
    go_wp2
    have hx1 := HX.out
    have hl1 := HL.out
    have hb2 := below_step HB.out (below_step (below_drew (Below.refl wr.heap.size wr)) hb')
    go_roundg ((l0.length : Int) - (x + 1)).toNat
    case measure => omega
    case rel => exact ⟨x + 1, by rw [show wrap64 (x + 1) = x + 1 by unfold wrap64; omega], ⟨by omega⟩, ⟨hb2⟩⟩
   ·have d1 : decide (x < (l0.length : Int)) = false := decide_eq_false hlt
    clear hlt
    go_wp2
    go_ret
    exact ⟨rfl, HB.out⟩
 ·simp at h

end Go.Proofs.Ytbkofbcmhddbfaa.Pa
