-- Written for this claim by a program of this session.
import Derived.Test.YtalafmahgeejiaaXPax0
import Derived.Test.YtalafmahgeejiaaXKPPaxf38
import Derived.Test.YtalafmahgeejiaaXKPPaxf64
import Derived.Test.YtalafmahgeejiaaXKPPaxf27
import Derived.Test.YtalafmahgeejiaaXKPPaxamarkV
namespace Go.Proofs.Ytalafmahgeejiaa.Pa
open Go.RowKit Go.Proofs.YtalafmahgeejiaaW.PrintWords Go.Proofs.YtalafmahgeejiaaW.PrintLast Go.Proofs.YtalafmahgeejiaaW.PrintMore
attribute [local go_sem] max2_int min2_int max_two min_two max_three min_three max_four min_four   -- for this text's walks alone
set_option linter.unusedVariables false
set_option linter.unusedSimpArgs false

/-! ### AUX heldV -/
theorem hkG_le (gs : List S62) : ∀ (k r : Int), hkG k gs = some r → k ≤ r := by
 induction gs with
 | nil => intro k r h; have := Option.some.inj h; omega
 | cons g t ih =>
  intro k r h
  rw [hkG] at h
  split at h
  ·have := ih _ _ h; omega
  ·cases h
theorem held_more (l : List Int) (a r : Int) (k : Nat) (h : laws_heldInt64S.f k l a = some r) (d : Nat) : laws_heldInt64S.f (k + d) l a = some r := by
 induction d with
 | zero => exact h
 | succ d ih => exact laws_heldInt64S.mono l a (k + d) r ih
theorem heldG_loop (gs : List S62) (hl : gs.length ≤ 1048576) (r : Int) (hr : r ≤ 2199028498432) (d : Nat) : ∀ (i : Nat) (k : Int), i + d = gs.length → 0 ≤ k → hkG k (gs.drop i) = some r → laws_heldGateS.l0 (r.toNat + d + 1) gs k (i : Int) = some r := by
 induction d with
 | zero =>
  intro i k hi h0 h
  rw [List.drop_of_length_le (by omega)] at h
  generalize r.toNat + 0 = q
  simp only [laws_heldGateS.l0]
  rw [if_neg (by omega)]
  exact h
 | succ d ih =>
  intro i k hi h0 h
  have hlt : i < gs.length := by omega
  have hle := hkG_le _ _ _ h
  rw [List.drop_eq_getElem_cons hlt, hkG] at h
  split at h
  case isFalse => cases h
  rename_i c
  obtain ⟨c0, c1, c2⟩ := c
  have hrd : rd_T62 gs (i : Int) = gs[i] := by
   unfold rd_T62
   rw [Int.toNat_natCast, List.getD_eq_getElem?_getD, List.getElem?_eq_getElem hlt]
   rfl
  have hle2 := hkG_le _ _ _ h
  have next := ih (i + 1) _ (by omega) (by omega) h
  have hm := held_more _ _ _ _ c2 (r.toNat + d + 1 - (gs[i].f2.length + 1))
  rw [show gs[i].f2.length + 1 + (r.toNat + d + 1 - (gs[i].f2.length + 1)) = r.toNat + d + 1 by omega] at hm
  rw [show r.toNat + (d + 1) + 1 = (r.toNat + d + 1) + 1 from rfl]
  generalize r.toNat + d + 1 = q at hm next
  simp only [laws_heldGateS.l0]
  rw [if_pos (by omega), if_pos (by omega), hrd, if_pos c0, show wrap64 (k + 1) = k + 1 by unfold wrap64; omega, if_pos c1, show wrap64 (k + 1 + 1) = k + 1 + 1 by unfold wrap64; omega, hm]
  simp only [Option.bind_some]
  rw [if_neg (by omega), show wrap64 ((i : Int) + 1) = ((i + 1 : Nat) : Int) by unfold wrap64; omega]
  exact next
/-- A circuit that holds its marks. -/
theorem heldC_tells (n q3 q4 q5 q6 : Int) (gs : List S62) (ds : List Int) (r1 r : Int) (m : Nat) (hl : gs.length ≤ 1048576) (h1 : hkG 1 gs = some r1) (hr1 : r1 ≤ 2199027449856) (hr0 : 0 ≤ r) (h2 : laws_heldInt64S.f (m + 1) ds r1 = some r) :
  laws_heldCircuit.f (r1.toNat + gs.length + 1 + (m + 1)) n gs ds q3 q4 q5 q6 1 = some r := by
 have a := heldG_loop gs hl r1 (by omega) gs.length 0 1 (by omega) (by decide) (by simpa using h1)
 have a' := at_rounds (fun k => laws_heldGateS.mono gs 1 k) (k := r1.toNat + gs.length + 1) (k' := r1.toNat + gs.length + 1 + (m + 1)) (by omega) (r := r1) (by unfold laws_heldGateS.f; exact a)
 have b := held_more _ _ _ _ h2 (r1.toNat + gs.length + 1)
 rw [show m + 1 + (r1.toNat + gs.length + 1) = r1.toNat + gs.length + 1 + (m + 1) by omega] at b
 have hle := hkG_le _ _ _ h1
 unfold laws_heldCircuit.f
 rw [a']
 simp only [Option.bind_some]
 rw [if_neg (by omega), b]
 simp only [Option.bind_some]
 rw [if_neg (by omega)]

end Go.Proofs.Ytalafmahgeejiaa.Pa
