import Derived.Test.YtljboamepnhfpaaPax0
import Derived.Test.YtljboamepnhfpaaCore5
import Derived.Test.YtljboamepnhfpaaPaxaeqints
import Derived.Test.YtljboamepnhfpaaPaxaown
namespace Go.Proofs.Ytljboamepnhfpaa.Pa
open Go.RowKit Go.Proofs.YtljboamepnhfpaaW.PrintWords Go.Proofs.YtljboamepnhfpaaW.PrintLast Go.Proofs.YtljboamepnhfpaaW.PrintMore
set_option linter.unusedVariables false
set_option linter.unusedSimpArgs false
set_option maxHeartbeats 4000000 in
set_option maxRecDepth 100000 in
/-- Told of equal ones alone. -/
theorem eqSS (A0 : Option Addr) (c0 : Nat) (A1 : Option Addr) (c1 : Nat) (ls : List (List Int)) (w : World) (hr0 : Kd.C (Kd.slice 2 (Kd.int .i64)) w A0 ls.length ls) (hr1 : Kd.C (Kd.slice 2 (Kd.int .i64)) w A1 ls.length ls) :
    Calls Try.prog 38 #[.slice A0 ls.length c0, .slice A1 ls.length c1] w fun e w' => e = .returned (.bool true) ∧ Below w.heap.size w w' := by
  have HR0 := Aside0.mk hr0
  have HR1 := Aside0.mk hr1
  have hlen : ls.length ≤ 9223372036854775807 := hr0.2.1
  clear hr0 hr1
  go_enter Try.func38, Try.ntmps38
  go_wp2
  go_loopg [5] ls.length (fun gg s5 wr => ∃ x : Int, s5 = .int .i64 x ∧ Aside0 (0 ≤ x ∧ x ≤ ls.length ∧ (ls.length : Int) - x ≤ gg) ∧ Aside0 (Below w.heap.size w wr))
  case atStart => exact ⟨0, rfl, ⟨by omega⟩, ⟨Below.refl _ _⟩⟩
  case round =>
    obtain ⟨x, rfl, HX, HB⟩ := hrel
    by_cases hlt : x < (ls.length : Int)
    · have d0 : decide (0 ≤ x) = true := decide_eq_true HX.out.1
      have d1 : decide (x < (ls.length : Int)) = true := decide_eq_true hlt
      have HL := Aside0.mk hlt
      clear hlt
      obtain ⟨ad, Ai, ci, e, e0, e1, e2⟩ := at_L8 HR0.out x HX.out.1 HL.out
      cases e
      obtain ⟨bd, Bi, di, f, f0, f1, f2⟩ := at_L8 HR1.out x HX.out.1 HL.out
      cases f
      replace e0 := pw_cell_below HB.out e0
      replace f0 := pw_cell_below HB.out f0
      have H3 := Aside0.mk e1
      have H4 := Aside0.mk (Kd.C_below e2 HB.out)
      have G3 := Aside0.mk f1
      have G4 := Aside0.mk (Kd.C_below f2 HB.out)
      clear e1 e2 f1 f2
      have p0 := eq_true HX.out.1
      have p1 := eq_true HL.out
      have HQ := Aside0.mk (eqInts (rd_L8 ls x) H4.out.2.1)
      go_wp2
      go_region_held3 (fun w' => Aside0 (Below wr.heap.size wr w') ∧ w'.cell? (ad.add x.toNat) = some (.slice Ai (rd_L8 ls x).length ci) ∧ w'.cell? (bd.add x.toNat) = some (.slice Bi (rd_L8 ls x).length di)) ((first | exact ⟨⟨below_drew (Below.refl _ _)⟩, e0, f0⟩ | exact ⟨⟨below_step (below_drew (Below.refl _ _)) hb'⟩, pw_cell_below hb' e0, pw_cell_below hb' f0⟩)) ((go_at_call 21; refine (laws_eqInt64S.calls (hr0 := by repeat (first | exact H4.out | (with_reducible refine Kd.C_drewN ?_ _) | (with_reducible refine Kd.C_drew ?_))) (hc0 := H3.out) (hr1 := by repeat (first | exact G4.out | (with_reducible refine Kd.C_drewN ?_ _) | (with_reducible refine Kd.C_drew ?_))) (hc1 := G3.out) (h := HQ.out)).mono ?_; rintro e w' ⟨rfl, hd'⟩; have hb' := drawn_below hd'; clear hd'))
      go_wp2
      have hx1 := HX.out
      have hl1 := HL.out
      have hb2 := below_step HB.out (below_step (below_drew (Below.refl wr.heap.size wr)) hb')
      go_roundg ((ls.length : Int) - (x + 1)).toNat
      case measure => omega
      case rel => exact ⟨x + 1, by rw [show wrap64 (x + 1) = x + 1 by unfold wrap64; omega], ⟨by omega⟩, ⟨hb2⟩⟩
    · have d1 : decide (x < (ls.length : Int)) = false := decide_eq_false hlt
      clear hlt
      go_wp2
      go_ret
      exact ⟨rfl, HB.out⟩

end Go.Proofs.Ytljboamepnhfpaa.Pa
