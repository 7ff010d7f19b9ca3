import Derived.Test.YtljboamepnhfpaaPax0
import Derived.Test.YtljboamepnhfpaaCore6
import Derived.Test.YtljboamepnhfpaaPaxaheldfrom
import Derived.Test.YtljboamepnhfpaaPaxaown
namespace Go.Proofs.Ytljboamepnhfpaa.Pa
open Go.RowKit Go.Proofs.YtljboamepnhfpaaW.PrintWords Go.Proofs.YtljboamepnhfpaaW.PrintLast Go.Proofs.YtljboamepnhfpaaW.PrintMore
set_option linter.unusedVariables false
set_option linter.unusedSimpArgs false
set_option maxHeartbeats 4000000 in
set_option maxRecDepth 100000 in
/-- Rows that are marked are looked at again. -/
theorem heldSS (A0 : Option Addr) (c0 : Nat) (gs ys : List (List Int)) (k0 : Int) (w : World) (hr0 : Kd.C (Kd.slice 2 (Kd.int .i64)) w A0 ys.length ys) (hn : ys.length = gs.length) (hl : gs.length ≤ 1048576) (hw : ∀ g ∈ gs, g.length ≤ 1048576) (h0 : 0 ≤ k0) (h1 : k0 ≤ 1048576) (hm : HoldsFrom gs k0 ys gs.length) :
    Calls Try.prog 40 #[.slice A0 ys.length c0, .int .i64 k0] w fun e w' => e = .returned (.int .i64 (offs gs k0 gs.length)) ∧ Below w.heap.size w w' := by
  have HR0 := Aside0.mk hr0
  have HN := Aside0.mk hn
  have HL0 := Aside0.mk hl
  have HM := Aside0.mk hm
  have HO := Aside0.mk (offs_in gs k0 hw h0 h1)
  clear hr0 hn hl hm hw h0 h1
  go_enter Try.func40, Try.ntmps40
  go_wp2
  go_loopg [1, 5] ys.length (fun gg s1 s5 wr => ∃ x : Int, s1 = .int .i64 (offs gs k0 x.toNat) ∧ s5 = .int .i64 x ∧ Aside0 (0 ≤ x ∧ x ≤ ys.length ∧ (ys.length : Int) - x ≤ gg) ∧ Aside0 (Below w.heap.size w wr))
  case atStart => exact ⟨0, rfl, rfl, ⟨by omega⟩, ⟨Below.refl _ _⟩⟩
  case round =>
    obtain ⟨x, rfl, rfl, HX, HB⟩ := hrel
    by_cases hlt : x < (ys.length : Int)
    · have d0 : decide (0 ≤ x) = true := decide_eq_true HX.out.1
      have d1 : decide (x < (ys.length : Int)) = true := decide_eq_true hlt
      have HL := Aside0.mk hlt
      clear hlt
      obtain ⟨ad, Ai, ci, e, e0, e1, e2⟩ := at_L8 HR0.out x HX.out.1 HL.out
      cases e
      replace e0 := pw_cell_below HB.out e0
      have hmx : (rd_L8 ys x).length = (gs.getD x.toNat []).length ∧ laws_heldInt64S.f ((gs.getD x.toNat []).length + 1) (rd_L8 ys x) (offs gs k0 x.toNat) = some (offs gs k0 (x.toNat + 1)) := HM.out x.toNat (by have := HX.out; have := HL.out; have := HN.out; omega)
      have hnn := HO.out (x.toNat + 1)
      obtain ⟨o1, ho1⟩ : ∃ z, z = offs gs k0 (x.toNat + 1) := ⟨_, rfl⟩
      rw [← ho1] at hmx hnn
      generalize rd_L8 ys x = row at e0 e1 e2 hmx
      have H3 := Aside0.mk e1
      have H4 := Aside0.mk (Kd.C_below e2 HB.out)
      have HQ := Aside0.mk hmx.2
      have HO1 := Aside0.mk ho1
      have hkk : decide (o1 < 0) = false := decide_eq_false (by omega)
      clear e1 e2 hmx hnn ho1
      have p0 := eq_true HX.out.1
      have p1 := eq_true HL.out
      go_wp2_with (go_at_call 26; refine (laws_heldInt64S.calls (hr0 := H4.out) (hc0 := H3.out) (h := HQ.out)).mono ?_; rintro e w3 ⟨rfl, hd⟩; have hb := drawn_below hd; clear hd; replace HB := Aside0.mk (below_step HB.out hb); clear hb)
      have hx1 := HX.out
      have hl1 := HL.out
      have hl2 := HL0.out
      have hn2 := HN.out
      go_roundg ((ys.length : Int) - (x + 1)).toNat
      case measure => omega
      case rel => exact ⟨x + 1, by rw [show (x + 1).toNat = x.toNat + 1 by omega, ← HO1.out], by rw [show wrap64 (x + 1) = x + 1 by unfold wrap64; omega], ⟨by omega⟩, HB⟩
    · have d1 : decide (x < (ys.length : Int)) = false := decide_eq_false hlt
      have hx1 := HX.out
      have hn2 := HN.out
      have hxx : x.toNat = gs.length := by omega
      clear hlt hx1 hn2
      go_wp2
      go_ret
      exact ⟨by first | (rw [hxx]; rfl) | simp [hxx], HB.out⟩

end Go.Proofs.Ytljboamepnhfpaa.Pa
