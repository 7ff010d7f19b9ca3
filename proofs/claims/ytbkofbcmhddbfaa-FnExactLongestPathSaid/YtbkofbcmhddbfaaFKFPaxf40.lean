-- Written for this claim by a program of this session.
import Derived.Test.YtbkofbcmhddbfaaFPax0
import Derived.Test.YtbkofbcmhddbfaaFKFPaxf18
import Derived.Test.YtbkofbcmhddbfaaFKFPaxamarks
namespace Go.Proofs.Ytbkofbcmhddbfaa.Pa
open Go.RowKit Go.Proofs.YtbkofbcmhddbfaaW.PrintWords Go.Proofs.YtbkofbcmhddbfaaW.PrintLast Go.Proofs.YtbkofbcmhddbfaaW.PrintMore
attribute [local go_sem] max2_int min2_int max_two min_two max_three min_three max_four min_four   -- for this text's walks alone
set_option linter.unusedVariables false
set_option linter.unusedSimpArgs false

/-! ### laws_markGateS: function 40 -/
set_option maxHeartbeats 4000000 in
set_option maxRecDepth 100000 in
/-- What is marked: the numbers go up, and no block is touched but those of the row. -/
theorem markGates (ok : Nat → Prop) (u : Value) (gs : List S36) (k0 : Int) (w0 w : World) (hB : Below w0.heap.size w0 w) (h : Kd.S k36 36 w w0.heap.size ok u gs)
  (hl : gs.length ≤ 1048576) (hw : ∀ g ∈ gs, g.f2.length ≤ 1048576) (h0 : 0 ≤ k0) (h1 : k0 ≤ 1048576) :
  Calls Try.prog 40 #[u, .int .i64 k0] w fun e w' => ∃ r : Int, e = .returned (.int .i64 r) ∧ (0 ≤ r ∧ r ≤ 2199027449856) ∧ Below w0.heap.size w0 w' ∧ Kept w w' ok := by
 have HS0 := Aside0.mk h
 have HB0 := Aside0.mk hB
 have HW := Aside0.mk hw
 obtain ⟨A, c, rfl⟩ := Kd.S_slice h
 clear h hB hw
 go_enter Try.func40, Try.ntmps40
 go_wp2
 go_loopg [1, 5] gs.length (fun gg s1 s5 wr => ∃ (k x : Int) (ys : List S36), s1 = .int .i64 k ∧ s5 = .int .i64 x ∧ Aside0 (0 ≤ x ∧ x ≤ gs.length ∧ (gs.length : Int) - x ≤ gg) ∧ Aside0 (0 ≤ k ∧ k ≤ 1048576 + x * 1048578) ∧ Aside0 (ys.length = gs.length ∧ ys.drop x.toNat = gs.drop x.toNat) ∧ Aside0 (Kd.S k36 36 wr w0.heap.size ok (.slice A gs.length c) ys) ∧ Aside0 (Below w0.heap.size w0 wr) ∧ Aside0 (Kept w wr ok))
 case atStart => exact ⟨k0, 0, gs, rfl, rfl, ⟨by omega⟩, ⟨by omega⟩, ⟨rfl, rfl⟩, HS0, HB0, ⟨Kept.refl _ _⟩⟩
 case round =>
  obtain ⟨k, x, ys, rfl, rfl, HX, HK, HY, HS, HB, HKP⟩ := hrel
  by_cases hlt : x < (gs.length : Int)
  ·have t0 : decide (0 ≤ x) = true := decide_eq_true HX.out.1
   have t1 : decide (x < (gs.length : Int)) = true := decide_eq_true hlt
   have HL := Aside0.mk hlt
   obtain ⟨g, cap, eg, _⟩ := Kd.S_form HS.out (by have := HY.out.1; have := HX.out; omega)
   have hlen := HY.out.1
   rw [hlen] at eg
   injection eg with ea _ ec
   subst ea
   subst ec
   obtain ⟨oki, ce, hcl, hM, hcc, hfr, hoki, hH⟩ := Kd.S_elem HS.out z36 x HX.out.1 (by have := HL.out; omega)
   obtain ⟨v2, rfl, hv2⟩ := k36_openM hM
   have hget : ys.getD x.toNat z36 ∈ gs := by
    have hx := HX.out
    have hd := congrArg List.head? HY.out.2
    rw [List.head?_drop, List.head?_drop] at hd
    rw [List.getD_eq_getElem?_getD, hd, List.getElem?_eq_getElem (by omega)]
    exact List.getElem_mem _
   have HLN := Aside0.mk (HW.out _ hget)
   generalize ys.getD x.toNat z36 = y at hM hcc hv2 HLN hH
   have e0 : wr.cell? ⟨g, x.toNat * 3, none⟩ = some (.int .i64 y.f0) := hcc 0 _ rfl
   have e1 : wr.cell? ⟨g, x.toNat * 3 + 1, none⟩ = some (.int .i64 y.f1) := hcc 1 _ rfl
   have e2 : wr.cell? ⟨g, x.toNat * 3 + 2, none⟩ = some v2 := hcc 2 _ rfl
   have f0 : wr.frozen? ⟨g, x.toNat * 3, none⟩ = false := hfr 0
   have f1 : wr.frozen? ⟨g, x.toNat * 3 + 1, none⟩ = false := hfr 1
   have f2 : wr.frozen? ⟨g, x.toNat * 3 + 2, none⟩ = false := hfr 2
   have HOK := Aside0.mk hoki
   have HH := Aside0.mk hH
   have HV := Aside0.mk hv2
   have HG := Aside0.mk (show ok g from (Kd.S_R HS.out).1 g (by simp [Value.ownBlock]))
   have kb := HK.out
   have hx1 := HX.out
   obtain ⟨l', _, hm⟩ := marks_tells y.f2 (k + 1 + 1) (by omega) (by have := HLN.out; omega) (by have := HLN.out; omega)
   have HMK := Aside0.mk hm
   have w1 : wrap64 (k + 1) = k + 1 := by unfold wrap64; omega
   have w2 : wrap64 (k + 1 + 1) = k + 1 + 1 := by unfold wrap64; omega
   clear hlt hlen hcl hM hcc hfr hoki hH hv2 hget hm kb hx1
   have p0 := eq_true HX.out.1
   have p1 := eq_true HL.out
   have HGB := Aside0.mk (Kd.S_base HS.out g (by simp [Value.ownBlock]))
   go_wp2_with (go_at_call 18; refine (laws_markInt64S.calls (P0_ := oki) (w0 := w0) (hB := by repeat (first | exact HB.out | refine below_set ?_ HGB.out)) (ho0 := Kd.R_far (p := ⟨g, x.toNat * 3 + 1, none⟩) (Kd.R_far (p := ⟨g, x.toNat * 3, none⟩) HV.out (fun b hb => (HOK.out b hb).2) (.int .i64 k)) (fun b hb => (HOK.out b hb).2) (.int .i64 (k + 1))) (h := HMK.out)).mono ?_; rintro e w3 ⟨rfl, hR3, hB3, hK3⟩; have HR3 := Aside0.mk hR3; have HB3 := Aside0.mk hB3; have HK3 := Aside0.mk hK3; clear hR3 hB3 hK3)
   have hseg := (Kd.H_seg HH.out HX.out.1 (by have := HL.out; omega) (seg := [.int .i64 k, .int .i64 (k + 1)]) (j := 0) (show 0 + 2 ≤ 3 from by decide) (by intro q hq; simp only [List.mem_cons, List.not_mem_nil, or_false] at hq; rcases hq with rfl | rfl <;> rfl)).1
   have hseg2 : Kd.H k36 36 ((wr.setCell ⟨g, x.toNat * 3, none⟩ (.int .i64 k)).setCell ⟨g, x.toNat * 3 + 1, none⟩ (.int .i64 (k + 1))) w0.heap.size ok (.slice (some ⟨g, 0, none⟩) gs.length c) ys x oki [.int .i64 k, .int .i64 (k + 1), v2] := hseg
   have hback := Kd.H_back (Kd.H_step hseg2 (fun b hb hn hlt => HK3.out.2 b hlt hn)) (k36_mkM w3 _ _ (⟨k, k + 1, l'⟩ : S36) (Kd.R_tight rfl HR3.out)) (fun b hb => HV.out.1 b hb.symm)
   have hkp : Kept w w3 ok := Kept.then_ (Kept.setCell (Kept.setCell HKP.out (p := ⟨g, x.toNat * 3, none⟩) (.inl HG.out) (.int .i64 k)) (p := ⟨g, x.toNat * 3 + 1, none⟩) (.inl HG.out) (.int .i64 (k + 1))) HK3.out (fun b hb => .inl (HOK.out b hb).1)
   have kb := HK.out
   have hx1 := HX.out
   have hl1 := HL.out
   have hy := HY.out
   have hln := HLN.out
   go_roundg ((gs.length : Int) - (x + 1)).toNat
   case measure => omega
   case rel =>
    refine ⟨k + 1 + 1 + y.f2.length, x + 1, ys.set x.toNat ⟨k, k + 1, l'⟩, rfl, by rw [show wrap64 (x + 1) = x + 1 by unfold wrap64; omega], ⟨by omega⟩, ⟨by omega⟩, ⟨by simpa using hy.1, ?_⟩, ⟨hback⟩, HB3, ⟨hkp⟩⟩
    rw [show (x + 1).toNat = x.toNat + 1 by omega, List.drop_set_of_lt (by omega), ← List.drop_drop, hy.2, List.drop_drop]
  ·have t1 : decide (x < (gs.length : Int)) = false := decide_eq_false hlt
   have kb := HK.out
   have hx1 := HX.out
   have HK2 := Aside0.mk (show 0 ≤ k ∧ k ≤ 2199027449856 by omega)
   clear hlt kb hx1
   go_wp2
   go_ret
   exact ⟨k, rfl, HK2.out, HB.out, HKP.out⟩

end Go.Proofs.Ytbkofbcmhddbfaa.Pa
