import Derived.Test.YtljboamepnhfpaaPax0
import Derived.Test.YtljboamepnhfpaaCore6
import Derived.Test.YtljboamepnhfpaaPaxaheldfrom
namespace Go.Proofs.Ytljboamepnhfpaa.Pa
open Go.RowKit Go.Proofs.YtljboamepnhfpaaW.PrintWords Go.Proofs.YtljboamepnhfpaaW.PrintLast Go.Proofs.YtljboamepnhfpaaW.PrintMore
set_option linter.unusedVariables false
set_option linter.unusedSimpArgs false
set_option maxHeartbeats 4000000 in
set_option maxRecDepth 100000 in
/-- Rows are marked: they hold the numbers from k0 on, and no block is touched but theirs. -/
theorem markSS (ok : Nat → Prop) (u : Value) (gs : List (List Int)) (k0 : Int) (w0 w : World) (hB : Below w0.heap.size w0 w) (h : Kd.S (Kd.slice 2 (Kd.int .i64)) 33 w w0.heap.size ok u gs)
    (hl : gs.length ≤ 1048576) (hw : ∀ g ∈ gs, g.length ≤ 1048576) (h0 : 0 ≤ k0) (h1 : k0 ≤ 1048576) :
    Calls Try.prog 39 #[u, .int .i64 k0] w fun e w' => ∃ ys : List (List Int), e = .returned (.int .i64 (offs gs k0 gs.length)) ∧ ys.length = gs.length ∧ HoldsFrom gs k0 ys gs.length ∧ Kd.S (Kd.slice 2 (Kd.int .i64)) 33 w' w0.heap.size ok u ys ∧ Below w0.heap.size w0 w' ∧ Kept w w' ok := by
  have HS0 := Aside0.mk h
  have HB0 := Aside0.mk hB
  have HW := Aside0.mk hw
  have HL0 := Aside0.mk hl
  have HO := Aside0.mk (offs_in gs k0 hw h0 h1)
  obtain ⟨A, c, rfl⟩ := Kd.S_slice h
  clear h hB hw hl h0 h1
  go_enter Try.func39, Try.ntmps39
  go_wp2
  go_loopg [1, 5] gs.length (fun gg s1 s5 wr => ∃ (x : Int) (ys : List (List Int)), s1 = .int .i64 (offs gs k0 x.toNat) ∧ s5 = .int .i64 x ∧ Aside0 (0 ≤ x ∧ x ≤ gs.length ∧ (gs.length : Int) - x ≤ gg) ∧ Aside0 (ys.length = gs.length ∧ ys.drop x.toNat = gs.drop x.toNat) ∧ Aside0 (HoldsFrom gs k0 ys x.toNat) ∧ Aside0 (Kd.S (Kd.slice 2 (Kd.int .i64)) 33 wr w0.heap.size ok (.slice A gs.length c) ys) ∧ Aside0 (Below w0.heap.size w0 wr) ∧ Aside0 (Kept w wr ok))
  case atStart => exact ⟨0, gs, rfl, rfl, ⟨by omega⟩, ⟨rfl, rfl⟩, ⟨fun i hi => absurd hi (by simp)⟩, HS0, HB0, ⟨Kept.refl _ _⟩⟩
  case round =>
    obtain ⟨x, ys, rfl, rfl, HX, HY, HF, HS, HB, HKP⟩ := hrel
    by_cases hlt : x < (gs.length : Int)
    · have t0 : decide (0 ≤ x) = true := decide_eq_true HX.out.1
      have t1 : decide (x < (gs.length : Int)) = true := decide_eq_true hlt
      have HL := Aside0.mk (show x.toNat < gs.length by have := HX.out; omega)
      obtain ⟨g, cap, eg, _⟩ := Kd.S_form HS.out (by have := HY.out.1; have := HX.out; omega)
      have hlen := HY.out.1
      rw [hlen] at eg
      injection eg with ea _ ec
      subst ea
      subst ec
      obtain ⟨oki, ce, hcl, hM, hcc, hfr, hoki, hH⟩ := Kd.S_elem HS.out ([] : List Int) x HX.out.1 (by have := HX.out; have := HL.out; omega)
      obtain ⟨v, rfl, hv⟩ := hM
      have hget : ys.getD x.toNat [] = gs.getD x.toNat [] := by
        have hd := congrArg List.head? HY.out.2
        rw [List.head?_drop, List.head?_drop] at hd
        rw [List.getD_eq_getElem?_getD, List.getD_eq_getElem?_getD, hd]
      rw [hget] at hv
      have HLN := Aside0.mk (show (gs.getD x.toNat []).length ≤ 1048576 from HW.out _ (by rw [List.getD_eq_getElem?_getD, List.getElem?_eq_getElem HL.out]; exact List.getElem_mem _))
      have e0 : wr.cell? ⟨g, x.toNat, none⟩ = some v := by
        have := hcc 0 v rfl
        simpa [Kd.slice] using this
      have HOK := Aside0.mk hoki
      have HH := Aside0.mk hH
      have HV := Aside0.mk hv
      have HG := Aside0.mk (Kd.S_base HS.out g (by simp [Value.ownBlock]))
      have ho := HO.out x.toNat
      obtain ⟨l', hl', hm, hh⟩ := marks_from (gs.getD x.toNat []) (offs gs k0 x.toNat) HLN.out ho.1 (by have := HL0.out; have := HL.out; omega)
      have HMK := Aside0.mk hm
      have HHE := Aside0.mk hh
      have HLE := Aside0.mk hl'
      clear hlt hlen hcl hcc hfr hoki hH hv hget hm hh hl' ho
      have p0 := eq_true HX.out.1
      have p1 := eq_true (show x < (gs.length : Int) by have := HX.out; have := HL.out; omega)
      go_wp2_with (go_at_call 25; refine (laws_markInt64S.calls (P0_ := oki) (w0 := w0) (hB := HB.out) (ho0 := HV.out) (h := HMK.out)).mono ?_; rintro e w3 ⟨rfl, hR3, hB3, hK3⟩; have HR3 := Aside0.mk hR3; have HB3 := Aside0.mk hB3; have HK3 := Aside0.mk hK3; clear hR3 hB3 hK3)
      have hback := Kd.H_back (Kd.H_step HH.out (fun b hb hn hlt => HK3.out.2 b hlt hn)) (show (Kd.slice 2 (Kd.int .i64)).M w3 _ _ l' [v] from ⟨v, rfl, Kd.R_tight rfl HR3.out⟩) (fun b hb => HV.out.1 b hb.symm)
      have hkp : Kept w w3 ok := Kept.then_ HKP.out HK3.out (fun b hb => .inl (HOK.out b hb).1)
      have hx1 := HX.out
      have hl1 := HL.out
      have hl0 := HL0.out
      have hy := HY.out
      have hxs : (x + 1).toNat = x.toNat + 1 := by omega
      go_roundg ((gs.length : Int) - (x + 1)).toNat
      case measure => omega
      case rel =>
        refine ⟨x + 1, ys.set x.toNat l', by rw [hxs, offs]; simp [List.getD_eq_getElem?_getD, HL.out], by rw [show wrap64 (x + 1) = x + 1 by unfold wrap64; omega], ⟨by omega⟩, ⟨by simpa using hy.1, ?_⟩, ⟨?_⟩, ⟨hback⟩, HB3, ⟨hkp⟩⟩
        · rw [hxs, List.drop_set_of_lt (by omega), ← List.drop_drop, hy.2, List.drop_drop]
        · intro i hi
          rw [hxs] at hi
          by_cases hix : i = x.toNat
          · subst hix
            rw [show (ys.set x.toNat l').getD x.toNat [] = l' by rw [List.getD_eq_getElem?_getD, List.getElem?_set_self (by omega)]; rfl]
            exact ⟨HLE.out, HHE.out⟩
          · rw [show (ys.set x.toNat l').getD i [] = ys.getD i [] by rw [List.getD_eq_getElem?_getD, List.getElem?_set_ne (by omega), List.getD_eq_getElem?_getD]]
            exact HF.out i (by omega)
    · have t1 : decide (x < (gs.length : Int)) = false := decide_eq_false hlt
      have hx1 := HX.out
      have hxx : x.toNat = gs.length := by omega
      have HF2 := Aside0.mk (show HoldsFrom gs k0 ys gs.length from hxx ▸ HF.out)
      clear hlt hx1
      go_wp2
      go_ret
      exact ⟨ys, by first | (rw [hxx]; rfl) | simp [hxx], HY.out.1, HF2.out, HS.out, HB.out, HKP.out⟩

end Go.Proofs.Ytljboamepnhfpaa.Pa
