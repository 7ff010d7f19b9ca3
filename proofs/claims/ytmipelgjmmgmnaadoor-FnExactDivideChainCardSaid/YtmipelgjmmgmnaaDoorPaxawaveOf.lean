-- Written for this claim by a program of this session.
import Derived.Test.YtmipelgjmmgmnaaDoorPax0
import Derived.Test.YtmipelgjmmgmnaaDoorPaxaside
import Derived.Shelf.Abstract
namespace Go.Proofs.YtmipelgjmmgmnaaDoor.Pa
open Go.RowKit Go.Proofs.YtmipelgjmmgmnaaDoorW.PrintWords Go.Proofs.YtmipelgjmmgmnaaDoorW.PrintLast Go.Proofs.YtmipelgjmmgmnaaDoorW.PrintMore
attribute [local go_sem] max2_int min2_int max_two min_two max_three min_three max_four min_four   -- for this text's walks alone
set_option linter.unusedVariables false
set_option linter.unusedSimpArgs false

/-! ### AUX waveOf -/
set_option maxHeartbeats 4000000 in
set_option maxRecDepth 100000 in
theorem waveOf.calls (n : Nat) (g : Nat) (lb : Array Value) (lv : Nat → Bool) (Inv : Nat → World → Prop) (B : Nat) (w : World) (hn : n ≤ 1048576) (hB : B ≤ w.heap.size)
    (eg : ∀ args W, (callFunc g args).run Tryd.prog W = .ok (.enter g args) W)
    (h0 : Inv 0 w)
    (hk : ∀ i W W', Inv i W → Below w.heap.size W W' → Inv i W')
    (hp : ∀ i W, i < n → w.heap.size ≤ W.heap.size → Inv i W → Calls Tryd.prog g (#[.int .i64 (i : Int)] ++ lb) W fun e w' => e = .returned (.bool (lv i)) ∧ Inv (i + 1) w' ∧ Side B w.heap.size W w') :
    Calls Tryd.prog 53 #[.int .i64 (n : Int), .func (.func g) #[] lb] w fun e w' => e = .returned (.string (strOfNums (waveL lv n))) ∧ Inv n w' ∧ Below B w w' := by
  have HP := Aside0.mk hp
  clear hp
  have HI0 := Aside0.mk h0
  clear h0
  have HK := Aside0.mk hk
  clear hk
  have HBM := Aside0.mk hB
  clear hB
  have HN := Aside0.mk hn
  clear hn
  go_enter Tryd.func53, Tryd.ntmps53
  go_wp2_with ((with_reducible refine gate_dst (N := 7) rfl ?_); refine Kd.R_lit (Kd.int .u8) w.heap.size 5 ?hg (N := 7) ?hd (xs := ([] : List Int)) (inner := []) (ok := fun k => w.heap.size ≤ k) (okp := fun _ => False) ?hr ?hp (fun _ hk => hk.elim) (Nat.le_refl _) (Below.refl _ _) (Nat.le_refl _) (by simp) ?_; (case hd => rfl); (case hg => rfl); (case hr => first | (go_simp; done) | (go_simp; rfl)); (case hp => exact (Reps.none _ _)); intro v1 w1 ho hb hg_ hnew_; have HO1 := Aside0.mk ho; have HB1 := Aside0.mk hb; clear ho hb hg_ hnew_)
  go_loopg [5, 9] n (fun gg s5 s9 wr => ∃ i : Nat, s9 = .int .i64 (i : Int) ∧ Aside0 (i ≤ n ∧ n - i ≤ gg) ∧ Aside0 (Kd.R (Kd.int .u8) 5 wr w.heap.size (fun k => w.heap.size ≤ k) s5 (waveL lv i)) ∧ Aside0 (Inv i wr) ∧ Aside0 (Below B w wr))
  case atStart => exact ⟨0, rfl, ⟨by omega⟩, HO1, ⟨HK.out 0 w _ HI0.out HB1.out⟩, ⟨HB1.out.mono HBM.out⟩⟩
  case round =>
    clear HO1 HB1 HI0
    obtain ⟨i, rfl, HX, HO, HI, HB⟩ := hrel
    by_cases hlt : i < n
    · have t1 : decide ((i : Int) < (n : Int)) = true := decide_eq_true (by omega)
      have t2 : decide (i < n) = true := decide_eq_true hlt
      have HS : Aside0 (w.heap.size ≤ wr.heap.size) := ⟨HB.out.size⟩
      have HC := Aside0.mk (HP.out i wr hlt HS.out HI.out)
      have HL := Aside0.mk hlt
      clear hlt HI
      cases hq : lv i with
      | true =>
        have HQ := Aside0.mk hq
        rw [hq] at HC
        clear hq
        go_wp2_with (first | (go_at_fn g; refine HC.out.mono ?_; rintro e w1 ⟨rfl, hI1, hS1⟩; have HI1 := Aside0.mk hI1; have HS1 := Aside0.mk hS1; have HO1 := Aside0.mk (Kd.R_step HO.out (fun k hk hl => hS1.block k hl (.inr hk))); clear hI1 hS1) | ((with_reducible refine gate_builtin (b := .append) (xs := #[.tmp 15, .tmp 16]) rfl ?_); at_builtin; refine Kd.R_append (Kd.int .u8) (w0 := w1) w.heap.size rfl (.tmp 15) (.tmp 16) 63 5 (.int .u8 0) 1 rfl Tryd.underlying63 info5 rfl (by decide) (by omega) u5 (waveL lv i) 49 [.int .u8 49] (fun k => w.heap.size ≤ k) (fun _ => False) rfl rfl ?aP (fun _ hk => hk.elim) ?aF ?aO ?aB ?aS ?aL ?_; (case aP => exact rfl); (case aB => exact Below.refl _ _); (case aF => exact (fun _ hb => Nat.le_trans HS.out (Nat.le_trans HS1.out.size hb))); (case aO => exact HO1.out); (case aS => exact Nat.le_trans HS.out HS1.out.size); (case aL => have := HL.out; have := HN.out; rw [waveL_length]; omega); intro v2 w2 ho hb hg hat; have HO2 := Aside0.mk ho; have HB2 := Aside0.mk hb; clear ho hb hg hat))
        have hl := HL.out
        have hx := HX.out
        go_roundg (n - (i + 1))
        case measure => omega
        case rel =>
          have hw1 : wrap64 ((i : Int) + 1) = ((i + 1 : Nat) : Int) := by have := HN.out; unfold wrap64; omega
          exact ⟨i + 1, by rw [hw1], ⟨by omega⟩, ⟨by rw [waveL_succ, if_pos HQ.out]; exact HO2.out⟩, ⟨HK.out _ _ _ HI1.out HB2.out⟩, ⟨(HB.out.trans (HS1.out.below (Nat.le_trans HBM.out HS.out))).trans (HB2.out.mono HBM.out)⟩⟩
      | false =>
        have HQ := Aside0.mk hq
        rw [hq] at HC
        clear hq
        go_wp2_with (first | (go_at_fn g; refine HC.out.mono ?_; rintro e w1 ⟨rfl, hI1, hS1⟩; have HI1 := Aside0.mk hI1; have HS1 := Aside0.mk hS1; have HO1 := Aside0.mk (Kd.R_step HO.out (fun k hk hl => hS1.block k hl (.inr hk))); clear hI1 hS1) | ((with_reducible refine gate_builtin (b := .append) (xs := #[.tmp 18, .tmp 19]) rfl ?_); at_builtin; refine Kd.R_append (Kd.int .u8) (w0 := w1) w.heap.size rfl (.tmp 18) (.tmp 19) 63 5 (.int .u8 0) 1 rfl Tryd.underlying63 info5 rfl (by decide) (by omega) u5 (waveL lv i) 48 [.int .u8 48] (fun k => w.heap.size ≤ k) (fun _ => False) rfl rfl ?aP (fun _ hk => hk.elim) ?aF ?aO ?aB ?aS ?aL ?_; (case aP => exact rfl); (case aB => exact Below.refl _ _); (case aF => exact (fun _ hb => Nat.le_trans HS.out (Nat.le_trans HS1.out.size hb))); (case aO => exact HO1.out); (case aS => exact Nat.le_trans HS.out HS1.out.size); (case aL => have := HL.out; have := HN.out; rw [waveL_length]; omega); intro v2 w2 ho hb hg hat; have HO2 := Aside0.mk ho; have HB2 := Aside0.mk hb; clear ho hb hg hat))
        have hl := HL.out
        have hx := HX.out
        go_roundg (n - (i + 1))
        case measure => omega
        case rel =>
          have hw1 : wrap64 ((i : Int) + 1) = ((i + 1 : Nat) : Int) := by have := HN.out; unfold wrap64; omega
          exact ⟨i + 1, by rw [hw1], ⟨by omega⟩, ⟨by rw [waveL_succ, if_neg (by rw [HQ.out]; decide)]; exact HO2.out⟩, ⟨HK.out _ _ _ HI1.out HB2.out⟩, ⟨(HB.out.trans (HS1.out.below (Nat.le_trans HBM.out HS.out))).trans (HB2.out.mono HBM.out)⟩⟩
    · have t1 : decide ((i : Int) < (n : Int)) = false := decide_eq_false (by omega)
      have t2 : decide (i < n) = false := decide_eq_false hlt
      have hx := HX.out
      obtain rfl : i = n := by omega
      have HR2 := Aside0.mk (own_string (P := Tryd.prog) Tryd.underlying63 Tryd.underlying5 Tryd.underlying9 (Kd.own_of_R HO.out))
      clear hlt hx
      have hcv := HR2.out
      go_wp2
      go_ret
      exact ⟨rfl, HI.out, HB.out⟩

end Go.Proofs.YtmipelgjmmgmnaaDoor.Pa
