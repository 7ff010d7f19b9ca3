-- Written for this claim by a program of this session.
import Derived.Test.YtmipelgjmmgmnaaDoorPax0
import Derived.Test.YtmipelgjmmgmnaaDoorPaxaside
import Derived.Test.YtmipelgjmmgmnaaDoorPaxajoinlv
namespace Go.Proofs.YtmipelgjmmgmnaaDoor.Pa
open Go.RowKit Go.Proofs.YtmipelgjmmgmnaaDoorW.PrintWords Go.Proofs.YtmipelgjmmgmnaaDoorW.PrintLast Go.Proofs.YtmipelgjmmgmnaaDoorW.PrintMore
attribute [local go_sem] max2_int min2_int max_two min_two max_three min_three max_four min_four   -- for this text's walks alone
set_option linter.unusedVariables false
set_option linter.unusedSimpArgs false

/-! ### spec_l01Join: function 55 -/
/-- The reference's joining of two waves, for the one way of joining that this claim comes to. -/
def spec_l01Join.f (a0 : Int) (a1 a2 : ByteArray) : Option (ByteArray) := if a0 = 0 ∧ a1.size ≤ a2.size ∧ a1.size ≤ 400 then some (strOfNums (waveL (fun i => joinLv a1 a2 (i : Int)) a1.size)) else none
set_option maxHeartbeats 4000000 in
set_option maxRecDepth 100000 in
theorem spec_l01Join.calls (a0 : Int) (a1 : ByteArray) (a2 : ByteArray) (r : ByteArray) (w : World) (h : spec_l01Join.f a0 a1 a2 = some r) :
    Calls Tryd.prog 55 #[.int .i64 a0, .string a1, .string a2] w fun e w' => e = .returned (.string r) ∧ Below w.heap.size w w' := by
  unfold spec_l01Join.f at h
  by_cases hc : a0 = 0 ∧ a1.size ≤ a2.size ∧ a1.size ≤ 400
  case neg => rw [if_neg hc] at h; exact absurd h (by simp)
  rw [if_pos hc] at h
  obtain ⟨rfl, h1, h2⟩ := hc
  obtain rfl := Option.some.inj h
  have HN := Aside0.mk (And.intro h1 h2)
  clear h h1 h2
  go_enter Tryd.func55, Tryd.ntmps55
  go_wp2_with ((with_reducible refine gate_dst (N := 13) rfl ?_); refine Kd.R_lit (Kd.int .u8) w.heap.size 5 ?hg (N := 13) ?hd (xs := ([] : List Int)) (inner := []) (ok := fun _ => True) (okp := fun _ => False) ?hr ?hp (fun _ hk => hk.elim) trivial (Below.refl _ _) (Nat.le_refl _) (by simp) ?_; (case hd => rfl); (case hg => rfl); (case hr => first | (go_simp; done) | (go_simp; rfl)); (case hp => exact (Reps.none _ _)); intro v1 w1 ho hb hg_ hnew_; have HO1 := Aside0.mk ho; have HB1 := Aside0.mk hb; clear ho hb hg_ hnew_)
  go_loopg [7, 8] a1.size (fun gg s7 s8 wr => ∃ x : Int, s8 = .int .i64 x ∧ Aside0 (0 ≤ x ∧ x ≤ a1.size ∧ a1.size - x.toNat ≤ gg) ∧ Aside0 (Kd.R (Kd.int .u8) 5 wr w.heap.size (fun _ => True) s7 (waveL (fun i => joinLv a1 a2 (i : Int)) x.toNat)) ∧ Aside0 (Below w.heap.size w wr))
  case atStart => exact ⟨0, rfl, ⟨by omega⟩, HO1, HB1⟩
  case round =>
    clear HO1 HB1
    obtain ⟨x, rfl, HX, HO, HB⟩ := hrel
    by_cases hlt : x < (a1.size : Int)
    · have hx0 := HX.out
      have hn0 := HN.out
      have hlt2 : x < (a2.size : Int) := by omega
      have h0 : 0 ≤ x := hx0.1
      have t1 : decide (x < (a1.size : Int)) = true := decide_eq_true hlt
      have t2 : decide (x < (a2.size : Int)) = true := decide_eq_true hlt2
      have t0 : decide (0 ≤ x) = true := decide_eq_true h0
      have u1 := bt_at a1 x
      have u2 := bt_at a2 x
      have p0 := eq_true h0
      have p1 := eq_true hlt
      have p2 := eq_true hlt2
      have HL := Aside0.mk hlt
      clear hlt hlt2 h0 hx0 hn0
      have HE : Aside0 (joinLv a1 a2 x = ((bt a1 x == 49) && (bt a2 x == 49))) := ⟨rfl⟩
      cases e1 : (bt a1 x == 49) with
      | true =>
        rw [e1] at HE
        cases e2 : (bt a2 x == 49) with
        | true =>
          rw [e2] at HE
          go_wp2_with ((with_reducible refine gate_builtin (b := .append) (xs := #[.tmp 52, .tmp 54]) rfl ?_); at_builtin; refine Kd.R_append (Kd.int .u8) (w0 := w) w.heap.size rfl (.tmp 52) (.tmp 54) 63 5 (.int .u8 0) 1 rfl Tryd.underlying63 info5 rfl (by decide) (by omega) u7 (waveL (fun i => joinLv a1 a2 (i : Int)) x.toNat) 49 [.int .u8 49] (fun _ => True) (fun _ => False) rfl rfl ?aP (fun _ hk => hk.elim) ?aF ?aO ?aB ?aS ?aL ?_; (case aP => exact rfl); (case aB => exact HB.out); (case aF => exact (fun _ _ => trivial)); (case aO => exact HO.out); (case aS => exact HB.out.size); (case aL => have := HX.out; have := HN.out; rw [waveL_length]; omega); intro v2 w2 ho hb hg hat; have HO2 := Aside0.mk ho; have HB2 := Aside0.mk hb; clear ho hb hg hat)
          have hx := HX.out
          have hl := HL.out
          have hn := HN.out
          have hw1 : wrap64 (x + 1) = x + 1 := by unfold wrap64; omega
          go_roundg (a1.size - (x + 1).toNat)
          case measure => omega
          case rel =>
            refine ⟨x + 1, by rw [hw1], ⟨by omega⟩, ⟨?_⟩, HB2⟩
            rw [show (x + 1).toNat = x.toNat + 1 from by omega, waveL_succ, show ((x.toNat : Nat) : Int) = x from by omega, HE.out]
            exact HO2.out
        | false =>
          rw [e2] at HE
          go_wp2_with ((with_reducible refine gate_builtin (b := .append) (xs := #[.tmp 52, .tmp 54]) rfl ?_); at_builtin; refine Kd.R_append (Kd.int .u8) (w0 := w) w.heap.size rfl (.tmp 52) (.tmp 54) 63 5 (.int .u8 0) 1 rfl Tryd.underlying63 info5 rfl (by decide) (by omega) u7 (waveL (fun i => joinLv a1 a2 (i : Int)) x.toNat) 48 [.int .u8 48] (fun _ => True) (fun _ => False) rfl rfl ?aP (fun _ hk => hk.elim) ?aF ?aO ?aB ?aS ?aL ?_; (case aP => exact rfl); (case aB => exact HB.out); (case aF => exact (fun _ _ => trivial)); (case aO => exact HO.out); (case aS => exact HB.out.size); (case aL => have := HX.out; have := HN.out; rw [waveL_length]; omega); intro v2 w2 ho hb hg hat; have HO2 := Aside0.mk ho; have HB2 := Aside0.mk hb; clear ho hb hg hat)
          have hx := HX.out
          have hl := HL.out
          have hn := HN.out
          have hw1 : wrap64 (x + 1) = x + 1 := by unfold wrap64; omega
          go_roundg (a1.size - (x + 1).toNat)
          case measure => omega
          case rel =>
            refine ⟨x + 1, by rw [hw1], ⟨by omega⟩, ⟨?_⟩, HB2⟩
            rw [show (x + 1).toNat = x.toNat + 1 from by omega, waveL_succ, show ((x.toNat : Nat) : Int) = x from by omega, HE.out]
            exact HO2.out
      | false =>
        rw [e1] at HE
        cases e3 : (bt a2 x == 49) with
        | true =>
          rw [e3] at HE
          go_wp2_with ((with_reducible refine gate_builtin (b := .append) (xs := #[.tmp 52, .tmp 54]) rfl ?_); at_builtin; refine Kd.R_append (Kd.int .u8) (w0 := w) w.heap.size rfl (.tmp 52) (.tmp 54) 63 5 (.int .u8 0) 1 rfl Tryd.underlying63 info5 rfl (by decide) (by omega) u7 (waveL (fun i => joinLv a1 a2 (i : Int)) x.toNat) 48 [.int .u8 48] (fun _ => True) (fun _ => False) rfl rfl ?aP (fun _ hk => hk.elim) ?aF ?aO ?aB ?aS ?aL ?_; (case aP => exact rfl); (case aB => exact HB.out); (case aF => exact (fun _ _ => trivial)); (case aO => exact HO.out); (case aS => exact HB.out.size); (case aL => have := HX.out; have := HN.out; rw [waveL_length]; omega); intro v2 w2 ho hb hg hat; have HO2 := Aside0.mk ho; have HB2 := Aside0.mk hb; clear ho hb hg hat)
          have hx := HX.out
          have hl := HL.out
          have hn := HN.out
          have hw1 : wrap64 (x + 1) = x + 1 := by unfold wrap64; omega
          go_roundg (a1.size - (x + 1).toNat)
          case measure => omega
          case rel =>
            refine ⟨x + 1, by rw [hw1], ⟨by omega⟩, ⟨?_⟩, HB2⟩
            rw [show (x + 1).toNat = x.toNat + 1 from by omega, waveL_succ, show ((x.toNat : Nat) : Int) = x from by omega, HE.out]
            exact HO2.out
        | false =>
          rw [e3] at HE
          go_wp2_with ((with_reducible refine gate_builtin (b := .append) (xs := #[.tmp 52, .tmp 54]) rfl ?_); at_builtin; refine Kd.R_append (Kd.int .u8) (w0 := w) w.heap.size rfl (.tmp 52) (.tmp 54) 63 5 (.int .u8 0) 1 rfl Tryd.underlying63 info5 rfl (by decide) (by omega) u7 (waveL (fun i => joinLv a1 a2 (i : Int)) x.toNat) 48 [.int .u8 48] (fun _ => True) (fun _ => False) rfl rfl ?aP (fun _ hk => hk.elim) ?aF ?aO ?aB ?aS ?aL ?_; (case aP => exact rfl); (case aB => exact HB.out); (case aF => exact (fun _ _ => trivial)); (case aO => exact HO.out); (case aS => exact HB.out.size); (case aL => have := HX.out; have := HN.out; rw [waveL_length]; omega); intro v2 w2 ho hb hg hat; have HO2 := Aside0.mk ho; have HB2 := Aside0.mk hb; clear ho hb hg hat)
          have hx := HX.out
          have hl := HL.out
          have hn := HN.out
          have hw1 : wrap64 (x + 1) = x + 1 := by unfold wrap64; omega
          go_roundg (a1.size - (x + 1).toNat)
          case measure => omega
          case rel =>
            refine ⟨x + 1, by rw [hw1], ⟨by omega⟩, ⟨?_⟩, HB2⟩
            rw [show (x + 1).toNat = x.toNat + 1 from by omega, waveL_succ, show ((x.toNat : Nat) : Int) = x from by omega, HE.out]
            exact HO2.out
    · have t1 : decide (x < (a1.size : Int)) = false := decide_eq_false hlt
      have hx := HX.out
      obtain rfl : x = (a1.size : Int) := by omega
      rw [Int.toNat_natCast] at HO
      have hcv := own_string (P := Tryd.prog) Tryd.underlying63 Tryd.underlying5 Tryd.underlying9 (Kd.own_of_R HO.out)
      clear hlt hx
      go_wp2
      go_ret
      exact ⟨rfl, HB.out⟩

end Go.Proofs.YtmipelgjmmgmnaaDoor.Pa
