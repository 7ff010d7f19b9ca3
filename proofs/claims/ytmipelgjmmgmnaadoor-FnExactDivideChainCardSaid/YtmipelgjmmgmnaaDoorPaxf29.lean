-- Written for this claim by a program of this session.
import Derived.Test.YtmipelgjmmgmnaaDoorPax0
import Derived.Test.YtmipelgjmmgmnaaDoorPaxf62
import Derived.Test.YtmipelgjmmgmnaaDoorPaxaside
import Derived.Test.YtmipelgjmmgmnaaDoorPaxf61
import Derived.Test.YtmipelgjmmgmnaaDoorPaxf49
import Derived.Test.YtmipelgjmmgmnaaDoorPaxf66
import Derived.Test.YtmipelgjmmgmnaaDoorPaxacontainsD
import Derived.Test.YtmipelgjmmgmnaaDoorPaxf66
import Derived.Test.YtmipelgjmmgmnaaDoorPaxf49
import Derived.Test.YtmipelgjmmgmnaaDoorPaxf62
namespace Go.Proofs.YtmipelgjmmgmnaaDoor.Pa
open Go.RowKit Go.Proofs.YtmipelgjmmgmnaaDoorW.PrintWords Go.Proofs.YtmipelgjmmgmnaaDoorW.PrintLast Go.Proofs.YtmipelgjmmgmnaaDoorW.PrintMore
attribute [local go_sem] max2_int min2_int max_two min_two max_three min_three max_four min_four   -- for this text's walks alone
set_option linter.unusedVariables false
set_option linter.unusedSimpArgs false

/-! ### impl_DivideChain: function 29 -/
/-- What a divider must be. -/
def divGood (x : S32) : Bool := decide (1 ≤ x.f0) && decide (x.f0 ≤ 64) && (decide (0 ≤ x.f1) && decide (x.f1 ≤ x.f0))
theorem divGood_tells (a b : Int) : impl_ValidDivider.f a b = some (divGood ⟨a, b⟩) := by
  have hin : ∀ x l u : Int, impl_within.f x l u = some (decide (l ≤ x) && decide (x ≤ u)) := by
    intro x l u
    unfold impl_within.f
    by_cases h : l ≤ x <;> simp [h]
  unfold impl_ValidDivider.f divGood
  rw [hin, hin, Option.bind_some]
  cases (decide (1 ≤ a) && decide (a ≤ 64)) <;> rfl
theorem divGood_ne {x : S32} (h : divGood x = true) : x.f0 ≠ 0 := by
  unfold divGood at h
  simp only [Bool.and_eq_true, decide_eq_true_eq] at h
  omega
/-- The wave behind some dividers one after another. -/
def chainW (s : ByteArray) : List S32 → ByteArray
  | [] => s
  | x :: l => chainW (strOfNums (waveL (divLv x.f0 x.f1 s) s.size)) l
def chainOk (l : List S32) (s : ByteArray) : Bool := decide (l.length ≤ 8) && isWaveB s && !(l.any fun x => !divGood x)
def impl_DivideChain.f (l0 : List (S32)) (a1 : ByteArray) : Option (ByteArray × Bool) := if chainOk l0 a1 = true then some (chainW a1 l0, true) else some ((⟨#[]⟩ : ByteArray), false)
theorem strOfNums_size (l : List Int) : (strOfNums l).size = l.length := by
  show (l.map _).toArray.size = l.length
  simp
set_option maxHeartbeats 2000000 in
set_option maxRecDepth 100000 in
theorem DivideChain_test (W : World) (x : S32) : Calls Tryd.prog 68 (#[.agg #[.int .i64 x.f0, .int .i64 x.f1]] ++ #[]) W fun e w' => e = .returned (.bool (!divGood x)) ∧ Below W.heap.size W w' := by
  have hu := Tryd.underlying32
  have HV := Aside0.mk (divGood_tells x.f0 x.f1)
  generalize divGood ⟨x.f0, x.f1⟩ = q at HV ⊢
  show Calls Tryd.prog 68 #[.agg #[.int .i64 x.f0, .int .i64 x.f1]] W _
  go_enter Tryd.func68, Tryd.ntmps68
  go_wp2_with (first | ((with_reducible refine gate_dst (N := 1) rfl ?_); refine box_event ?hg (N := 1) ?hd (cs := #[.int .i64 x.f0, .int .i64 x.f1]) (t := 32) ?hr ?_; (case hd => rfl); (case hg => rfl); (case hr => first | (go_simp; done) | (go_simp; rfl)); intro gb hg_ w1 hbox_ hb_; have HX_gb := Aside0.mk hbox_; have HB_w1 := Aside0.mk hb_; have HG_gb := Aside0.mk hg_; clear hbox_ hb_ hg_; have c1 := (blk_cell HX_gb.out 0).trans (show _ = some (Value.int .i64 x.f0) from rfl); have c2 := (blk_cell HX_gb.out 1).trans (show _ = some (Value.int .i64 x.f1) from rfl)) | (go_at_call 49; refine (impl_ValidDivider.calls x.f0 x.f1 q _ HV.out).mono ?_; rintro e w2 ⟨rfl, hb2⟩; have HB2 := Aside0.mk (below_step HB_w1.out hb2); clear hb2))
  go_ret
  exact ⟨rfl, HB2.out⟩
theorem DivideChain_contains (A : Option Addr) (c : Nat) (l : List S32) (w : World) (hr : Kd.C k32 w A l.length l) :
    Calls Tryd.prog 67 #[.slice A l.length c, .func (.func 68) #[] #[]] w fun e w' => e = .returned (.bool (l.any fun x => !divGood x)) ∧ Below w.heap.size w w' :=
  containsD.calls A c l 68 #[] (fun x => !divGood x) w hr (enters_of Tryd.func68 (by kernel_rfl) rfl) (fun W x _ hb => (DivideChain_test W x).mono fun e w' ⟨he, hB⟩ => ⟨he, hb.trans (hB.mono hb.size)⟩)
set_option maxHeartbeats 8000000 in
set_option maxRecDepth 100000 in
theorem impl_DivideChain.calls (A0 : Option Addr) (c0 : Nat) (l0 : List (S32)) (a1 : ByteArray) (r1 : ByteArray) (r2 : Bool) (w : World) (hr0 : Kd.C k32 w A0 l0.length l0) (hc0 : l0.length ≤ c0) (h : impl_DivideChain.f l0 a1 = some (r1, r2)) :
    Calls Tryd.prog 29 #[.slice A0 l0.length c0, .string a1] w fun e w' => e = .returned (.tuple #[.string r1, .bool r2]) ∧ Below w.heap.size w w' := by
  have hu := Tryd.underlying32
  unfold impl_DivideChain.f chainOk at h
  have HR := Aside0.mk hr0
  have hlen : l0.length ≤ 9223372036854775807 := hr0.2.1
  clear hr0 hc0
  by_cases h8 : l0.length ≤ 8
  · have d1 : decide ((8 : Int) < (l0.length : Int)) = false := decide_eq_false (by omega)
    have d2 : decide (8 < l0.length) = false := decide_eq_false (by omega)
    rw [decide_eq_true h8, Bool.true_and] at h
    have HL8 := Aside0.mk h8
    clear h8
    have HW : Aside0 (impl_IsWave.f a1 = some (isWaveB a1)) := ⟨rfl⟩
    cases hw : isWaveB a1 with
    | false =>
      rw [hw, Bool.false_and, if_neg (by decide)] at h
      rw [hw] at HW
      clear hw
      simp only [Option.some.injEq, Prod.mk.injEq] at h
      obtain ⟨rfl, rfl⟩ := h
      go_enter Tryd.func29, Tryd.ntmps29
      go_wp2_with (go_at_call 62; refine (impl_IsWave.calls a1 false _ HW.out).mono ?_; rintro e w1 ⟨rfl, hb1⟩; have HB1 := Aside0.mk hb1; clear hb1)
      go_ret2
      exact ⟨rfl, HB1.out⟩
    | true =>
      have hsz : a1.size ≤ 400 := by
        unfold isWaveB at hw
        rw [Bool.and_eq_true, decide_eq_true_eq] at hw
        exact hw.1
      have HSZ := Aside0.mk hsz
      rw [hw, Bool.true_and] at h
      rw [hw] at HW
      clear hw hsz
      cases ha : (l0.any fun x => !divGood x) with
      | true =>
        rw [ha, if_neg (by decide)] at h
        have HC := Aside0.mk (fun (w1 : World) (hb : Below w.heap.size w w1) => DivideChain_contains A0 c0 l0 w1 (Kd.C_below HR.out hb))
        rw [ha] at HC
        clear ha
        simp only [Option.some.injEq, Prod.mk.injEq] at h
        obtain ⟨rfl, rfl⟩ := h
        go_enter Tryd.func29, Tryd.ntmps29
        go_wp2_with (first | (go_at_call 62; refine (impl_IsWave.calls a1 true _ HW.out).mono ?_; rintro e w1 ⟨rfl, hb1⟩; have HB1 := Aside0.mk hb1; clear hb1) | (go_at_call 67; refine (HC.out w1 HB1.out).mono ?_; rintro e w2 ⟨rfl, hb2⟩; have HB2 := Aside0.mk (below_step HB1.out hb2); clear hb2))
        go_ret2
        exact ⟨rfl, HB2.out⟩
      | false =>
        rw [ha, if_pos (by rfl)] at h
        have HC := Aside0.mk (fun (w1 : World) (hb : Below w.heap.size w w1) => DivideChain_contains A0 c0 l0 w1 (Kd.C_below HR.out hb))
        rw [ha] at HC
        have HG : Aside0 (∀ x ∈ l0, divGood x = true) := ⟨fun x hx => by
          cases hd : divGood x with
          | true => rfl
          | false =>
            have : (l0.any fun x => !divGood x) = true := List.any_eq_true.2 ⟨x, hx, by rw [hd]; rfl⟩
            rw [this] at ha
            exact absurd ha (by decide)⟩
        clear ha
        simp only [Option.some.injEq, Prod.mk.injEq] at h
        obtain ⟨rfl, rfl⟩ := h
        go_enter Tryd.func29, Tryd.ntmps29
        go_wp2_with (first | (go_at_call 62; refine (impl_IsWave.calls a1 true _ HW.out).mono ?_; rintro e w1 ⟨rfl, hb1⟩; have HB1 := Aside0.mk hb1; clear hb1) | (go_at_call 67; refine (HC.out w1 HB1.out).mono ?_; rintro e w2 ⟨rfl, hb2⟩; have HB2 := Aside0.mk (below_step HB1.out hb2); clear hb2))
        go_loopg [1, 22] l0.length (fun gg s1 s22 wr => ∃ (x : Int) (t : ByteArray), s22 = .int .i64 x ∧ s1 = .string t ∧ Aside0 (0 ≤ x ∧ x ≤ l0.length ∧ (l0.length : Int) - x ≤ gg) ∧ Aside0 (t.size ≤ 400 ∧ chainW t (l0.drop x.toNat) = chainW a1 l0) ∧ Aside0 (Below w.heap.size w wr))
        case atStart => exact ⟨0, a1, rfl, rfl, ⟨by omega⟩, ⟨HSZ.out, rfl⟩, HB2⟩
        case round =>
          clear HB1 HB2
          obtain ⟨x, t, rfl, rfl, HX, HT, HB⟩ := hrel
          by_cases hlt : x < (l0.length : Int)
          · have hx0 := HX.out
            have h0 : 0 ≤ x := hx0.1
            have q0 : decide (0 ≤ x) = true := decide_eq_true h0
            have q1 : decide (x < (l0.length : Int)) = true := decide_eq_true hlt
            obtain ⟨ad, e, k0, k1⟩ := at_T32 HR.out x h0 hlt
            cases e
            replace k0 := (HB.out.cell (World.block_lt_of_cell? w _ k0)).trans k0
            replace k1 := (HB.out.cell (World.block_lt_of_cell? w _ k1)).trans k1
            have hmem : rd_T32 l0 x ∈ l0 := by
              unfold rd_T32
              rw [List.getD_eq_getElem?_getD, List.getElem?_eq_getElem (by omega)]
              exact List.getElem_mem _
            have HNE := Aside0.mk (divGood_ne (HG.out _ hmem))
            have HD : Aside0 (chainW (strOfNums (waveL (divLv (rd_T32 l0 x).f0 (rd_T32 l0 x).f1 t) t.size)) (l0.drop (x + 1).toNat) = chainW a1 l0) := ⟨by
              rw [← HT.out.2, List.drop_eq_getElem_cons (show x.toNat < l0.length by omega), show (x + 1).toNat = x.toNat + 1 from by omega]
              unfold rd_T32
              rw [List.getD_eq_getElem?_getD, List.getElem?_eq_getElem (by omega)]
              rfl⟩
            have HF : Aside0 (impl_divideWave.f (rd_T32 l0 x).f0 (rd_T32 l0 x).f1 t = some (strOfNums (waveL (divLv (rd_T32 l0 x).f0 (rd_T32 l0 x).f1 t) t.size))) := ⟨if_pos ⟨HT.out.1, HNE.out⟩⟩
            have p0 := eq_true h0
            have p1 := eq_true hlt
            clear hx0 h0 hmem
            have HLT := Aside0.mk hlt
            clear hlt
            generalize rd_T32 l0 x = y at k0 k1 HNE HD HF
            go_wp2_with (go_at_call 66; refine (impl_divideWave.calls y.f0 y.f1 t _ _ HF.out).mono ?_; rintro e w3 ⟨rfl, hb3⟩; have HB3 := Aside0.mk (below_step HB.out ((below_alloc (Below.refl _ _) _).trans (hb3.mono (by simp)))); clear hb3)
            have hx := HX.out
            have hl := HLT.out
            go_roundg ((l0.length : Int) - (x + 1)).toNat
            case measure => omega
            case rel =>
              have hw1 : wrap64 (x + 1) = x + 1 := by unfold wrap64; omega
              exact ⟨x + 1, _, by rw [hw1], rfl, ⟨by omega⟩, ⟨by rw [strOfNums_size, waveL_length]; exact HT.out.1, HD.out⟩, HB3⟩
          · have q1 : decide (x < (l0.length : Int)) = false := decide_eq_false hlt
            have hx := HX.out
            have HE : Aside0 (t = chainW a1 l0) := ⟨by
              rw [← HT.out.2, List.drop_of_length_le (by omega)]
              rfl⟩
            clear hlt hx
            go_wp2
            go_ret2
            exact ⟨by rw [HE.out]; rfl, HB.out⟩
  · have d1 : decide ((8 : Int) < (l0.length : Int)) = true := decide_eq_true (by omega)
    have d2 : decide (8 < l0.length) = true := decide_eq_true (by omega)
    rw [decide_eq_false h8, Bool.false_and, Bool.false_and, if_neg (by decide)] at h
    clear h8
    simp only [Option.some.injEq, Prod.mk.injEq] at h
    obtain ⟨rfl, rfl⟩ := h
    go_enter Tryd.func29, Tryd.ntmps29
    go_wp2
    go_ret2
    exact ⟨rfl, Below.refl _ _⟩

end Go.Proofs.YtmipelgjmmgmnaaDoor.Pa
