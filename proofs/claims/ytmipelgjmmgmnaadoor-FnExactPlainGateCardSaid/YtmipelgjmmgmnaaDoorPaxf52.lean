-- Written for this claim by a program of this session.
import Derived.Test.YtmipelgjmmgmnaaDoorPax0
import Derived.Test.YtmipelgjmmgmnaaDoorPaxf62
import Derived.Test.YtmipelgjmmgmnaaDoorPaxacontainsS
namespace Go.Proofs.YtmipelgjmmgmnaaDoor.Pa
open Go.RowKit Go.Proofs.YtmipelgjmmgmnaaDoorW.PrintWords Go.Proofs.YtmipelgjmmgmnaaDoorW.PrintLast Go.Proofs.YtmipelgjmmgmnaaDoorW.PrintMore
attribute [local go_sem] max2_int min2_int max_two min_two max_three min_three max_four min_four   -- for this text's walks alone
set_option linter.unusedVariables false
set_option linter.unusedSimpArgs false

/-! ### impl_areWaves: function 52 -/
/-- A list of waves of as many ticks. -/
def sameWave (n : Nat) (x : ByteArray) : Bool := isWaveB x && (x.size == n)
def firstSize (l : List ByteArray) : Nat := (rdOf ByteArray.empty l 0).size
def impl_areWaves.f (l : List ByteArray) : Option (Bool) := if 0 < l.length then some (!(l.any fun x => !sameWave (firstSize l) x)) else none
set_option maxHeartbeats 2000000 in
set_option maxRecDepth 100000 in
theorem areWaves_test (l : List ByteArray) (A : Option Addr) (c B : Nat) (h0 : 0 < l.length) (w : World) (hB : B < w.heap.size) (hc0 : w.cell? ⟨B, 0, none⟩ = some (.slice A l.length c)) (hr : Kd.C Kd.string w A l.length l) (W : World) (x : ByteArray) (hb : Below w.heap.size w W) :
    Calls Tryd.prog 97 (#[.string x] ++ #[.pointer (some ⟨B, 0, none⟩)]) W fun e w' => e = .returned (.bool (!sameWave (firstSize l) x)) ∧ Below w.heap.size w w' := by
  obtain ⟨ad, e, he⟩ := Kd.at_string hr 0 (by omega) (by omega)
  cases e
  have hz : ad.add (0 : Int).toNat = ad := by simp [Addr.add_zero']
  rw [hz] at he
  have g0 : W.cell? ⟨B, 0, none⟩ = some (.slice (some ad) l.length c) := pw_cell_below hb hc0
  have g1 : W.cell? ad = some (.string (rdOf ByteArray.empty l 0)) := pw_cell_below hb he
  have HB := Aside0.mk hb
  clear hb hc0 hr he hz
  have HN : Aside0 (firstSize l = (rdOf ByteArray.empty l 0).size) := ⟨rfl⟩
  generalize rdOf ByteArray.empty l 0 = y at g1 HN
  generalize firstSize l = m at HN ⊢
  have d0 : decide ((0 : Int) < (l.length : Int)) = true := decide_eq_true (by omega)
  have d1 : decide (0 < l.length) = true := decide_eq_true h0
  have HI : Aside0 (impl_IsWave.f x = some (isWaveB x)) := ⟨rfl⟩
  have HE : Aside0 ((!sameWave m x) = (!isWaveB x || !(x.size == m))) := ⟨by unfold sameWave; cases isWaveB x <;> cases (x.size == m) <;> rfl⟩
  generalize (!sameWave m x) = q at HE ⊢
  cases hw : isWaveB x with
  | false =>
    rw [hw] at HI HE
    clear hw
    show Calls Tryd.prog 97 #[.string x, .pointer (some ⟨B, 0, none⟩)] W _
    go_enter Tryd.func97, Tryd.ntmps97
    go_wp2_with (go_at_call 62; refine (impl_IsWave.calls x false _ HI.out).mono ?_; rintro e w' ⟨rfl, hb'⟩; have HB2 := Aside0.mk hb'; clear hb')
    go_ret
    exact ⟨by rw [HE.out]; rfl, HB.out.trans (HB2.out.mono HB.out.size)⟩
  | true =>
    rw [hw] at HI HE
    clear hw
    by_cases hm : x.size = y.size
    · have e1 : ((x.size : Int) == (y.size : Int)) = true := beq_iff_eq.2 (by omega)
      have e2 : ((x.size : Int) != (y.size : Int)) = false := bne_eq_false_iff_eq.2 (by omega)
      have HQ : Aside0 ((x.size == m) = true) := ⟨beq_iff_eq.2 (by rw [HN.out]; exact hm)⟩
      clear hm
      show Calls Tryd.prog 97 #[.string x, .pointer (some ⟨B, 0, none⟩)] W _
      go_enter Tryd.func97, Tryd.ntmps97
      go_wp2_with (go_at_call 62; refine (impl_IsWave.calls x true _ HI.out).mono ?_; rintro e w' ⟨rfl, hb'⟩; have k0 := pw_cell_below hb' g0; have k1 := pw_cell_below hb' g1; have HB2 := Aside0.mk hb'; clear hb' g0 g1)
      go_ret
      exact ⟨by rw [HE.out, HQ.out]; rfl, HB.out.trans (HB2.out.mono HB.out.size)⟩
    · have e1 : ((x.size : Int) == (y.size : Int)) = false := beq_eq_false_iff_ne.2 (by omega)
      have e2 : ((x.size : Int) != (y.size : Int)) = true := bne_iff_ne.2 (by omega)
      have HQ : Aside0 ((x.size == m) = false) := ⟨beq_eq_false_iff_ne.2 (by rw [HN.out]; exact hm)⟩
      clear hm
      show Calls Tryd.prog 97 #[.string x, .pointer (some ⟨B, 0, none⟩)] W _
      go_enter Tryd.func97, Tryd.ntmps97
      go_wp2_with (go_at_call 62; refine (impl_IsWave.calls x true _ HI.out).mono ?_; rintro e w' ⟨rfl, hb'⟩; have k0 := pw_cell_below hb' g0; have k1 := pw_cell_below hb' g1; have HB2 := Aside0.mk hb'; clear hb' g0 g1)
      go_ret
      exact ⟨by rw [HE.out, HQ.out]; rfl, HB.out.trans (HB2.out.mono HB.out.size)⟩
theorem areWaves_contains (l : List ByteArray) (A : Option Addr) (c B : Nat) (h0 : 0 < l.length) (w : World) (hB : B < w.heap.size) (hc0 : w.cell? ⟨B, 0, none⟩ = some (.slice A l.length c)) (hr : Kd.C Kd.string w A l.length l) :
    Calls Tryd.prog 96 #[.slice A l.length c, .func (.func 97) #[] #[.pointer (some ⟨B, 0, none⟩)]] w fun e w' => e = .returned (.bool (l.any fun x => !sameWave (firstSize l) x)) ∧ Below w.heap.size w w' :=
  containsS.calls A c l 97 #[.pointer (some ⟨B, 0, none⟩)] (fun x => !sameWave (firstSize l) x) w hr (enters_of Tryd.func97 (by kernel_rfl) rfl) (fun W x _ hb => areWaves_test l A c B h0 w hB hc0 hr W x hb)
set_option maxHeartbeats 2000000 in
set_option maxRecDepth 100000 in
theorem impl_areWaves.calls (A0 : Option Addr) (c0 : Nat) (l0 : List ByteArray) (r : Bool) (w : World) (hr0 : Kd.C Kd.string w A0 l0.length l0) (hc0 : l0.length ≤ c0) (h : impl_areWaves.f l0 = some r) :
    Calls Tryd.prog 52 #[.slice A0 l0.length c0] w fun e w' => e = .returned (.bool r) ∧ Below w.heap.size w w' := by
  unfold impl_areWaves.f at h
  by_cases hl : 0 < l0.length
  · rw [if_pos hl] at h
    obtain rfl := Option.some.inj h
    have HC := Aside0.mk (fun (g : Nat) (w1 : World) (hg : g < w1.heap.size) (hc : w1.cell? ⟨g, 0, none⟩ = some (.slice A0 l0.length c0)) (hb : Below w.heap.size w w1) => areWaves_contains l0 A0 c0 g hl w1 hg hc (Kd.C_below hr0 hb))
    clear h hl hr0 hc0
    generalize (l0.any fun x => !sameWave (firstSize l0) x) = q at HC ⊢
    go_enter Tryd.func52, Tryd.ntmps52
    go_wp2_with (go_at_call 96; refine (HC.out w.heap.size _ (by simp) (by simp) (below_alloc (Below.refl _ _) _)).mono ?_; rintro e w' ⟨rfl, hb'⟩; have HB := Aside0.mk (below_step (below_alloc (Below.refl _ _) _) hb'); clear hb')
    go_ret
    exact ⟨rfl, HB.out⟩
  · rw [if_neg hl] at h
    exact absurd h (by simp)

end Go.Proofs.YtmipelgjmmgmnaaDoor.Pa
