-- Written for this claim by a program of this session.
import Derived.Test.YtmipelgjmmgmnaaDoorPax0
import Derived.Test.YtmipelgjmmgmnaaDoorPaxf52
import Derived.Test.YtmipelgjmmgmnaaDoorPaxasame
import Derived.Test.YtmipelgjmmgmnaaDoorPaxaside
import Derived.Test.YtmipelgjmmgmnaaDoorPaxawaveOf
namespace Go.Proofs.YtmipelgjmmgmnaaDoor.Pa
open Go.RowKit Go.Proofs.YtmipelgjmmgmnaaDoorW.PrintWords Go.Proofs.YtmipelgjmmgmnaaDoorW.PrintLast Go.Proofs.YtmipelgjmmgmnaaDoorW.PrintMore
attribute [local go_sem] max2_int min2_int max_two min_two max_three min_three max_four min_four   -- for this text's walks alone
set_option linter.unusedVariables false
set_option linter.unusedSimpArgs false

/-! ### impl_PlainSwitch: function 16 -/
/-- The level of the output at a tick. -/
def plainLv (a b c : ByteArray) (x : Int) : Bool := (bt c x == 48) && (bt a x == 49) || (bt c x == 49) && (bt b x == 49)
def impl_PlainSwitch.f (a0 a1 a2 : ByteArray) : Option (ByteArray × Bool) := if allSame [a0, a1, a2] = true then some (strOfNums (waveL (fun i => plainLv a0 a1 a2 (i : Int)) a0.size), true) else some ((⟨#[]⟩ : ByteArray), false)
set_option maxHeartbeats 2000000 in
set_option maxRecDepth 100000 in
theorem PlainSwitch_test (a b c : ByteArray) (ga gb gc : Nat) (x : Int) (h0 : 0 ≤ x) (ha : x < (a.size : Int)) (hb : x < (b.size : Int)) (hc : x < (c.size : Int)) (W : World)
    (c1 : W.cell? ⟨gc, 0, none⟩ = some (.string c)) (c2 : W.cell? ⟨ga, 0, none⟩ = some (.string a)) (c3 : W.cell? ⟨gb, 0, none⟩ = some (.string b)) :
    Calls Tryd.prog 54 #[.int .i64 x, .pointer (some ⟨gc, 0, none⟩), .pointer (some ⟨ga, 0, none⟩), .pointer (some ⟨gb, 0, none⟩)] W fun e w' => e = .returned (.bool (plainLv a b c x)) ∧ w' = W := by
  have ua := bt_at a x
  have ub := bt_at b x
  have uc := bt_at c x
  have p0 := eq_true h0
  have pa := eq_true ha
  have pb := eq_true hb
  have pc := eq_true hc
  have d0 : decide (0 ≤ x) = true := decide_eq_true h0
  have da : decide (x < (a.size : Int)) = true := decide_eq_true ha
  have db : decide (x < (b.size : Int)) = true := decide_eq_true hb
  have dc : decide (x < (c.size : Int)) = true := decide_eq_true hc
  clear h0 ha hb hc
  have HE : Aside0 (plainLv a b c x = ((bt c x == 48) && (bt a x == 49) || (bt c x == 49) && (bt b x == 49))) := ⟨rfl⟩
  generalize plainLv a b c x = q at HE ⊢
  have en : (bt c x == 48) = true → (bt c x == 49) = false := fun h => by rw [beq_iff_eq] at h; rw [h]; rfl
  cases e1 : (bt c x == 48) with
  | true =>
    have e3 := en e1
    clear en
    rw [e1, e3] at HE
    cases e2 : (bt a x == 49) with
    | true =>
      rw [e2] at HE
      go_enter Tryd.func54, Tryd.ntmps54
      go_wp2
      go_ret
      exact ⟨by rw [HE.out]; rfl, rfl⟩
    | false =>
      rw [e2] at HE
      go_enter Tryd.func54, Tryd.ntmps54
      go_wp2
      go_ret
      exact ⟨by rw [HE.out]; rfl, rfl⟩
  | false =>
    clear en
    rw [e1] at HE
    cases e3 : (bt c x == 49) with
    | true =>
      rw [e3] at HE
      cases e4 : (bt b x == 49) with
      | true =>
        rw [e4] at HE
        go_enter Tryd.func54, Tryd.ntmps54
        go_wp2
        go_ret
        exact ⟨by rw [HE.out]; rfl, rfl⟩
      | false =>
        rw [e4] at HE
        go_enter Tryd.func54, Tryd.ntmps54
        go_wp2
        go_ret
        exact ⟨by rw [HE.out]; rfl, rfl⟩
    | false =>
      rw [e3] at HE
      go_enter Tryd.func54, Tryd.ntmps54
      go_wp2
      go_ret
      exact ⟨by rw [HE.out]; rfl, rfl⟩
set_option maxHeartbeats 2000000 in
set_option maxRecDepth 100000 in
theorem PlainSwitch_wave (a b c : ByteArray) (ga gb gc : Nat) (ha : a.size ≤ 400) (hb : b.size = a.size) (hc : c.size = a.size) (w : World)
    (c1 : w.cell? ⟨gc, 0, none⟩ = some (.string c)) (c2 : w.cell? ⟨ga, 0, none⟩ = some (.string a)) (c3 : w.cell? ⟨gb, 0, none⟩ = some (.string b)) :
    Calls Tryd.prog 53 #[.int .i64 (a.size : Int), .func (.func 54) #[] #[.pointer (some ⟨gc, 0, none⟩), .pointer (some ⟨ga, 0, none⟩), .pointer (some ⟨gb, 0, none⟩)]] w fun e w' => e = .returned (.string (strOfNums (waveL (fun i => plainLv a b c (i : Int)) a.size))) ∧ Below w.heap.size w w' := by
  have l1 := World.block_lt_of_cell? w _ c1
  have l2 := World.block_lt_of_cell? w _ c2
  have l3 := World.block_lt_of_cell? w _ c3
  refine (waveOf.calls a.size 54 #[.pointer (some ⟨gc, 0, none⟩), .pointer (some ⟨ga, 0, none⟩), .pointer (some ⟨gb, 0, none⟩)] (fun i => plainLv a b c (i : Int))
    (fun _ W => W.cell? ⟨gc, 0, none⟩ = some (.string c) ∧ W.cell? ⟨ga, 0, none⟩ = some (.string a) ∧ W.cell? ⟨gb, 0, none⟩ = some (.string b)) w.heap.size w (by omega) (Nat.le_refl _)
    (enters_of Tryd.func54 (by kernel_rfl) rfl) ⟨c1, c2, c3⟩ (fun i W W' h hB => ⟨(hB.cell l1).trans h.1, (hB.cell l2).trans h.2.1, (hB.cell l3).trans h.2.2⟩)
    (fun i W hi _ h => (PlainSwitch_test a b c ga gb gc (i : Int) (by omega) (by omega) (by omega) (by omega) W h.1 h.2.1 h.2.2).mono fun e w' ⟨he, hw⟩ => ⟨he, by rw [hw]; exact h, by rw [hw]; exact Side.refl _ _ _⟩)).mono fun e w' ⟨he, _, hB⟩ => ⟨he, hB⟩
set_option maxHeartbeats 4000000 in
set_option maxRecDepth 100000 in
theorem impl_PlainSwitch.calls (a0 : ByteArray) (a1 : ByteArray) (a2 : ByteArray) (r1 : ByteArray) (r2 : Bool) (w : World) (h : impl_PlainSwitch.f a0 a1 a2 = some (r1, r2)) :
    Calls Tryd.prog 16 #[.string a0, .string a1, .string a2] w fun e w' => e = .returned (.tuple #[.string r1, .bool r2]) ∧ Below w.heap.size w w' := by
  unfold impl_PlainSwitch.f at h
  have HT := Aside0.mk (areWaves_tells [a0, a1, a2] (by simp))
  cases hs : allSame [a0, a1, a2] with
  | true =>
    rw [if_pos hs] at h
    have hm := allSame_mem hs
    obtain ⟨s0, s1, _⟩ := sameWave_le (hm a0 (by simp))
    obtain ⟨_, s2, _⟩ := sameWave_le (hm a1 (by simp))
    obtain ⟨_, s3, _⟩ := sameWave_le (hm a2 (by simp))
    have HS := Aside0.mk (And.intro s0 (And.intro (s2.trans s1.symm) (s3.trans s1.symm)))
    rw [hs] at HT
    clear hs hm s0 s1 s2 s3
    simp only [Option.some.injEq, Prod.mk.injEq] at h
    obtain ⟨rfl, rfl⟩ := h
    go_enter Tryd.func16, Tryd.ntmps16
    go_wp2_with (first | ((with_reducible refine gate_dst (N := 11) rfl ?_); refine Kd.R_lit Kd.string _ 9 ?hg (N := 11) ?hd (xs := [a0, a1, a2]) (inner := [.string a0, .string a1, .string a2]) (ok := fun _ => True) (okp := fun _ => True) ?hr ?hp (fun _ hk => hk) trivial (Below.refl _ _) (Nat.le_refl _) (by simp) ?_; (case hd => rfl); (case hg => rfl); (case hr => first | (go_simp; done) | (go_simp; rfl)); (case hp => exact Kd.reps_scalar (enc := Value.string) [a0, a1, a2]); intro v1 w1 ho hb hg_ hnew_; have k1 : w1.cell? ⟨w.heap.size, 0, none⟩ = some (.string a0) := (hb.cell (by first | (simp; done) | (go_simp; done) | (simp; omega))).trans (by first | (go_simp; done) | (simp; done)); have k2 : w1.cell? ⟨w.heap.size + 1, 0, none⟩ = some (.string a1) := (hb.cell (by first | (simp; done) | (go_simp; done) | (simp; omega))).trans (by first | (go_simp; done) | (simp; done)); have k3 : w1.cell? ⟨w.heap.size + 2, 0, none⟩ = some (.string a2) := (hb.cell (by first | (simp; done) | (go_simp; done) | (simp; omega))).trans (by first | (go_simp; done) | (simp; done)); obtain ⟨A1, c1, rfl⟩ := Kd.R_slice ho; have HP := Aside0.mk (Kd.R_reads' ho).2.2; have HQ := Aside0.mk (Kd.R_reads' ho).2.1; have HB1 := Aside0.mk (below_step (below_alloc (below_alloc (below_alloc (Below.refl w.heap.size w) _) _) _) hb); clear ho hb hg_ hnew_) | (go_at_call 52; refine (impl_areWaves.calls _ _ [a0, a1, a2] true _ HP.out HQ.out HT.out).mono ?_; rintro e w2 ⟨rfl, hb2⟩; replace k1 := pw_cell_below hb2 k1; replace k2 := pw_cell_below hb2 k2; replace k3 := pw_cell_below hb2 k3; have HB2 := Aside0.mk (below_step HB1.out hb2); clear hb2 HB1 HP HQ) | (go_at_call 53; refine (PlainSwitch_wave a0 a1 a2 _ _ _ HS.out.1 HS.out.2.1 HS.out.2.2 _ k3 k1 k2).mono ?_; rintro e w3 ⟨rfl, hb3⟩; have HB3 := Aside0.mk (below_step HB2.out hb3); clear hb3))
    go_ret2
    exact ⟨rfl, HB3.out⟩
  | false =>
    rw [if_neg (by rw [hs]; decide)] at h
    rw [hs] at HT
    clear hs
    simp only [Option.some.injEq, Prod.mk.injEq] at h
    obtain ⟨rfl, rfl⟩ := h
    go_enter Tryd.func16, Tryd.ntmps16
    go_wp2_with (first | ((with_reducible refine gate_dst (N := 11) rfl ?_); refine Kd.R_lit Kd.string _ 9 ?hg (N := 11) ?hd (xs := [a0, a1, a2]) (inner := [.string a0, .string a1, .string a2]) (ok := fun _ => True) (okp := fun _ => True) ?hr ?hp (fun _ hk => hk) trivial (Below.refl _ _) (Nat.le_refl _) (by simp) ?_; (case hd => rfl); (case hg => rfl); (case hr => first | (go_simp; done) | (go_simp; rfl)); (case hp => exact Kd.reps_scalar (enc := Value.string) [a0, a1, a2]); intro v1 w1 ho hb hg_ hnew_; obtain ⟨A1, c1, rfl⟩ := Kd.R_slice ho; have HP := Aside0.mk (Kd.R_reads' ho).2.2; have HQ := Aside0.mk (Kd.R_reads' ho).2.1; have HB1 := Aside0.mk (below_step (below_alloc (below_alloc (below_alloc (Below.refl w.heap.size w) _) _) _) hb); clear ho hb hg_ hnew_) | (go_at_call 52; refine (impl_areWaves.calls _ _ [a0, a1, a2] false _ HP.out HQ.out HT.out).mono ?_; rintro e w2 ⟨rfl, hb2⟩; have HB2 := Aside0.mk (below_step HB1.out hb2); clear hb2 HB1 HP HQ))
    go_ret2
    exact ⟨rfl, HB2.out⟩

end Go.Proofs.YtmipelgjmmgmnaaDoor.Pa
