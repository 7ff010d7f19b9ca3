-- Written for this claim by a program of this session.
import Derived.Test.YtmipelgjmmgmnaaDoorPax0
import Derived.Test.YtmipelgjmmgmnaaDoorPaxf62
import Derived.Test.YtmipelgjmmgmnaaDoorPaxaside
import Derived.Test.YtmipelgjmmgmnaaDoorPaxawaveOf
import Derived.Test.YtmipelgjmmgmnaaDoorPaxf61
import Derived.Test.YtmipelgjmmgmnaaDoorPaxastrbox
namespace Go.Proofs.YtmipelgjmmgmnaaDoor.Pa
open Go.RowKit Go.Proofs.YtmipelgjmmgmnaaDoorW.PrintWords Go.Proofs.YtmipelgjmmgmnaaDoorW.PrintLast Go.Proofs.YtmipelgjmmgmnaaDoorW.PrintMore
attribute [local go_sem] max2_int min2_int max_two min_two max_three min_three max_four min_four   -- for this text's walks alone
set_option linter.unusedVariables false
set_option linter.unusedSimpArgs false

/-! ### impl_ToggleWave: function 22 -/
/-- The letter before a tick, how many changes there were, and the level. -/
def togSt (n : Int) (s : ByteArray) : Nat → Int × Int × Bool
  | 0 => (48, 0, false)
  | i + 1 => if bt s (i : Int) = (togSt n s i).1 then (bt s (i : Int), (togSt n s i).2.1, (togSt n s i).2.2) else (bt s (i : Int), wrap64 ((togSt n s i).2.1 + 1), if Int.tmod (togSt n s i).2.1 n = 0 then !(togSt n s i).2.2 else (togSt n s i).2.2)
def togLv (n : Int) (s : ByteArray) (i : Nat) : Bool := (togSt n s (i + 1)).2.2
def togOk (n : Int) (s : ByteArray) : Bool := decide (1 ≤ n) && decide (n ≤ 64) && isWaveB s
def impl_ToggleWave.f (a0 : Int) (a1 : ByteArray) : Option (ByteArray × Bool) := if togOk a0 a1 = true then some (strOfNums (waveL (togLv a0 a1) a1.size), true) else some ((⟨#[]⟩ : ByteArray), false)
set_option maxHeartbeats 2000000 in
set_option maxRecDepth 100000 in
theorem ToggleWave_test (s : ByteArray) (n : Int) (gs gb gk gn gl : Nat) (x b c : Int) (l : Bool) (h0 : 0 ≤ x) (h1 : x < (s.size : Int)) (hn : n ≠ 0) (B M : Nat) (W : World)
    (cs : W.heap[gs]? = some (.cells #[.string s] 9 (0, 0))) (cb : W.heap[gb]? = some (.cells #[.int .u8 b] 5 (0, 0))) (ck : W.heap[gk]? = some (.cells #[.int .i64 c] 2 (0, 0))) (cn : W.heap[gn]? = some (.cells #[.int .i64 n] 2 (0, 0))) (cl : W.heap[gl]? = some (.cells #[.bool l] 4 (0, 0)))
    (ne : gs ≠ gb ∧ gs ≠ gk ∧ gs ≠ gl ∧ gn ≠ gb ∧ gn ≠ gk ∧ gn ≠ gl ∧ gb ≠ gk ∧ gb ≠ gl ∧ gk ≠ gl) (hB : B ≤ gb ∧ B ≤ gk ∧ B ≤ gl) (hM : gb < M ∧ gk < M ∧ gl < M) :
    Calls Tryd.prog 63 #[.int .i64 x, .pointer (some ⟨gs, 0, none⟩), .pointer (some ⟨gb, 0, none⟩), .pointer (some ⟨gk, 0, none⟩), .pointer (some ⟨gn, 0, none⟩), .pointer (some ⟨gl, 0, none⟩)] W fun en w' =>
      en = .returned (.bool (if bt s x = b then l else if Int.tmod c n = 0 then !l else l)) ∧
      (w'.heap[gs]? = some (.cells #[.string s] 9 (0, 0)) ∧ w'.heap[gb]? = some (.cells #[.int .u8 (bt s x)] 5 (0, 0)) ∧ w'.heap[gk]? = some (.cells #[.int .i64 (if bt s x = b then c else wrap64 (c + 1))] 2 (0, 0)) ∧ w'.heap[gn]? = some (.cells #[.int .i64 n] 2 (0, 0)) ∧ w'.heap[gl]? = some (.cells #[.bool (if bt s x = b then l else if Int.tmod c n = 0 then !l else l)] 4 (0, 0))) ∧ Side B M W w' := by
  have us := bt_at s x
  have p0 := eq_true h0
  have p1 := eq_true h1
  have d0 : decide (0 ≤ x) = true := decide_eq_true h0
  have d1 : decide (x < (s.size : Int)) = true := decide_eq_true h1
  clear h0 h1
  have k1 := cell1 cs
  have k2 := cell1 cb
  have k3 := cell1 ck
  have k4 := cell1 cn
  have k5 := cell1 cl
  have f2 := blk_frozen cb 0
  have f3 := blk_frozen ck 0
  have f5 := blk_frozen cl 0
  have z0 : (n == 0) = false := beq_eq_false_iff_ne.2 hn
  have z1 : (n != 0) = true := bne_iff_ne.2 hn
  have HS := Aside0.mk cs
  have HB := Aside0.mk cb
  have HK := Aside0.mk ck
  have HN := Aside0.mk cn
  have HL := Aside0.mk cl
  have HX := Aside0.mk (And.intro ne (And.intro hB hM))
  clear cs cb ck cn cl ne hB hM
  by_cases hq : bt s x = b
  · have e1 : (bt s x == b) = true := beq_iff_eq.2 hq
    have e2 : (bt s x != b) = false := bne_eq_false_iff_eq.2 hq
    rw [if_pos hq, if_pos hq]
    clear hq
    go_enter Tryd.func63, Tryd.ntmps63
    go_wp2
    go_quiet (fail)
    replace HS := Aside0.mk (blk_drewN HS.out nq); replace HB := Aside0.mk (blk_drewN HB.out nq); replace HK := Aside0.mk (blk_drewN HK.out nq); replace HN := Aside0.mk (blk_drewN HN.out nq); replace HL := Aside0.mk (blk_drewN HL.out nq)
    have m5 : ((W.drewN nq).setCell ⟨gb, 0, none⟩ (.int .u8 (bt s x))).cell? ⟨gl, 0, none⟩ = some (.bool l) := cell1 (blk_far HL.out (p := ⟨gb, 0, none⟩) (by have := HX.out; show gl ≠ gb; omega) _)
    go_wp2
    go_ret
    have hx := HX.out
    exact ⟨rfl, ⟨blk_far HS.out (p := ⟨gb, 0, none⟩) hx.1.1 _, put1 HB.out _, blk_far HK.out (p := ⟨gb, 0, none⟩) (by show gk ≠ gb; omega) _, blk_far HN.out (p := ⟨gb, 0, none⟩) (by show gn ≠ gb; omega) _, blk_far HL.out (p := ⟨gb, 0, none⟩) (by show gl ≠ gb; omega) _⟩, ((Side.of_below (pw_below_drewN (Below.refl _ W) nq)).set hx.2.1.1 hx.2.2.1 0 _)⟩
  · have e1 : (bt s x == b) = false := beq_eq_false_iff_ne.2 hq
    have e2 : (bt s x != b) = true := bne_iff_ne.2 hq
    rw [if_neg hq, if_neg hq]
    clear hq
    by_cases hz : Int.tmod c n = 0
    · have t0 : (Int.tmod c n == 0) = true := beq_iff_eq.2 hz
      rw [if_pos hz]
      clear hz
      go_enter Tryd.func63, Tryd.ntmps63
      go_wp2
      go_quiet (fail)
      replace HS := Aside0.mk (blk_drewN HS.out nq); replace HB := Aside0.mk (blk_drewN HB.out nq); replace HK := Aside0.mk (blk_drewN HK.out nq); replace HN := Aside0.mk (blk_drewN HN.out nq); replace HL := Aside0.mk (blk_drewN HL.out nq)
      have HL1 : Aside0 (((W.drewN nq).setCell ⟨gl, 0, none⟩ (.bool !l)).heap[gl]? = some (.cells #[.bool !l] 4 (0, 0))) := ⟨put1 HL.out _⟩
      have HS1 := Aside0.mk (blk_far HS.out (p := ⟨gl, 0, none⟩) (by have := HX.out; show gs ≠ gl; omega) (.bool !l))
      have HB1 := Aside0.mk (blk_far HB.out (p := ⟨gl, 0, none⟩) (by have := HX.out; show gb ≠ gl; omega) (.bool !l))
      have HK1 := Aside0.mk (blk_far HK.out (p := ⟨gl, 0, none⟩) (by have := HX.out; show gk ≠ gl; omega) (.bool !l))
      have HN1 := Aside0.mk (blk_far HN.out (p := ⟨gl, 0, none⟩) (by have := HX.out; show gn ≠ gl; omega) (.bool !l))
      have m3 := cell1 HK1.out
      have mf3 := blk_frozen HK1.out 0
      have HS2 := Aside0.mk (blk_far HS1.out (p := ⟨gk, 0, none⟩) (by have := HX.out; show gs ≠ gk; omega) (.int .i64 (wrap64 (c + 1))))
      have HB2 := Aside0.mk (blk_far HB1.out (p := ⟨gk, 0, none⟩) (by have := HX.out; show gb ≠ gk; omega) (.int .i64 (wrap64 (c + 1))))
      have HL2 := Aside0.mk (blk_far HL1.out (p := ⟨gk, 0, none⟩) (by have := HX.out; show gl ≠ gk; omega) (.int .i64 (wrap64 (c + 1))))
      have HN2 := Aside0.mk (blk_far HN1.out (p := ⟨gk, 0, none⟩) (by have := HX.out; show gn ≠ gk; omega) (.int .i64 (wrap64 (c + 1))))
      have HK2 := Aside0.mk (put1 HK1.out (.int .i64 (wrap64 (c + 1))))
      have q1 := cell1 HS2.out
      have q2 := cell1 HB2.out
      have qf2 := blk_frozen HB2.out 0
      have HL3 := Aside0.mk (blk_far HL2.out (p := ⟨gb, 0, none⟩) (by have := HX.out; show gl ≠ gb; omega) (.int .u8 (bt s x)))
      have r5 := cell1 HL3.out
      go_wp2
      go_ret
      have hx := HX.out
      exact ⟨rfl, ⟨blk_far HS2.out (p := ⟨gb, 0, none⟩) hx.1.1 _, put1 HB2.out _, blk_far HK2.out (p := ⟨gb, 0, none⟩) (by show gk ≠ gb; omega) _, blk_far HN2.out (p := ⟨gb, 0, none⟩) (by show gn ≠ gb; omega) _, HL3.out⟩, (((Side.of_below (pw_below_drewN (Below.refl _ W) nq)).set hx.2.1.2.2 hx.2.2.2.2 0 _).set hx.2.1.2.1 hx.2.2.2.1 0 _).set hx.2.1.1 hx.2.2.1 0 _⟩
    · have t0 : (Int.tmod c n == 0) = false := beq_eq_false_iff_ne.2 hz
      rw [if_neg hz]
      clear hz
      go_enter Tryd.func63, Tryd.ntmps63
      go_wp2
      go_quiet (fail)
      replace HS := Aside0.mk (blk_drewN HS.out nq); replace HB := Aside0.mk (blk_drewN HB.out nq); replace HK := Aside0.mk (blk_drewN HK.out nq); replace HN := Aside0.mk (blk_drewN HN.out nq); replace HL := Aside0.mk (blk_drewN HL.out nq)
      have HS2 := Aside0.mk (blk_far HS.out (p := ⟨gk, 0, none⟩) (by have := HX.out; show gs ≠ gk; omega) (.int .i64 (wrap64 (c + 1))))
      have HB2 := Aside0.mk (blk_far HB.out (p := ⟨gk, 0, none⟩) (by have := HX.out; show gb ≠ gk; omega) (.int .i64 (wrap64 (c + 1))))
      have HL2 := Aside0.mk (blk_far HL.out (p := ⟨gk, 0, none⟩) (by have := HX.out; show gl ≠ gk; omega) (.int .i64 (wrap64 (c + 1))))
      have HN2 := Aside0.mk (blk_far HN.out (p := ⟨gk, 0, none⟩) (by have := HX.out; show gn ≠ gk; omega) (.int .i64 (wrap64 (c + 1))))
      have HK2 := Aside0.mk (put1 HK.out (.int .i64 (wrap64 (c + 1))))
      have q1 := cell1 HS2.out
      have q2 := cell1 HB2.out
      have qf2 := blk_frozen HB2.out 0
      have HL3 := Aside0.mk (blk_far HL2.out (p := ⟨gb, 0, none⟩) (by have := HX.out; show gl ≠ gb; omega) (.int .u8 (bt s x)))
      have r5 := cell1 HL3.out
      go_wp2
      go_ret
      have hx := HX.out
      exact ⟨rfl, ⟨blk_far HS2.out (p := ⟨gb, 0, none⟩) hx.1.1 _, put1 HB2.out _, blk_far HK2.out (p := ⟨gb, 0, none⟩) (by show gk ≠ gb; omega) _, blk_far HN2.out (p := ⟨gb, 0, none⟩) (by show gn ≠ gb; omega) _, HL3.out⟩, ((Side.of_below (pw_below_drewN (Below.refl _ W) nq)).set hx.2.1.2.1 hx.2.2.2.1 0 _).set hx.2.1.1 hx.2.2.1 0 _⟩
set_option maxHeartbeats 2000000 in
set_option maxRecDepth 100000 in
theorem ToggleWave_wave (n : Int) (a : ByteArray) (gs gb gk gn gl : Nat) (ha : a.size ≤ 400) (hn : n ≠ 0) (B : Nat) (w : World) (hBw : B ≤ w.heap.size) (hB : B ≤ gb ∧ B ≤ gk ∧ B ≤ gl) (ne : gs ≠ gb ∧ gs ≠ gk ∧ gs ≠ gl ∧ gn ≠ gb ∧ gn ≠ gk ∧ gn ≠ gl ∧ gb ≠ gk ∧ gb ≠ gl ∧ gk ≠ gl)
    (cs : w.heap[gs]? = some (.cells #[.string a] 9 (0, 0))) (cb : w.heap[gb]? = some (.cells #[.int .u8 48] 5 (0, 0))) (ck : w.heap[gk]? = some (.cells #[.int .i64 0] 2 (0, 0))) (cn : w.heap[gn]? = some (.cells #[.int .i64 n] 2 (0, 0))) (cl : w.heap[gl]? = some (.cells #[.bool false] 4 (0, 0))) :
    Calls Tryd.prog 53 #[.int .i64 (a.size : Int), .func (.func 63) #[] #[.pointer (some ⟨gs, 0, none⟩), .pointer (some ⟨gb, 0, none⟩), .pointer (some ⟨gk, 0, none⟩), .pointer (some ⟨gn, 0, none⟩), .pointer (some ⟨gl, 0, none⟩)]] w fun e w' => e = .returned (.string (strOfNums (waveL (togLv n a) a.size))) ∧ Below B w w' := by
  have l1 := blk_lt cs
  have l2 := blk_lt cb
  have l3 := blk_lt ck
  have l4 := blk_lt cn
  have l5 := blk_lt cl
  refine (waveOf.calls a.size 63 #[.pointer (some ⟨gs, 0, none⟩), .pointer (some ⟨gb, 0, none⟩), .pointer (some ⟨gk, 0, none⟩), .pointer (some ⟨gn, 0, none⟩), .pointer (some ⟨gl, 0, none⟩)] (togLv n a)
    (fun i W => W.heap[gs]? = some (.cells #[.string a] 9 (0, 0)) ∧ W.heap[gb]? = some (.cells #[.int .u8 (togSt n a i).1] 5 (0, 0)) ∧ W.heap[gk]? = some (.cells #[.int .i64 (togSt n a i).2.1] 2 (0, 0)) ∧ W.heap[gn]? = some (.cells #[.int .i64 n] 2 (0, 0)) ∧ W.heap[gl]? = some (.cells #[.bool (togSt n a i).2.2] 4 (0, 0))) B w (by omega) hBw
    (enters_of Tryd.func63 (by kernel_rfl) rfl) ⟨cs, cb, ck, cn, cl⟩ (fun i W W' h hB => ⟨blk_stays h.1 l1 hB, blk_stays h.2.1 l2 hB, blk_stays h.2.2.1 l3 hB, blk_stays h.2.2.2.1 l4 hB, blk_stays h.2.2.2.2 l5 hB⟩)
    (fun i W hi _ h => ?_)).mono fun e w' ⟨he, _, hB⟩ => ⟨he, hB⟩
  refine (ToggleWave_test a n gs gb gk gn gl (i : Int) (togSt n a i).1 (togSt n a i).2.1 (togSt n a i).2.2 (by omega) (by omega) hn B w.heap.size W h.1 h.2.1 h.2.2.1 h.2.2.2.1 h.2.2.2.2 ne hB ⟨l2, l3, l5⟩).mono fun e w' ⟨he, h', hs⟩ => ?_
  have hst : togSt n a (i + 1) = if bt a (i : Int) = (togSt n a i).1 then (bt a (i : Int), (togSt n a i).2.1, (togSt n a i).2.2) else (bt a (i : Int), wrap64 ((togSt n a i).2.1 + 1), if Int.tmod (togSt n a i).2.1 n = 0 then !(togSt n a i).2.2 else (togSt n a i).2.2) := rfl
  have h1 : (togSt n a (i + 1)).1 = bt a (i : Int) := by rw [hst]; split <;> rfl
  have h2 : (togSt n a (i + 1)).2.1 = if bt a (i : Int) = (togSt n a i).1 then (togSt n a i).2.1 else wrap64 ((togSt n a i).2.1 + 1) := by rw [hst]; split <;> rfl
  have h3 : (togSt n a (i + 1)).2.2 = if bt a (i : Int) = (togSt n a i).1 then (togSt n a i).2.2 else if Int.tmod (togSt n a i).2.1 n = 0 then !(togSt n a i).2.2 else (togSt n a i).2.2 := by rw [hst]; split <;> rfl
  refine ⟨?_, ⟨h'.1, ?_, ?_, h'.2.2.2.1, ?_⟩, hs⟩
  · rw [he]; unfold togLv; rw [h3]
  · rw [h1]; exact h'.2.1
  · rw [h2]; exact h'.2.2.1
  · rw [h3]; exact h'.2.2.2.2
theorem togIn (n : Int) : impl_within.f n 1 64 = some (decide (1 ≤ n) && decide (n ≤ 64)) := by
  unfold impl_within.f
  by_cases h : 1 ≤ n <;> simp [h]
set_option maxHeartbeats 4000000 in
set_option maxRecDepth 100000 in
theorem impl_ToggleWave.calls (a0 : Int) (a1 : ByteArray) (r1 : ByteArray) (r2 : Bool) (w : World) (h : impl_ToggleWave.f a0 a1 = some (r1, r2)) :
    Calls Tryd.prog 22 #[.int .i64 a0, .string a1] w fun e w' => e = .returned (.tuple #[.string r1, .bool r2]) ∧ Below w.heap.size w w' := by
  unfold impl_ToggleWave.f togOk at h
  have HI := Aside0.mk (togIn a0)
  cases hq : (decide (1 ≤ a0) && decide (a0 ≤ 64)) with
  | false =>
    rw [hq, Bool.false_and, if_neg (by decide)] at h
    rw [hq] at HI
    clear hq
    simp only [Option.some.injEq, Prod.mk.injEq] at h
    obtain ⟨rfl, rfl⟩ := h
    go_enter Tryd.func22, Tryd.ntmps22
    go_wp2_with (first | ((with_reducible refine gate_dst (N := 2) rfl ?_); refine box_event ?hg (N := 2) ?hd (cs := #[.int .i64 a0]) (t := 2) ?hr ?_; (case hd => rfl); (case hg => rfl); (case hr => first | (go_simp; done) | (go_simp; rfl)); intro ga hg_ w1 hbox_ hb_; have HX_ga := Aside0.mk hbox_; have HB_w1 := Aside0.mk hb_; have HG_ga := Aside0.mk hg_; clear hbox_ hb_ hg_; have c1 := cell1 HX_ga.out) | ((with_reducible refine gate_dst (N := 3) rfl ?_); refine box_event ?hg (N := 3) ?hd (cs := #[.string a1]) (t := 9) ?hr ?_; (case hd => rfl); (case hg => rfl); (case hr => first | (go_simp; done) | (go_simp; rfl)); intro gb hg_ w2 hbox_ hb_; have HX_gb := Aside0.mk hbox_; have HB_w2 := Aside0.mk hb_; have HG_gb := Aside0.mk hg_; clear hbox_ hb_ hg_; replace HX_ga := Aside0.mk (blk_below HX_ga.out HB_w2.out); clear c1; have c1 := cell1 HX_ga.out; have c2 := cell1 HX_gb.out) | (go_at_call 61; refine (impl_within.calls a0 1 64 false _ HI.out).mono ?_; rintro e w' ⟨rfl, ⟨nd, rfl⟩⟩))
    go_ret2
    exact ⟨rfl, pw_below_drewN (below_step HB_w1.out HB_w2.out) _⟩
  | true =>
    have hn : a0 ≠ 0 := by
      rw [Bool.and_eq_true, decide_eq_true_eq] at hq
      omega
    have HNZ := Aside0.mk hn
    rw [hq] at HI
    rw [hq, Bool.true_and] at h
    clear hq hn
    have HW : Aside0 (impl_IsWave.f a1 = some (isWaveB a1)) := ⟨rfl⟩
    cases hw : isWaveB a1 with
    | false =>
      rw [hw, if_neg (by decide)] at h
      rw [hw] at HW
      clear hw
      simp only [Option.some.injEq, Prod.mk.injEq] at h
      obtain ⟨rfl, rfl⟩ := h
      go_enter Tryd.func22, Tryd.ntmps22
      go_wp2_with (first | ((with_reducible refine gate_dst (N := 2) rfl ?_); refine box_event ?hg (N := 2) ?hd (cs := #[.int .i64 a0]) (t := 2) ?hr ?_; (case hd => rfl); (case hg => rfl); (case hr => first | (go_simp; done) | (go_simp; rfl)); intro ga hg_ w1 hbox_ hb_; have HX_ga := Aside0.mk hbox_; have HB_w1 := Aside0.mk hb_; have HG_ga := Aside0.mk hg_; clear hbox_ hb_ hg_; have c1 := cell1 HX_ga.out) | ((with_reducible refine gate_dst (N := 3) rfl ?_); refine box_event ?hg (N := 3) ?hd (cs := #[.string a1]) (t := 9) ?hr ?_; (case hd => rfl); (case hg => rfl); (case hr => first | (go_simp; done) | (go_simp; rfl)); intro gb hg_ w2 hbox_ hb_; have HX_gb := Aside0.mk hbox_; have HB_w2 := Aside0.mk hb_; have HG_gb := Aside0.mk hg_; clear hbox_ hb_ hg_; replace HX_ga := Aside0.mk (blk_below HX_ga.out HB_w2.out); clear c1; have c1 := cell1 HX_ga.out; have c2 := cell1 HX_gb.out) | (go_at_call 61; refine (impl_within.calls a0 1 64 true _ HI.out).mono ?_; rintro e w' ⟨rfl, ⟨nd, rfl⟩⟩) | (go_at_call 62; refine (impl_IsWave.calls a1 false _ HW.out).mono ?_; rintro e w4 ⟨rfl, hb4⟩; have HB4 := Aside0.mk (below_step (pw_below_drewN (below_step HB_w1.out HB_w2.out) _) hb4); clear hb4))
      go_ret2
      exact ⟨rfl, HB4.out⟩
    | true =>
      rw [hw, if_pos rfl] at h
      have hl : a1.size ≤ 400 := by
        unfold isWaveB at hw
        rw [Bool.and_eq_true, decide_eq_true_eq] at hw
        exact hw.1
      have HL := Aside0.mk hl
      rw [hw] at HW
      clear hw hl
      simp only [Option.some.injEq, Prod.mk.injEq] at h
      obtain ⟨rfl, rfl⟩ := h
      go_enter Tryd.func22, Tryd.ntmps22
      go_wp2_with (first | ((with_reducible refine gate_dst (N := 2) rfl ?_); refine box_event ?hg (N := 2) ?hd (cs := #[.int .i64 a0]) (t := 2) ?hr ?_; (case hd => rfl); (case hg => rfl); (case hr => first | (go_simp; done) | (go_simp; rfl)); intro ga hg_ w1 hbox_ hb_; have HX_ga := Aside0.mk hbox_; have HB_w1 := Aside0.mk hb_; have HG_ga := Aside0.mk hg_; clear hbox_ hb_ hg_; have c1 := cell1 HX_ga.out) | ((with_reducible refine gate_dst (N := 3) rfl ?_); refine box_event ?hg (N := 3) ?hd (cs := #[.string a1]) (t := 9) ?hr ?_; (case hd => rfl); (case hg => rfl); (case hr => first | (go_simp; done) | (go_simp; rfl)); intro gb hg_ w2 hbox_ hb_; have HX_gb := Aside0.mk hbox_; have HB_w2 := Aside0.mk hb_; have HG_gb := Aside0.mk hg_; clear hbox_ hb_ hg_; replace HX_ga := Aside0.mk (blk_below HX_ga.out HB_w2.out); clear c1; have c1 := cell1 HX_ga.out; have c2 := cell1 HX_gb.out) | (go_at_call 61; refine (impl_within.calls a0 1 64 true _ HI.out).mono ?_; rintro e w' ⟨rfl, ⟨nd, rfl⟩⟩) | (go_at_call 62; refine (impl_IsWave.calls a1 true _ HW.out).mono ?_; rintro e w4 ⟨rfl, hb4⟩; have HB4 := Aside0.mk (below_step (pw_below_drewN (below_step HB_w1.out HB_w2.out) _) hb4); replace HX_ga := Aside0.mk (blk_below (blk_drewN HX_ga.out nd) hb4); replace HX_gb := Aside0.mk (blk_below (blk_drewN HX_gb.out nd) hb4); clear c1 c2; have c2 := cell1 (blk_alloc (blk_alloc (blk_alloc HX_gb.out (.cells #[.int .u8 48] 5)) (.cells #[.int .i64 0] 2)) (.cells #[.bool false] 4)); clear hb4) | (go_at_call 53; refine (ToggleWave_wave a0 a1 gb w4.heap.size (w4.heap.size + 1) ga (w4.heap.size + 2) HL.out HNZ.out w4.heap.size _ (by simp; omega) (by omega) (by have := blk_lt HX_ga.out; have := blk_lt HX_gb.out; omega) (blk_alloc (blk_alloc (blk_alloc HX_gb.out _) _) _) (blk_alloc (blk_alloc (blk_new _ _) _) _) (blk_alloc (by simpa using blk_new (w4.alloc (.cells #[.int .u8 48] 5)) (.cells #[.int .i64 0] 2)) _) (blk_alloc (blk_alloc (blk_alloc HX_ga.out _) _) _) (by simpa using blk_new ((w4.alloc (.cells #[.int .u8 48] 5)).alloc (.cells #[.int .i64 0] 2)) (.cells #[.bool false] 4))).mono ?_; rintro e w5 ⟨rfl, hb5⟩; have HB5 := Aside0.mk (below_step HB4.out ((below_alloc (below_alloc (below_alloc (Below.refl _ _) _) _) _).trans hb5)); clear hb5))
      go_ret2
      exact ⟨rfl, HB5.out⟩

end Go.Proofs.YtmipelgjmmgmnaaDoor.Pa
