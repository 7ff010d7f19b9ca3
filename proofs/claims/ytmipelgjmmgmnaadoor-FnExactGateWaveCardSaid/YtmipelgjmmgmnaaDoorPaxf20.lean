-- Written for this claim by a program of this session.
import Derived.Test.YtmipelgjmmgmnaaDoorPax0
import Derived.Test.YtmipelgjmmgmnaaDoorPaxf52
import Derived.Test.YtmipelgjmmgmnaaDoorPaxasame
import Derived.Test.YtmipelgjmmgmnaaDoorPaxaside
import Derived.Test.YtmipelgjmmgmnaaDoorPaxawaveOf
import Derived.Test.YtmipelgjmmgmnaaDoorPaxastrbox
namespace Go.Proofs.YtmipelgjmmgmnaaDoor.Pa
open Go.RowKit Go.Proofs.YtmipelgjmmgmnaaDoorW.PrintWords Go.Proofs.YtmipelgjmmgmnaaDoorW.PrintLast Go.Proofs.YtmipelgjmmgmnaaDoorW.PrintMore
attribute [local go_sem] max2_int min2_int max_two min_two max_three min_three max_four min_four   -- for this text's walks alone
set_option linter.unusedVariables false
set_option linter.unusedSimpArgs false

/-! ### impl_GateWave: function 20 -/
/-- The last tick at which the wave was low. -/
def lastAt (s : ByteArray) : Nat → Nat
  | 0 => 0
  | i + 1 => if bt s (i : Int) = 48 then i else lastAt s i
def gateLv (s e : ByteArray) (i : Nat) : Bool := if bt s (i : Int) = 48 then false else bt e (lastAt s i : Int) == 49
theorem lastAt_le (s : ByteArray) : ∀ i, lastAt s i ≤ i
  | 0 => Nat.le_refl _
  | i + 1 => by
    unfold lastAt
    split
    · omega
    · have := lastAt_le s i; omega
def impl_GateWave.f (a0 a1 : ByteArray) : Option (ByteArray × Bool) := if allSame [a0, a1] = true then some (strOfNums (waveL (gateLv a0 a1) a0.size), true) else some ((⟨#[]⟩ : ByteArray), false)
set_option maxHeartbeats 2000000 in
set_option maxRecDepth 100000 in
theorem GateWave_test (s e : ByteArray) (gs gl ge : Nat) (x y : Int) (h0 : 0 ≤ x) (h1 : x < (s.size : Int)) (y0 : 0 ≤ y) (y1 : y < (e.size : Int)) (B M : Nat) (W : World)
    (cs : W.heap[gs]? = some (.cells #[.string s] 9 (0, 0))) (cl : W.heap[gl]? = some (.cells #[.int .i64 y] 3 (0, 0))) (ce : W.heap[ge]? = some (.cells #[.string e] 9 (0, 0))) (n1 : gs ≠ gl) (n2 : ge ≠ gl) (hB : B ≤ gl) (hM : gl < M) :
    Calls Tryd.prog 58 #[.int .i64 x, .pointer (some ⟨gs, 0, none⟩), .pointer (some ⟨gl, 0, none⟩), .pointer (some ⟨ge, 0, none⟩)] W fun en w' => en = .returned (.bool (if bt s x = 48 then false else bt e y == 49)) ∧
      (w'.heap[gs]? = some (.cells #[.string s] 9 (0, 0)) ∧ w'.heap[gl]? = some (.cells #[.int .i64 (if bt s x = 48 then x else y)] 3 (0, 0)) ∧ w'.heap[ge]? = some (.cells #[.string e] 9 (0, 0))) ∧ Side B M W w' := by
  have us := bt_at s x
  have ue := bt_at e y
  have p0 := eq_true h0
  have p1 := eq_true h1
  have p2 := eq_true y0
  have p3 := eq_true y1
  have d0 : decide (0 ≤ x) = true := decide_eq_true h0
  have d1 : decide (x < (s.size : Int)) = true := decide_eq_true h1
  have d2 : decide (0 ≤ y) = true := decide_eq_true y0
  have d3 : decide (y < (e.size : Int)) = true := decide_eq_true y1
  clear h0 h1 y0 y1
  have k1 := cell1 cs
  have k2 := cell1 cl
  have k3 := cell1 ce
  have fz := blk_frozen cl 0
  have HS := Aside0.mk cs
  have HL := Aside0.mk cl
  have HE := Aside0.mk ce
  have HB := Aside0.mk hB
  have HM := Aside0.mk hM
  have HN := Aside0.mk (And.intro n1 n2)
  clear cs cl ce hB hM n1 n2
  by_cases hq : bt s x = 48
  · have e1 : (bt s x == 48) = true := beq_iff_eq.2 hq
    rw [if_pos hq, if_pos hq]
    clear hq
    go_enter Tryd.func58, Tryd.ntmps58
    go_wp2
    go_ret
    exact ⟨rfl, ⟨blk_far HS.out HN.out.1 _, put1 HL.out _, blk_far HE.out HN.out.2 _⟩, (Side.refl _ _ _).set HB.out HM.out 0 _⟩
  · have e1 : (bt s x == 48) = false := beq_eq_false_iff_ne.2 hq
    rw [if_neg hq, if_neg hq]
    clear hq
    go_enter Tryd.func58, Tryd.ntmps58
    go_wp2
    go_ret
    exact ⟨rfl, ⟨HS.out, HL.out, HE.out⟩, Side.refl _ _ _⟩
set_option maxHeartbeats 2000000 in
set_option maxRecDepth 100000 in
theorem GateWave_wave (a b : ByteArray) (gs gl ge : Nat) (ha : a.size ≤ 400) (hb : b.size = a.size) (B : Nat) (w : World) (hBw : B ≤ w.heap.size) (hBl : B ≤ gl) (n1 : gs ≠ gl) (n2 : ge ≠ gl)
    (cs : w.heap[gs]? = some (.cells #[.string a] 9 (0, 0))) (cl : w.heap[gl]? = some (.cells #[.int .i64 0] 3 (0, 0))) (ce : w.heap[ge]? = some (.cells #[.string b] 9 (0, 0))) :
    Calls Tryd.prog 53 #[.int .i64 (a.size : Int), .func (.func 58) #[] #[.pointer (some ⟨gs, 0, none⟩), .pointer (some ⟨gl, 0, none⟩), .pointer (some ⟨ge, 0, none⟩)]] w fun e w' => e = .returned (.string (strOfNums (waveL (gateLv a b) a.size))) ∧ Below B w w' := by
  have l1 := blk_lt cs
  have l2 := blk_lt cl
  have l3 := blk_lt ce
  refine (waveOf.calls a.size 58 #[.pointer (some ⟨gs, 0, none⟩), .pointer (some ⟨gl, 0, none⟩), .pointer (some ⟨ge, 0, none⟩)] (gateLv a b)
    (fun i W => W.heap[gs]? = some (.cells #[.string a] 9 (0, 0)) ∧ W.heap[gl]? = some (.cells #[.int .i64 (lastAt a i : Int)] 3 (0, 0)) ∧ W.heap[ge]? = some (.cells #[.string b] 9 (0, 0))) B w (by omega) hBw
    (enters_of Tryd.func58 (by kernel_rfl) rfl) ⟨cs, cl, ce⟩ (fun i W W' h hB => ⟨blk_stays h.1 l1 hB, blk_stays h.2.1 l2 hB, blk_stays h.2.2 l3 hB⟩)
    (fun i W hi _ h => ?_)).mono fun e w' ⟨he, _, hB⟩ => ⟨he, hB⟩
  have hle := lastAt_le a i
  refine (GateWave_test a b gs gl ge (i : Int) (lastAt a i : Int) (by omega) (by omega) (by omega) (by omega) B w.heap.size W h.1 h.2.1 h.2.2 n1 n2 hBl l2).mono fun e w' ⟨he, h', hs⟩ => ⟨he, ⟨h'.1, ?_, h'.2.2⟩, hs⟩
  have := h'.2.1
  rw [this]
  unfold lastAt
  by_cases hq : bt a (i : Int) = 48
  · rw [if_pos hq, if_pos hq]
  · rw [if_neg hq, if_neg hq]
    cases i <;> rfl
set_option maxHeartbeats 4000000 in
set_option maxRecDepth 100000 in
theorem impl_GateWave.calls (a0 : ByteArray) (a1 : ByteArray) (r1 : ByteArray) (r2 : Bool) (w : World) (h : impl_GateWave.f a0 a1 = some (r1, r2)) :
    Calls Tryd.prog 20 #[.string a0, .string a1] w fun e w' => e = .returned (.tuple #[.string r1, .bool r2]) ∧ Below w.heap.size w w' := by
  unfold impl_GateWave.f at h
  have HT := Aside0.mk (areWaves_tells [a0, a1] (by simp))
  cases hs : allSame [a0, a1] with
  | true =>
    rw [if_pos hs] at h
    have hm := allSame_mem hs
    obtain ⟨s0, s1, _⟩ := sameWave_le (hm a0 (by simp))
    obtain ⟨_, s2, _⟩ := sameWave_le (hm a1 (by simp))
    have HS := Aside0.mk (And.intro s0 (s2.trans s1.symm))
    rw [hs] at HT
    clear hs hm s0 s1 s2
    simp only [Option.some.injEq, Prod.mk.injEq] at h
    obtain ⟨rfl, rfl⟩ := h
    go_enter Tryd.func20, Tryd.ntmps20
    go_wp2_with (first | ((with_reducible refine gate_dst (N := 2) rfl ?_); refine box_event ?hg (N := 2) ?hd (cs := #[.string a0]) (t := 9) ?hr ?_; (case hd => rfl); (case hg => rfl); (case hr => first | (go_simp; done) | (go_simp; rfl)); intro ga hg_ w1 hbox_ hb_; have HX_ga := Aside0.mk hbox_; have HB_w1 := Aside0.mk hb_; have HG_ga := Aside0.mk hg_; clear hbox_ hb_ hg_; have c1 := cell1 HX_ga.out) | ((with_reducible refine gate_dst (N := 3) rfl ?_); refine box_event ?hg (N := 3) ?hd (cs := #[.string a1]) (t := 9) ?hr ?_; (case hd => rfl); (case hg => rfl); (case hr => first | (go_simp; done) | (go_simp; rfl)); intro gb hg_ w2 hbox_ hb_; have HX_gb := Aside0.mk hbox_; have HB_w2 := Aside0.mk hb_; have HG_gb := Aside0.mk hg_; clear hbox_ hb_ hg_; replace HX_ga := Aside0.mk (blk_below HX_ga.out HB_w2.out); clear c1; have c1 := cell1 HX_ga.out; have c2 := cell1 HX_gb.out) | ((with_reducible refine gate_dst (N := 9) rfl ?_); refine Kd.R_lit Kd.string _ 9 ?hg (N := 9) ?hd (xs := [a0, a1]) (inner := [.string a0, .string a1]) (ok := fun _ => True) (okp := fun _ => True) ?hr ?hp (fun _ hk => hk) trivial (Below.refl _ _) (Nat.le_refl _) (by simp) ?_; (case hd => rfl); (case hg => rfl); (case hr => first | (go_simp; done) | (go_simp; rfl)); (case hp => exact Kd.reps_scalar (enc := Value.string) [a0, a1]); intro v3 w3 ho hb hg_ hnew_; obtain ⟨A3, c3, rfl⟩ := Kd.R_slice ho; have HP := Aside0.mk (Kd.R_reads' ho).2.2; have HQ := Aside0.mk (Kd.R_reads' ho).2.1; have HB3 := Aside0.mk (below_step (below_step HB_w1.out HB_w2.out) hb); replace HX_ga := Aside0.mk (blk_below HX_ga.out hb); replace HX_gb := Aside0.mk (blk_below HX_gb.out hb); clear c1 c2 ho hb hg_ hnew_) | (go_at_call 52; refine (impl_areWaves.calls _ _ [a0, a1] true _ HP.out HQ.out HT.out).mono ?_; rintro e w4 ⟨rfl, hb4⟩; replace HX_ga := Aside0.mk (blk_below HX_ga.out hb4); replace HX_gb := Aside0.mk (blk_below HX_gb.out hb4); have HB4 := Aside0.mk (below_step HB3.out hb4); have c1 := cell1 (blk_alloc HX_ga.out (.cells #[.int .i64 0] 3)); clear hb4 HB3 HP HQ) | (go_at_call 53; refine (GateWave_wave a0 a1 ga w4.heap.size gb HS.out.1 HS.out.2 w4.heap.size _ (by simp) (Nat.le_refl _) (Nat.ne_of_lt (blk_lt HX_ga.out)) (Nat.ne_of_lt (blk_lt HX_gb.out)) (blk_below HX_ga.out (below_alloc (Below.refl _ _) _)) (blk_new _ _) (blk_below HX_gb.out (below_alloc (Below.refl _ _) _))).mono ?_; rintro e w5 ⟨rfl, hb5⟩; have HB5 := Aside0.mk (below_step HB4.out ((below_alloc (Below.refl _ _) _).trans hb5)); clear hb5))
    go_ret2
    exact ⟨rfl, HB5.out⟩
  | false =>
    rw [if_neg (by rw [hs]; decide)] at h
    rw [hs] at HT
    clear hs
    simp only [Option.some.injEq, Prod.mk.injEq] at h
    obtain ⟨rfl, rfl⟩ := h
    go_enter Tryd.func20, Tryd.ntmps20
    go_wp2_with (first | ((with_reducible refine gate_dst (N := 2) rfl ?_); refine box_event ?hg (N := 2) ?hd (cs := #[.string a0]) (t := 9) ?hr ?_; (case hd => rfl); (case hg => rfl); (case hr => first | (go_simp; done) | (go_simp; rfl)); intro ga hg_ w1 hbox_ hb_; have HX_ga := Aside0.mk hbox_; have HB_w1 := Aside0.mk hb_; have HG_ga := Aside0.mk hg_; clear hbox_ hb_ hg_; have c1 := cell1 HX_ga.out) | ((with_reducible refine gate_dst (N := 3) rfl ?_); refine box_event ?hg (N := 3) ?hd (cs := #[.string a1]) (t := 9) ?hr ?_; (case hd => rfl); (case hg => rfl); (case hr => first | (go_simp; done) | (go_simp; rfl)); intro gb hg_ w2 hbox_ hb_; have HX_gb := Aside0.mk hbox_; have HB_w2 := Aside0.mk hb_; have HG_gb := Aside0.mk hg_; clear hbox_ hb_ hg_; replace HX_ga := Aside0.mk (blk_below HX_ga.out HB_w2.out); clear c1; have c1 := cell1 HX_ga.out; have c2 := cell1 HX_gb.out) | ((with_reducible refine gate_dst (N := 9) rfl ?_); refine Kd.R_lit Kd.string _ 9 ?hg (N := 9) ?hd (xs := [a0, a1]) (inner := [.string a0, .string a1]) (ok := fun _ => True) (okp := fun _ => True) ?hr ?hp (fun _ hk => hk) trivial (Below.refl _ _) (Nat.le_refl _) (by simp) ?_; (case hd => rfl); (case hg => rfl); (case hr => first | (go_simp; done) | (go_simp; rfl)); (case hp => exact Kd.reps_scalar (enc := Value.string) [a0, a1]); intro v3 w3 ho hb hg_ hnew_; obtain ⟨A3, c3, rfl⟩ := Kd.R_slice ho; have HP := Aside0.mk (Kd.R_reads' ho).2.2; have HQ := Aside0.mk (Kd.R_reads' ho).2.1; have HB3 := Aside0.mk (below_step (below_step HB_w1.out HB_w2.out) hb); clear c1 c2 ho hb hg_ hnew_) | (go_at_call 52; refine (impl_areWaves.calls _ _ [a0, a1] false _ HP.out HQ.out HT.out).mono ?_; rintro e w4 ⟨rfl, hb4⟩; have HB4 := Aside0.mk (below_step HB3.out hb4); clear hb4 HB3 HP HQ))
    go_ret2
    exact ⟨rfl, HB4.out⟩

end Go.Proofs.YtmipelgjmmgmnaaDoor.Pa
