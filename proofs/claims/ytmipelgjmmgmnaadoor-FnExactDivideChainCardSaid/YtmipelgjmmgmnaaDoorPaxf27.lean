-- Written for this claim by a program of this session.
import Derived.Test.YtmipelgjmmgmnaaDoorPax0
import Derived.Test.YtmipelgjmmgmnaaDoorPaxf60
import Derived.Test.YtmipelgjmmgmnaaDoorPaxaside
import Derived.Test.YtmipelgjmmgmnaaDoorPaxf59
import Derived.Test.YtmipelgjmmgmnaaDoorPaxf66
import Derived.Test.YtmipelgjmmgmnaaDoorPaxf66
import Derived.Test.YtmipelgjmmgmnaaDoorPaxf59
import Derived.Test.YtmipelgjmmgmnaaDoorPaxf60
namespace Go.Proofs.YtmipelgjmmgmnaaDoor.Pa
open Go.RowKit Go.Proofs.YtmipelgjmmgmnaaDoorW.PrintWords Go.Proofs.YtmipelgjmmgmnaaDoorW.PrintLast Go.Proofs.YtmipelgjmmgmnaaDoorW.PrintMore
attribute [local go_sem] max2_int min2_int max_two min_two max_three min_three max_four min_four   -- for this text's walks alone
set_option linter.unusedVariables false
set_option linter.unusedSimpArgs false

/-! ### spec_DivideChain: function 27 -/
/-- What a divider must be. -/
def divOk (n h : Int) : Bool := decide (1 ≤ n) && decide (n ≤ 64) && (decide (0 ≤ h) && decide (h ≤ n))
theorem divIn (x l u : Int) : spec_l00In.f x l u = some (decide (l ≤ x) && decide (x ≤ u)) := by
  unfold spec_l00In.f
  by_cases h : l ≤ x <;> simp [h]
def levD (b : Bool) : Int := if b = true then 49 else 48
def divAtD (n h : Int) (s : ByteArray) (i : Nat) : Bool := decide (0 ≤ upK s i) && decide (Int.tmod (upK s i) n < h)
theorem upK_in (s : ByteArray) : ∀ i, i ≤ 400 → -1 ≤ upK s i ∧ upK s i < i
  | 0, _ => ⟨Int.le_refl _, (by decide : (-1 : Int) < 0)⟩
  | i + 1, h => by
    have ih := upK_in s i (by omega)
    have hs : upK s (i + 1) = if isUp s i = true then wrap64 (upK s i + 1) else upK s i := rfl
    rw [hs]
    split
    · rw [show wrap64 (upK s i + 1) = upK s i + 1 from by unfold wrap64; omega]; omega
    · omega
theorem upK_up {s : ByteArray} {i : Nat} (hi : i < 400) (h : isUp s i = true) : upK s (i + 1) = upK s i + 1 := by
  have hs : upK s (i + 1) = if isUp s i = true then wrap64 (upK s i + 1) else upK s i := rfl
  have := upK_in s i (by omega)
  rw [hs, if_pos h]
  unfold wrap64
  omega
theorem upK_no {s : ByteArray} {i : Nat} (h : isUp s i = false) : upK s (i + 1) = upK s i := by
  have hs : upK s (i + 1) = if isUp s i = true then wrap64 (upK s i + 1) else upK s i := rfl
  rw [hs, if_neg (by rw [h]; decide)]
set_option maxHeartbeats 2000000 in
set_option maxRecDepth 100000 in
/-- The reference's test of a divider that lies anywhere. -/
theorem l03Is_at (ad : Addr) (n h : Int) (w : World) (c0 : w.cell? ad = some (.int .i64 n)) (c1 : w.cell? ⟨ad.block, ad.off + 1, none⟩ = some (.int .i64 h)) :
    Calls Tryd.prog 64 #[.pointer (some ad)] w fun e w' => e = .returned (.bool (divOk n h)) ∧ Drawn0 w w' := by
  have H1 := Aside0.mk (divIn n 1 64)
  have H2 := Aside0.mk (divIn h 0 n)
  have HE : Aside0 (divOk n h = (decide (1 ≤ n) && decide (n ≤ 64) && (decide (0 ≤ h) && decide (h ≤ n)))) := ⟨rfl⟩
  generalize divOk n h = q at HE ⊢
  generalize (decide (0 ≤ h) && decide (h ≤ n)) = q2 at H2 HE
  cases hq : (decide (1 ≤ n) && decide (n ≤ 64)) with
  | true =>
    rw [hq] at H1 HE
    clear hq
    go_enter Tryd.func64, Tryd.ntmps64
    go_wp2
    go_quiet (first | (go_at_call 59; (with_reducible refine (spec_l00In.calls n 1 64 true _ H1.out).mono ?_); rintro e w' ⟨rfl, ⟨nd, rfl⟩⟩; (try first | exact ⟨rfl, _, World.drewN_drewN _ _ _⟩ | exact ⟨rfl, _, Eq.trans (World.drewN_drewN _ _ _) (congrArg (World.drewN _) (Nat.add_assoc _ _ _))⟩)) | (go_at_call 59; (with_reducible refine (spec_l00In.calls h 0 n q2 _ H2.out).mono ?_); rintro e w' ⟨rfl, ⟨nd, rfl⟩⟩; (try first | exact ⟨rfl, _, World.drewN_drewN _ _ _⟩ | exact ⟨rfl, _, Eq.trans (World.drewN_drewN _ _ _) (congrArg (World.drewN _) (Nat.add_assoc _ _ _))⟩)))
    go_wp2
    go_ret
    exact ⟨by rw [HE.out]; rfl, _, rfl⟩
  | false =>
    rw [hq] at H1 HE
    clear hq
    go_enter Tryd.func64, Tryd.ntmps64
    go_wp2
    go_quiet (first | (go_at_call 59; (with_reducible refine (spec_l00In.calls n 1 64 false _ H1.out).mono ?_); rintro e w' ⟨rfl, ⟨nd, rfl⟩⟩; (try first | exact ⟨rfl, _, World.drewN_drewN _ _ _⟩ | exact ⟨rfl, _, Eq.trans (World.drewN_drewN _ _ _) (congrArg (World.drewN _) (Nat.add_assoc _ _ _))⟩)))
    go_wp2
    go_ret
    exact ⟨by rw [HE.out]; rfl, _, rfl⟩
set_option maxHeartbeats 8000000 in
set_option maxRecDepth 100000 in
/-- The reference's divided wave, of a divider that lies anywhere. -/
theorem l03Divide_at (ad : Addr) (n h : Int) (s : ByteArray) (w : World) (c0 : w.cell? ad = some (.int .i64 n)) (c1 : w.cell? ⟨ad.block, ad.off + 1, none⟩ = some (.int .i64 h)) (hn : n ≠ 0) (hs : s.size ≤ 400) (hw : ∀ i, i < s.size → bt s (i : Int) = 48 ∨ bt s (i : Int) = 49) :
    Calls Tryd.prog 65 #[.pointer (some ad), .string s] w fun e w' => e = .returned (.string (strOfNums (waveL (divLv n h s) s.size))) ∧ Below w.heap.size w w' := by
  have z0 : (n == 0) = false := beq_eq_false_iff_ne.2 hn
  have z1 : (n != 0) = true := bne_iff_ne.2 hn
  have HN := Aside0.mk hs
  have HW := Aside0.mk hw
  have HC0 := Aside0.mk c0
  have HC1 := Aside0.mk c1
  clear hs hw c0 c1
  go_enter Tryd.func65, Tryd.ntmps65
  go_wp2_with ((with_reducible refine gate_dst (N := 9) rfl ?_); refine Kd.R_lit (Kd.int .u8) w.heap.size 5 ?hg (N := 9) ?hd (xs := ([] : List Int)) (inner := []) (ok := fun _ => True) (okp := fun _ => False) ?hr ?hp (fun _ hk => hk.elim) trivial (Below.refl _ _) (Nat.le_refl _) (by simp) ?_; (case hd => rfl); (case hg => rfl); (case hr => first | (go_simp; done) | (go_simp; rfl)); (case hp => exact (Reps.none _ _)); intro v1 w1 ho hb hg_ hnew_; have HO1 := Aside0.mk ho; have HB1 := Aside0.mk hb; clear ho hb hg_ hnew_)
  go_loopg [5, 6, 7, 8] s.size (fun gg s5 s6 s7 s8 wr => ∃ x : Int, s8 = .int .i64 x ∧ s6 = .int .u8 (levD (divAtD n h s x.toNat)) ∧ s7 = .int .i64 (upK s x.toNat + 1) ∧ Aside0 (0 ≤ x ∧ x ≤ s.size ∧ s.size - x.toNat ≤ gg) ∧ Aside0 (Kd.R (Kd.int .u8) 5 wr w.heap.size (fun _ => True) s5 (waveL (divLv n h s) x.toNat)) ∧ Aside0 (Below w.heap.size w wr))
  case atStart => exact ⟨0, rfl, rfl, rfl, ⟨by omega⟩, HO1, HB1⟩
  case round =>
    clear HO1 HB1
    obtain ⟨x, rfl, rfl, rfl, HX, HO, HB⟩ := hrel
    by_cases hlt : x < (s.size : Int)
    · have hx0 := HX.out
      have hn0 := HN.out
      have h0 : 0 ≤ x := hx0.1
      have hxe : ((x.toNat : Nat) : Int) = x := by omega
      have hbit := HW.out x.toNat (by omega)
      rw [hxe] at hbit
      have HR := Aside0.mk (upK_in s x.toNat (by omega))
      have hi4 : x.toNat < 400 := by omega
      have g0 : wr.cell? ad = some (.int .i64 n) := pw_cell_below HB.out HC0.out
      have g1 : wr.cell? ⟨ad.block, ad.off + 1, none⟩ = some (.int .i64 h) := pw_cell_below HB.out HC1.out
      have HLT := Aside0.mk hlt
      have t1 : decide (x < (s.size : Int)) = true := decide_eq_true hlt
      have t0 : decide (0 ≤ x) = true := decide_eq_true h0
      have ub := bt_at s x
      have p0 := eq_true h0
      have p1 := eq_true hlt
      have hprev : isUp s x.toNat = (!(bt s x == (if x = 0 then 48 else bt s (x - 1))) && (bt s x == 49)) := by
        unfold isUp prevB
        rw [hxe]
        by_cases hz : x = 0
        · subst hz; rfl
        · rw [if_neg (by omega), if_neg hz, show (((x.toNat - 1 : Nat)) : Int) = x - 1 from by omega]
      have up_at : isUp s x.toNat = true → divAtD n h s (x.toNat + 1) = decide (Int.tmod (upK s x.toNat + 1) n < h) := fun hu => by
        have := HR.out
        unfold divAtD
        rw [upK_up hi4 hu, decide_eq_true (by omega : 0 ≤ upK s x.toNat + 1), Bool.true_and]
      have no_at : isUp s x.toNat = false → divAtD n h s (x.toNat + 1) = divAtD n h s x.toNat := fun hu => by
        unfold divAtD
        rw [upK_no hu]
      cases e1 : (bt s x == 49) with
      | true =>
        rw [e1, Bool.and_true] at hprev
        have e49 : bt s x = 49 := beq_iff_eq.1 e1
        by_cases hz : x = 0
        · have t3 : (x == 0) = true := beq_iff_eq.2 hz
          have hu : isUp s x.toNat = true := by rw [hprev, if_pos hz, e49]; rfl
          have HU := Aside0.mk (upK_up hi4 hu)
          clear hprev hbit e49 hz hx0 hn0 hlt h0 hi4 no_at
          by_cases hz : Int.tmod (upK s x.toNat + 1) n < h
          · have t5 : decide (Int.tmod (upK s x.toNat + 1) n < h) = true := decide_eq_true hz
            have HA : Aside0 (levD (divAtD n h s (x.toNat + 1)) = 49) := ⟨by unfold levD; rw [if_pos (by rw [up_at hu, t5])]⟩
            have HD : Aside0 ((if divLv n h s x.toNat = true then (49 : Int) else 48) = 49) := ⟨if_pos (by rw [show divLv n h s x.toNat = divAtD n h s (x.toNat + 1) from rfl, up_at hu, t5])⟩
            clear hz hu
            go_wp2
            go_quiet (fail)
            go_wp2_with ((with_reducible refine gate_builtin (b := .append) (xs := #[.tmp 44, .tmp 46]) rfl ?_); at_builtin; refine Kd.R_append (Kd.int .u8) (w0 := w) w.heap.size rfl (.tmp 44) (.tmp 46) 63 5 (.int .u8 0) 1 rfl Tryd.underlying63 info5 rfl (by decide) (by omega) u5 (waveL (divLv n h s) x.toNat) (49) [.int .u8 (49)] (fun _ => True) (fun _ => False) rfl rfl ?aP (fun _ hk => hk.elim) ?aF ?aO ?aB ?aS ?aL ?_; (case aP => exact rfl); (case aB => exact pw_below_drewN HB.out nq); (case aF => exact (fun _ _ => trivial)); (case aO => exact Kd.R_drewN HO.out nq); (case aS => exact (pw_below_drewN HB.out nq).size); (case aL => have := HX.out; have := HN.out; rw [waveL_length]; omega); intro v2 w2 ho hb hg hat; have HO2 := Aside0.mk ho; have HB2 := Aside0.mk hb; clear ho hb hg hat)
            have hx := HX.out
            have hn := HN.out
            have hr := HR.out
            have hlt := HLT.out
            have hw1 : wrap64 (x + 1) = x + 1 := by unfold wrap64; omega
            go_roundg (s.size - (x + 1).toNat)
            case measure => omega
            case rel =>
              have hnx : (x + 1).toNat = x.toNat + 1 := by omega
              have hD := HD.out
              refine ⟨x + 1, by rw [hw1], ?_, ?_, ⟨by omega⟩, ⟨?_⟩, HB2⟩
              · rw [hnx, HA.out]
              · rw [hnx, HU.out]; congr 1; unfold wrap64; omega
              · rw [hnx, waveL_succ, hD]; exact HO2.out
          · have t5 : decide (Int.tmod (upK s x.toNat + 1) n < h) = false := decide_eq_false hz
            have HA : Aside0 (levD (divAtD n h s (x.toNat + 1)) = 48) := ⟨by unfold levD; rw [if_neg (by rw [up_at hu, t5]; decide)]⟩
            have HD : Aside0 ((if divLv n h s x.toNat = true then (49 : Int) else 48) = 48) := ⟨if_neg (by rw [show divLv n h s x.toNat = divAtD n h s (x.toNat + 1) from rfl, up_at hu, t5]; decide)⟩
            clear hz hu
            go_wp2
            go_quiet (fail)
            go_wp2_with ((with_reducible refine gate_builtin (b := .append) (xs := #[.tmp 44, .tmp 46]) rfl ?_); at_builtin; refine Kd.R_append (Kd.int .u8) (w0 := w) w.heap.size rfl (.tmp 44) (.tmp 46) 63 5 (.int .u8 0) 1 rfl Tryd.underlying63 info5 rfl (by decide) (by omega) u5 (waveL (divLv n h s) x.toNat) (48) [.int .u8 (48)] (fun _ => True) (fun _ => False) rfl rfl ?aP (fun _ hk => hk.elim) ?aF ?aO ?aB ?aS ?aL ?_; (case aP => exact rfl); (case aB => exact pw_below_drewN HB.out nq); (case aF => exact (fun _ _ => trivial)); (case aO => exact Kd.R_drewN HO.out nq); (case aS => exact (pw_below_drewN HB.out nq).size); (case aL => have := HX.out; have := HN.out; rw [waveL_length]; omega); intro v2 w2 ho hb hg hat; have HO2 := Aside0.mk ho; have HB2 := Aside0.mk hb; clear ho hb hg hat)
            have hx := HX.out
            have hn := HN.out
            have hr := HR.out
            have hlt := HLT.out
            have hw1 : wrap64 (x + 1) = x + 1 := by unfold wrap64; omega
            go_roundg (s.size - (x + 1).toNat)
            case measure => omega
            case rel =>
              have hnx : (x + 1).toNat = x.toNat + 1 := by omega
              have hD := HD.out
              refine ⟨x + 1, by rw [hw1], ?_, ?_, ⟨by omega⟩, ⟨?_⟩, HB2⟩
              · rw [hnx, HA.out]
              · rw [hnx, HU.out]; congr 1; unfold wrap64; omega
              · rw [hnx, waveL_succ, hD]; exact HO2.out
        · have t3 : (x == 0) = false := beq_eq_false_iff_ne.2 hz
          have hw2 : wrap64 (x - 1) = x - 1 := by unfold wrap64; omega
          have hq0 : 0 ≤ x - 1 := by omega
          have hq1 : x - 1 < (s.size : Int) := by omega
          have hbit2 := HW.out (x - 1).toNat (by omega)
          rw [show (((x - 1).toNat : Nat) : Int) = x - 1 from by omega] at hbit2
          have p2 := eq_true hq0
          have p3 := eq_true hq1
          have p4 : (0 ≤ wrap64 (x - 1)) = True := by rw [hw2]; exact p2
          have p5 : (wrap64 (x - 1) < (s.size : Int)) = True := by rw [hw2]; exact p3
          have ub2 := bt_at s (wrap64 (x - 1))
          have ub3 := bt_at s (x - 1)
          rw [if_neg hz] at hprev
          cases e2 : (bt s (x - 1) == 48) with
          | true =>
            have e3 : (bt s (wrap64 (x - 1)) == 48) = true := by rw [hw2]; exact e2
            have hu : isUp s x.toNat = true := by rw [hprev, e49, beq_iff_eq.1 e2]; rfl
            have HU := Aside0.mk (upK_up hi4 hu)
            clear hprev hbit e49 hz hx0 hn0 hlt h0 hi4 no_at hbit2 hq0 hq1 hw2
            by_cases hz : Int.tmod (upK s x.toNat + 1) n < h
            · have t5 : decide (Int.tmod (upK s x.toNat + 1) n < h) = true := decide_eq_true hz
              have HA : Aside0 (levD (divAtD n h s (x.toNat + 1)) = 49) := ⟨by unfold levD; rw [if_pos (by rw [up_at hu, t5])]⟩
              have HD : Aside0 ((if divLv n h s x.toNat = true then (49 : Int) else 48) = 49) := ⟨if_pos (by rw [show divLv n h s x.toNat = divAtD n h s (x.toNat + 1) from rfl, up_at hu, t5])⟩
              clear hz hu
              go_wp2
              go_quiet (fail)
              go_wp2_with ((with_reducible refine gate_builtin (b := .append) (xs := #[.tmp 44, .tmp 46]) rfl ?_); at_builtin; refine Kd.R_append (Kd.int .u8) (w0 := w) w.heap.size rfl (.tmp 44) (.tmp 46) 63 5 (.int .u8 0) 1 rfl Tryd.underlying63 info5 rfl (by decide) (by omega) u5 (waveL (divLv n h s) x.toNat) (49) [.int .u8 (49)] (fun _ => True) (fun _ => False) rfl rfl ?aP (fun _ hk => hk.elim) ?aF ?aO ?aB ?aS ?aL ?_; (case aP => exact rfl); (case aB => exact pw_below_drewN HB.out nq); (case aF => exact (fun _ _ => trivial)); (case aO => exact Kd.R_drewN HO.out nq); (case aS => exact (pw_below_drewN HB.out nq).size); (case aL => have := HX.out; have := HN.out; rw [waveL_length]; omega); intro v2 w2 ho hb hg hat; have HO2 := Aside0.mk ho; have HB2 := Aside0.mk hb; clear ho hb hg hat)
              have hx := HX.out
              have hn := HN.out
              have hr := HR.out
              have hlt := HLT.out
              have hw1 : wrap64 (x + 1) = x + 1 := by unfold wrap64; omega
              go_roundg (s.size - (x + 1).toNat)
              case measure => omega
              case rel =>
                have hnx : (x + 1).toNat = x.toNat + 1 := by omega
                have hD := HD.out
                refine ⟨x + 1, by rw [hw1], ?_, ?_, ⟨by omega⟩, ⟨?_⟩, HB2⟩
                · rw [hnx, HA.out]
                · rw [hnx, HU.out]; congr 1; unfold wrap64; omega
                · rw [hnx, waveL_succ, hD]; exact HO2.out
            · have t5 : decide (Int.tmod (upK s x.toNat + 1) n < h) = false := decide_eq_false hz
              have HA : Aside0 (levD (divAtD n h s (x.toNat + 1)) = 48) := ⟨by unfold levD; rw [if_neg (by rw [up_at hu, t5]; decide)]⟩
              have HD : Aside0 ((if divLv n h s x.toNat = true then (49 : Int) else 48) = 48) := ⟨if_neg (by rw [show divLv n h s x.toNat = divAtD n h s (x.toNat + 1) from rfl, up_at hu, t5]; decide)⟩
              clear hz hu
              go_wp2
              go_quiet (fail)
              go_wp2_with ((with_reducible refine gate_builtin (b := .append) (xs := #[.tmp 44, .tmp 46]) rfl ?_); at_builtin; refine Kd.R_append (Kd.int .u8) (w0 := w) w.heap.size rfl (.tmp 44) (.tmp 46) 63 5 (.int .u8 0) 1 rfl Tryd.underlying63 info5 rfl (by decide) (by omega) u5 (waveL (divLv n h s) x.toNat) (48) [.int .u8 (48)] (fun _ => True) (fun _ => False) rfl rfl ?aP (fun _ hk => hk.elim) ?aF ?aO ?aB ?aS ?aL ?_; (case aP => exact rfl); (case aB => exact pw_below_drewN HB.out nq); (case aF => exact (fun _ _ => trivial)); (case aO => exact Kd.R_drewN HO.out nq); (case aS => exact (pw_below_drewN HB.out nq).size); (case aL => have := HX.out; have := HN.out; rw [waveL_length]; omega); intro v2 w2 ho hb hg hat; have HO2 := Aside0.mk ho; have HB2 := Aside0.mk hb; clear ho hb hg hat)
              have hx := HX.out
              have hn := HN.out
              have hr := HR.out
              have hlt := HLT.out
              have hw1 : wrap64 (x + 1) = x + 1 := by unfold wrap64; omega
              go_roundg (s.size - (x + 1).toNat)
              case measure => omega
              case rel =>
                have hnx : (x + 1).toNat = x.toNat + 1 := by omega
                have hD := HD.out
                refine ⟨x + 1, by rw [hw1], ?_, ?_, ⟨by omega⟩, ⟨?_⟩, HB2⟩
                · rw [hnx, HA.out]
                · rw [hnx, HU.out]; congr 1; unfold wrap64; omega
                · rw [hnx, waveL_succ, hD]; exact HO2.out
          | false =>
            have e3 : (bt s (wrap64 (x - 1)) == 48) = false := by rw [hw2]; exact e2
            have e4 : bt s (x - 1) = 49 := by
              rcases hbit2 with hb2 | hb2
              · rw [hb2] at e2; exact absurd e2 (by decide)
              · exact hb2
            have hu : isUp s x.toNat = false := by rw [hprev, e49, e4]; rfl
            have HU := Aside0.mk (upK_no hu)
            clear hprev hbit e49 e4 hz hx0 hn0 hlt h0 hi4 up_at hbit2 hq0 hq1 hw2
            have HA : Aside0 (levD (divAtD n h s (x.toNat + 1)) = levD (divAtD n h s x.toNat)) := ⟨by rw [no_at hu]⟩
            have HD : Aside0 ((if divLv n h s x.toNat = true then (49 : Int) else 48) = levD (divAtD n h s x.toNat)) := ⟨by rw [show divLv n h s x.toNat = divAtD n h s (x.toNat + 1) from rfl, no_at hu]; rfl⟩
            clear hu
            go_wp2_with ((with_reducible refine gate_builtin (b := .append) (xs := #[.tmp 44, .tmp 46]) rfl ?_); at_builtin; refine Kd.R_append (Kd.int .u8) (w0 := w) w.heap.size rfl (.tmp 44) (.tmp 46) 63 5 (.int .u8 0) 1 rfl Tryd.underlying63 info5 rfl (by decide) (by omega) u5 (waveL (divLv n h s) x.toNat) (levD (divAtD n h s x.toNat)) [.int .u8 (levD (divAtD n h s x.toNat))] (fun _ => True) (fun _ => False) rfl rfl ?aP (fun _ hk => hk.elim) ?aF ?aO ?aB ?aS ?aL ?_; (case aP => exact rfl); (case aB => exact HB.out); (case aF => exact (fun _ _ => trivial)); (case aO => exact HO.out); (case aS => exact (HB.out).size); (case aL => have := HX.out; have := HN.out; rw [waveL_length]; omega); intro v2 w2 ho hb hg hat; have HO2 := Aside0.mk ho; have HB2 := Aside0.mk hb; clear ho hb hg hat)
            have hx := HX.out
            have hn := HN.out
            have hr := HR.out
            have hlt := HLT.out
            have hw1 : wrap64 (x + 1) = x + 1 := by unfold wrap64; omega
            go_roundg (s.size - (x + 1).toNat)
            case measure => omega
            case rel =>
              have hnx : (x + 1).toNat = x.toNat + 1 := by omega
              have hD := HD.out
              refine ⟨x + 1, by rw [hw1], ?_, ?_, ⟨by omega⟩, ⟨?_⟩, HB2⟩
              · rw [hnx, HA.out]
              · rw [hnx, HU.out]
              · rw [hnx, waveL_succ, hD]; exact HO2.out
      | false =>
        have hu : isUp s x.toNat = false := by rw [hprev, e1, Bool.and_false]
        have HU := Aside0.mk (upK_no hu)
        clear hprev hbit hx0 hn0 hlt h0 hi4 up_at
        have HA : Aside0 (levD (divAtD n h s (x.toNat + 1)) = levD (divAtD n h s x.toNat)) := ⟨by rw [no_at hu]⟩
        have HD : Aside0 ((if divLv n h s x.toNat = true then (49 : Int) else 48) = levD (divAtD n h s x.toNat)) := ⟨by rw [show divLv n h s x.toNat = divAtD n h s (x.toNat + 1) from rfl, no_at hu]; rfl⟩
        clear hu
        go_wp2_with ((with_reducible refine gate_builtin (b := .append) (xs := #[.tmp 44, .tmp 46]) rfl ?_); at_builtin; refine Kd.R_append (Kd.int .u8) (w0 := w) w.heap.size rfl (.tmp 44) (.tmp 46) 63 5 (.int .u8 0) 1 rfl Tryd.underlying63 info5 rfl (by decide) (by omega) u5 (waveL (divLv n h s) x.toNat) (levD (divAtD n h s x.toNat)) [.int .u8 (levD (divAtD n h s x.toNat))] (fun _ => True) (fun _ => False) rfl rfl ?aP (fun _ hk => hk.elim) ?aF ?aO ?aB ?aS ?aL ?_; (case aP => exact rfl); (case aB => exact HB.out); (case aF => exact (fun _ _ => trivial)); (case aO => exact HO.out); (case aS => exact (HB.out).size); (case aL => have := HX.out; have := HN.out; rw [waveL_length]; omega); intro v2 w2 ho hb hg hat; have HO2 := Aside0.mk ho; have HB2 := Aside0.mk hb; clear ho hb hg hat)
        have hx := HX.out
        have hn := HN.out
        have hr := HR.out
        have hlt := HLT.out
        have hw1 : wrap64 (x + 1) = x + 1 := by unfold wrap64; omega
        go_roundg (s.size - (x + 1).toNat)
        case measure => omega
        case rel =>
          have hnx : (x + 1).toNat = x.toNat + 1 := by omega
          have hD := HD.out
          refine ⟨x + 1, by rw [hw1], ?_, ?_, ⟨by omega⟩, ⟨?_⟩, HB2⟩
          · rw [hnx, HA.out]
          · rw [hnx, HU.out]
          · rw [hnx, waveL_succ, hD]; exact HO2.out
    · have t1 : decide (x < (s.size : Int)) = false := decide_eq_false hlt
      have hx := HX.out
      obtain rfl : x = (s.size : Int) := by omega
      rw [Int.toNat_natCast] at HO
      have hcv := own_string (P := Tryd.prog) Tryd.underlying63 Tryd.underlying5 Tryd.underlying9 (Kd.own_of_R HO.out)
      clear hlt hx
      go_wp2
      go_ret
      exact ⟨rfl, HB.out⟩
/-- What the reference makes of some dividers one after another; the first that is none ends it. -/
def chainS : ByteArray → List S32 → ByteArray × Bool
  | s, [] => (s, true)
  | s, x :: l => if divOk x.f0 x.f1 = true then chainS (strOfNums (waveL (divLv x.f0 x.f1 s) s.size)) l else ((⟨#[]⟩ : ByteArray), false)
def lvOk (s : ByteArray) : Prop := s.size ≤ 400 ∧ ∀ i, i < s.size → bt s (i : Int) = 48 ∨ bt s (i : Int) = 49
theorem strOf_bt (l : List Int) (hl : ∀ x ∈ l, x = 48 ∨ x = 49) : (strOfNums l).size = l.length ∧ ∀ i, i < l.length → bt (strOfNums l) (i : Int) = 48 ∨ bt (strOfNums l) (i : Int) = 49 := by
  have hs : (strOfNums l).size = l.length := by
    show (l.map _).toArray.size = l.length
    simp
  refine ⟨hs, fun i hi => ?_⟩
  unfold bt
  rw [Int.toNat_natCast, dif_pos (by rw [hs]; exact hi)]
  have he : ((strOfNums l)[i]'(by rw [hs]; exact hi)) = UInt8.ofNat (l[i]).toNat := by
    rw [ByteArray.getElem_eq_getElem_data]
    simp [strOfNums]
  rw [he]
  rcases hl l[i] (List.getElem_mem hi) with h | h
  · left; rw [h]; rfl
  · right; rw [h]; rfl
theorem wave_lvOk (lv : Nat → Bool) (n : Nat) (hn : n ≤ 400) : lvOk (strOfNums (waveL lv n)) := by
  have h := strOf_bt (waveL lv n) (fun x hx => by
    unfold waveL at hx
    obtain ⟨i, _, rfl⟩ := List.mem_map.1 hx
    split
    · exact .inr rfl
    · exact .inl rfl)
  rw [waveL_length] at h
  exact ⟨by rw [h.1]; exact hn, fun i hi => h.2 i (by rw [← h.1]; exact hi)⟩
def spec_DivideChain.f (k : Nat) (l0 : List (S32)) (a1 : ByteArray) : Option (ByteArray × Bool) := if l0.length ≤ 8 then (spec_l01Wave.f k a1).bind fun b => if b = true then (if a1.size ≤ 400 ∧ (∀ i, i < a1.size → bt a1 (i : Int) = 48 ∨ bt a1 (i : Int) = 49) then some (chainS a1 l0) else none) else some ((⟨#[]⟩ : ByteArray), false) else some ((⟨#[]⟩ : ByteArray), false)
theorem spec_DivideChain.mono : ∀ a0 a1 k, LeO (spec_DivideChain.f k a0 a1) (spec_DivideChain.f (k + 1) a0 a1) := by
  intro a0 a1 k
  unfold spec_DivideChain.f
  split
  · exact LeO.bind (spec_l01Wave.mono a1 k) (fun _ => LeO.refl _)
  · exact LeO.refl _
set_option maxHeartbeats 8000000 in
set_option maxRecDepth 100000 in
theorem spec_DivideChain.calls (k : Nat) (A0 : Option Addr) (c0 : Nat) (l0 : List (S32)) (a1 : ByteArray) (r1 : ByteArray) (r2 : Bool) (w : World) (hr0 : Kd.C k32 w A0 l0.length l0) (hc0 : l0.length ≤ c0) (h : spec_DivideChain.f k l0 a1 = some (r1, r2)) :
    Calls Tryd.prog 27 #[.slice A0 l0.length c0, .string a1] w fun e w' => e = .returned (.tuple #[.string r1, .bool r2]) ∧ Below w.heap.size w w' := by
  have hu := Tryd.underlying32
  unfold spec_DivideChain.f at h
  have HR := Aside0.mk hr0
  have hlen : l0.length ≤ 9223372036854775807 := hr0.2.1
  clear hr0 hc0
  by_cases h8 : l0.length ≤ 8
  case neg =>
    have d1 : decide ((8 : Int) < (l0.length : Int)) = true := decide_eq_true (by omega)
    have d2 : decide (8 < l0.length) = true := decide_eq_true (by omega)
    rw [if_neg h8] at h
    clear h8
    simp only [Option.some.injEq, Prod.mk.injEq] at h
    obtain ⟨rfl, rfl⟩ := h
    go_enter Tryd.func27, Tryd.ntmps27
    go_wp2
    go_ret2
    exact ⟨rfl, Below.refl _ _⟩
  rw [if_pos h8] at h
  have d1 : decide ((8 : Int) < (l0.length : Int)) = false := decide_eq_false (by omega)
  have d2 : decide (8 < l0.length) = false := decide_eq_false (by omega)
  have HL8 := Aside0.mk h8
  clear h8
  replace h := Option.bind_eq_some_iff.mp h
  obtain ⟨b, hb, h⟩ := h
  have HW := Aside0.mk hb
  clear hb
  cases b with
  | false =>
    rw [if_neg (by decide)] at h
    simp only [Option.some.injEq, Prod.mk.injEq] at h
    obtain ⟨rfl, rfl⟩ := h
    go_enter Tryd.func27, Tryd.ntmps27
    go_wp2_with (go_at_call 60; refine (spec_l01Wave.calls k a1 false _ HW.out).mono ?_; rintro e w' ⟨rfl, ⟨nd, rfl⟩⟩)
    go_ret2
    exact ⟨rfl, pw_below_drewN (Below.refl _ _) _⟩
  | true =>
    rw [if_pos rfl] at h
    by_cases hv : a1.size ≤ 400 ∧ (∀ i, i < a1.size → bt a1 (i : Int) = 48 ∨ bt a1 (i : Int) = 49)
    case neg => rw [if_neg hv] at h; exact absurd h (by simp)
    rw [if_pos hv] at h
    have HV : Aside0 (lvOk a1) := ⟨hv⟩
    have HE : Aside0 (chainS a1 l0 = (r1, r2)) := ⟨Option.some.inj h⟩
    clear h hv
    go_enter Tryd.func27, Tryd.ntmps27
    go_wp2_with (go_at_call 60; refine (spec_l01Wave.calls k a1 true _ HW.out).mono ?_; rintro e w' ⟨rfl, ⟨nd, rfl⟩⟩)
    go_loopg [1, 6] l0.length (fun gg s1 s6 wr => ∃ (x : Int) (t : ByteArray), s6 = .int .i64 x ∧ s1 = .string t ∧ Aside0 (0 ≤ x ∧ x ≤ l0.length ∧ (l0.length : Int) - x ≤ gg) ∧ Aside0 (lvOk t ∧ chainS t (l0.drop x.toNat) = (r1, r2)) ∧ Aside0 (Below w.heap.size w wr))
    case atStart => exact ⟨0, a1, rfl, rfl, ⟨by omega⟩, ⟨HV.out, HE.out⟩, ⟨pw_below_drewN (Below.refl _ _) _⟩⟩
    case round =>
      obtain ⟨x, t, rfl, rfl, HX, HT, HB⟩ := hrel
      by_cases hlt : x < (l0.length : Int)
      · have hx0 := HX.out
        have h0 : 0 ≤ x := hx0.1
        have q0 : decide (0 ≤ x) = true := decide_eq_true h0
        have q1 : decide (x < (l0.length : Int)) = true := decide_eq_true hlt
        obtain ⟨ad, e, k0, k1⟩ := at_T32 HR.out x h0 hlt
        cases e
        replace k0 := (HB.out.cell (World.block_lt_of_cell? w _ k0)).trans k0
        replace k1 := (HB.out.cell (World.block_lt_of_cell? w _ k1)).trans k1
        have hcs : ∀ u, chainS u (l0.drop x.toNat) = (if divOk (rd_T32 l0 x).f0 (rd_T32 l0 x).f1 = true then chainS (strOfNums (waveL (divLv (rd_T32 l0 x).f0 (rd_T32 l0 x).f1 u) u.size)) (l0.drop (x + 1).toNat) else ((⟨#[]⟩ : ByteArray), false)) := fun u => by
          rw [List.drop_eq_getElem_cons (show x.toNat < l0.length by omega), show (x + 1).toNat = x.toNat + 1 from by omega]
          unfold rd_T32
          rw [List.getD_eq_getElem?_getD, List.getElem?_eq_getElem (by omega)]
          rfl
        have HCS := Aside0.mk (hcs t)
        clear hcs
        have p0 := eq_true h0
        have p1 := eq_true hlt
        have HLT := Aside0.mk hlt
        clear hx0 h0 hlt
        generalize rd_T32 l0 x = y at k0 k1 HCS
        generalize hgp : ad.add (x.toNat * 2) = pa at k0 k1
        have HK0 := Aside0.mk k0
        have HK1 := Aside0.mk k1
        clear k0 k1
        have HI := Aside0.mk (fun (w1 : World) (hb : Below wr.heap.size wr w1) => l03Is_at pa y.f0 y.f1 w1 (pw_cell_below hb HK0.out) (pw_cell_below hb HK1.out))
        cases hd : divOk y.f0 y.f1 with
        | true =>
          rw [hd] at HI
          have hne : y.f0 ≠ 0 := by
            unfold divOk at hd
            simp only [Bool.and_eq_true, decide_eq_true_eq] at hd
            omega
          have HNE := Aside0.mk hne
          have HT2 : Aside0 (chainS (strOfNums (waveL (divLv y.f0 y.f1 t) t.size)) (l0.drop (x + 1).toNat) = (r1, r2)) := ⟨by
            have := HCS.out
            rw [hd, if_pos rfl, HT.out.2] at this
            exact this.symm⟩
          clear hd hne
          go_wp2_with (first | (go_at_call 64; refine (HI.out _ (by repeat (first | exact Below.refl _ _ | apply pw_below_drewN))).mono ?_; rintro e w' ⟨rfl, ⟨nd2, rfl⟩⟩) | (go_at_call 65; refine (l03Divide_at pa y.f0 y.f1 t _ (pw_cell_below (pw_below_drewN (Below.refl _ wr) nd2) HK0.out) (pw_cell_below (pw_below_drewN (Below.refl _ wr) nd2) HK1.out) HNE.out HT.out.1.1 HT.out.1.2).mono ?_; rintro e w3 ⟨rfl, hb3⟩; have HB3 := Aside0.mk (below_step (pw_below_drewN HB.out nd2) hb3); clear hb3))
          have hx := HX.out
          have hl := HLT.out
          go_roundg ((l0.length : Int) - (x + 1)).toNat
          case measure => omega
          case rel =>
            have hw1 : wrap64 (x + 1) = x + 1 := by unfold wrap64; omega
            exact ⟨x + 1, _, by rw [hw1], rfl, ⟨by omega⟩, ⟨wave_lvOk _ _ HT.out.1.1, HT2.out⟩, HB3⟩
        | false =>
          rw [hd] at HI
          have HT2 : Aside0 (((⟨#[]⟩ : ByteArray), false) = (r1, r2)) := ⟨by
            have := HCS.out
            rw [hd, if_neg (by decide), HT.out.2] at this
            exact this.symm⟩
          clear hd
          go_wp2_with (go_at_call 64; refine (HI.out _ (by repeat (first | exact Below.refl _ _ | apply pw_below_drewN))).mono ?_; rintro e w' ⟨rfl, ⟨nd2, rfl⟩⟩)
          go_ret2
          have ht := HT2.out
          simp only [Prod.mk.injEq] at ht
          obtain ⟨rfl, rfl⟩ := ht
          exact ⟨rfl, pw_below_drewN HB.out _⟩
      · have q1 : decide (x < (l0.length : Int)) = false := decide_eq_false hlt
        have hx := HX.out
        have ht := HT.out.2
        rw [List.drop_of_length_le (by omega)] at ht
        simp only [chainS, Prod.mk.injEq] at ht
        obtain ⟨rfl, rfl⟩ := ht
        clear hlt hx
        go_wp2
        go_ret2
        exact ⟨rfl, HB.out⟩

end Go.Proofs.YtmipelgjmmgmnaaDoor.Pa
