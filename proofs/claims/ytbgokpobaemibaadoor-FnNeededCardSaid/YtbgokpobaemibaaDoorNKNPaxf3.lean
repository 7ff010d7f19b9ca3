-- Written for this claim by a program of this session.
import Derived.Test.YtbgokpobaemibaaDoorNPax0
import Derived.Test.YtbgokpobaemibaaDoorNCoreN2
import Derived.Test.YtbgokpobaemibaaDoorNCoreN4
import Derived.Test.YtbgokpobaemibaaDoorNCoreN5
import Derived.Test.YtbgokpobaemibaaDoorNCoreN6
import Derived.Test.YtbgokpobaemibaaDoorNKNPaxaown
namespace Go.Proofs.YtbgokpobaemibaaDoor.Pa
open Go.RowKit Go.Proofs.YtbgokpobaemibaaDoorW.PrintWords Go.Proofs.YtbgokpobaemibaaDoorW.PrintLast Go.Proofs.YtbgokpobaemibaaDoorW.PrintMore
attribute [local go_sem] max2_int min2_int max_two min_two max_three min_three max_four min_four   -- for this text's walks alone
set_option linter.unusedVariables false
set_option linter.unusedSimpArgs false

/-! ### laws_FnNeeded: function 3 -/
def laws_FnNeeded.T20 : Bool × List (List Nat × List Nat) := (true, [([], []), ([0], [0]), ([], []), ([2], [2]), ([], []), ([], []), ([4, 5], [4, 5]), ([6], [6]), ([3, 7], [3, 7]), ([8], [8]), ([9], [9]), ([1, 10], [1, 10]), ([0, 1, 2, 3, 4, 5, 6, 7, 8, 9, 10, 11], []), ([12, 11, 11, 0, 1, 2, 3, 4, 5, 6, 7, 8, 9, 10, 11], [11, 12])])
def laws_FnNeeded.B20 : List Nat := [0, 1, 0, 4, 0, 0, 48, 112, 252, 508, 1020, 2047, 4095, 8191]
theorem laws_FnNeeded.tab20 : rtab .any (opsOf Tryd.f3 20) = laws_FnNeeded.T20 := by kernel_rfl
theorem laws_FnNeeded.bits20 : waitsOk laws_FnNeeded.T20.2 laws_FnNeeded.B20 = true := by kernel_rfl
def laws_FnNeeded.T32 : Bool × List (List Nat × List Nat) := (true, [([], []), ([0], [0]), ([], []), ([2], [2]), ([], []), ([3, 4], [3, 4]), ([5], [5]), ([6], [6]), ([1, 7], [1, 7]), ([0, 1, 2, 3, 4, 5, 6, 7, 8], []), ([9, 8, 8, 0, 1, 2, 3, 4, 5, 6, 7, 8], [8, 9])])
def laws_FnNeeded.B32 : List Nat := [0, 1, 0, 4, 0, 28, 60, 124, 255, 511, 1023]
theorem laws_FnNeeded.tab32 : rtab .any (opsOf Tryd.f3 32) = laws_FnNeeded.T32 := by kernel_rfl
theorem laws_FnNeeded.bits32 : waitsOk laws_FnNeeded.T32.2 laws_FnNeeded.B32 = true := by kernel_rfl
def laws_FnNeeded.T44 : Bool × List (List Nat × List Nat) := (true, [([], []), ([0], [0]), ([], []), ([], []), ([3], [3]), ([2, 4], [2, 4]), ([1, 5], [1, 5]), ([], []), ([7, 6, 5, 0, 1, 2, 3, 4, 5, 6, 7], [6, 7])])
def laws_FnNeeded.B44 : List Nat := [0, 1, 0, 0, 8, 28, 63, 0, 255]
theorem laws_FnNeeded.tab44 : rtab .any (opsOf Tryd.f3 44) = laws_FnNeeded.T44 := by kernel_rfl
theorem laws_FnNeeded.bits44 : waitsOk laws_FnNeeded.T44.2 laws_FnNeeded.B44 = true := by kernel_rfl
def laws_FnNeeded.f (k : Nat) (l0 l1 : List Int) : Option Bool := needF k l0 l1
set_option maxHeartbeats 16000000 in
set_option maxRecDepth 100000 in
theorem laws_FnNeeded.calls (k : Nat) (A0 : Option Addr) (c0 : Nat) (l0 : List Int) (A1 : Option Addr) (c1 : Nat) (l1 : List Int) (r : Bool) (w : World) (ht_ : EnvOk w) (hr0 : Kd.C (Kd.int .u8) w A0 l0.length l0) (hc0 : l0.length ≤ c0) (hr1 : Kd.C (Kd.int .u8) w A1 l1.length l1) (hc1 : l1.length ≤ c1) (h : laws_FnNeeded.f k l0 l1 = some r) :
    Calls Tryd.prog 3 #[.slice A0 l0.length c0, .slice A1 l1.length c1] w fun e w' => e = .returned (.bool r) ∧ Below w.heap.size w w' := by
  have hu := Tryd.underlying26
  have hu2 := Tryd.underlying39
  have HE := Aside0.mk ht_
  have HR0 := Aside0.mk hr0
  have HC0 := Aside0.mk hc0
  have HR1 := Aside0.mk hr1
  have HC1 := Aside0.mk hc1
  clear ht_ hr0 hc0 hr1 hc1
  unfold laws_FnNeeded.f needF at h
  obtain ⟨t, ht, h⟩ := Option.bind_eq_some_iff.mp h
  have HT := Aside0.mk ht
  clear ht
  go_enter Tryd.func3, Tryd.ntmps3
  cases t with
  | true =>
    rw [if_pos rfl] at h
    obtain rfl := Option.some.inj h
    go_wp2_with (fail)
    refine (laws_r8Long.calls (hr0 := HR0.out) (hc0 := HC0.out) (hr1 := HR1.out) (hc1 := HC1.out) (h := HT.out)).mono ?_
    rintro e w2 ⟨rfl, hd⟩
    obtain ⟨nd, rfl⟩ := hd
    go_wp2
    go_ret
    exact ⟨rfl, by repeat (first | exact Below.refl _ _ | apply pw_below_drewN)⟩
  | false =>
    rw [if_neg (by decide)] at h
    obtain ⟨⟨n, bs⟩, hd_, h1⟩ := Option.bind_eq_some_iff.mp h
    clear h
    dsimp only at h1
    obtain ⟨⟨own, one⟩, hn_, h2⟩ := Option.bind_eq_some_iff.mp h1
    clear h1
    obtain ⟨⟨all, two⟩, ha_, h3⟩ := Option.bind_eq_some_iff.mp h2
    clear h2
    obtain ⟨⟨tx, three⟩, hx_, h4⟩ := Option.bind_eq_some_iff.mp h3
    clear h3
    obtain ⟨⟨n', bs', four⟩, hk_, h5⟩ := Option.bind_eq_some_iff.mp h4
    clear h4
    dsimp only at h5 hk_
    by_cases hc : one = two ∧ three = true ∧ four = true ∧ n' = n ∧ bs'.length = bs.length ∧ bs.length ≤ 50
    case neg => rw [if_neg hc] at h5; exact absurd h5 (by simp)
    rw [if_pos hc] at h5
    have HH := Aside0.mk h5
    clear h5
    obtain ⟨rfl, rfl, rfl, rfl, hl1, hl2⟩ := hc
    obtain ⟨nb, hnb⟩ : ∃ z, z = bs.length := ⟨_, rfl⟩
    have HD_ := Aside0.mk hd_
    have HN_ := Aside0.mk hn_
    have HA_ := Aside0.mk ha_
    have HX_ := Aside0.mk hx_
    have HK_ := Aside0.mk hk_
    have HNB := Aside0.mk hnb
    have HL1 := Aside0.mk hl1
    have HL2 := Aside0.mk hl2
    clear hd_ hn_ ha_ hx_ hk_ hl1 hl2 hnb
    go_wp2_with (fail)
    refine (laws_r8Long.calls (hr0 := HR0.out) (hc0 := HC0.out) (hr1 := HR1.out) (hc1 := HC1.out) (h := HT.out)).mono ?_
    rintro e w2 ⟨rfl, hd⟩
    obtain ⟨nd, rfl⟩ := hd
    have HB : Aside0 (Below w.heap.size w (w.drewN nd)) := ⟨pw_below_drewN (Below.refl _ _) _⟩
    generalize w.drewN nd = w2 at HB ⊢
    go_wp2_with (fail)
    refine (spec_R8Diagram.calls (hr0 := Kd.C_below HR0.out HB.out) (hc0 := HC0.out) (h := HD_.out)).mono ?_
    rintro e w3 ⟨v1_, rfl, hs1, hb⟩; obtain ⟨Ab, cb, rfl⟩ := Kd.R_slice hs1; have PB := Aside0.mk (Kd.R_reads' hs1).2.2; have QB := Aside0.mk (Kd.R_reads' hs1).2.1; clear hs1; replace HB := Aside0.mk (below_step HB.out hb); clear hb
    go_wp2_with (fail)
    obtain ⟨w4, hwx⟩ : ∃ z, z = w3.alloc (.cells #[.int .i64 n', .slice Ab bs.length cb] 26) := ⟨_, rfl⟩
    rw [← hwx]
    have hb : Below w3.heap.size w3 w4 := by rw [hwx]; exact below_alloc (Below.refl _ _) _
    have HX : Aside0 (w4.heap[w3.heap.size]? = some (.cells #[.int .i64 n', .slice Ab bs.length cb] 26 (0, 0))) := ⟨by rw [hwx]; exact blk_new w3 _⟩
    clear hwx
    replace HB := Aside0.mk (below_step HB.out hb)
    replace PB := Aside0.mk (Kd.C_below PB.out hb)
    clear hb
    generalize w3.heap.size = gd at HX ⊢
    refine (impl_NeededBounds.calls (hr0_1 := PB.out) (hc0_1 := QB.out) (h := HN_.out)).mono ?_
    rintro e w5 ⟨v1_, rfl, hs1, hb⟩; obtain ⟨An, cn, rfl⟩ := Kd.R_slice hs1; have PN := Aside0.mk (Kd.R_reads' hs1).2.2; have QN := Aside0.mk (Kd.R_reads' hs1).2.1; clear hs1
    replace HB := Aside0.mk (below_step HB.out hb)
    replace PB := Aside0.mk (Kd.C_below PB.out hb)
    replace HX := Aside0.mk (blk_below HX.out hb)
    clear hb
    have b0 := blk_cell HX.out 0
    have b1 := blk_cell HX.out 1
    go_wp2_with (fail)
    refine (impl_TightestBounds.calls (hr0_1 := PB.out) (hc0_1 := QB.out) (h := HA_.out)).mono ?_
    rintro e w6 ⟨v1_, rfl, hs1, hb⟩; obtain ⟨Aa, ca, rfl⟩ := Kd.S_slice hs1; have PA := Aside0.mk (Kd.S_reads' hs1).2.2; have QA := Aside0.mk (Kd.S_reads' hs1).2.1; clear hs1 b0 b1
    replace HB := Aside0.mk (below_step HB.out hb)
    replace PB := Aside0.mk (Kd.C_below PB.out hb)
    replace PN := Aside0.mk (Kd.C_below PN.out hb)
    replace HX := Aside0.mk (blk_below HX.out hb)
    clear hb
    have b0 := blk_cell HX.out 0
    have b1 := blk_cell HX.out 1
    go_wp2_with (fail)
    refine (impl_DiagramText.calls (ht_ := (HE.out.below HB.out).1) (hr0_1 := PB.out) (hc0_1 := QB.out) (h := HX_.out)).mono ?_
    rintro e w7 ⟨rfl, hb⟩
    clear b0 b1
    replace HB := Aside0.mk (below_step HB.out hb)
    replace PB := Aside0.mk (Kd.C_below PB.out hb)
    replace PN := Aside0.mk (Kd.C_below PN.out hb)
    replace PA := Aside0.mk (Kd.C_below PA.out hb)
    replace HX := Aside0.mk (blk_below HX.out hb)
    clear hb
    go_wp2_with (fail)
    refine (impl_ReadDiagram.calls (ht_ := HE.out.below HB.out) (h := HK_.out)).mono ?_
    rintro e w8 ⟨v1_, rfl, hs1, hb⟩; obtain ⟨Ak, ck, rfl⟩ := Kd.R_slice hs1; clear hs1
    replace HB := Aside0.mk (below_step HB.out hb)
    replace PB := Aside0.mk (Kd.C_below PB.out hb)
    replace PN := Aside0.mk (Kd.C_below PN.out hb)
    replace PA := Aside0.mk (Kd.C_below PA.out hb)
    replace HX := Aside0.mk (blk_below HX.out hb)
    clear hb
    rw [HL1.out]
    have b0 := blk_cell HX.out 0
    have b1 := blk_cell HX.out 1
    have hlt_ : gd < w8.heap.size := blk_lt HX.out
    have hne_ : gd ≠ w8.heap.size := Nat.ne_of_lt hlt_
    cases one with
    | false =>
      have hh := HH.out
      rw [if_neg (by decide)] at hh
      obtain rfl := Option.some.inj hh
      go_wp2
      go_ret
      exact ⟨rfl, by repeat (first | exact HB.out | apply pw_below_drewN | apply below_drew1 | apply below_alloc)⟩
    | true =>
      have hh := HH.out
      rw [if_pos rfl] at hh
      by_cases hz : (∀ x ∈ own, 0 ≤ x ∧ x < (bs.length : Int)) ∧ own.length ≤ 50
      case neg => rw [if_neg hz] at hh; exact absurd hh (by simp)
      rw [if_pos hz] at hh
      obtain ⟨⟨tg, five⟩, hg_, hh⟩ := Option.bind_eq_some_iff.mp hh
      dsimp only at hh
      by_cases h5 : five = true
      case neg => rw [if_neg h5] at hh; exact absurd hh (by simp)
      rw [if_pos h5] at hh
      subst h5
      obtain ⟨eq, he_, hh⟩ := Option.bind_eq_some_iff.mp hh
      by_cases h6 : eq = true
      case neg => rw [if_neg h6] at hh; exact absurd hh (by simp)
      rw [if_pos h6] at hh
      subst h6
      obtain ⟨rl, hr_, hh⟩ := Option.bind_eq_some_iff.mp hh
      have HZ := Aside0.mk hz
      have HG_ := Aside0.mk hg_
      have HE_ := Aside0.mk he_
      have HRL := Aside0.mk hr_
      have HNR := Aside0.mk hh
      clear hz hg_ he_ hr_ hh HH
      go_wp2_with ((with_reducible refine gate_dst (N := 82) rfl ?_); refine Kd.R_lit k39 _ 39 ?hg (N := 82) ?hd (xs := ([] : List S39)) (inner := []) (ok := fun _ => True) (okp := fun _ => True) ?hr ?hp (fun _ hk => hk) trivial (Below.refl _ _) (Nat.le_refl _) (by simp) ?_; (case hd => rfl); (case hg => rfl); (case hr => first | (go_simp; done) | (go_simp; rfl)); (case hp => exact (Reps.none _ _)); intro v18 w9 ho hb hg_ hnew_; clear hg_ hnew_; obtain ⟨A8, c8, e8⟩ := Kd.R_slice ho; subst e8; have KR := Aside0.mk ho; have KB := Aside0.mk hb; clear ho hb)
      clear b0 b1 hlt_ hne_
      obtain ⟨wk, hwk⟩ : ∃ z, z = w8.alloc (.cells #[.int .i64 n', .slice Ak bs.length ck] 26) := ⟨_, rfl⟩
      rw [← hwk] at KR KB
      have hb : Below w8.heap.size w8 wk := by rw [hwk]; exact below_alloc (Below.refl _ _) _
      replace HB := Aside0.mk (below_step HB.out hb)
      replace PB := Aside0.mk (Kd.C_below PB.out hb)
      replace PN := Aside0.mk (Kd.C_below PN.out hb)
      replace PA := Aside0.mk (Kd.C_below PA.out hb)
      replace HX := Aside0.mk (blk_below HX.out hb)
      clear hb hwk
      have hlt_ := blk_lt HX.out
      have HGD : Aside0 (gd < wk.heap.size) := ⟨hlt_⟩
      clear hlt_
      obtain ⟨gf, hgf⟩ : ∃ z, w9.heap.size = z := ⟨_, rfl⟩
      have KG : Aside0 ((w9.alloc (.cells #[.int .i64 n', .slice A8 0 c8] 26)).heap[gf]? = some (.cells #[.int .i64 n', .slice A8 0 c8] 26 (0, 0))) := ⟨by rw [← hgf]; exact blk_new w9 _⟩
      have HGP : Aside0 (wk.heap.size ≤ gf) := ⟨by rw [← hgf]; exact below_size KB.out⟩
      replace KR := Aside0.mk (Kd.R_below KR.out (below_alloc (Below.refl _ _) (.cells #[.int .i64 n', .slice A8 0 c8] 26)))
      replace KB := Aside0.mk (below_alloc KB.out (.cells #[.int .i64 n', .slice A8 0 c8] 26))
      rw [hgf]
      generalize w9.alloc (.cells #[.int .i64 n', .slice A8 0 c8] 26) = w10 at KG KR KB ⊢
      clear hgf
      go_loopg [15] (own.length + 1) (fun kq s15 w' => ∃ (i : Nat) (v : Value), s15 = .int .i64 (i : Int) ∧ Aside0 (i ≤ own.length ∧ i + kq = own.length + 1) ∧ Aside0 (w'.heap[gf]? = some (.cells #[.int .i64 n', v] 26 (0, 0))) ∧ Aside0 (Kd.R k39 39 w' wk.heap.size (fun _ => True) v (fewOf bs (own.take i))) ∧ Aside0 (Below wk.heap.size wk w'))
      case' atStart => exact ⟨0, .slice A8 0 c8, rfl, ⟨by omega, by omega⟩, KG, KR, KB⟩
      case' round =>
        obtain ⟨i, v, rfl, HI, KG1, KR1, KB1⟩ := hrel
        clear KG KR KB
        by_cases hi : i < own.length
        · obtain ⟨xi, hxi⟩ : ∃ z : Int, z = (i : Int) := ⟨_, rfl⟩
          obtain ⟨an, ea, n1⟩ := Kd.at_int PN.out xi (by omega) (by omega)
          subst ea
          have hown : rd own xi = own[i] := by rw [hxi]; unfold rd; rw [List.getD_eq_getElem?_getD, Int.toNat_natCast, List.getElem?_eq_getElem hi]; rfl
          have hy := HZ.out.1 (own[i]) (List.getElem_mem hi)
          obtain ⟨y, hye⟩ : ∃ z : Int, z = own[i] := ⟨_, rfl⟩
          rw [← hye] at hy hown
          rw [hown] at n1
          obtain ⟨ab, ea, y0, y1, y2⟩ := at_T39 PB.out y hy.1 hy.2
          subst ea
          obtain ⟨⟨f0, f1, f2⟩, hb3⟩ : ∃ z : S39, z = rd_T39 bs y := ⟨_, rfl⟩
          rw [← hb3] at y0 y1 y2
          dsimp only at y0 y1 y2
          have HROW : Aside0 (fewOf bs (own.take (i + 1)) = fewOf bs (own.take i) ++ [⟨f0, f1, f2⟩]) := ⟨by unfold fewOf; rw [List.take_add_one, List.getElem?_eq_getElem hi, List.map_append, ← hye]; simp [hb3]⟩
          have I0 : Aside0 ((0 ≤ xi) = True) := ⟨eq_true (by omega)⟩
          have I1 : Aside0 ((xi < (own.length : Int)) = True) := ⟨eq_true (by omega)⟩
          have I2 : Aside0 ((xi < 0) = False) := ⟨eq_false (by omega)⟩
          have I3 : Aside0 (((own.length : Int) ≤ xi) = False) := ⟨eq_false (by omega)⟩
          have J0 : Aside0 ((0 ≤ y) = True) := ⟨eq_true (by omega)⟩
          have J1 : Aside0 ((y < (bs.length : Int)) = True) := ⟨eq_true (by omega)⟩
          have J2 : Aside0 ((y < 0) = False) := ⟨eq_false (by omega)⟩
          have J3 : Aside0 (((bs.length : Int) ≤ y) = False) := ⟨eq_false (by omega)⟩
          have LEN : Aside0 (((fewOf bs (own.take i)).length + 1) * 24 ≤ 140737488355328) := ⟨by have := HZ.out.2; unfold fewOf; rw [List.length_map, List.length_take]; omega⟩
          have HIX := Aside0.mk hxi
          have HI2 := Aside0.mk hi
          have tj : decide (xi < (own.length : Int)) = true := decide_eq_true (by omega)
          have i0_ := I0.out
          have i1_ := I1.out
          have i2_ := I2.out
          have i3_ := I3.out
          have j0_ := J0.out
          have j1_ := J1.out
          have j2_ := J2.out
          have j3_ := J3.out
          have u0_ : decide (y < 0) = false := decide_eq_false (by omega)
          have u1_ : decide (y ≥ (bs.length : Int)) = false := decide_eq_false (by omega)
          have n1_ := pw_cell_below KB1.out n1
          have D1 := Aside0.mk (show wk.cell? ⟨gd, 1, none⟩ = some (.slice (some ab) bs.length cb) from (blk_cell HX.out 1).trans rfl)
          have d1_ := pw_cell_below KB1.out D1.out
          have N1 := Aside0.mk n1
          have Y0 := Aside0.mk y0
          have Y1 := Aside0.mk y1
          have Y2 := Aside0.mk y2
          rw [← hxi]
          clear hxi hye hown hy hb3 n1 y0 y1 y2 hi
          go_wp2
          go_quiet (fail)
          clear n1_ d1_ tj u0_ u1_ i0_ i1_ i2_ i3_ j0_ j1_ j2_ j3_
          have KR := Aside0.mk (Kd.R_drew (Kd.R_drewN KR1.out nq))
          have KB := Aside0.mk (below_drew1 (pw_below_drewN KB1.out nq))
          have KG : Aside0 ((wr.drewN nq).drew.heap[gf]? = some (.cells #[.int .i64 n', v] 26 (0, 0))) := ⟨KG1.out⟩
          have C1 : Aside0 ((wr.drewN nq).drew.cell? ⟨gf, 1, none⟩ = some v) := ⟨(blk_cell KG.out 1).trans rfl⟩
          have WB : Aside0 (Below (wr.drewN nq).drew.heap.size (wr.drewN nq).drew (wr.drewN nq).drew) := ⟨Below.refl _ _⟩
          replace D1 := Aside0.mk (pw_cell_below KB.out D1.out)
          replace N1 := Aside0.mk (pw_cell_below KB.out N1.out)
          replace Y0 := Aside0.mk (pw_cell_below KB.out Y0.out)
          replace Y1 := Aside0.mk (pw_cell_below KB.out Y1.out)
          replace Y2 := Aside0.mk (pw_cell_below KB.out Y2.out)
          clear KR1 KB1 KG1
          go_wp2
          refine start_ (n := 14) (S := fun w' => True) (ds := []) #[false, false, false, false, false, false, false, false, false, false, false, false, false, false] (by kernel_rfl) rfl rfl trivial (fun hHeld => ?_)
          refine with_tabW laws_FnNeeded.tab20 laws_FnNeeded.bits20 (fun HT_ HW_ => ?_)
          generalize (wr.drewN nq).drew = wq at KR KB KG C1 WB D1 N1 Y0 Y1 Y2 hHeld ⊢
          refine pure_ (i := 0) (N := some 105) (v := ?_) (a' := ?_) #[true, false, false, false, false, false, false, false, false, false, false, false, false, false] rfl rfl (any_of HT_.out (by kernel_rfl)) (fun _ _ _ h => h) (Or.inl ⟨by rfl, ?_⟩) ?_ ?_
          rotate_left
          · intro w'
            go_simp
            with_reducible rfl
          rotate_left
          · simp only [Act.put, List.setIfInBounds_toArray, List.set_cons_zero, List.set_cons_succ, i64_w, i32_w]
            rfl
          refine pure_ (i := 2) (N := some 107) (v := ?_) (a' := ?_) #[true, false, true, false, false, false, false, false, false, false, false, false, false, false] rfl rfl (any_of HT_.out (by kernel_rfl)) (fun _ _ _ h => h) (Or.inl ⟨by rfl, ?_⟩) ?_ ?_
          rotate_left
          · intro w'
            go_simp
            with_reducible rfl
          rotate_left
          · simp only [Act.put, List.setIfInBounds_toArray, List.set_cons_zero, List.set_cons_succ, i64_w, i32_w]
            rfl
          refine pure_ (i := 4) (N := some 109) (v := ?_) (a' := ?_) #[true, false, true, false, true, false, false, false, false, false, false, false, false, false] rfl rfl (any_of HT_.out (by kernel_rfl)) (fun _ _ _ h => h) (Or.inl ⟨by rfl, ?_⟩) ?_ ?_
          rotate_left
          · intro w'
            go_simp
            with_reducible rfl
          rotate_left
          · simp only [Act.put, List.setIfInBounds_toArray, List.set_cons_zero, List.set_cons_succ, i64_w, i32_w]
            rfl
          refine pure_ (i := 5) (N := some 110) (v := ?_) (a' := ?_) #[true, false, true, false, true, true, false, false, false, false, false, false, false, false] rfl rfl (any_of HT_.out (by kernel_rfl)) (fun _ _ _ h => h) (Or.inl ⟨by rfl, ?_⟩) ?_ ?_
          rotate_left
          · intro w'
            go_simp
            with_reducible rfl
          rotate_left
          · simp only [Act.put, List.setIfInBounds_toArray, List.set_cons_zero, List.set_cons_succ, i64_w, i32_w]
            rfl
          refine inv_at [1, 3, 6, 7, 8, 9, 10, 11, 12, 13] (fun a0_ b a w' => ∃ (W5 : World) (A6 : Option Addr) (n6 : Nat) (c6 : Nat) (m10_ : Value) (m11_ : Value), a = putSel a0_ b [(1, 106, v), (3, 108, .slice (some ab) bs.length cb), (6, 111, .pointer (some (an.add xi.toNat))), (7, 112, .int .i64 y), (8, 113, .pointer (some (ab.add (y.toNat * 3)))), (9, 114, .agg #[.int .i64 f0, .int .i64 f1, .int .i64 f2]), (10, 115, m10_), (11, 116, m11_), (12, 117, .pointer (some ⟨gf, 1, none⟩))] ∧ (b 10 = false → Below wq.heap.size wq w') ∧ (b 11 = false → w'.cell? ⟨gf, 1, none⟩ = some v) ∧ (b 10 = true → b 11 = false → w' = W5.alloc (.cells #[.int .i64 f0, .int .i64 f1, .int .i64 f2] 39)) ∧ (b 10 = true → Below wq.heap.size wq W5) ∧ (b 11 = true → b 13 = false → Below wk.heap.size wk w') ∧ (b 11 = true → b 13 = false → Kd.R k39 39 w' wk.heap.size (fun _ => True) (.slice A6 n6 c6) (fewOf bs (own.take i) ++ [(⟨f0, f1, f2⟩ : S39)])) ∧ (b 11 = true → b 13 = false → w'.heap[gf]? = some (.cells #[.int .i64 n', v] 26 (0, 0))) ∧ (b 13 = true → Below wk.heap.size wk w') ∧ (b 13 = true → Kd.R k39 39 w' wk.heap.size (fun _ => True) (.slice A6 n6 c6) (fewOf bs (own.take i) ++ [(⟨f0, f1, f2⟩ : S39)])) ∧ (b 13 = true → w'.heap[gf]? = some (.cells #[.int .i64 n', .slice A6 n6 c6] 26 (0, 0))) ∧ (b 10 = true → (m10_ : Value) = .slice (some ⟨W5.heap.size, 0, none⟩) 1 1) ∧ (b 11 = true → (m11_ : Value) = .slice A6 n6 c6)) HT_.out HW_.out (by kernel_rfl) (by kernel_rfl) ?_ ?_ ?_
          · exact ⟨wq, none, 0, 0, .bool false, .bool false, by simp only [putSel, Bool.false_eq_true, if_false], fun _ => WB.out, fun _ => C1.out, fun h_ => absurd h_ (by decide), fun h_ => absurd h_ (by decide), fun h_ => absurd h_ (by decide), fun h_ => absurd h_ (by decide), fun h_ => absurd h_ (by decide), fun h_ => absurd h_ (by decide), fun h_ => absurd h_ (by decide), fun h_ => absurd h_ (by decide), fun h_ => absurd h_ (by decide), fun h_ => absurd h_ (by decide)⟩
          · skip
            clear C1 WB
            refine steps_cons ?_ ?_
            · rintro b a w' ⟨W5, A6, n6, c6, m10_, m11_, ha, Q_WB, Q_C1, Q_A15, Q_B15, Q_B16, Q_R16, Q_G16, Q_B18, Q_R18, Q_G18, Q_X10_, Q_X11_⟩ hb_ hon hoff
              refine ⟨_, rfl, fun K hK => ?_⟩
              have e105 : a.tmps[105]? = some (.pointer (some ⟨gf, 1, none⟩)) := by rw [ha]; exact (putSel_off rfl).trans rfl
              replace ha := Aside0.mk ha
              have C1 := Aside0.mk (Q_C1 (hoff 11 (by kernel_rfl)))
              have hc_ := C1.out
              refine value_ (w1 := w') (v := v) (by rfl) rfl ?_ ?_
              · go_simp
                (try simp only [i64_w])
                try rfl
              refine hK.out _ _ ⟨W5, A6, n6, c6, m10_, m11_, (by rw [ha.out]; exact putSel_upk 0 hb_ rfl rfl rfl), Q_WB, Q_C1, Q_A15, Q_B15, fun h0_ _ => absurd ((hoff 11 (by kernel_rfl)).symm.trans h0_) (by decide), fun h0_ _ => absurd ((hoff 11 (by kernel_rfl)).symm.trans h0_) (by decide), fun h0_ _ => absurd ((hoff 11 (by kernel_rfl)).symm.trans h0_) (by decide), fun h0_ => absurd ((hoff 13 (by kernel_rfl)).symm.trans h0_) (by decide), fun h0_ => absurd ((hoff 13 (by kernel_rfl)).symm.trans h0_) (by decide), fun h0_ => absurd ((hoff 13 (by kernel_rfl)).symm.trans h0_) (by decide), Q_X10_, fun h0_ => absurd ((hoff 11 (by kernel_rfl)).symm.trans h0_) (by decide)⟩
            refine steps_cons ?_ ?_
            · rintro b a w' ⟨W5, A6, n6, c6, m10_, m11_, ha, Q_WB, Q_C1, Q_A15, Q_B15, Q_B16, Q_R16, Q_G16, Q_B18, Q_R18, Q_G18, Q_X10_, Q_X11_⟩ hb_ hon hoff
              refine ⟨_, rfl, fun K hK => ?_⟩
              have e107 : a.tmps[107]? = some (.pointer (some ⟨gd, 1, none⟩)) := by rw [ha]; exact (putSel_off rfl).trans rfl
              replace ha := Aside0.mk ha
              have WB := Aside0.mk (Q_WB (hoff 10 (by kernel_rfl)))
              have C1 := Aside0.mk (Q_C1 (hoff 11 (by kernel_rfl)))
              have hc_ := pw_cell_below WB.out D1.out
              refine value_ (w1 := w') (v := .slice (some ab) bs.length cb) (by rfl) rfl ?_ ?_
              · go_simp
                (try simp only [i64_w])
                try rfl
              refine hK.out _ _ ⟨W5, A6, n6, c6, m10_, m11_, (by rw [ha.out]; exact putSel_upk 1 hb_ rfl rfl rfl), Q_WB, Q_C1, fun h0_ _ => absurd ((hoff 10 (by kernel_rfl)).symm.trans h0_) (by decide), fun h0_ => absurd ((hoff 10 (by kernel_rfl)).symm.trans h0_) (by decide), fun h0_ _ => absurd ((hoff 11 (by kernel_rfl)).symm.trans h0_) (by decide), fun h0_ _ => absurd ((hoff 11 (by kernel_rfl)).symm.trans h0_) (by decide), fun h0_ _ => absurd ((hoff 11 (by kernel_rfl)).symm.trans h0_) (by decide), fun h0_ => absurd ((hoff 13 (by kernel_rfl)).symm.trans h0_) (by decide), fun h0_ => absurd ((hoff 13 (by kernel_rfl)).symm.trans h0_) (by decide), fun h0_ => absurd ((hoff 13 (by kernel_rfl)).symm.trans h0_) (by decide), fun h0_ => absurd ((hoff 10 (by kernel_rfl)).symm.trans h0_) (by decide), fun h0_ => absurd ((hoff 11 (by kernel_rfl)).symm.trans h0_) (by decide)⟩
            refine steps_cons ?_ ?_
            · rintro b a w' ⟨W5, A6, n6, c6, m10_, m11_, ha, Q_WB, Q_C1, Q_A15, Q_B15, Q_B16, Q_R16, Q_G16, Q_B18, Q_R18, Q_G18, Q_X10_, Q_X11_⟩ hb_ hon hoff
              refine ⟨_, rfl, fun K hK => ?_⟩
              have e109 : a.tmps[109]? = some (.slice (some an) own.length cn) := by rw [ha]; exact (putSel_off rfl).trans rfl
              have e110 : a.tmps[110]? = some (.int .i64 xi) := by rw [ha]; exact (putSel_off rfl).trans rfl
              replace ha := Aside0.mk ha
              have WB := Aside0.mk (Q_WB (hoff 10 (by kernel_rfl)))
              have C1 := Aside0.mk (Q_C1 (hoff 11 (by kernel_rfl)))
              have i0_ := I0.out
              have i1_ := I1.out
              have i2_ := I2.out
              have i3_ := I3.out
              refine value_ (w1 := w') (v := .pointer (some (an.add xi.toNat))) (by rfl) rfl ?_ ?_
              · go_simp
                (try simp only [i64_w])
                try rfl
              refine hK.out _ _ ⟨W5, A6, n6, c6, m10_, m11_, (by rw [ha.out]; exact putSel_upk 2 hb_ rfl rfl rfl), Q_WB, Q_C1, fun h0_ _ => absurd ((hoff 10 (by kernel_rfl)).symm.trans h0_) (by decide), fun h0_ => absurd ((hoff 10 (by kernel_rfl)).symm.trans h0_) (by decide), fun h0_ _ => absurd ((hoff 11 (by kernel_rfl)).symm.trans h0_) (by decide), fun h0_ _ => absurd ((hoff 11 (by kernel_rfl)).symm.trans h0_) (by decide), fun h0_ _ => absurd ((hoff 11 (by kernel_rfl)).symm.trans h0_) (by decide), fun h0_ => absurd ((hoff 13 (by kernel_rfl)).symm.trans h0_) (by decide), fun h0_ => absurd ((hoff 13 (by kernel_rfl)).symm.trans h0_) (by decide), fun h0_ => absurd ((hoff 13 (by kernel_rfl)).symm.trans h0_) (by decide), fun h0_ => absurd ((hoff 10 (by kernel_rfl)).symm.trans h0_) (by decide), fun h0_ => absurd ((hoff 11 (by kernel_rfl)).symm.trans h0_) (by decide)⟩
            refine steps_cons ?_ ?_
            · rintro b a w' ⟨W5, A6, n6, c6, m10_, m11_, ha, Q_WB, Q_C1, Q_A15, Q_B15, Q_B16, Q_R16, Q_G16, Q_B18, Q_R18, Q_G18, Q_X10_, Q_X11_⟩ hb_ hon hoff
              refine ⟨_, rfl, fun K hK => ?_⟩
              have e111 : a.tmps[111]? = some (.pointer (some (an.add xi.toNat))) := by rw [ha]; exact putSel_on (e := (6, 111, .pointer (some (an.add xi.toNat)))) 2 rfl rfl (hon 6 (by kernel_rfl)) rfl
              replace ha := Aside0.mk ha
              have WB := Aside0.mk (Q_WB (hoff 10 (by kernel_rfl)))
              have C1 := Aside0.mk (Q_C1 (hoff 11 (by kernel_rfl)))
              have hc_ := pw_cell_below WB.out N1.out
              refine value_ (w1 := w') (v := .int .i64 y) (by rfl) rfl ?_ ?_
              · go_simp
                (try simp only [i64_w])
                try rfl
              refine hK.out _ _ ⟨W5, A6, n6, c6, m10_, m11_, (by rw [ha.out]; exact putSel_upk 3 hb_ rfl rfl rfl), Q_WB, Q_C1, fun h0_ _ => absurd ((hoff 10 (by kernel_rfl)).symm.trans h0_) (by decide), fun h0_ => absurd ((hoff 10 (by kernel_rfl)).symm.trans h0_) (by decide), fun h0_ _ => absurd ((hoff 11 (by kernel_rfl)).symm.trans h0_) (by decide), fun h0_ _ => absurd ((hoff 11 (by kernel_rfl)).symm.trans h0_) (by decide), fun h0_ _ => absurd ((hoff 11 (by kernel_rfl)).symm.trans h0_) (by decide), fun h0_ => absurd ((hoff 13 (by kernel_rfl)).symm.trans h0_) (by decide), fun h0_ => absurd ((hoff 13 (by kernel_rfl)).symm.trans h0_) (by decide), fun h0_ => absurd ((hoff 13 (by kernel_rfl)).symm.trans h0_) (by decide), fun h0_ => absurd ((hoff 10 (by kernel_rfl)).symm.trans h0_) (by decide), fun h0_ => absurd ((hoff 11 (by kernel_rfl)).symm.trans h0_) (by decide)⟩
            refine steps_cons ?_ ?_
            · rintro b a w' ⟨W5, A6, n6, c6, m10_, m11_, ha, Q_WB, Q_C1, Q_A15, Q_B15, Q_B16, Q_R16, Q_G16, Q_B18, Q_R18, Q_G18, Q_X10_, Q_X11_⟩ hb_ hon hoff
              refine ⟨_, rfl, fun K hK => ?_⟩
              have e108 : a.tmps[108]? = some (.slice (some ab) bs.length cb) := by rw [ha]; exact putSel_on (e := (3, 108, .slice (some ab) bs.length cb)) 1 rfl rfl (hon 3 (by kernel_rfl)) rfl
              have e112 : a.tmps[112]? = some (.int .i64 y) := by rw [ha]; exact putSel_on (e := (7, 112, .int .i64 y)) 3 rfl rfl (hon 7 (by kernel_rfl)) rfl
              replace ha := Aside0.mk ha
              have WB := Aside0.mk (Q_WB (hoff 10 (by kernel_rfl)))
              have C1 := Aside0.mk (Q_C1 (hoff 11 (by kernel_rfl)))
              have j0_ := J0.out
              have j1_ := J1.out
              have j2_ := J2.out
              have j3_ := J3.out
              refine value_ (w1 := w') (v := .pointer (some (ab.add (y.toNat * 3)))) (by rfl) rfl ?_ ?_
              · go_simp
                (try simp only [i64_w])
                try rfl
              refine hK.out _ _ ⟨W5, A6, n6, c6, m10_, m11_, (by rw [ha.out]; exact putSel_upk 4 hb_ rfl rfl rfl), Q_WB, Q_C1, fun h0_ _ => absurd ((hoff 10 (by kernel_rfl)).symm.trans h0_) (by decide), fun h0_ => absurd ((hoff 10 (by kernel_rfl)).symm.trans h0_) (by decide), fun h0_ _ => absurd ((hoff 11 (by kernel_rfl)).symm.trans h0_) (by decide), fun h0_ _ => absurd ((hoff 11 (by kernel_rfl)).symm.trans h0_) (by decide), fun h0_ _ => absurd ((hoff 11 (by kernel_rfl)).symm.trans h0_) (by decide), fun h0_ => absurd ((hoff 13 (by kernel_rfl)).symm.trans h0_) (by decide), fun h0_ => absurd ((hoff 13 (by kernel_rfl)).symm.trans h0_) (by decide), fun h0_ => absurd ((hoff 13 (by kernel_rfl)).symm.trans h0_) (by decide), fun h0_ => absurd ((hoff 10 (by kernel_rfl)).symm.trans h0_) (by decide), fun h0_ => absurd ((hoff 11 (by kernel_rfl)).symm.trans h0_) (by decide)⟩
            refine steps_cons ?_ ?_
            · rintro b a w' ⟨W5, A6, n6, c6, m10_, m11_, ha, Q_WB, Q_C1, Q_A15, Q_B15, Q_B16, Q_R16, Q_G16, Q_B18, Q_R18, Q_G18, Q_X10_, Q_X11_⟩ hb_ hon hoff
              refine ⟨_, rfl, fun K hK => ?_⟩
              have e113 : a.tmps[113]? = some (.pointer (some (ab.add (y.toNat * 3)))) := by rw [ha]; exact putSel_on (e := (8, 113, .pointer (some (ab.add (y.toNat * 3))))) 4 rfl rfl (hon 8 (by kernel_rfl)) rfl
              replace ha := Aside0.mk ha
              have WB := Aside0.mk (Q_WB (hoff 10 (by kernel_rfl)))
              have C1 := Aside0.mk (Q_C1 (hoff 11 (by kernel_rfl)))
              have hd0_ := pw_cell_below WB.out Y0.out
              have hd1_ := pw_cell_below WB.out Y1.out
              have hd2_ := pw_cell_below WB.out Y2.out
              refine value_ (w1 := w') (v := .agg #[.int .i64 f0, .int .i64 f1, .int .i64 f2]) (by rfl) rfl ?_ ?_
              · go_simp
                (try simp only [i64_w])
                try rfl
              refine hK.out _ _ ⟨W5, A6, n6, c6, m10_, m11_, (by rw [ha.out]; exact putSel_upk 5 hb_ rfl rfl rfl), Q_WB, Q_C1, fun h0_ _ => absurd ((hoff 10 (by kernel_rfl)).symm.trans h0_) (by decide), fun h0_ => absurd ((hoff 10 (by kernel_rfl)).symm.trans h0_) (by decide), fun h0_ _ => absurd ((hoff 11 (by kernel_rfl)).symm.trans h0_) (by decide), fun h0_ _ => absurd ((hoff 11 (by kernel_rfl)).symm.trans h0_) (by decide), fun h0_ _ => absurd ((hoff 11 (by kernel_rfl)).symm.trans h0_) (by decide), fun h0_ => absurd ((hoff 13 (by kernel_rfl)).symm.trans h0_) (by decide), fun h0_ => absurd ((hoff 13 (by kernel_rfl)).symm.trans h0_) (by decide), fun h0_ => absurd ((hoff 13 (by kernel_rfl)).symm.trans h0_) (by decide), fun h0_ => absurd ((hoff 10 (by kernel_rfl)).symm.trans h0_) (by decide), fun h0_ => absurd ((hoff 11 (by kernel_rfl)).symm.trans h0_) (by decide)⟩
            refine steps_cons ?_ ?_
            · rintro b a w' ⟨W5, A6, n6, c6, m10_, m11_, ha, Q_WB, Q_C1, Q_A15, Q_B15, Q_B16, Q_R16, Q_G16, Q_B18, Q_R18, Q_G18, Q_X10_, Q_X11_⟩ hb_ hon hoff
              refine ⟨_, rfl, fun K hK => ?_⟩
              have e114 : a.tmps[114]? = some (.agg #[.int .i64 f0, .int .i64 f1, .int .i64 f2]) := by rw [ha]; exact putSel_on (e := (9, 114, .agg #[.int .i64 f0, .int .i64 f1, .int .i64 f2])) 5 rfl rfl (hon 9 (by kernel_rfl)) rfl
              replace ha := Aside0.mk ha
              have WB := Aside0.mk (Q_WB hb_)
              have C1 := Aside0.mk (Q_C1 (hoff 11 (by kernel_rfl)))
              refine value_ (w1 := w'.alloc (.cells #[.int .i64 f0, .int .i64 f1, .int .i64 f2] 39)) (v := .slice (some ⟨w'.heap.size, 0, none⟩) 1 1) (by rfl) rfl ?_ ?_
              · first | (go_simp; done) | (go_simp; rfl) | (go_simp; constructor <;> rfl)
              refine hK.out _ _ ⟨w', A6, n6, c6, (.slice (some ⟨w'.heap.size, 0, none⟩) 1 1), m11_, (by rw [ha.out]; exact putSel_upk 6 hb_ rfl rfl rfl), fun h0_ => absurd ((up_self b 10).symm.trans h0_) (by decide), fun _ => pw_cell_below (below_alloc (Below.refl _ _) _) C1.out, fun _ _ => rfl, fun _ => WB.out, fun h0_ _ => absurd ((hoff 11 (by kernel_rfl)).symm.trans h0_) (by decide), fun h0_ _ => absurd ((hoff 11 (by kernel_rfl)).symm.trans h0_) (by decide), fun h0_ _ => absurd ((hoff 11 (by kernel_rfl)).symm.trans h0_) (by decide), fun h0_ => absurd ((hoff 13 (by kernel_rfl)).symm.trans h0_) (by decide), fun h0_ => absurd ((hoff 13 (by kernel_rfl)).symm.trans h0_) (by decide), fun h0_ => absurd ((hoff 13 (by kernel_rfl)).symm.trans h0_) (by decide), fun _ => rfl, fun h0_ => absurd ((hoff 11 (by kernel_rfl)).symm.trans h0_) (by decide)⟩
            refine steps_cons ?_ ?_
            · rintro b a w' ⟨W5, A6, n6, c6, m10_, m11_, ha, Q_WB, Q_C1, Q_A15, Q_B15, Q_B16, Q_R16, Q_G16, Q_B18, Q_R18, Q_G18, Q_X10_, Q_X11_⟩ hb_ hon hoff
              refine ⟨_, rfl, fun K hK => ?_⟩
              have e106 : a.tmps[106]? = some (v) := by rw [ha]; exact putSel_on (e := (1, 106, v)) 0 rfl rfl (hon 1 (by kernel_rfl)) rfl
              have e115 : a.tmps[115]? = some (m10_) := by rw [ha]; exact putSel_on (e := (10, 115, m10_)) 6 rfl rfl (hon 10 (by kernel_rfl)) rfl
              rw [Q_X10_ (hon 10 (by kernel_rfl))] at e115
              replace ha := Aside0.mk ha
              have C1 := Aside0.mk (Q_C1 hb_)
              have A15 := Aside0.mk (Q_A15 (hon 10 (by kernel_rfl)) hb_)
              have B15 := Aside0.mk (Q_B15 (hon 10 (by kernel_rfl)))
              have hw_ := A15.out
              subst hw_
              refine Kd.R_append_step k39 (w0 := wk) wk.heap.size (by rfl) (.tmp 106) (.tmp 115) 24 39 (.agg #[(.int .i64 0), (.int .i64 0), (.int .i64 0)]) 24 rfl Tryd.underlying24 info39 rfl (by decide) (by omega) v (fewOf bs (own.take i)) (⟨f0, f1, f2⟩ : S39) [.int .i64 f0, .int .i64 f1, .int .i64 f2] (fun _ => True) (fun _ => False) (by simp only [Act.eval, Array.getD_eq_getD_getElem?, e106, Option.getD_some]) (by simp only [Act.eval, Array.getD_eq_getD_getElem?, e115, Option.getD_some]) (k39_mkM _ _ _ (⟨f0, f1, f2⟩ : S39)) (fun _ hk => hk.elim) (fun _ _ => trivial) (Kd.R_below KR.out B15.out) (below_step KB.out B15.out) (below_size (below_step KB.out B15.out)) LEN.out ?_
              intro v6' w5 ho hb hg hat
              obtain ⟨A6', c6', e6_⟩ := Kd.R_slice ho
              subst e6_
              refine hK.out _ _ ⟨W5, A6', (fewOf bs (own.take i) ++ [(⟨f0, f1, f2⟩ : S39)]).length, c6', m10_, (.slice A6' (fewOf bs (own.take i) ++ [(⟨f0, f1, f2⟩ : S39)]).length c6'), (by rw [ha.out]; exact putSel_upk 7 hb_ rfl rfl rfl), fun h0_ => absurd ((hon 10 (by kernel_rfl)).symm.trans h0_) (by decide), fun h0_ => absurd ((up_self b 11).symm.trans h0_) (by decide), fun _ h1_ => absurd ((up_self b 11).symm.trans h1_) (by decide), Q_B15, fun _ _ => hb, fun _ _ => ho, fun _ _ => blk_grown (blk_below KG.out B15.out) hg (Kd.R_ne (Kd.R_below KR.out B15.out) (blk_below KG.out B15.out) (by decide)), fun h0_ => absurd ((hoff 13 (by kernel_rfl)).symm.trans h0_) (by decide), fun h0_ => absurd ((hoff 13 (by kernel_rfl)).symm.trans h0_) (by decide), fun h0_ => absurd ((hoff 13 (by kernel_rfl)).symm.trans h0_) (by decide), Q_X10_, fun _ => rfl⟩
            refine steps_cons ?_ ?_
            · rintro b a w' ⟨W5, A6, n6, c6, m10_, m11_, ha, Q_WB, Q_C1, Q_A15, Q_B15, Q_B16, Q_R16, Q_G16, Q_B18, Q_R18, Q_G18, Q_X10_, Q_X11_⟩ hb_ hon hoff
              refine ⟨_, rfl, fun K hK => ?_⟩
              have e14 : a.tmps[14]? = some (.pointer (some ⟨gf, 0, none⟩)) := by rw [ha]; exact (putSel_off rfl).trans rfl
              replace ha := Aside0.mk ha
              have B15 := Aside0.mk (Q_B15 (hon 10 (by kernel_rfl)))
              have B16 := Aside0.mk (Q_B16 (hon 11 (by kernel_rfl)) (hoff 13 (by kernel_rfl)))
              have R16 := Aside0.mk (Q_R16 (hon 11 (by kernel_rfl)) (hoff 13 (by kernel_rfl)))
              have G16 := Aside0.mk (Q_G16 (hon 11 (by kernel_rfl)) (hoff 13 (by kernel_rfl)))
              refine value_ (w1 := w') (v := .pointer (some ⟨gf, 1, none⟩)) (by rfl) rfl ?_ ?_
              · go_simp
                (try simp only [i64_w])
                try rfl
              refine hK.out _ _ ⟨W5, A6, n6, c6, m10_, m11_, (by rw [ha.out]; exact putSel_upk 8 hb_ rfl rfl rfl), fun h0_ => absurd ((hon 10 (by kernel_rfl)).symm.trans h0_) (by decide), fun h0_ => absurd ((hon 11 (by kernel_rfl)).symm.trans h0_) (by decide), fun _ h1_ => absurd ((hon 11 (by kernel_rfl)).symm.trans h1_) (by decide), Q_B15, Q_B16, Q_R16, Q_G16, fun h0_ => absurd ((hoff 13 (by kernel_rfl)).symm.trans h0_) (by decide), fun h0_ => absurd ((hoff 13 (by kernel_rfl)).symm.trans h0_) (by decide), fun h0_ => absurd ((hoff 13 (by kernel_rfl)).symm.trans h0_) (by decide), Q_X10_, Q_X11_⟩
            refine steps_cons ?_ ?_
            · rintro b a w' ⟨W5, A6, n6, c6, m10_, m11_, ha, Q_WB, Q_C1, Q_A15, Q_B15, Q_B16, Q_R16, Q_G16, Q_B18, Q_R18, Q_G18, Q_X10_, Q_X11_⟩ hb_ hon hoff
              refine ⟨_, rfl, fun K hK => ?_⟩
              have e117 : a.tmps[117]? = some (.pointer (some ⟨gf, 1, none⟩)) := by rw [ha]; exact putSel_on (e := (12, 117, .pointer (some ⟨gf, 1, none⟩))) 8 rfl rfl (hon 12 (by kernel_rfl)) rfl
              have e116 : a.tmps[116]? = some (m11_) := by rw [ha]; exact putSel_on (e := (11, 116, m11_)) 7 rfl rfl (hon 11 (by kernel_rfl)) rfl
              rw [Q_X11_ (hon 11 (by kernel_rfl))] at e116
              replace ha := Aside0.mk ha
              have B15 := Aside0.mk (Q_B15 (hon 10 (by kernel_rfl)))
              have B16 := Aside0.mk (Q_B16 (hon 11 (by kernel_rfl)) hb_)
              have R16 := Aside0.mk (Q_R16 (hon 11 (by kernel_rfl)) hb_)
              have G16 := Aside0.mk (Q_G16 (hon 11 (by kernel_rfl)) hb_)
              have hz_ := blk_cell G16.out 1
              have hf_ := blk_frozen G16.out 1
              refine skip_ (w1 := w'.setCell ⟨gf, 1, none⟩ (.slice A6 n6 c6)) (by rfl) rfl ?_ ?_
              · go_simp
              refine hK.out _ _ ⟨W5, A6, n6, c6, m10_, m11_, (by rw [ha.out]; exact putSel_none (v := undef) rfl), fun h0_ => absurd ((hon 10 (by kernel_rfl)).symm.trans h0_) (by decide), fun h0_ => absurd ((hon 11 (by kernel_rfl)).symm.trans h0_) (by decide), fun _ h1_ => absurd ((hon 11 (by kernel_rfl)).symm.trans h1_) (by decide), Q_B15, fun _ h1_ => absurd ((up_self b 13).symm.trans h1_) (by decide), fun _ h1_ => absurd ((up_self b 13).symm.trans h1_) (by decide), fun _ h1_ => absurd ((up_self b 13).symm.trans h1_) (by decide), fun _ => below_set B16.out HGP.out, fun _ => Kd.R_set R16.out G16.out (by intro q hq; have hq : q ∈ [39] := hq; simp at hq; omega) 1 (.slice A6 n6 c6), fun _ => blk_put G16.out 1 (.slice A6 n6 c6) rfl, Q_X10_, Q_X11_⟩
            exact steps_nil
          rintro b a w9z hall ⟨W5, A6, n6, c6, m10_, m11_, ha, Q_WB, Q_C1, Q_A15, Q_B15, Q_B16, Q_R16, Q_G16, Q_B18, Q_R18, Q_G18, Q_X10_, Q_X11_⟩
          clear C1 WB
          have hb1_ := hall 1 (by kernel_rfl)
          have hb3_ := hall 3 (by kernel_rfl)
          have hb6_ := hall 6 (by kernel_rfl)
          have hb7_ := hall 7 (by kernel_rfl)
          have hb8_ := hall 8 (by kernel_rfl)
          have hb9_ := hall 9 (by kernel_rfl)
          have hb10_ := hall 10 (by kernel_rfl)
          have hb11_ := hall 11 (by kernel_rfl)
          have hb12_ := hall 12 (by kernel_rfl)
          have hb13_ := hall 13 (by kernel_rfl)
          subst ha
          obtain rfl := Q_X10_ hb10_
          obtain rfl := Q_X11_ hb11_
          simp only [putSel, hb1_, hb3_, hb6_, hb7_, hb8_, hb9_, hb10_, hb11_, hb12_, hb13_, if_true, Act.put, List.setIfInBounds_toArray, List.set_cons_zero, List.set_cons_succ]
          clear Q_WB
          clear Q_C1
          clear Q_A15
          have B15 := Aside0.mk (Q_B15 hb10_)
          clear Q_B15
          clear Q_B16
          clear Q_R16
          clear Q_G16
          have B18 := Aside0.mk (Q_B18 hb13_)
          clear Q_B18
          have R18 := Aside0.mk (Q_R18 hb13_)
          clear Q_R18
          have G18 := Aside0.mk (Q_G18 hb13_)
          clear Q_G18
          clear hall hb1_ hb3_ hb6_ hb7_ hb8_ hb9_ hb10_ hb11_ hb12_ hb13_
          go_wp2
          go_roundg (own.length - i)
          case' measure => have := HI.out; have := HI2.out; omega
          case' rel => exact ⟨i + 1, .slice A6 n6 c6, by rw [HIX.out]; have := HI2.out; have := HZ.out.2; rw [show wrap64 ((i : Int) + 1) = ((i + 1 : Nat) : Int) by unfold wrap64; omega], ⟨by have := HI.out; have := HI2.out; omega⟩, G18, ⟨by rw [HROW.out]; exact R18.out⟩, B18⟩
        · obtain rfl : i = own.length := by have := HI.out; omega
          have hr := KR1.out
          rw [List.take_length] at hr
          obtain ⟨few, hfew⟩ : ∃ z, z = fewOf bs own := ⟨_, rfl⟩
          have hfl : few.length = own.length := by rw [hfew]; simp [fewOf]
          have hg_ := HG_.out
          have hrl := HRL.out
          rw [← hfew] at hr hg_ hrl
          rw [← hfl] at hrl
          have HFL : Aside0 (few.length ≤ 50) := ⟨by have := HZ.out.2; omega⟩
          have HGG := Aside0.mk hg_
          have HRR := Aside0.mk hrl
          clear HG_ HRL hg_ hrl hfl hfew HI KR1 HGP
          obtain ⟨Af, cf, ev_⟩ := Kd.R_slice hr
          subst ev_
          have PF := Aside0.mk (Kd.R_reads' hr).2.2
          have QF := Aside0.mk (Kd.R_reads' hr).2.1
          clear hr
          have tj : decide (((own.length : Nat) : Int) < (own.length : Int)) = false := decide_eq_false (by omega)
          have g0 := blk_cell KG1.out 0
          have g1 := blk_cell KG1.out 1
          go_wp2_with (fail)
          refine (impl_TightestBounds.calls (hr0_1 := PF.out) (hc0_1 := QF.out) (h := HGG.out)).mono ?_
          rintro e w11 ⟨v1_, rfl, hs1, hb⟩; obtain ⟨At, ct, rfl⟩ := Kd.S_slice hs1; have PT := Aside0.mk (Kd.S_reads' hs1).2.2; have QT := Aside0.mk (Kd.S_reads' hs1).2.1; clear hs1 g0 g1 tj
          replace PF := Aside0.mk (Kd.C_below PF.out hb)
          replace KG1 := Aside0.mk (blk_below KG1.out hb)
          replace KB1 := Aside0.mk (below_step KB1.out hb)
          clear hb
          go_wp2_with (fail)
          refine (laws_r8Rows.calls (hr0 := PT.out) (hc0 := QT.out) (hr1 := Kd.C_below PA.out KB1.out) (hc1 := QA.out) (h := HE_.out)).mono ?_
          rintro e wm ⟨rfl, hd⟩
          have hb := drawn_below hd
          clear hd
          replace PF := Aside0.mk (Kd.C_below PF.out hb)
          replace KG1 := Aside0.mk (blk_below KG1.out hb)
          replace KB1 := Aside0.mk (below_step KB1.out hb)
          replace PB := Aside0.mk (Kd.C_below PB.out KB1.out)
          replace HX := Aside0.mk (blk_below HX.out KB1.out)
          replace HB := Aside0.mk (below_step HB.out KB1.out)
          clear hb PN QN PA QA PT QT KB1 HE_ HZ HGD
          go_wp2_with (fail)
          go_loopg [18] (few.length + 1) (fun kq s18 w' => ∃ (i : Nat), s18 = .int .i64 (i : Int) ∧ Aside0 (i ≤ few.length ∧ i + kq = few.length + 1) ∧ Aside0 (Below wm.heap.size wm w') ∧ Aside0 (restLoop k n' few (few.length - i) i = some rl))
          case' atStart => exact ⟨0, rfl, ⟨by omega, by omega⟩, ⟨Below.refl _ _⟩, HRR⟩
          case' round =>
            clear HRR
            obtain ⟨i, rfl, HI, KM, HRR⟩ := hrel
            have FB := Aside0.mk (blk_below KG1.out KM.out)
            have PF1 := Aside0.mk (Kd.C_below PF.out KM.out)
            have g0 := blk_cell FB.out 0
            have g1 := blk_cell FB.out 1
            by_cases hi : i < few.length
            · obtain ⟨xi, hxi⟩ : ∃ z : Int, z = (i : Int) := ⟨_, rfl⟩
              have tj : decide (xi < (few.length : Int)) = true := decide_eq_true (by omega)
              have p1 := eq_true (show xi < (few.length : Int) by omega)
              have HXI := Aside0.mk hxi
              have HI2 := Aside0.mk hi
              have DB := Aside0.mk (blk_below HX.out KM.out)
              have d0 := blk_cell DB.out 0
              have d1 := blk_cell DB.out 1
              rw [← hxi]
              clear hxi hi
              go_wp2_with ((with_reducible refine gate_dst (N := 140) rfl ?_); refine Kd.R_lit k39 _ 39 ?hg (N := 140) ?hd (xs := ([] : List S39)) (inner := []) (ok := fun _ => True) (okp := fun _ => True) ?hr ?hp (fun _ hk => hk) trivial (Below.refl _ _) (Nat.le_refl _) (by simp) ?_; (case hd => rfl); (case hg => rfl); (case hr => first | (go_simp; done) | (go_simp; rfl)); (case hp => exact (Reps.none _ _)); intro v18 w9 ho hb hg_ hnew_; clear hg_ hnew_; obtain ⟨A9, c9, e9⟩ := Kd.R_slice ho; subst e9; have KR := Aside0.mk ho; have KB := Aside0.mk hb; clear ho hb)
              clear g0 g1 d0 d1 tj
              obtain ⟨gr, hgr⟩ : ∃ z, w9.heap.size = z := ⟨_, rfl⟩
              have KG : Aside0 ((w9.alloc (.cells #[.int .i64 n', .slice A9 0 c9] 26)).heap[gr]? = some (.cells #[.int .i64 n', .slice A9 0 c9] 26 (0, 0))) := ⟨by rw [← hgr]; exact blk_new w9 _⟩
              have HGP : Aside0 (wr.heap.size ≤ gr) := ⟨by rw [← hgr]; exact below_size KB.out⟩
              replace KR := Aside0.mk (Kd.R_below KR.out (below_alloc (Below.refl _ _) (.cells #[.int .i64 n', .slice A9 0 c9] 26)))
              replace KB := Aside0.mk (below_alloc KB.out (.cells #[.int .i64 n', .slice A9 0 c9] 26))
              rw [hgr]
              generalize w9.alloc (.cells #[.int .i64 n', .slice A9 0 c9] 26) = w10 at KG KR KB ⊢
              clear hgr p1
              obtain ⟨wo, rfl⟩ : ∃ z : World, z = wr := ⟨_, rfl⟩
              go_loopg [20] (few.length + 1) (fun kq s20 w' => ∃ (j : Nat) (v : Value), s20 = .int .i64 (j : Int) ∧ Aside0 (j ≤ few.length ∧ j + kq = few.length + 1) ∧ Aside0 (w'.heap[gr]? = some (.cells #[.int .i64 n', v] 26 (0, 0))) ∧ Aside0 (Kd.R k39 39 w' wo.heap.size (fun _ => True) v ((few.take j).eraseIdx i)) ∧ Aside0 (Below wo.heap.size wo w'))
              case' atStart => exact ⟨0, .slice A9 0 c9, rfl, ⟨by omega, by omega⟩, KG, ⟨by simpa using KR.out⟩, KB⟩
              case' round =>
                obtain ⟨j, v, rfl, HJ, KG2, KR2, KB2⟩ := hrel
                clear KG KR KB
                have FB2 := Aside0.mk (blk_below FB.out KB2.out)
                have g0 := blk_cell FB2.out 0
                have g1 := blk_cell FB2.out 1
                by_cases hj : j < few.length
                · obtain ⟨xj, hxj⟩ : ∃ z : Int, z = (j : Int) := ⟨_, rfl⟩
                  have tj : decide (xj < (few.length : Int)) = true := decide_eq_true (by omega)
                  have HXJ := Aside0.mk hxj
                  have HJ2 := Aside0.mk hj
                  have hiw : wrap64 (xj + 1) = ((j + 1 : Nat) : Int) := by have := HFL.out; rw [hxj]; unfold wrap64; omega
                  have HIW := Aside0.mk hiw
                  clear hiw
                  by_cases hji : j = i
                  · have he : (xj != xi) = false := bne_eq_false_iff_eq.mpr (by rw [hxj, HXI.out, hji])
                    have he2 : (xj == xi) = true := beq_iff_eq.mpr (by rw [hxj, HXI.out, hji])
                    have HS : Aside0 ((few.take (j + 1)).eraseIdx i = (few.take j).eraseIdx i) := ⟨by
                      rw [hji, List.take_succ_eq_append_getElem (by omega), List.eraseIdx_append_of_length_le (by rw [List.length_take]; omega), List.length_take, Nat.min_eq_left (by omega), Nat.sub_self, List.eraseIdx_of_length_le (l := List.take i few) (by rw [List.length_take]; omega)]
                      simp⟩
                    rw [← hxj]
                    clear hxj hj hji
                    go_wp2
                    go_roundg (few.length - j)
                    case' measure => have := HJ.out; have := HJ2.out; omega
                    case' rel => exact ⟨j + 1, v, by rw [HIW.out], ⟨by have := HJ.out; have := HJ2.out; omega⟩, KG2, ⟨by rw [HS.out]; exact KR2.out⟩, KB2⟩
                  · have he : (xj != xi) = true := bne_iff_ne.mpr (by rw [hxj, HXI.out]; omega)
                    have he2 : (xj == xi) = false := beq_eq_false_iff_ne.mpr (by rw [hxj, HXI.out]; omega)
                    obtain ⟨af, ea, y0, y1, y2⟩ := at_T39 (Kd.C_below PF1.out KB2.out) xj (by omega) (by omega)
                    subst ea
                    obtain ⟨⟨f0, f1, f2⟩, hb3⟩ : ∃ z : S39, z = rd_T39 few xj := ⟨_, rfl⟩
                    rw [← hb3] at y0 y1 y2
                    dsimp only at y0 y1 y2
                    have hget : few[j] = ⟨f0, f1, f2⟩ := by rw [hb3, hxj]; unfold rd_T39; rw [List.getD_eq_getElem?_getD, Int.toNat_natCast, List.getElem?_eq_getElem hj]; rfl
                    have HROW : Aside0 ((few.take (j + 1)).eraseIdx i = (few.take j).eraseIdx i ++ [⟨f0, f1, f2⟩]) := ⟨by
                      rw [List.take_succ_eq_append_getElem hj, hget]
                      rcases Nat.lt_or_ge i j with h_ | h_
                      · rw [List.eraseIdx_append_of_lt_length (by rw [List.length_take]; omega)]
                      · rw [List.eraseIdx_of_length_le (by rw [List.length_append, List.length_take, List.length_singleton]; omega), List.eraseIdx_of_length_le (by rw [List.length_take]; omega)]⟩
                    have I0 : Aside0 ((0 ≤ xj) = True) := ⟨eq_true (by omega)⟩
                    have I1 : Aside0 ((xj < (few.length : Int)) = True) := ⟨eq_true (by omega)⟩
                    have I2 : Aside0 ((xj < 0) = False) := ⟨eq_false (by omega)⟩
                    have I3 : Aside0 (((few.length : Int) ≤ xj) = False) := ⟨eq_false (by omega)⟩
                    have LEN : Aside0 ((((few.take j).eraseIdx i).length + 1) * 24 ≤ 140737488355328) := ⟨by have := HFL.out; have := List.length_eraseIdx_le (l := few.take j) (i := i); rw [List.length_take] at this; omega⟩
                    rw [← hxj]
                    clear hxj hj hji hget hb3
                    go_wp2
                    clear tj he he2 g0 g1
                    have KR := Aside0.mk (Kd.R_drew KR2.out)
                    have KB := Aside0.mk (below_drew1 KB2.out)
                    have KG : Aside0 (wr.drew.heap[gr]? = some (.cells #[.int .i64 n', v] 26 (0, 0))) := ⟨KG2.out⟩
                    have C1 : Aside0 (wr.drew.cell? ⟨gr, 1, none⟩ = some v) := ⟨(blk_cell KG.out 1).trans rfl⟩
                    have WB : Aside0 (Below wr.drew.heap.size wr.drew wr.drew) := ⟨Below.refl _ _⟩
                    have D1 : Aside0 (wr.drew.cell? ⟨gf, 1, none⟩ = some (.slice (some af) few.length cf)) := ⟨(blk_cell (blk_drew FB2.out) 1).trans rfl⟩
                    have Y0 : Aside0 (wr.drew.cell? (af.add (xj.toNat * 3)) = _) := ⟨y0⟩
                    have Y1 : Aside0 (wr.drew.cell? _ = _) := ⟨y1⟩
                    have Y2 : Aside0 (wr.drew.cell? _ = _) := ⟨y2⟩
                    clear KR2 KB2 KG2 FB2 y0 y1 y2
                    refine start_ (n := 11) (S := fun w' => True) (ds := []) #[false, false, false, false, false, false, false, false, false, false, false] (by kernel_rfl) rfl rfl trivial (fun hHeld => ?_)
                    refine with_tabW laws_FnNeeded.tab32 laws_FnNeeded.bits32 (fun HT_ HW_ => ?_)
                    generalize wr.drew = wq at KR KB KG C1 WB D1 Y0 Y1 Y2 hHeld ⊢
                    refine pure_ (i := 0) (N := some 152) (v := ?_) (a' := ?_) #[true, false, false, false, false, false, false, false, false, false, false] rfl rfl (any_of HT_.out (by kernel_rfl)) (fun _ _ _ h => h) (Or.inl ⟨by rfl, ?_⟩) ?_ ?_
                    rotate_left
                    · intro w'
                      go_simp
                      with_reducible rfl
                    rotate_left
                    · simp only [Act.put, List.setIfInBounds_toArray, List.set_cons_zero, List.set_cons_succ, i64_w, i32_w]
                      rfl
                    refine pure_ (i := 2) (N := some 154) (v := ?_) (a' := ?_) #[true, false, true, false, false, false, false, false, false, false, false] rfl rfl (any_of HT_.out (by kernel_rfl)) (fun _ _ _ h => h) (Or.inl ⟨by rfl, ?_⟩) ?_ ?_
                    rotate_left
                    · intro w'
                      go_simp
                      with_reducible rfl
                    rotate_left
                    · simp only [Act.put, List.setIfInBounds_toArray, List.set_cons_zero, List.set_cons_succ, i64_w, i32_w]
                      rfl
                    refine pure_ (i := 4) (N := some 156) (v := ?_) (a' := ?_) #[true, false, true, false, true, false, false, false, false, false, false] rfl rfl (any_of HT_.out (by kernel_rfl)) (fun _ _ _ h => h) (Or.inl ⟨by rfl, ?_⟩) ?_ ?_
                    rotate_left
                    · intro w'
                      go_simp
                      with_reducible rfl
                    rotate_left
                    · simp only [Act.put, List.setIfInBounds_toArray, List.set_cons_zero, List.set_cons_succ, i64_w, i32_w]
                      rfl
                    refine inv_at [1, 3, 5, 6, 7, 8, 9, 10] (fun a0_ b a w' => ∃ (W5 : World) (A6 : Option Addr) (n6 : Nat) (c6 : Nat) (m7_ : Value) (m8_ : Value), a = putSel a0_ b [(1, 153, v), (3, 155, .slice (some af) few.length cf), (5, 157, .pointer (some (af.add (xj.toNat * 3)))), (6, 158, .agg #[.int .i64 f0, .int .i64 f1, .int .i64 f2]), (7, 159, m7_), (8, 160, m8_), (9, 161, .pointer (some ⟨gr, 1, none⟩))] ∧ (b 7 = false → Below wq.heap.size wq w') ∧ (b 8 = false → w'.cell? ⟨gr, 1, none⟩ = some v) ∧ (b 7 = true → b 8 = false → w' = W5.alloc (.cells #[.int .i64 f0, .int .i64 f1, .int .i64 f2] 39)) ∧ (b 7 = true → Below wq.heap.size wq W5) ∧ (b 8 = true → b 10 = false → Below wo.heap.size wo w') ∧ (b 8 = true → b 10 = false → Kd.R k39 39 w' wo.heap.size (fun _ => True) (.slice A6 n6 c6) ((few.take j).eraseIdx i ++ [(⟨f0, f1, f2⟩ : S39)])) ∧ (b 8 = true → b 10 = false → w'.heap[gr]? = some (.cells #[.int .i64 n', v] 26 (0, 0))) ∧ (b 10 = true → Below wo.heap.size wo w') ∧ (b 10 = true → Kd.R k39 39 w' wo.heap.size (fun _ => True) (.slice A6 n6 c6) ((few.take j).eraseIdx i ++ [(⟨f0, f1, f2⟩ : S39)])) ∧ (b 10 = true → w'.heap[gr]? = some (.cells #[.int .i64 n', .slice A6 n6 c6] 26 (0, 0))) ∧ (b 7 = true → (m7_ : Value) = .slice (some ⟨W5.heap.size, 0, none⟩) 1 1) ∧ (b 8 = true → (m8_ : Value) = .slice A6 n6 c6)) HT_.out HW_.out (by kernel_rfl) (by kernel_rfl) ?_ ?_ ?_
                    · exact ⟨wq, none, 0, 0, .bool false, .bool false, by simp only [putSel, Bool.false_eq_true, if_false], fun _ => WB.out, fun _ => C1.out, fun h_ => absurd h_ (by decide), fun h_ => absurd h_ (by decide), fun h_ => absurd h_ (by decide), fun h_ => absurd h_ (by decide), fun h_ => absurd h_ (by decide), fun h_ => absurd h_ (by decide), fun h_ => absurd h_ (by decide), fun h_ => absurd h_ (by decide), fun h_ => absurd h_ (by decide), fun h_ => absurd h_ (by decide)⟩
                    · skip
                      clear C1 WB
                      refine steps_cons ?_ ?_
                      · rintro b a w' ⟨W5, A6, n6, c6, m7_, m8_, ha, Q_WB, Q_C1, Q_A15, Q_B15, Q_B16, Q_R16, Q_G16, Q_B18, Q_R18, Q_G18, Q_X7_, Q_X8_⟩ hb_ hon hoff
                        refine ⟨_, rfl, fun K hK => ?_⟩
                        have e152 : a.tmps[152]? = some (.pointer (some ⟨gr, 1, none⟩)) := by rw [ha]; exact (putSel_off rfl).trans rfl
                        replace ha := Aside0.mk ha
                        have C1 := Aside0.mk (Q_C1 (hoff 8 (by kernel_rfl)))
                        have hc_ := C1.out
                        refine value_ (w1 := w') (v := v) (by rfl) rfl ?_ ?_
                        · go_simp
                          (try simp only [i64_w])
                          try rfl
                        refine hK.out _ _ ⟨W5, A6, n6, c6, m7_, m8_, (by rw [ha.out]; exact putSel_upk 0 hb_ rfl rfl rfl), Q_WB, Q_C1, Q_A15, Q_B15, fun h0_ _ => absurd ((hoff 8 (by kernel_rfl)).symm.trans h0_) (by decide), fun h0_ _ => absurd ((hoff 8 (by kernel_rfl)).symm.trans h0_) (by decide), fun h0_ _ => absurd ((hoff 8 (by kernel_rfl)).symm.trans h0_) (by decide), fun h0_ => absurd ((hoff 10 (by kernel_rfl)).symm.trans h0_) (by decide), fun h0_ => absurd ((hoff 10 (by kernel_rfl)).symm.trans h0_) (by decide), fun h0_ => absurd ((hoff 10 (by kernel_rfl)).symm.trans h0_) (by decide), Q_X7_, fun h0_ => absurd ((hoff 8 (by kernel_rfl)).symm.trans h0_) (by decide)⟩
                      refine steps_cons ?_ ?_
                      · rintro b a w' ⟨W5, A6, n6, c6, m7_, m8_, ha, Q_WB, Q_C1, Q_A15, Q_B15, Q_B16, Q_R16, Q_G16, Q_B18, Q_R18, Q_G18, Q_X7_, Q_X8_⟩ hb_ hon hoff
                        refine ⟨_, rfl, fun K hK => ?_⟩
                        have e154 : a.tmps[154]? = some (.pointer (some ⟨gf, 1, none⟩)) := by rw [ha]; exact (putSel_off rfl).trans rfl
                        replace ha := Aside0.mk ha
                        have WB := Aside0.mk (Q_WB (hoff 7 (by kernel_rfl)))
                        have C1 := Aside0.mk (Q_C1 (hoff 8 (by kernel_rfl)))
                        have hc_ := pw_cell_below WB.out D1.out
                        refine value_ (w1 := w') (v := .slice (some af) few.length cf) (by rfl) rfl ?_ ?_
                        · go_simp
                          (try simp only [i64_w])
                          try rfl
                        refine hK.out _ _ ⟨W5, A6, n6, c6, m7_, m8_, (by rw [ha.out]; exact putSel_upk 1 hb_ rfl rfl rfl), Q_WB, Q_C1, fun h0_ _ => absurd ((hoff 7 (by kernel_rfl)).symm.trans h0_) (by decide), fun h0_ => absurd ((hoff 7 (by kernel_rfl)).symm.trans h0_) (by decide), fun h0_ _ => absurd ((hoff 8 (by kernel_rfl)).symm.trans h0_) (by decide), fun h0_ _ => absurd ((hoff 8 (by kernel_rfl)).symm.trans h0_) (by decide), fun h0_ _ => absurd ((hoff 8 (by kernel_rfl)).symm.trans h0_) (by decide), fun h0_ => absurd ((hoff 10 (by kernel_rfl)).symm.trans h0_) (by decide), fun h0_ => absurd ((hoff 10 (by kernel_rfl)).symm.trans h0_) (by decide), fun h0_ => absurd ((hoff 10 (by kernel_rfl)).symm.trans h0_) (by decide), fun h0_ => absurd ((hoff 7 (by kernel_rfl)).symm.trans h0_) (by decide), fun h0_ => absurd ((hoff 8 (by kernel_rfl)).symm.trans h0_) (by decide)⟩
                      refine steps_cons ?_ ?_
                      · rintro b a w' ⟨W5, A6, n6, c6, m7_, m8_, ha, Q_WB, Q_C1, Q_A15, Q_B15, Q_B16, Q_R16, Q_G16, Q_B18, Q_R18, Q_G18, Q_X7_, Q_X8_⟩ hb_ hon hoff
                        refine ⟨_, rfl, fun K hK => ?_⟩
                        have e155 : a.tmps[155]? = some (.slice (some af) few.length cf) := by rw [ha]; exact putSel_on (e := (3, 155, .slice (some af) few.length cf)) 1 rfl rfl (hon 3 (by kernel_rfl)) rfl
                        have e156 : a.tmps[156]? = some (.int .i64 xj) := by rw [ha]; exact (putSel_off rfl).trans rfl
                        replace ha := Aside0.mk ha
                        have WB := Aside0.mk (Q_WB (hoff 7 (by kernel_rfl)))
                        have C1 := Aside0.mk (Q_C1 (hoff 8 (by kernel_rfl)))
                        have i0_ := I0.out
                        have i1_ := I1.out
                        have i2_ := I2.out
                        have i3_ := I3.out
                        refine value_ (w1 := w') (v := .pointer (some (af.add (xj.toNat * 3)))) (by rfl) rfl ?_ ?_
                        · go_simp
                          (try simp only [i64_w])
                          try rfl
                        refine hK.out _ _ ⟨W5, A6, n6, c6, m7_, m8_, (by rw [ha.out]; exact putSel_upk 2 hb_ rfl rfl rfl), Q_WB, Q_C1, fun h0_ _ => absurd ((hoff 7 (by kernel_rfl)).symm.trans h0_) (by decide), fun h0_ => absurd ((hoff 7 (by kernel_rfl)).symm.trans h0_) (by decide), fun h0_ _ => absurd ((hoff 8 (by kernel_rfl)).symm.trans h0_) (by decide), fun h0_ _ => absurd ((hoff 8 (by kernel_rfl)).symm.trans h0_) (by decide), fun h0_ _ => absurd ((hoff 8 (by kernel_rfl)).symm.trans h0_) (by decide), fun h0_ => absurd ((hoff 10 (by kernel_rfl)).symm.trans h0_) (by decide), fun h0_ => absurd ((hoff 10 (by kernel_rfl)).symm.trans h0_) (by decide), fun h0_ => absurd ((hoff 10 (by kernel_rfl)).symm.trans h0_) (by decide), fun h0_ => absurd ((hoff 7 (by kernel_rfl)).symm.trans h0_) (by decide), fun h0_ => absurd ((hoff 8 (by kernel_rfl)).symm.trans h0_) (by decide)⟩
                      refine steps_cons ?_ ?_
                      · rintro b a w' ⟨W5, A6, n6, c6, m7_, m8_, ha, Q_WB, Q_C1, Q_A15, Q_B15, Q_B16, Q_R16, Q_G16, Q_B18, Q_R18, Q_G18, Q_X7_, Q_X8_⟩ hb_ hon hoff
                        refine ⟨_, rfl, fun K hK => ?_⟩
                        have e157 : a.tmps[157]? = some (.pointer (some (af.add (xj.toNat * 3)))) := by rw [ha]; exact putSel_on (e := (5, 157, .pointer (some (af.add (xj.toNat * 3))))) 2 rfl rfl (hon 5 (by kernel_rfl)) rfl
                        replace ha := Aside0.mk ha
                        have WB := Aside0.mk (Q_WB (hoff 7 (by kernel_rfl)))
                        have C1 := Aside0.mk (Q_C1 (hoff 8 (by kernel_rfl)))
                        have hd0_ := pw_cell_below WB.out Y0.out
                        have hd1_ := pw_cell_below WB.out Y1.out
                        have hd2_ := pw_cell_below WB.out Y2.out
                        refine value_ (w1 := w') (v := .agg #[.int .i64 f0, .int .i64 f1, .int .i64 f2]) (by rfl) rfl ?_ ?_
                        · go_simp
                          (try simp only [i64_w])
                          try rfl
                        refine hK.out _ _ ⟨W5, A6, n6, c6, m7_, m8_, (by rw [ha.out]; exact putSel_upk 3 hb_ rfl rfl rfl), Q_WB, Q_C1, fun h0_ _ => absurd ((hoff 7 (by kernel_rfl)).symm.trans h0_) (by decide), fun h0_ => absurd ((hoff 7 (by kernel_rfl)).symm.trans h0_) (by decide), fun h0_ _ => absurd ((hoff 8 (by kernel_rfl)).symm.trans h0_) (by decide), fun h0_ _ => absurd ((hoff 8 (by kernel_rfl)).symm.trans h0_) (by decide), fun h0_ _ => absurd ((hoff 8 (by kernel_rfl)).symm.trans h0_) (by decide), fun h0_ => absurd ((hoff 10 (by kernel_rfl)).symm.trans h0_) (by decide), fun h0_ => absurd ((hoff 10 (by kernel_rfl)).symm.trans h0_) (by decide), fun h0_ => absurd ((hoff 10 (by kernel_rfl)).symm.trans h0_) (by decide), fun h0_ => absurd ((hoff 7 (by kernel_rfl)).symm.trans h0_) (by decide), fun h0_ => absurd ((hoff 8 (by kernel_rfl)).symm.trans h0_) (by decide)⟩
                      refine steps_cons ?_ ?_
                      · rintro b a w' ⟨W5, A6, n6, c6, m7_, m8_, ha, Q_WB, Q_C1, Q_A15, Q_B15, Q_B16, Q_R16, Q_G16, Q_B18, Q_R18, Q_G18, Q_X7_, Q_X8_⟩ hb_ hon hoff
                        refine ⟨_, rfl, fun K hK => ?_⟩
                        have e158 : a.tmps[158]? = some (.agg #[.int .i64 f0, .int .i64 f1, .int .i64 f2]) := by rw [ha]; exact putSel_on (e := (6, 158, .agg #[.int .i64 f0, .int .i64 f1, .int .i64 f2])) 3 rfl rfl (hon 6 (by kernel_rfl)) rfl
                        replace ha := Aside0.mk ha
                        have WB := Aside0.mk (Q_WB hb_)
                        have C1 := Aside0.mk (Q_C1 (hoff 8 (by kernel_rfl)))
                        refine value_ (w1 := w'.alloc (.cells #[.int .i64 f0, .int .i64 f1, .int .i64 f2] 39)) (v := .slice (some ⟨w'.heap.size, 0, none⟩) 1 1) (by rfl) rfl ?_ ?_
                        · first | (go_simp; done) | (go_simp; rfl) | (go_simp; constructor <;> rfl)
                        refine hK.out _ _ ⟨w', A6, n6, c6, (.slice (some ⟨w'.heap.size, 0, none⟩) 1 1), m8_, (by rw [ha.out]; exact putSel_upk 4 hb_ rfl rfl rfl), fun h0_ => absurd ((up_self b 7).symm.trans h0_) (by decide), fun _ => pw_cell_below (below_alloc (Below.refl _ _) _) C1.out, fun _ _ => rfl, fun _ => WB.out, fun h0_ _ => absurd ((hoff 8 (by kernel_rfl)).symm.trans h0_) (by decide), fun h0_ _ => absurd ((hoff 8 (by kernel_rfl)).symm.trans h0_) (by decide), fun h0_ _ => absurd ((hoff 8 (by kernel_rfl)).symm.trans h0_) (by decide), fun h0_ => absurd ((hoff 10 (by kernel_rfl)).symm.trans h0_) (by decide), fun h0_ => absurd ((hoff 10 (by kernel_rfl)).symm.trans h0_) (by decide), fun h0_ => absurd ((hoff 10 (by kernel_rfl)).symm.trans h0_) (by decide), fun _ => rfl, fun h0_ => absurd ((hoff 8 (by kernel_rfl)).symm.trans h0_) (by decide)⟩
                      refine steps_cons ?_ ?_
                      · rintro b a w' ⟨W5, A6, n6, c6, m7_, m8_, ha, Q_WB, Q_C1, Q_A15, Q_B15, Q_B16, Q_R16, Q_G16, Q_B18, Q_R18, Q_G18, Q_X7_, Q_X8_⟩ hb_ hon hoff
                        refine ⟨_, rfl, fun K hK => ?_⟩
                        have e153 : a.tmps[153]? = some (v) := by rw [ha]; exact putSel_on (e := (1, 153, v)) 0 rfl rfl (hon 1 (by kernel_rfl)) rfl
                        have e159 : a.tmps[159]? = some (m7_) := by rw [ha]; exact putSel_on (e := (7, 159, m7_)) 4 rfl rfl (hon 7 (by kernel_rfl)) rfl
                        rw [Q_X7_ (hon 7 (by kernel_rfl))] at e159
                        replace ha := Aside0.mk ha
                        have C1 := Aside0.mk (Q_C1 hb_)
                        have A15 := Aside0.mk (Q_A15 (hon 7 (by kernel_rfl)) hb_)
                        have B15 := Aside0.mk (Q_B15 (hon 7 (by kernel_rfl)))
                        have hw_ := A15.out
                        subst hw_
                        refine Kd.R_append_step k39 (w0 := wo) wo.heap.size (by rfl) (.tmp 153) (.tmp 159) 24 39 (.agg #[(.int .i64 0), (.int .i64 0), (.int .i64 0)]) 24 rfl Tryd.underlying24 info39 rfl (by decide) (by omega) v ((few.take j).eraseIdx i) (⟨f0, f1, f2⟩ : S39) [.int .i64 f0, .int .i64 f1, .int .i64 f2] (fun _ => True) (fun _ => False) (by simp only [Act.eval, Array.getD_eq_getD_getElem?, e153, Option.getD_some]) (by simp only [Act.eval, Array.getD_eq_getD_getElem?, e159, Option.getD_some]) (k39_mkM _ _ _ (⟨f0, f1, f2⟩ : S39)) (fun _ hk => hk.elim) (fun _ _ => trivial) (Kd.R_below KR.out B15.out) (below_step KB.out B15.out) (below_size (below_step KB.out B15.out)) LEN.out ?_
                        intro v6' w5 ho hb hg hat
                        obtain ⟨A6', c6', e6_⟩ := Kd.R_slice ho
                        subst e6_
                        refine hK.out _ _ ⟨W5, A6', ((few.take j).eraseIdx i ++ [(⟨f0, f1, f2⟩ : S39)]).length, c6', m7_, (.slice A6' ((few.take j).eraseIdx i ++ [(⟨f0, f1, f2⟩ : S39)]).length c6'), (by rw [ha.out]; exact putSel_upk 5 hb_ rfl rfl rfl), fun h0_ => absurd ((hon 7 (by kernel_rfl)).symm.trans h0_) (by decide), fun h0_ => absurd ((up_self b 8).symm.trans h0_) (by decide), fun _ h1_ => absurd ((up_self b 8).symm.trans h1_) (by decide), Q_B15, fun _ _ => hb, fun _ _ => ho, fun _ _ => blk_grown (blk_below KG.out B15.out) hg (Kd.R_ne (Kd.R_below KR.out B15.out) (blk_below KG.out B15.out) (by decide)), fun h0_ => absurd ((hoff 10 (by kernel_rfl)).symm.trans h0_) (by decide), fun h0_ => absurd ((hoff 10 (by kernel_rfl)).symm.trans h0_) (by decide), fun h0_ => absurd ((hoff 10 (by kernel_rfl)).symm.trans h0_) (by decide), Q_X7_, fun _ => rfl⟩
                      refine steps_cons ?_ ?_
                      · rintro b a w' ⟨W5, A6, n6, c6, m7_, m8_, ha, Q_WB, Q_C1, Q_A15, Q_B15, Q_B16, Q_R16, Q_G16, Q_B18, Q_R18, Q_G18, Q_X7_, Q_X8_⟩ hb_ hon hoff
                        refine ⟨_, rfl, fun K hK => ?_⟩
                        have e19 : a.tmps[19]? = some (.pointer (some ⟨gr, 0, none⟩)) := by rw [ha]; exact (putSel_off rfl).trans rfl
                        replace ha := Aside0.mk ha
                        have B15 := Aside0.mk (Q_B15 (hon 7 (by kernel_rfl)))
                        have B16 := Aside0.mk (Q_B16 (hon 8 (by kernel_rfl)) (hoff 10 (by kernel_rfl)))
                        have R16 := Aside0.mk (Q_R16 (hon 8 (by kernel_rfl)) (hoff 10 (by kernel_rfl)))
                        have G16 := Aside0.mk (Q_G16 (hon 8 (by kernel_rfl)) (hoff 10 (by kernel_rfl)))
                        refine value_ (w1 := w') (v := .pointer (some ⟨gr, 1, none⟩)) (by rfl) rfl ?_ ?_
                        · go_simp
                          (try simp only [i64_w])
                          try rfl
                        refine hK.out _ _ ⟨W5, A6, n6, c6, m7_, m8_, (by rw [ha.out]; exact putSel_upk 6 hb_ rfl rfl rfl), fun h0_ => absurd ((hon 7 (by kernel_rfl)).symm.trans h0_) (by decide), fun h0_ => absurd ((hon 8 (by kernel_rfl)).symm.trans h0_) (by decide), fun _ h1_ => absurd ((hon 8 (by kernel_rfl)).symm.trans h1_) (by decide), Q_B15, Q_B16, Q_R16, Q_G16, fun h0_ => absurd ((hoff 10 (by kernel_rfl)).symm.trans h0_) (by decide), fun h0_ => absurd ((hoff 10 (by kernel_rfl)).symm.trans h0_) (by decide), fun h0_ => absurd ((hoff 10 (by kernel_rfl)).symm.trans h0_) (by decide), Q_X7_, Q_X8_⟩
                      refine steps_cons ?_ ?_
                      · rintro b a w' ⟨W5, A6, n6, c6, m7_, m8_, ha, Q_WB, Q_C1, Q_A15, Q_B15, Q_B16, Q_R16, Q_G16, Q_B18, Q_R18, Q_G18, Q_X7_, Q_X8_⟩ hb_ hon hoff
                        refine ⟨_, rfl, fun K hK => ?_⟩
                        have e161 : a.tmps[161]? = some (.pointer (some ⟨gr, 1, none⟩)) := by rw [ha]; exact putSel_on (e := (9, 161, .pointer (some ⟨gr, 1, none⟩))) 6 rfl rfl (hon 9 (by kernel_rfl)) rfl
                        have e160 : a.tmps[160]? = some (m8_) := by rw [ha]; exact putSel_on (e := (8, 160, m8_)) 5 rfl rfl (hon 8 (by kernel_rfl)) rfl
                        rw [Q_X8_ (hon 8 (by kernel_rfl))] at e160
                        replace ha := Aside0.mk ha
                        have B15 := Aside0.mk (Q_B15 (hon 7 (by kernel_rfl)))
                        have B16 := Aside0.mk (Q_B16 (hon 8 (by kernel_rfl)) hb_)
                        have R16 := Aside0.mk (Q_R16 (hon 8 (by kernel_rfl)) hb_)
                        have G16 := Aside0.mk (Q_G16 (hon 8 (by kernel_rfl)) hb_)
                        have hz_ := blk_cell G16.out 1
                        have hf_ := blk_frozen G16.out 1
                        refine skip_ (w1 := w'.setCell ⟨gr, 1, none⟩ (.slice A6 n6 c6)) (by rfl) rfl ?_ ?_
                        · go_simp
                        refine hK.out _ _ ⟨W5, A6, n6, c6, m7_, m8_, (by rw [ha.out]; exact putSel_none (v := undef) rfl), fun h0_ => absurd ((hon 7 (by kernel_rfl)).symm.trans h0_) (by decide), fun h0_ => absurd ((hon 8 (by kernel_rfl)).symm.trans h0_) (by decide), fun _ h1_ => absurd ((hon 8 (by kernel_rfl)).symm.trans h1_) (by decide), Q_B15, fun _ h1_ => absurd ((up_self b 10).symm.trans h1_) (by decide), fun _ h1_ => absurd ((up_self b 10).symm.trans h1_) (by decide), fun _ h1_ => absurd ((up_self b 10).symm.trans h1_) (by decide), fun _ => below_set B16.out HGP.out, fun _ => Kd.R_set R16.out G16.out (by intro q hq; have hq : q ∈ [39] := hq; simp at hq; omega) 1 (.slice A6 n6 c6), fun _ => blk_put G16.out 1 (.slice A6 n6 c6) rfl, Q_X7_, Q_X8_⟩
                      exact steps_nil
                    rintro b a w9z hall ⟨W5, A6, n6, c6, m7_, m8_, ha, Q_WB, Q_C1, Q_A15, Q_B15, Q_B16, Q_R16, Q_G16, Q_B18, Q_R18, Q_G18, Q_X7_, Q_X8_⟩
                    clear C1 WB
                    have hb1_ := hall 1 (by kernel_rfl)
                    have hb3_ := hall 3 (by kernel_rfl)
                    have hb5_ := hall 5 (by kernel_rfl)
                    have hb6_ := hall 6 (by kernel_rfl)
                    have hb7_ := hall 7 (by kernel_rfl)
                    have hb8_ := hall 8 (by kernel_rfl)
                    have hb9_ := hall 9 (by kernel_rfl)
                    have hb10_ := hall 10 (by kernel_rfl)
                    subst ha
                    obtain rfl := Q_X7_ hb7_
                    obtain rfl := Q_X8_ hb8_
                    simp only [putSel, hb1_, hb3_, hb5_, hb6_, hb7_, hb8_, hb9_, hb10_, if_true, Act.put, List.setIfInBounds_toArray, List.set_cons_zero, List.set_cons_succ]
                    clear Q_WB
                    clear Q_C1
                    clear Q_A15
                    have B15 := Aside0.mk (Q_B15 hb7_)
                    clear Q_B15
                    clear Q_B16
                    clear Q_R16
                    clear Q_G16
                    have B18 := Aside0.mk (Q_B18 hb10_)
                    clear Q_B18
                    have R18 := Aside0.mk (Q_R18 hb10_)
                    clear Q_R18
                    have G18 := Aside0.mk (Q_G18 hb10_)
                    clear Q_G18
                    clear hall hb1_ hb3_ hb5_ hb6_ hb7_ hb8_ hb9_ hb10_
                    go_wp2
                    go_roundg (few.length - j)
                    case' measure => have := HJ.out; have := HJ2.out; omega
                    case' rel => exact ⟨j + 1, .slice A6 n6 c6, by rw [HIW.out], ⟨by have := HJ.out; have := HJ2.out; omega⟩, G18, ⟨by rw [HROW.out]; exact R18.out⟩, B18⟩
                · obtain rfl : j = few.length := by have := HJ.out; omega
                  have hr := KR2.out
                  rw [List.take_length] at hr
                  clear KR2 HJ
                  obtain ⟨Ar, cr, ev_⟩ := Kd.R_slice hr
                  subst ev_
                  have PR := Aside0.mk (Kd.R_reads' hr).2.2
                  have QR := Aside0.mk (Kd.R_reads' hr).2.1
                  clear hr
                  obtain ⟨d, hd⟩ : ∃ d, few.length - i = d + 1 := ⟨few.length - i - 1, by have := HI2.out; omega⟩
                  have hrr := HRR.out
                  rw [hd] at hrr
                  unfold restLoop at hrr
                  rw [← HXI.out] at hrr
                  obtain ⟨⟨f0, f1, f2⟩, hb3⟩ : ∃ z : S39, z = rd_T39 few xi := ⟨_, rfl⟩
                  rw [← hb3] at hrr
                  dsimp only at hrr
                  obtain ⟨q, hq, hrr2⟩ := Option.bind_eq_some_iff.mp hrr
                  clear hrr
                  by_cases hqt : q = true
                  · rw [if_pos hqt] at hrr2; exact absurd hrr2 (by simp)
                  rw [if_neg hqt] at hrr2
                  obtain rfl : q = false := by simpa using hqt
                  obtain ⟨af, ea, y0, y1, y2⟩ := at_T39 (Kd.C_below PF1.out KB2.out) xi (by have := HXI.out; omega) (by have := HXI.out; have := HI2.out; omega)
                  subst ea
                  rw [← hb3] at y0 y1 y2
                  dsimp only at y0 y1 y2
                  have i0_ := eq_true (show 0 ≤ xi by have := HXI.out; omega)
                  have i1_ := eq_true (show xi < (few.length : Int) by have := HXI.out; have := HI2.out; omega)
                  have i2_ := eq_false (show ¬ xi < 0 by have := HXI.out; omega)
                  have i3_ := eq_false (show ¬ (few.length : Int) ≤ xi by have := HXI.out; have := HI2.out; omega)
                  have HQ := Aside0.mk hq
                  have HR3 := Aside0.mk hrr2
                  have HD2 := Aside0.mk hd
                  have tj : decide (((few.length : Nat) : Int) < (few.length : Int)) = false := decide_eq_false (by omega)
                  have r0 := blk_cell KG2.out 0
                  have r1 := blk_cell KG2.out 1
                  clear hq hrr2 hd hqt hb3 HRR
                  go_wp2
                  clear tj
                  go_region_held3 (fun w' => Aside0 (Below wr.heap.size wr w') ∧ w'.cell? ⟨gr, 0, none⟩ = some (.int .i64 n') ∧ w'.cell? ⟨gr, 1, none⟩ = some (.slice Ar (few.eraseIdx i).length cr) ∧ w'.cell? ⟨gf, 1, none⟩ = some (.slice (some af) few.length cf) ∧ w'.cell? (af.add (xi.toNat * 3)) = some (.int .i64 f0) ∧ w'.cell? ⟨(af.add (xi.toNat * 3)).block, (af.add (xi.toNat * 3)).off + 1, none⟩ = some (.int .i64 f1) ∧ w'.cell? ⟨(af.add (xi.toNat * 3)).block, (af.add (xi.toNat * 3)).off + 2, none⟩ = some (.int .i64 f2)) ((first | exact ⟨⟨below_drew (Below.refl _ _)⟩, r0, r1, g1, y0, y1, y2⟩ | (obtain ⟨z_, z0, z1, z2, z3, z4, z5⟩ := ‹Aside0 (Below wr.heap.size wr _) ∧ _›; exact ⟨⟨below_step (by repeat (first | exact z_.out | apply below_drew)) hb'⟩, pw_cell_below hb' z0, pw_cell_below hb' z1, pw_cell_below hb' z2, pw_cell_below hb' z3, pw_cell_below hb' z4, pw_cell_below hb' z5⟩))) ((go_at_call 12; refine (impl_FollowsFrom.calls (hr0_1 := Kd.C_below PR.out (by obtain ⟨z_, _⟩ := ‹Aside0 (Below wr.heap.size wr _) ∧ _›; repeat (first | exact z_.out | apply below_drew))) (hc0_1 := QR.out) (h := HQ.out)).mono ?_; rintro e w' ⟨rfl, hb'⟩))
                  obtain ⟨z_, _⟩ := ‹Aside0 (Below wr.heap.size wr _) ∧ _›
                  have HBQ := Aside0.mk (below_step KM.out (below_step KB2.out z_.out))
                  clear z_ r0 r1 g0 g1 y0 y1 y2 i0_ i1_ i2_ i3_
                  have hiw : wrap64 (xi + 1) = ((i + 1 : Nat) : Int) := by have := HFL.out; have := HXI.out; have := HI2.out; unfold wrap64; omega
                  have HIW := Aside0.mk hiw
                  clear hiw
                  go_wp2
                  go_roundg (few.length - i)
                  case' measure => have := HI.out; have := HI2.out; omega
                  case' rel => exact ⟨i + 1, by rw [HIW.out], ⟨by have := HI.out; have := HI2.out; omega⟩, HBQ, ⟨by have := HD2.out; rw [show few.length - (i + 1) = d by omega]; exact HR3.out⟩⟩
            · obtain rfl : i = few.length := by have := HI.out; omega
              have tj : decide (((few.length : Nat) : Int) < (few.length : Int)) = false := decide_eq_false (by omega)
              have DB := Aside0.mk (blk_below HX.out KM.out)
              have d0 := blk_cell DB.out 0
              have d1 := blk_cell DB.out 1
              have PB3 := Aside0.mk (Kd.C_below PB.out KM.out)
              have HB3 := Aside0.mk (below_step HB.out KM.out)
              clear HI HRR PF PF1 FB KG1 HGG QF
              have hnr := HNR.out
              clear HNR
              unfold needRest at hnr
              by_cases hb0 : bs.length = 0
              · rw [if_pos hb0] at hnr
                obtain rfl := Option.some.inj hnr
                have hb1 : ((bs.length : Int) == 0) = true := beq_iff_eq.mpr (by omega)
                clear hnr
                go_wp2
                go_ret
                exact ⟨rfl, by repeat (first | exact HB3.out | apply pw_below_drewN | apply below_drew1 | apply below_alloc)⟩
              rw [if_neg hb0] at hnr
              obtain ⟨a, ha_, hnr2⟩ := Option.bind_eq_some_iff.mp hnr
              clear hnr
              by_cases haq : 0 ≤ a ∧ a < (bs.length : Int)
              case neg => rw [if_neg haq] at hnr2; exact absurd hnr2 (by simp)
              rw [if_pos haq] at hnr2
              obtain ⟨⟨room, six⟩, hm_, hnr3⟩ := Option.bind_eq_some_iff.mp hnr2
              clear hnr2
              dsimp only at hnr3
              by_cases h6 : six = true ∧ 0 ≤ room
              case neg => rw [if_neg h6] at hnr3; exact absurd hnr3 (by simp)
              rw [if_pos h6] at hnr3
              obtain ⟨u0, hu0, hu1⟩ := Option.bind_eq_some_iff.mp hnr3
              clear hnr3
              have HSTEP : Aside0 (∀ b : Nat, b < 2 → ∃ u, bentStep k n' bs a room (b : Int) (decide (b = 0)) = some u) := ⟨fun b hb => by
                match b, hb with
                | 0, _ => exact ⟨u0, hu0⟩
                | 1, _ => exact ⟨r, hu1⟩⟩
              have hrt : r = true := by
                unfold bentStep at hu1
                obtain ⟨t_, _, hu2⟩ := Option.bind_eq_some_iff.mp hu1
                obtain ⟨v_, _, hu3⟩ := Option.bind_eq_some_iff.mp hu2
                split at hu3
                · split at hu3
                  · exact (Option.some.inj hu3).symm
                  · cases hu3
                · exact (Option.some.inj hu3).symm
              obtain ⟨h61, h62⟩ := h6
              subst h61
              have HRT := Aside0.mk hrt
              have HAQ := Aside0.mk haq
              have HM_ := Aside0.mk hm_
              have HA2 := Aside0.mk ha_
              have HR62 := Aside0.mk h62
              have hb1 : ((bs.length : Int) == 0) = false := beq_eq_false_iff_ne.mpr (by omega)
              have hr1 : decide (room < 0) = false := decide_eq_false (by omega)
              clear hu0 hu1 hrt haq hm_ ha_ h62 hb0
              go_wp2_with (fail)
              refine (laws_r8At.calls (hr0 := Kd.C_below HR1.out HB3.out) (hc0 := HC1.out) (h := HA2.out)).mono ?_
              rintro e w13 ⟨rfl, hd⟩
              have hb := drawn_below hd
              clear hd d0 d1
              replace PB3 := Aside0.mk (Kd.C_below PB3.out hb)
              replace DB := Aside0.mk (blk_below DB.out hb)
              replace HB3 := Aside0.mk (below_step HB3.out hb)
              clear hb
              have d0 := blk_cell DB.out 0
              have d1 := blk_cell DB.out 1
              go_wp2_with (fail)
              refine (impl_RoomOf.calls (hr0_1 := PB3.out) (hc0_1 := QB.out) (h := HM_.out)).mono ?_
              rintro e wn ⟨rfl, hb⟩
              clear d0 d1
              replace PB3 := Aside0.mk (Kd.C_below PB3.out hb)
              replace DB := Aside0.mk (blk_below DB.out hb)
              replace HB3 := Aside0.mk (below_step HB3.out hb)
              clear hb
              go_wp2_with (fail)
              clear tj hb1 hr1
              go_loopg [24] 3 (fun kq s24 w' => ∃ (bq : Nat), s24 = .int .i64 (bq : Int) ∧ Aside0 (bq ≤ 2 ∧ bq + kq = 3) ∧ Aside0 (Below wn.heap.size wn w'))
              case' atStart => exact ⟨0, rfl, ⟨by omega, by omega⟩, ⟨Below.refl _ _⟩⟩
              case' round =>
                obtain ⟨bq, rfl, HI, HBN⟩ := hrel
                by_cases hb2 : bq < 2
                · obtain ⟨xb, hxb⟩ : ∃ z : Int, z = (bq : Int) := ⟨_, rfl⟩
                  have tj : decide (xb < 2) = true := decide_eq_true (by omega)
                  have p1 := eq_true (show xb < 2 by omega)
                  obtain ⟨u, hu⟩ := HSTEP.out bq hb2
                  obtain ⟨zb, hzb⟩ : ∃ z, z = decide (bq = 0) := ⟨_, rfl⟩
                  rw [← hzb, ← hxb] at hu
                  have hz1 : (xb == 0) = zb := by rw [hzb, hxb]; match bq, hb2 with | 0, _ => rfl | 1, _ => rfl
                  have HZ1 := Aside0.mk hz1
                  have HIB := Aside0.mk hxb
                  have HI2 := Aside0.mk hb2
                  have hiw : wrap64 (xb + 1) = ((bq + 1 : Nat) : Int) := by rw [hxb]; unfold wrap64; omega
                  have HIW := Aside0.mk hiw
                  unfold bentStep at hu
                  obtain ⟨⟨tt, seven⟩, ht_, hu2⟩ := Option.bind_eq_some_iff.mp hu
                  clear hu
                  obtain ⟨vv, hv_, hu3⟩ := Option.bind_eq_some_iff.mp hu2
                  clear hu2
                  dsimp only at hu3
                  have HTB_ := Aside0.mk ht_
                  have HVB_ := Aside0.mk hv_
                  have HU3 := Aside0.mk hu3
                  have D0 : Aside0 (wn.cell? ⟨gd, 0, none⟩ = some (.int .i64 n')) := ⟨(blk_cell DB.out 0).trans rfl⟩
                  have D1 : Aside0 (wn.cell? ⟨gd, 1, none⟩ = some (.slice Ab bs.length cb)) := ⟨(blk_cell DB.out 1).trans rfl⟩
                  have PBN := PB3
                  have LEN : Aside0 ((([] : List S39).length + bs.length) * 24 ≤ 140737488355328) := ⟨by have := HL2.out; show (0 + bs.length) * 24 ≤ _; omega⟩
                  have HB4 := Aside0.mk (below_drew1 HBN.out)
                  rw [← hxb]
                  clear hxb hzb hz1 hiw ht_ hv_ hu3 hb2 HBN
                  go_wp2
                  clear tj p1
                  refine start_ (n := 9) (S := fun w' => True) (ds := []) #[false, false, false, false, false, false, false, false, false] (by kernel_rfl) rfl rfl trivial (fun hHeld => ?_)
                  refine with_tabW laws_FnNeeded.tab44 laws_FnNeeded.bits44 (fun HT_ HW_ => ?_)
                  generalize wr.drew = wq at HB4 hHeld ⊢
                  refine pure_ (i := 0) (N := some 194) (v := ?_) (a' := ?_) #[true, false, false, false, false, false, false, false, false] rfl rfl (any_of HT_.out (by kernel_rfl)) (fun _ _ _ h => h) (Or.inl ⟨by rfl, ?_⟩) ?_ ?_
                  rotate_left
                  · intro w'
                    go_simp
                    with_reducible rfl
                  rotate_left
                  · simp only [Act.put, List.setIfInBounds_toArray, List.set_cons_zero, List.set_cons_succ, i64_w, i32_w]
                    rfl
                  refine pure_ (i := 3) (N := some 197) (v := ?_) (a' := ?_) #[true, false, false, true, false, false, false, false, false] rfl rfl (any_of HT_.out (by kernel_rfl)) (fun _ _ _ h => h) (Or.inl ⟨by rfl, ?_⟩) ?_ ?_
                  rotate_left
                  · intro w'
                    go_simp
                    with_reducible rfl
                  rotate_left
                  · simp only [Act.put, List.setIfInBounds_toArray, List.set_cons_zero, List.set_cons_succ, i64_w, i32_w]
                    rfl
                  refine inv_at [1, 2, 4, 5, 6, 7, 8] (fun a0_ b a w' => ∃ (A2 : Option Addr) (n2 : Nat) (c2 : Nat) (A5 : Option Addr) (n5 : Nat) (c5 : Nat) (g7 : Nat) (m2_ : Value) (m5_ : Value) (m6_ : Value) (m7_ : Value), a = putSel a0_ b [(1, 195, .int .i64 n'), (2, 196, m2_), (4, 198, .slice Ab bs.length cb), (5, 199, m5_), (6, 200, m6_), (7, 25, m7_)] ∧ (Below wn.heap.size wn w') ∧ (b 2 = true → b 5 = false → Kd.R k39 39 w' wn.heap.size (fun _ => True) (.slice A2 n2 c2) ([] : List S39)) ∧ (b 5 = true → Kd.R k39 39 w' wn.heap.size (fun _ => True) (.slice A5 n5 c5) bs) ∧ (b 7 = true → b 8 = false → w'.heap[g7]? = some (.cells #[.int .i64 0, .slice none 0 0] 26 (0, 0))) ∧ (b 8 = true → w'.heap[g7]? = some (.cells #[.int .i64 n', .slice A5 n5 c5] 26 (0, 0))) ∧ (b 7 = true → wn.heap.size ≤ g7) ∧ (b 2 = true → (m2_ : Value) = .slice A2 n2 c2) ∧ (b 5 = true → (m5_ : Value) = .slice A5 n5 c5) ∧ (b 6 = true → (m6_ : Value) = .agg #[.int .i64 n', .slice A5 n5 c5]) ∧ (b 7 = true → (m7_ : Value) = .pointer (some ⟨g7, 0, none⟩))) HT_.out HW_.out (by kernel_rfl) (by kernel_rfl) ?_ ?_ ?_
                  · exact ⟨none, 0, 0, none, 0, 0, 0, .bool false, .bool false, .bool false, .bool false, by simp only [putSel, Bool.false_eq_true, if_false], HB4.out, fun h_ => absurd h_ (by decide), fun h_ => absurd h_ (by decide), fun h_ => absurd h_ (by decide), fun h_ => absurd h_ (by decide), fun h_ => absurd h_ (by decide), fun h_ => absurd h_ (by decide), fun h_ => absurd h_ (by decide), fun h_ => absurd h_ (by decide), fun h_ => absurd h_ (by decide)⟩
                  · skip
                    clear HB4
                    refine steps_cons ?_ ?_
                    · rintro b a w' ⟨A2, n2, c2, A5, n5, c5, g7, m2_, m5_, m6_, m7_, ha, Q_HB4, Q_R2, Q_R5, Q_B7a, Q_B7b, Q_GE7, Q_X2_, Q_X5_, Q_X6_, Q_X7_⟩ hb_ hon hoff
                      refine ⟨_, rfl, fun K hK => ?_⟩
                      have e194 : a.tmps[194]? = some (.pointer (some ⟨gd, 0, none⟩)) := by rw [ha]; exact (putSel_off rfl).trans rfl
                      replace ha := Aside0.mk ha
                      have HB4 := Aside0.mk Q_HB4
                      have hc_ := pw_cell_below HB4.out D0.out
                      refine value_ (w1 := w') (v := .int .i64 n') (by rfl) rfl ?_ ?_
                      · go_simp
                        (try simp only [i64_w])
                        try rfl
                      refine hK.out _ _ ⟨A2, n2, c2, A5, n5, c5, g7, m2_, m5_, m6_, m7_, (by rw [ha.out]; exact putSel_upk 0 hb_ rfl rfl rfl), Q_HB4, Q_R2, Q_R5, Q_B7a, fun h0_ => absurd ((hoff 8 (by kernel_rfl)).symm.trans h0_) (by decide), Q_GE7, Q_X2_, Q_X5_, fun h0_ => absurd ((hoff 6 (by kernel_rfl)).symm.trans h0_) (by decide), Q_X7_⟩
                    refine steps_cons ?_ ?_
                    · rintro b a w' ⟨A2, n2, c2, A5, n5, c5, g7, m2_, m5_, m6_, m7_, ha, Q_HB4, Q_R2, Q_R5, Q_B7a, Q_B7b, Q_GE7, Q_X2_, Q_X5_, Q_X6_, Q_X7_⟩ hb_ hon hoff
                      refine ⟨_, rfl, fun K hK => ?_⟩
                      replace ha := Aside0.mk ha
                      have HB4 := Aside0.mk Q_HB4
                      refine Kd.R_lit_step k39 (w0 := wn) wn.heap.size 39 (by rfl) (N := 196) rfl (xs := ([] : List S39)) (inner := []) (ok := fun _ => True) (okp := fun _ => True) ?hr (Reps.none _ _) (fun _ hk => hk) trivial HB4.out (below_size HB4.out) (by simp) ?_
                      · first | (go_simp; done) | (go_simp; rfl)
                      intro v1' w5 ho hb hg_ hnew_
                      obtain ⟨A2', c2', e2_⟩ := Kd.R_slice ho
                      subst e2_
                      refine hK.out _ _ ⟨A2', ([] : List S39).length, c2', A5, n5, c5, g7, (.slice A2' ([] : List S39).length c2'), m5_, m6_, m7_, (by rw [ha.out]; exact putSel_upk 1 hb_ rfl rfl rfl), hb, fun _ _ => ho, fun h0_ => absurd ((hoff 5 (by kernel_rfl)).symm.trans h0_) (by decide), fun h0_ h1_ => blk_grown (Q_B7a h0_ h1_) hg_ (by simp), fun h0_ => absurd ((hoff 8 (by kernel_rfl)).symm.trans h0_) (by decide), Q_GE7, fun _ => rfl, fun h0_ => absurd ((hoff 5 (by kernel_rfl)).symm.trans h0_) (by decide), fun h0_ => absurd ((hoff 6 (by kernel_rfl)).symm.trans h0_) (by decide), Q_X7_⟩
                    refine steps_cons ?_ ?_
                    · rintro b a w' ⟨A2, n2, c2, A5, n5, c5, g7, m2_, m5_, m6_, m7_, ha, Q_HB4, Q_R2, Q_R5, Q_B7a, Q_B7b, Q_GE7, Q_X2_, Q_X5_, Q_X6_, Q_X7_⟩ hb_ hon hoff
                      refine ⟨_, rfl, fun K hK => ?_⟩
                      have e197 : a.tmps[197]? = some (.pointer (some ⟨gd, 1, none⟩)) := by rw [ha]; exact (putSel_off rfl).trans rfl
                      replace ha := Aside0.mk ha
                      have HB4 := Aside0.mk Q_HB4
                      have hc_ := pw_cell_below HB4.out D1.out
                      refine value_ (w1 := w') (v := .slice Ab bs.length cb) (by rfl) rfl ?_ ?_
                      · go_simp
                        (try simp only [i64_w])
                        try rfl
                      refine hK.out _ _ ⟨A2, n2, c2, A5, n5, c5, g7, m2_, m5_, m6_, m7_, (by rw [ha.out]; exact putSel_upk 2 hb_ rfl rfl rfl), Q_HB4, Q_R2, fun h0_ => absurd ((hoff 5 (by kernel_rfl)).symm.trans h0_) (by decide), Q_B7a, fun h0_ => absurd ((hoff 8 (by kernel_rfl)).symm.trans h0_) (by decide), Q_GE7, Q_X2_, fun h0_ => absurd ((hoff 5 (by kernel_rfl)).symm.trans h0_) (by decide), fun h0_ => absurd ((hoff 6 (by kernel_rfl)).symm.trans h0_) (by decide), Q_X7_⟩
                    refine steps_cons ?_ ?_
                    · rintro b a w' ⟨A2, n2, c2, A5, n5, c5, g7, m2_, m5_, m6_, m7_, ha, Q_HB4, Q_R2, Q_R5, Q_B7a, Q_B7b, Q_GE7, Q_X2_, Q_X5_, Q_X6_, Q_X7_⟩ hb_ hon hoff
                      refine ⟨_, rfl, fun K hK => ?_⟩
                      have e196 : a.tmps[196]? = some (m2_) := by rw [ha]; exact putSel_on (e := (2, 196, m2_)) 1 rfl rfl (hon 2 (by kernel_rfl)) rfl
                      rw [Q_X2_ (hon 2 (by kernel_rfl))] at e196
                      have e198 : a.tmps[198]? = some (.slice Ab bs.length cb) := by rw [ha]; exact putSel_on (e := (4, 198, .slice Ab bs.length cb)) 2 rfl rfl (hon 4 (by kernel_rfl)) rfl
                      replace ha := Aside0.mk ha
                      have HB4 := Aside0.mk Q_HB4
                      have R2 := Aside0.mk (Q_R2 (hon 2 (by kernel_rfl)) hb_)
                      refine Kd.R_append_rows_step k39 (w0 := wn) wn.heap.size (by rfl) (.tmp 196) (.tmp 198) 24 39 (.agg #[(.int .i64 0), (.int .i64 0), (.int .i64 0)]) 24 rfl Tryd.underlying24 info39 rfl (by decide) (by omega) (.slice A2 n2 c2) [] bs Ab bs.length cb (fun _ => True) (fun _ => False) (by simp only [Act.eval, Array.getD_eq_getD_getElem?, e196, Option.getD_some]) (by simp only [Act.eval, Array.getD_eq_getD_getElem?, e198, Option.getD_some]) R2.out (Kd.C_below PBN.out HB4.out) (fun _ _ h => h) (fun _ hk => hk.elim) (fun _ _ => trivial) HB4.out (below_size HB4.out) LEN.out ?_
                      intro v6' w5 ho hb hg hat
                      rw [List.nil_append] at ho
                      obtain ⟨A5', c5', e6_⟩ := Kd.R_slice ho
                      subst e6_
                      refine hK.out _ _ ⟨A2, n2, c2, A5', bs.length, c5', g7, m2_, (.slice A5' bs.length c5'), m6_, m7_, (by rw [ha.out]; exact putSel_upk 3 hb_ rfl rfl rfl), hb, fun _ h1_ => absurd ((up_self b 5).symm.trans h1_) (by decide), fun _ => ho, fun h0_ h1_ => blk_grown (Q_B7a h0_ h1_) hg (Kd.R_ne R2.out (Q_B7a h0_ h1_) (by decide)), fun h0_ => absurd ((hoff 8 (by kernel_rfl)).symm.trans h0_) (by decide), Q_GE7, Q_X2_, fun _ => rfl, fun h0_ => absurd ((hoff 6 (by kernel_rfl)).symm.trans h0_) (by decide), Q_X7_⟩
                    refine steps_cons ?_ ?_
                    · rintro b a w' ⟨A2, n2, c2, A5, n5, c5, g7, m2_, m5_, m6_, m7_, ha, Q_HB4, Q_R2, Q_R5, Q_B7a, Q_B7b, Q_GE7, Q_X2_, Q_X5_, Q_X6_, Q_X7_⟩ hb_ hon hoff
                      refine ⟨_, rfl, fun K hK => ?_⟩
                      have e195 : a.tmps[195]? = some (.int .i64 n') := by rw [ha]; exact putSel_on (e := (1, 195, .int .i64 n')) 0 rfl rfl (hon 1 (by kernel_rfl)) rfl
                      have e199 : a.tmps[199]? = some (m5_) := by rw [ha]; exact putSel_on (e := (5, 199, m5_)) 3 rfl rfl (hon 5 (by kernel_rfl)) rfl
                      rw [Q_X5_ (hon 5 (by kernel_rfl))] at e199
                      replace ha := Aside0.mk ha
                      have HB4 := Aside0.mk Q_HB4
                      have R5 := Aside0.mk (Q_R5 (hon 5 (by kernel_rfl)))
                      refine value_ (w1 := w') (v := .agg #[.int .i64 n', .slice A5 n5 c5]) (by rfl) rfl ?_ ?_
                      · go_simp
                        (try simp only [i64_w])
                        try rfl
                      refine hK.out _ _ ⟨A2, n2, c2, A5, n5, c5, g7, m2_, m5_, (.agg #[.int .i64 n', .slice A5 n5 c5]), m7_, (by rw [ha.out]; exact putSel_upk 4 hb_ rfl rfl rfl), Q_HB4, fun _ h1_ => absurd ((hon 5 (by kernel_rfl)).symm.trans h1_) (by decide), Q_R5, Q_B7a, fun h0_ => absurd ((hoff 8 (by kernel_rfl)).symm.trans h0_) (by decide), Q_GE7, Q_X2_, Q_X5_, fun _ => rfl, Q_X7_⟩
                    refine steps_cons ?_ ?_
                    · rintro b a w' ⟨A2, n2, c2, A5, n5, c5, g7, m2_, m5_, m6_, m7_, ha, Q_HB4, Q_R2, Q_R5, Q_B7a, Q_B7b, Q_GE7, Q_X2_, Q_X5_, Q_X6_, Q_X7_⟩ hb_ hon hoff
                      refine ⟨_, rfl, fun K hK => ?_⟩
                      replace ha := Aside0.mk ha
                      have HB4 := Aside0.mk Q_HB4
                      refine box_step (by rfl) (N := 25) rfl (cs := #[.int .i64 0, .slice none 0 0]) (t := 26) ?_ ?_
                      · first | (go_simp; done) | (go_simp; rfl)
                      intro gn hgn w5 hbox hb
                      refine hK.out _ _ ⟨A2, n2, c2, A5, n5, c5, gn, m2_, m5_, m6_, (.pointer (some ⟨gn, 0, none⟩)), (by rw [ha.out]; exact putSel_upk 5 hb_ rfl rfl rfl), below_step HB4.out hb, fun h0_ h1_ => Kd.R_below (Q_R2 h0_ h1_) hb, fun h0_ => Kd.R_below (Q_R5 h0_) hb, fun _ _ => hbox, fun h0_ => absurd ((hoff 8 (by kernel_rfl)).symm.trans h0_) (by decide), fun _ => by rw [hgn]; exact below_size HB4.out, Q_X2_, Q_X5_, Q_X6_, fun _ => rfl⟩
                    refine steps_cons ?_ ?_
                    · rintro b a w' ⟨A2, n2, c2, A5, n5, c5, g7, m2_, m5_, m6_, m7_, ha, Q_HB4, Q_R2, Q_R5, Q_B7a, Q_B7b, Q_GE7, Q_X2_, Q_X5_, Q_X6_, Q_X7_⟩ hb_ hon hoff
                      refine ⟨_, rfl, fun K hK => ?_⟩
                      have e25 : a.tmps[25]? = some (m7_) := by rw [ha]; exact putSel_on (e := (7, 25, m7_)) 5 rfl rfl (hon 7 (by kernel_rfl)) rfl
                      rw [Q_X7_ (hon 7 (by kernel_rfl))] at e25
                      have e200 : a.tmps[200]? = some (m6_) := by rw [ha]; exact putSel_on (e := (6, 200, m6_)) 4 rfl rfl (hon 6 (by kernel_rfl)) rfl
                      rw [Q_X6_ (hon 6 (by kernel_rfl))] at e200
                      replace ha := Aside0.mk ha
                      have HB4 := Aside0.mk Q_HB4
                      have R5 := Aside0.mk (Q_R5 (hon 5 (by kernel_rfl)))
                      have B7a := Aside0.mk (Q_B7a (hon 7 (by kernel_rfl)) hb_)
                      have GE7 := Aside0.mk (Q_GE7 (hon 7 (by kernel_rfl)))
                      have hz0_ := blk_cell B7a.out 0
                      have hz1_ := blk_cell B7a.out 1
                      have hf0_ := blk_frozen B7a.out 0
                      have hf1_ := blk_frozen B7a.out 1
                      refine skip_ (w1 := (w'.setCell ⟨g7, 0, none⟩ (.int .i64 n')).setCell ⟨g7, 1, none⟩ (.slice A5 n5 c5)) (by rfl) rfl ?_ ?_
                      · go_simp
                      refine hK.out _ _ ⟨A2, n2, c2, A5, n5, c5, g7, m2_, m5_, m6_, m7_, (by rw [ha.out]; exact putSel_none (v := undef) rfl), below_set (below_set HB4.out GE7.out) GE7.out, fun _ h1_ => absurd ((hon 5 (by kernel_rfl)).symm.trans h1_) (by decide), fun _ => Kd.R_set (Kd.R_set R5.out B7a.out (by intro q hq; have hq : q ∈ [39] := hq; simp at hq; omega) 0 (.int .i64 n')) (blk_put B7a.out 0 (.int .i64 n') rfl) (by intro q hq; have hq : q ∈ [39] := hq; simp at hq; omega) 1 (.slice A5 n5 c5), fun _ h1_ => absurd ((up_self b 8).symm.trans h1_) (by decide), fun _ => blk_put (blk_put B7a.out 0 (.int .i64 n') rfl) 1 (.slice A5 n5 c5) rfl, Q_GE7, Q_X2_, Q_X5_, Q_X6_, Q_X7_⟩
                    exact steps_nil
                  rintro b a w9z hall ⟨A2, n2, c2, A5, n5, c5, g7, m2_, m5_, m6_, m7_, ha, Q_HB4, Q_R2, Q_R5, Q_B7a, Q_B7b, Q_GE7, Q_X2_, Q_X5_, Q_X6_, Q_X7_⟩
                  clear HB4
                  have hb1_ := hall 1 (by kernel_rfl)
                  have hb2_ := hall 2 (by kernel_rfl)
                  have hb4_ := hall 4 (by kernel_rfl)
                  have hb5_ := hall 5 (by kernel_rfl)
                  have hb6_ := hall 6 (by kernel_rfl)
                  have hb7_ := hall 7 (by kernel_rfl)
                  have hb8_ := hall 8 (by kernel_rfl)
                  subst ha
                  obtain rfl := Q_X2_ hb2_
                  obtain rfl := Q_X5_ hb5_
                  obtain rfl := Q_X6_ hb6_
                  obtain rfl := Q_X7_ hb7_
                  simp only [putSel, hb1_, hb2_, hb4_, hb5_, hb6_, hb7_, hb8_, if_true, Act.put, List.setIfInBounds_toArray, List.set_cons_zero, List.set_cons_succ]
                  have HB4 := Aside0.mk Q_HB4
                  clear Q_HB4
                  clear Q_R2
                  have R5 := Aside0.mk (Q_R5 hb5_)
                  clear Q_R5
                  clear Q_B7a
                  have B7b := Aside0.mk (Q_B7b hb8_)
                  clear Q_B7b
                  have GE7 := Aside0.mk (Q_GE7 hb7_)
                  clear Q_GE7
                  clear hall hb1_ hb2_ hb4_ hb5_ hb6_ hb7_ hb8_
                  obtain ⟨g9, cm, ef, hgb, hgl, ccs, hct⟩ := Kd.R_form R5.out (by have := HAQ.out; omega)
                  injection ef with ea en ec
                  subst ea
                  subst en
                  subst ec
                  have HGE9 := Aside0.mk hgb
                  clear hgb hgl hct
                  obtain ⟨⟨f0, f1, f2⟩, hb3⟩ : ∃ z : S39, z = rd_T39 bs a := ⟨_, rfl⟩
                  obtain ⟨ce9, hcl9, hM9, hcc9, hfr9⟩ := Kd.R_elem R5.out z39 a HAQ.out.1 HAQ.out.2
                  obtain rfl := k39_openM hM9
                  obtain ⟨mv, hmv⟩ : ∃ z, z = (if room = 1000000 then -1000 else wrap64 (f2 - wrap64 (room + xb))) := ⟨_, rfl⟩
                  have hbent : bentOf bs a room xb = bs.set a.toNat ⟨f0, f1, mv⟩ := by unfold bentOf; rw [← hb3, hmv]
                  have HP9 := Aside0.mk (Kd.R_seg R5.out a HAQ.out.1 HAQ.out.2 (seg := [.int .i64 mv]) (j := 2) hcl9 hcc9 (show 3 ≤ 3 from by decide) (x' := (⟨(rd_T39 bs a).f0, (rd_T39 bs a).f1, mv⟩ : S39)) (k39_mkM _ _ _ (⟨(rd_T39 bs a).f0, (rd_T39 bs a).f1, mv⟩ : S39)) (fun _ hk => hk))
                  have hx9_0 := hcc9 0 _ rfl
                  have hx9_1 := hcc9 1 _ rfl
                  have hx9_2 := hcc9 2 _ rfl
                  have hf9_2 := hfr9 2
                  rw [show bs.getD a.toNat z39 = (⟨f0, f1, f2⟩ : S39) from hb3.symm] at hx9_0 hx9_1 hx9_2
                  dsimp only at hx9_0 hx9_1 hx9_2
                  simp only [show (k39).sz = 3 from rfl, Nat.mul_one, Nat.add_zero] at hx9_0 hx9_1 hx9_2 hf9_2
                  clear hcl9 hcc9 hfr9 hM9
                  have HBE := Aside0.mk hbent
                  have HB3B := Aside0.mk hb3
                  clear hbent
                  have i0_ := eq_true HAQ.out.1
                  have i1_ := eq_true HAQ.out.2
                  have i2_ := eq_false (show ¬ a < 0 by have := HAQ.out; omega)
                  have i3_ := eq_false (show ¬ (bs.length : Int) ≤ a by have := HAQ.out; omega)
                  have k0 := blk_cell B7b.out 0
                  have k1 := blk_cell B7b.out 1
                  by_cases hroom : room = 1000000
                  · rw [if_pos hroom] at hmv
                    have q1 : (room == 1000000) = true := beq_iff_eq.mpr hroom
                    have q2 : decide (room = 1000000) = true := decide_eq_true hroom
                    have hu3 := HU3.out
                    rw [q2] at hu3
                    have HU4 := Aside0.mk hu3
                    clear hu3
                    have HROOM := Aside0.mk hroom
                    subst hmv
                    clear hb3 hroom HU3
                    go_wp2_with (fail)
                    have hg : w9z.grownBy (w9z.setCell ⟨g9, a.toNat * 3 + 2, none⟩ (.int .i64 (-1000))) (some g9) := HP9.out.2
                    have R6 : Aside0 (Kd.R k39 39 (w9z.setCell ⟨g9, a.toNat * 3 + 2, none⟩ (.int .i64 (-1000))) wn.heap.size (fun _ => True) (.slice (some ⟨g9, 0, none⟩) bs.length c5) (bs.set a.toNat ⟨(rd_T39 bs a).f0, (rd_T39 bs a).f1, (-1000)⟩)) := ⟨HP9.out.1⟩
                    have B8 := Aside0.mk (blk_grown B7b.out hg (Kd.R_ne R5.out B7b.out (by decide)))
                    have HB5 : Aside0 (Below wn.heap.size wn (w9z.setCell ⟨g9, a.toNat * 3 + 2, none⟩ (.int .i64 (-1000)))) := ⟨below_set HB4.out HGE9.out⟩
                    clear hg k0 k1 hx9_0 hx9_1 hx9_2 hf9_2 HP9 R5 B7b HB4 q2 i0_ i1_ i2_ i3_
                    generalize w9z.setCell ⟨g9, a.toNat * 3 + 2, none⟩ (.int .i64 (-1000)) = ws at R6 B8 HB5 ⊢
                    have P6 := Aside0.mk (Kd.R_reads' R6.out)
                    have heq : bs.set a.toNat (⟨(rd_T39 bs a).f0, (rd_T39 bs a).f1, (-1000)⟩ : S39) = bentOf bs a room xb := by rw [HBE.out, ← HB3B.out]
                    obtain ⟨bent, hbt⟩ : ∃ z, z = bentOf bs a room xb := ⟨_, rfl⟩
                    have hl : bs.length = bent.length := by rw [hbt, ← heq, List.length_set]
                    have P7 : Aside0 (Kd.C k39 ws (some ⟨g9, 0, none⟩) bent.length bent ∧ bent.length ≤ c5) := ⟨by have h_ := P6.out; rw [heq, ← hbt, hl] at h_; exact ⟨h_.2.2, h_.2.1⟩⟩
                    have ht_ := HTB_.out
                    have hv_ := HVB_.out
                    rw [← hbt] at ht_ hv_
                    have HT2 := Aside0.mk ht_
                    have HV2 := Aside0.mk hv_
                    have HLB := Aside0.mk hl
                    have hcall := impl_TightestBounds.calls (hr0_1 := P7.out.1) (hc0_1 := P7.out.2) (h := HT2.out)
                    rw [← hl] at hcall
                    clear ht_ hv_ heq hl hbt P6 R6 HTB_ HVB_
                    refine hcall.mono ?_
                    clear hcall
                    rintro e wt ⟨v1_, rfl, hs1, hb⟩; obtain ⟨At2, ct2, rfl⟩ := Kd.S_slice hs1; clear hs1
                    replace B8 := Aside0.mk (blk_below B8.out hb)
                    replace HB5 := Aside0.mk (below_step HB5.out hb)
                    replace P7 := Aside0.mk (And.intro (Kd.C_below P7.out.1 hb) P7.out.2)
                    clear hb
                    have m0 := blk_cell B8.out 0
                    have m1 := blk_cell B8.out 1
                    go_wp2_with (fail)
                    have hcall := impl_ValidDiagram.calls (hr0_1 := P7.out.1) (hc0_1 := P7.out.2) (h := HV2.out)
                    rw [← HLB.out] at hcall
                    refine hcall.mono ?_
                    clear hcall
                    rintro e wv ⟨rfl, hb⟩
                    have HB6 := Aside0.mk (below_step HB5.out hb)
                    clear hb m0 m1
                    have hz1 := HZ1.out
                    have hu4 := HU4.out
                    cases vv with
                    | false =>
                      clear hu4
                      go_wp2
                      go_roundg (2 - bq)
                      case' measure => have := HI.out; have := HI2.out; omega
                      case' rel => exact ⟨bq + 1, by rw [HIW.out], ⟨by have := HI.out; have := HI2.out; omega⟩, HB6⟩
                    | true =>
                      rw [if_pos rfl] at hu4
                      by_cases hsv : seven = (true || zb)
                      case neg => rw [if_neg hsv] at hu4; cases hu4
                      clear hu4
                      cases zb <;> cases seven <;> first | (exfalso; revert hsv; decide) |
                        (clear hsv
                         go_wp2
                         go_roundg (2 - bq)
                         case' measure => have := HI.out; have := HI2.out; omega
                         case' rel => exact ⟨bq + 1, by rw [HIW.out], ⟨by have := HI.out; have := HI2.out; omega⟩, HB6⟩)
                  · rw [if_neg hroom] at hmv
                    have q1 : (room == 1000000) = false := beq_eq_false_iff_ne.mpr hroom
                    have q2 : decide (room = 1000000) = false := decide_eq_false hroom
                    have hu3 := HU3.out
                    rw [q2] at hu3
                    have HU4 := Aside0.mk hu3
                    clear hu3
                    have HROOM := Aside0.mk hroom
                    subst hmv
                    clear hb3 hroom HU3
                    go_wp2_with (fail)
                    have hg : w9z.grownBy (w9z.setCell ⟨g9, a.toNat * 3 + 2, none⟩ (.int .i64 (wrap64 (f2 - wrap64 (room + xb))))) (some g9) := HP9.out.2
                    have R6 : Aside0 (Kd.R k39 39 (w9z.setCell ⟨g9, a.toNat * 3 + 2, none⟩ (.int .i64 (wrap64 (f2 - wrap64 (room + xb))))) wn.heap.size (fun _ => True) (.slice (some ⟨g9, 0, none⟩) bs.length c5) (bs.set a.toNat ⟨(rd_T39 bs a).f0, (rd_T39 bs a).f1, (wrap64 (f2 - wrap64 (room + xb)))⟩)) := ⟨HP9.out.1⟩
                    have B8 := Aside0.mk (blk_grown B7b.out hg (Kd.R_ne R5.out B7b.out (by decide)))
                    have HB5 : Aside0 (Below wn.heap.size wn (w9z.setCell ⟨g9, a.toNat * 3 + 2, none⟩ (.int .i64 (wrap64 (f2 - wrap64 (room + xb)))))) := ⟨below_set HB4.out HGE9.out⟩
                    clear hg k0 k1 hx9_0 hx9_1 hx9_2 hf9_2 HP9 R5 B7b HB4 q2 i0_ i1_ i2_ i3_
                    generalize w9z.setCell ⟨g9, a.toNat * 3 + 2, none⟩ (.int .i64 (wrap64 (f2 - wrap64 (room + xb)))) = ws at R6 B8 HB5 ⊢
                    have P6 := Aside0.mk (Kd.R_reads' R6.out)
                    have heq : bs.set a.toNat (⟨(rd_T39 bs a).f0, (rd_T39 bs a).f1, (wrap64 (f2 - wrap64 (room + xb)))⟩ : S39) = bentOf bs a room xb := by rw [HBE.out, ← HB3B.out]
                    obtain ⟨bent, hbt⟩ : ∃ z, z = bentOf bs a room xb := ⟨_, rfl⟩
                    have hl : bs.length = bent.length := by rw [hbt, ← heq, List.length_set]
                    have P7 : Aside0 (Kd.C k39 ws (some ⟨g9, 0, none⟩) bent.length bent ∧ bent.length ≤ c5) := ⟨by have h_ := P6.out; rw [heq, ← hbt, hl] at h_; exact ⟨h_.2.2, h_.2.1⟩⟩
                    have ht_ := HTB_.out
                    have hv_ := HVB_.out
                    rw [← hbt] at ht_ hv_
                    have HT2 := Aside0.mk ht_
                    have HV2 := Aside0.mk hv_
                    have HLB := Aside0.mk hl
                    have hcall := impl_TightestBounds.calls (hr0_1 := P7.out.1) (hc0_1 := P7.out.2) (h := HT2.out)
                    rw [← hl] at hcall
                    clear ht_ hv_ heq hl hbt P6 R6 HTB_ HVB_
                    refine hcall.mono ?_
                    clear hcall
                    rintro e wt ⟨v1_, rfl, hs1, hb⟩; obtain ⟨At2, ct2, rfl⟩ := Kd.S_slice hs1; clear hs1
                    replace B8 := Aside0.mk (blk_below B8.out hb)
                    replace HB5 := Aside0.mk (below_step HB5.out hb)
                    replace P7 := Aside0.mk (And.intro (Kd.C_below P7.out.1 hb) P7.out.2)
                    clear hb
                    have m0 := blk_cell B8.out 0
                    have m1 := blk_cell B8.out 1
                    go_wp2_with (fail)
                    have hcall := impl_ValidDiagram.calls (hr0_1 := P7.out.1) (hc0_1 := P7.out.2) (h := HV2.out)
                    rw [← HLB.out] at hcall
                    refine hcall.mono ?_
                    clear hcall
                    rintro e wv ⟨rfl, hb⟩
                    have HB6 := Aside0.mk (below_step HB5.out hb)
                    clear hb m0 m1
                    have hz1 := HZ1.out
                    have hu4 := HU4.out
                    cases vv with
                    | false =>
                      clear hu4
                      go_wp2
                      go_roundg (2 - bq)
                      case' measure => have := HI.out; have := HI2.out; omega
                      case' rel => exact ⟨bq + 1, by rw [HIW.out], ⟨by have := HI.out; have := HI2.out; omega⟩, HB6⟩
                    | true =>
                      rw [if_pos rfl] at hu4
                      by_cases hsv : seven = (false || zb)
                      case neg => rw [if_neg hsv] at hu4; cases hu4
                      clear hu4
                      cases zb <;> cases seven <;> first | (exfalso; revert hsv; decide) |
                        (clear hsv
                         go_wp2
                         go_roundg (2 - bq)
                         case' measure => have := HI.out; have := HI2.out; omega
                         case' rel => exact ⟨bq + 1, by rw [HIW.out], ⟨by have := HI.out; have := HI2.out; omega⟩, HB6⟩)
                · obtain rfl : bq = 2 := by have := HI.out; omega
                  have := HRT.out
                  subst this
                  go_wp2
                  go_ret
                  exact ⟨rfl, by repeat (first | exact below_step HB3.out HBN.out | apply pw_below_drewN | apply below_drew1 | apply below_alloc)⟩


/-- THE ONE PURE STATEMENT of laws_FnNeeded: yours. -/
def laws_FnNeeded.Pure : Prop := ∀ (l0 : List Int) (l1 : List Int), (l0.length ≤ 9223372036854775807 ∧ ∀ x_ ∈ l0, (Lit.int .u8 x_).wf = true) → (l1.length ≤ 9223372036854775807 ∧ ∀ x_ ∈ l1, (Lit.int .u8 x_).wf = true) → ∃ k, laws_FnNeeded.f k l0 l1 = some true

end Go.Proofs.YtbgokpobaemibaaDoor.Pa
