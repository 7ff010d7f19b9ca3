-- Written for this claim by a program of this session.
import Derived.Test.YtmipelgjmmgmnaaDoorPax0
import Derived.Test.YtmipelgjmmgmnaaDoorPaxaside
import Derived.Test.YtmipelgjmmgmnaaDoorPaxawaveOf
import Derived.Test.YtmipelgjmmgmnaaDoorPaxastrbox
import Derived.Test.YtmipelgjmmgmnaaDoorPaxf100
import Derived.Test.YtmipelgjmmgmnaaDoorPaxf133
import Derived.Test.YtmipelgjmmgmnaaDoorPaxf102
import Derived.Test.YtmipelgjmmgmnaaDoorPaxf100
import Derived.Test.YtmipelgjmmgmnaaDoorPaxf102
namespace Go.Proofs.YtmipelgjmmgmnaaDoor.Pa
open Go.RowKit Go.Proofs.YtmipelgjmmgmnaaDoorW.PrintWords Go.Proofs.YtmipelgjmmgmnaaDoorW.PrintLast Go.Proofs.YtmipelgjmmgmnaaDoorW.PrintMore
attribute [local go_sem] max2_int min2_int max_two min_two max_three min_three max_four min_four   -- for this text's walks alone
set_option linter.unusedVariables false
set_option linter.unusedSimpArgs false

/-! ### impl_divideWave: function 66 -/
/-- The letter before a tick. -/
def prevB (s : ByteArray) (i : Nat) : Int := if i = 0 then 48 else bt s ((i - 1 : Nat) : Int)
def isUp (s : ByteArray) (i : Nat) : Bool := !(bt s (i : Int) == prevB s i) && (bt s (i : Int) == 49)
/-- The ticks below n at which a wave goes up. -/
def upsL (s : ByteArray) (n : Nat) : List Int := ((List.range n).filter (isUp s)).map fun (i : Nat) => (i : Int)
theorem upsL_succ (s : ByteArray) (n : Nat) : upsL s (n + 1) = if isUp s n = true then upsL s n ++ [(n : Int)] else upsL s n := by
  unfold upsL
  rw [List.range_succ, List.filter_append, List.map_append]
  cases h : isUp s n <;> simp [h]
theorem upsL_le (s : ByteArray) (n : Nat) : (upsL s n).length ≤ n := by
  unfold upsL
  rw [List.length_map]
  exact Nat.le_trans (List.length_filter_le _ _) (by simp)
theorem upsL_mem (s : ByteArray) (n i : Nat) (h : i < n) : (i : Int) ∈ upsL s n ↔ isUp s i = true := by
  unfold upsL
  rw [List.mem_map]
  constructor
  · rintro ⟨j, hj, e⟩
    obtain rfl : j = i := by omega
    exact (List.mem_filter.1 hj).2
  · intro hu
    exact ⟨i, List.mem_filter.2 ⟨List.mem_range.2 h, hu⟩, rfl⟩
theorem changes_loop (s : ByteArray) (hs : s.size ≤ 400) : ∀ d i k, s.size - i = d → i ≤ s.size → d < k → impl_changesTo.l0 k s 49 (upsL s i) (prevB s i) (s.size : Int) (i : Int) = some (upsL s s.size)
  | 0, i, k, hd, hi, hk => by
    obtain rfl : i = s.size := by omega
    obtain ⟨k, rfl⟩ : ∃ m, k = m + 1 := ⟨k - 1, by omega⟩
    simp only [impl_changesTo.l0]
    rw [if_neg (by omega)]
  | d + 1, i, k, hd, hi, hk => by
    obtain ⟨k, rfl⟩ : ∃ m, k = m + 1 := ⟨k - 1, by omega⟩
    have hw : wrap64 ((i : Int) + 1) = ((i + 1 : Nat) : Int) := by unfold wrap64; omega
    have hp : prevB s (i + 1) = bt s (i : Int) := rfl
    have hl := upsL_le s i
    have ih := changes_loop s hs d (i + 1) k (by omega) (by omega) (by omega)
    rw [hp, upsL_succ] at ih
    simp only [impl_changesTo.l0]
    rw [if_pos (by omega), if_pos (by omega), if_pos (by omega), hw]
    unfold isUp at ih
    by_cases h1 : bt s (i : Int) = prevB s i
    · rw [if_pos h1]
      rw [if_neg (by rw [beq_iff_eq.2 h1]; simp)] at ih
      exact ih
    · rw [if_neg h1]
      rw [beq_eq_false_iff_ne.2 h1] at ih
      by_cases h2 : bt s (i : Int) = 49
      · rw [if_pos h2, if_pos (by omega)]
        rw [if_pos (by rw [beq_iff_eq.2 h2]; rfl)] at ih
        exact ih
      · rw [if_neg h2]
        rw [if_neg (by rw [beq_eq_false_iff_ne.2 h2]; decide)] at ih
        exact ih
theorem changes_tells (s : ByteArray) (hs : s.size ≤ 400) (k : Nat) (hk : s.size < k) : impl_changesTo.f k s 49 = some (upsL s s.size) := changes_loop s hs s.size 0 k (by omega) (by omega) hk
theorem index_loop (l : List Int) (x : Int) (hl : l.length ≤ 400) : ∀ d i k, l.length - i = d → i ≤ l.length → d < k → ∃ r, slices_Index_int64_int64.l0 k l x (l.length : Int) (i : Int) = some r ∧ (0 ≤ r ↔ x ∈ l.drop i)
  | 0, i, k, hd, hi, hk => by
    obtain rfl : i = l.length := by omega
    obtain ⟨k, rfl⟩ : ∃ m, k = m + 1 := ⟨k - 1, by omega⟩
    refine ⟨-1, ?_, ?_⟩
    · simp only [slices_Index_int64_int64.l0]
      rw [if_neg (by omega)]
    · rw [List.drop_of_length_le (Nat.le_refl _)]
      simp
  | d + 1, i, k, hd, hi, hk => by
    obtain ⟨k, rfl⟩ : ∃ m, k = m + 1 := ⟨k - 1, by omega⟩
    have hlt : i < l.length := by omega
    have hw : wrap64 ((i : Int) + 1) = ((i + 1 : Nat) : Int) := by unfold wrap64; omega
    have hr : rd l (i : Int) = l[i] := by
      unfold rd
      rw [List.getD_eq_getElem?_getD, Int.toNat_natCast, List.getElem?_eq_getElem hlt]
      rfl
    simp only [slices_Index_int64_int64.l0]
    rw [if_pos (by omega), if_pos (by omega), if_pos (by omega), hr, hw, List.drop_eq_getElem_cons hlt]
    by_cases hx : x = l[i]
    · rw [if_pos hx]
      exact ⟨(i : Int), rfl, fun _ => by rw [hx]; exact List.mem_cons_self, fun _ => by omega⟩
    · rw [if_neg hx]
      obtain ⟨r, h1, h2⟩ := index_loop l x hl d (i + 1) k (by omega) (by omega) (by omega)
      exact ⟨r, h1, by rw [h2, List.mem_cons]; simp [hx]⟩
theorem contains_tells (l : List Int) (x : Int) (hl : l.length ≤ 400) (k : Nat) (hk : l.length < k) : slices_Contains_int64_int64.f k l x = some (decide (x ∈ l)) := by
  obtain ⟨r, h1, h2⟩ := index_loop l x hl l.length 0 k (by omega) (by omega) hk
  rw [List.drop_zero] at h2
  unfold slices_Contains_int64_int64.f slices_Index_int64_int64.f
  rw [show slices_Index_int64_int64.l0 k l x (l.length : Int) 0 = some r from h1, Option.bind_some]
  congr 1
  rw [Bool.eq_iff_iff, decide_eq_true_eq, decide_eq_true_eq]
  exact h2
/-- How many ticks went up, less one. -/
def upK (s : ByteArray) : Nat → Int
  | 0 => -1
  | i + 1 => if isUp s i = true then wrap64 (upK s i + 1) else upK s i
def divLv (by_ high : Int) (s : ByteArray) (i : Nat) : Bool := decide (0 ≤ upK s (i + 1)) && decide (Int.tmod (upK s (i + 1)) by_ < high)
def impl_divideWave.f (a0_0 a0_1 : Int) (a1 : ByteArray) : Option ByteArray := if a1.size ≤ 400 ∧ a0_0 ≠ 0 then some (strOfNums (waveL (divLv a0_0 a0_1 a1) a1.size)) else none
set_option maxHeartbeats 4000000 in
set_option maxRecDepth 100000 in
theorem divideWave_test (s : ByteArray) (n h : Int) (gu gk gd : Nat) (A : Option Addr) (c : Nat) (i : Nat) (hs : s.size ≤ 400) (hi : i < s.size) (hn : n ≠ 0) (B M : Nat) (W : World)
    (cu : W.heap[gu]? = some (.cells #[.slice A (upsL s s.size).length c] 48 (0, 0))) (ck : W.heap[gk]? = some (.cells #[.int .i64 (upK s i)] 2 (0, 0))) (cd : W.heap[gd]? = some (.cells #[.int .i64 n, .int .i64 h] 32 (0, 0)))
    (hr : Kd.C (Kd.int .i64) W A (upsL s s.size).length (upsL s s.size)) (hc : (upsL s s.size).length ≤ c) (n1 : gu ≠ gk) (n2 : gd ≠ gk) (hB : B ≤ gk) (hM : gk < M) :
    Calls Tryd.prog 101 #[.int .i64 (i : Int), .pointer (some ⟨gu, 0, none⟩), .pointer (some ⟨gk, 0, none⟩), .pointer (some ⟨gd, 0, none⟩)] W fun en w' =>
      en = .returned (.bool (divLv n h s i)) ∧ w'.heap[gk]? = some (.cells #[.int .i64 (upK s (i + 1))] 2 (0, 0)) ∧ KeepBut W w' gk none ∧ Side B M W w' := by
  have HCT : Aside0 (slices_Contains_int64_int64.f 401 (upsL s s.size) (i : Int) = some (isUp s i)) := ⟨by
    rw [contains_tells _ _ (Nat.le_trans (upsL_le _ _) hs) 401 (by have := upsL_le s s.size; omega)]
    congr 1
    rw [Bool.eq_iff_iff, decide_eq_true_eq]
    exact upsL_mem s s.size i hi⟩
  have k1 := cell1 cu
  have k2 := cell1 ck
  have k3 : W.cell? ⟨gd, 0, none⟩ = some (.int .i64 n) := (blk_cell cd 0).trans rfl
  have k4 : W.cell? ⟨gd, 1, none⟩ = some (.int .i64 h) := (blk_cell cd 1).trans rfl
  have f2 := blk_frozen ck 0
  have HU := Aside0.mk cu
  have HK := Aside0.mk ck
  have HD := Aside0.mk cd
  have HR := Aside0.mk hr
  have HC := Aside0.mk hc
  have HX := Aside0.mk (And.intro n1 (And.intro n2 (And.intro hB hM)))
  have z0 : (n == 0) = false := beq_eq_false_iff_ne.2 hn
  have z1 : (n != 0) = true := bne_iff_ne.2 hn
  clear cu ck cd hr hc n1 n2 hB hM hs hi
  have hu : upK s (i + 1) = if isUp s i = true then wrap64 (upK s i + 1) else upK s i := rfl
  have HE : Aside0 (divLv n h s i = (decide (0 ≤ upK s (i + 1)) && decide (Int.tmod (upK s (i + 1)) n < h))) := ⟨rfl⟩
  generalize divLv n h s i = q at HE ⊢
  generalize (i : Int) = x at HCT ⊢
  generalize upK s (i + 1) = y at hu HE ⊢
  generalize upK s i = y0 at hu k2 HK
  have HSF : ∀ nd, Side B M W (W.drewN nd) := fun nd => Side.of_below (pw_below_drewN (Below.refl _ W) nd)
  have HSF := Aside0.mk HSF
  cases hup : isUp s i with
  | true =>
    rw [hup] at HCT
    rw [hup, if_pos rfl] at hu
    clear hup
    subst hu
    by_cases hy : 0 ≤ wrap64 (y0 + 1)
    · have t0 : decide (0 ≤ wrap64 (y0 + 1)) = true := decide_eq_true hy
      rw [t0] at HE
      clear hy
      by_cases hz : Int.tmod (wrap64 (y0 + 1)) n < h
      · have t1 : decide (Int.tmod (wrap64 (y0 + 1)) n < h) = true := decide_eq_true hz
        rw [t1] at HE
        clear hz
        go_enter Tryd.func101, Tryd.ntmps101
        go_wp2_with (go_at_call 102; refine (slices_Contains_int64_int64.calls 401 _ _ _ _ true _ HR.out HC.out HCT.out).mono ?_; rintro e w' ⟨rfl, ⟨nd, rfl⟩⟩; have HK1 := Aside0.mk (put1 (blk_drewN HK.out nd) (.int .i64 (wrap64 (y0 + 1)))); have HD1 := Aside0.mk (blk_far (blk_drewN HD.out nd) (p := ⟨gk, 0, none⟩) HX.out.2.1 (.int .i64 (wrap64 (y0 + 1)))); have m2 := cell1 HK1.out; have m3 := (blk_cell HD1.out 0).trans (show _ = some (Value.int .i64 n) from rfl); have m4 := (blk_cell HD1.out 1).trans (show _ = some (Value.int .i64 h) from rfl))
        go_quiet (fail)
        go_wp2
        go_ret
        exact ⟨by rw [HE.out]; rfl, blk_drewN HK1.out nq, keepPut _ _ _ _ _, side_drewN ((side_drewN (Side.refl _ _ _) _).set HX.out.2.2.1 HX.out.2.2.2 0 _) _⟩
      · have t1 : decide (Int.tmod (wrap64 (y0 + 1)) n < h) = false := decide_eq_false hz
        rw [t1] at HE
        clear hz
        go_enter Tryd.func101, Tryd.ntmps101
        go_wp2_with (go_at_call 102; refine (slices_Contains_int64_int64.calls 401 _ _ _ _ true _ HR.out HC.out HCT.out).mono ?_; rintro e w' ⟨rfl, ⟨nd, rfl⟩⟩; have HK1 := Aside0.mk (put1 (blk_drewN HK.out nd) (.int .i64 (wrap64 (y0 + 1)))); have HD1 := Aside0.mk (blk_far (blk_drewN HD.out nd) (p := ⟨gk, 0, none⟩) HX.out.2.1 (.int .i64 (wrap64 (y0 + 1)))); have m2 := cell1 HK1.out; have m3 := (blk_cell HD1.out 0).trans (show _ = some (Value.int .i64 n) from rfl); have m4 := (blk_cell HD1.out 1).trans (show _ = some (Value.int .i64 h) from rfl))
        go_quiet (fail)
        go_wp2
        go_ret
        exact ⟨by rw [HE.out]; rfl, blk_drewN HK1.out nq, keepPut _ _ _ _ _, side_drewN ((side_drewN (Side.refl _ _ _) _).set HX.out.2.2.1 HX.out.2.2.2 0 _) _⟩
    · have t0 : decide (0 ≤ wrap64 (y0 + 1)) = false := decide_eq_false hy
      rw [t0] at HE
      clear hy
      go_enter Tryd.func101, Tryd.ntmps101
      go_wp2_with (go_at_call 102; refine (slices_Contains_int64_int64.calls 401 _ _ _ _ true _ HR.out HC.out HCT.out).mono ?_; rintro e w' ⟨rfl, ⟨nd, rfl⟩⟩; have HK1 := Aside0.mk (put1 (blk_drewN HK.out nd) (.int .i64 (wrap64 (y0 + 1)))); have HD1 := Aside0.mk (blk_far (blk_drewN HD.out nd) (p := ⟨gk, 0, none⟩) HX.out.2.1 (.int .i64 (wrap64 (y0 + 1)))); have m2 := cell1 HK1.out; have m3 := (blk_cell HD1.out 0).trans (show _ = some (Value.int .i64 n) from rfl); have m4 := (blk_cell HD1.out 1).trans (show _ = some (Value.int .i64 h) from rfl))
      go_quiet (fail)
      go_wp2
      go_ret
      exact ⟨by rw [HE.out]; rfl, blk_drewN HK1.out nq, keepPut _ _ _ _ _, side_drewN ((side_drewN (Side.refl _ _ _) _).set HX.out.2.2.1 HX.out.2.2.2 0 _) _⟩
  | false =>
    rw [hup] at HCT
    rw [hup, if_neg (by decide)] at hu
    clear hup
    subst hu
    by_cases hy : 0 ≤ y
    · have t0 : decide (0 ≤ y) = true := decide_eq_true hy
      rw [t0] at HE
      clear hy
      by_cases hz : Int.tmod (y) n < h
      · have t1 : decide (Int.tmod (y) n < h) = true := decide_eq_true hz
        rw [t1] at HE
        clear hz
        go_enter Tryd.func101, Tryd.ntmps101
        go_wp2_with (go_at_call 102; refine (slices_Contains_int64_int64.calls 401 _ _ _ _ false _ HR.out HC.out HCT.out).mono ?_; rintro e w' ⟨rfl, ⟨nd, rfl⟩⟩)
        go_quiet (fail)
        go_wp2
        go_ret
        exact ⟨by rw [HE.out]; rfl, blk_drewN (blk_drewN HK.out nd) nq, keepTrans (keepN _ _ _) (keepN _ _ _), side_drewN (side_drewN (Side.refl _ _ _) _) _⟩
      · have t1 : decide (Int.tmod (y) n < h) = false := decide_eq_false hz
        rw [t1] at HE
        clear hz
        go_enter Tryd.func101, Tryd.ntmps101
        go_wp2_with (go_at_call 102; refine (slices_Contains_int64_int64.calls 401 _ _ _ _ false _ HR.out HC.out HCT.out).mono ?_; rintro e w' ⟨rfl, ⟨nd, rfl⟩⟩)
        go_quiet (fail)
        go_wp2
        go_ret
        exact ⟨by rw [HE.out]; rfl, blk_drewN (blk_drewN HK.out nd) nq, keepTrans (keepN _ _ _) (keepN _ _ _), side_drewN (side_drewN (Side.refl _ _ _) _) _⟩
    · have t0 : decide (0 ≤ y) = false := decide_eq_false hy
      rw [t0] at HE
      clear hy
      go_enter Tryd.func101, Tryd.ntmps101
      go_wp2_with (go_at_call 102; refine (slices_Contains_int64_int64.calls 401 _ _ _ _ false _ HR.out HC.out HCT.out).mono ?_; rintro e w' ⟨rfl, ⟨nd, rfl⟩⟩)
      go_quiet (fail)
      go_wp2
      go_ret
      exact ⟨by rw [HE.out]; rfl, blk_drewN (blk_drewN HK.out nd) nq, keepTrans (keepN _ _ _) (keepN _ _ _), side_drewN (side_drewN (Side.refl _ _ _) _) _⟩
set_option maxHeartbeats 2000000 in
set_option maxRecDepth 100000 in
theorem divideWave_wave (n h : Int) (s : ByteArray) (gu gk gd : Nat) (A : Option Addr) (c base : Nat) (hs : s.size ≤ 400) (hn : n ≠ 0) (B : Nat) (w : World) (hBw : B ≤ w.heap.size) (hB : B ≤ gk)
    (cu : w.heap[gu]? = some (.cells #[.slice A (upsL s s.size).length c] 48 (0, 0))) (ck : w.heap[gk]? = some (.cells #[.int .i64 (-1)] 2 (0, 0))) (cd : w.heap[gd]? = some (.cells #[.int .i64 n, .int .i64 h] 32 (0, 0)))
    (hr : Kd.R (Kd.int .i64) 2 w base (fun k => k ≠ gk) (.slice A (upsL s s.size).length c) (upsL s s.size)) (n1 : gu ≠ gk) (n2 : gd ≠ gk) :
    Calls Tryd.prog 53 #[.int .i64 (s.size : Int), .func (.func 101) #[] #[.pointer (some ⟨gu, 0, none⟩), .pointer (some ⟨gk, 0, none⟩), .pointer (some ⟨gd, 0, none⟩)]] w fun e w' => e = .returned (.string (strOfNums (waveL (divLv n h s) s.size))) ∧ Below B w w' := by
  have l1 := blk_lt cu
  have l2 := blk_lt ck
  have l3 := blk_lt cd
  refine (waveOf.calls s.size 101 #[.pointer (some ⟨gu, 0, none⟩), .pointer (some ⟨gk, 0, none⟩), .pointer (some ⟨gd, 0, none⟩)] (divLv n h s)
    (fun i W => KeepBut w W gk none ∧ W.heap[gk]? = some (.cells #[.int .i64 (upK s i)] 2 (0, 0))) B w (by omega) hBw
    (enters_of Tryd.func101 (by kernel_rfl) rfl) ⟨KeepBut.refl _ _ _, ck⟩ (fun i W W' h hB => ⟨keepBelow h.1 hB, blk_stays h.2 l2 hB⟩)
    (fun i W hi _ hI => ?_)).mono fun e w' ⟨he, _, hB⟩ => ⟨he, hB⟩
  have hr' := Kd.R_keep hr hI.1 (fun k hk => hk)
  refine (divideWave_test s n h gu gk gd A c i hs hi hn B w.heap.size W ((hI.1.2 gu l1 n1 (by simp)).trans cu) hI.2 ((hI.1.2 gd l3 n2 (by simp)).trans cd) (Kd.R_reads' hr').2.2 (Kd.R_reads' hr').2.1 n1 n2 hB l2).mono fun e w' ⟨he, hk, hkb, hsd⟩ => ⟨he, ⟨keepTrans hI.1 hkb, hk⟩, hsd⟩
set_option maxHeartbeats 4000000 in
set_option maxRecDepth 100000 in
theorem impl_divideWave.calls (a0_0 : Int) (a0_1 : Int) (a1 : ByteArray) (r : ByteArray) (w : World) (h : impl_divideWave.f a0_0 a0_1 a1 = some r) :
    Calls Tryd.prog 66 #[.agg #[.int .i64 a0_0, .int .i64 a0_1], .string a1] w fun e w' => e = .returned (.string r) ∧ Below w.heap.size w w' := by
  have hu := Tryd.underlying32
  unfold impl_divideWave.f at h
  by_cases hc : a1.size ≤ 400 ∧ a0_0 ≠ 0
  case neg => rw [if_neg hc] at h; exact absurd h (by simp)
  rw [if_pos hc] at h
  obtain rfl := Option.some.inj h
  have HS := Aside0.mk hc
  have HCH := Aside0.mk (changes_tells a1 hc.1 401 (by omega))
  clear h hc
  go_enter Tryd.func66, Tryd.ntmps66
  go_wp2_with (first | ((with_reducible refine gate_dst (N := 2) rfl ?_); refine box_event ?hg (N := 2) ?hd (cs := #[.int .i64 a0_0, .int .i64 a0_1]) (t := 32) ?hr ?_; (case hd => rfl); (case hg => rfl); (case hr => first | (go_simp; done) | (go_simp; rfl)); intro gd hg_ w1 hbox_ hb_; have HX_gd := Aside0.mk hbox_; have HB_w1 := Aside0.mk hb_; have HG_gd := Aside0.mk hg_; clear hbox_ hb_ hg_) | (go_at_call 100; refine (impl_changesTo.calls 401 a1 49 _ _ HCH.out).mono ?_; rintro e w2 ⟨v2, rfl, hr2, hb2⟩; obtain ⟨A2, c2, rfl⟩ := Kd.R_slice hr2; have HR2 := Aside0.mk (Kd.R_mono (Kd.R_bound hr2) (fun k hk => (hk.2.2.1 : k < w2.heap.size))); have HB2 := Aside0.mk (below_step HB_w1.out hb2); replace HX_gd := Aside0.mk (blk_below HX_gd.out hb2); clear hr2 hb2) | (go_at_call 53; refine (divideWave_wave a0_0 a0_1 a1 w2.heap.size (w2.heap.size + 1) gd A2 c2 _ HS.out.1 HS.out.2 w2.heap.size _ (by simp; omega) (by omega) (blk_alloc (blk_new _ _) _) (by simpa using blk_new (w2.alloc (.cells #[.slice A2 (upsL a1 a1.size).length c2] 48)) (.cells #[.int .i64 (-1)] 2)) (blk_alloc (blk_alloc HX_gd.out _) _) (Kd.R_alloc (Kd.R_alloc (Kd.R_mono HR2.out (fun k hk => by omega)) _) _) (by omega) (by have := blk_lt HX_gd.out; omega)).mono ?_; rintro e w3 ⟨rfl, hb3⟩; have HB3 := Aside0.mk (below_step HB2.out ((below_alloc (below_alloc (Below.refl _ _) _) _).trans hb3)); clear hb3))
  go_ret
  exact ⟨rfl, HB3.out⟩

end Go.Proofs.YtmipelgjmmgmnaaDoor.Pa
