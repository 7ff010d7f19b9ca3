-- Written for this claim by a program of this session.
import Derived.Test.YtkdijegkoajdgaaVPax0
import Derived.Test.YtkdijegkoajdgaaVCoreL3
namespace Go.Proofs.Ytkdijegkoajdgaa.Pa
open Go.RowKit Go.Proofs.YtkdijegkoajdgaaW.PrintWords Go.Proofs.YtkdijegkoajdgaaW.PrintLast Go.Proofs.YtkdijegkoajdgaaW.PrintMore
attribute [local go_sem] max2_int min2_int max_two min_two max_three min_three max_four min_four   -- for this text's walks alone
set_option linter.unusedVariables false
set_option linter.unusedSimpArgs false

/-! ### spec_l04Tight: function 24 -/
mutual
def spec_l04Tight.l0 : Nat → List Int → List (List Int) → Int → Int → List (S53) → Option ((List (List Int)) × Bool × Int)
 | 0, _, _, _, _, _ => none
 | k + 1, x1, x6, x7, x1000, x1001 => if x7 < x1000 then (spec_l04Tight.l1 k x1 x6 x7 (([] : List Int)) 0 x1000 x1001) else (spec_l04Tight.l2 k x1 x6 0 x1000 x1001)
def spec_l04Tight.l1 : Nat → List Int → List (List Int) → Int → List Int → Int → Int → List (S53) → Option ((List (List Int)) × Bool × Int)
 | 0, _, _, _, _, _, _, _ => none
 | k + 1, x1, x6, x7, x8, x9, x1000, x1001 => if x9 < x1000 then (if x7 = x9 then (if x8.length < 17592186044416 then (spec_l04Tight.l1 k x1 x6 x7 (x8 ++ [0]) (wrap64 (x9 + 1)) x1000 x1001) else (none)) else (if x8.length < 17592186044416 then (spec_l04Tight.l1 k x1 x6 x7 (x8 ++ [1000000]) (wrap64 (x9 + 1)) x1000 x1001) else (none))) else (if x6.length < 5864062014805 then (spec_l04Tight.l0 k x1 (x6 ++ [x8]) (wrap64 (x7 + 1)) x1000 x1001) else (none))
def spec_l04Tight.l2 : Nat → List Int → List (List Int) → Int → Int → List (S53) → Option ((List (List Int)) × Bool × Int)
 | 0, _, _, _, _, _ => none
 | k + 1, x1, x6, x10, x1000, x1001 => if x10 < (x1001.length : Int) then (if 0 ≤ x10 then ((spec_l00Has.f k x1 x10).bind fun t224 => (if t224 = true then (spec_l04Tight.l2 k x1 x6 (wrap64 (x10 + 1)) x1000 x1001) else (if 0 ≤ ((rd_T53 x1001 x10).f0) then (if ((rd_T53 x1001 x10).f0) < (x6.length : Int) then (if 0 ≤ ((rd_T53 x1001 x10).f1) then (if ((rd_T53 x1001 x10).f1) < ((rd_L6 x6 ((rd_T53 x1001 x10).f0)).length : Int) then ((spec_l00Min.f (rd (rd_L6 x6 ((rd_T53 x1001 x10).f0)) ((rd_T53 x1001 x10).f1)) ((rd_T53 x1001 x10).f2)).bind fun t228 => (spec_l04Tight.l2 k x1 (x6.set (((rd_T53 x1001 x10).f0) : Int).toNat ((rd_L6 x6 ((rd_T53 x1001 x10).f0)).set (((rd_T53 x1001 x10).f1) : Int).toNat t228)) (wrap64 (x10 + 1)) x1000 x1001)) else (none)) else (none)) else (none)) else (none)))) else (none)) else (spec_l04Tight.l3 k x6 0 x1000 x1001)
def spec_l04Tight.l3 : Nat → List (List Int) → Int → Int → List (S53) → Option ((List (List Int)) × Bool × Int)
 | 0, _, _, _, _ => none
 | k + 1, x6, x12, x1000, x1001 => if x12 < x1000 then (spec_l04Tight.l4 k x6 x12 0 x1000 x1001) else (spec_l04Tight.l6 k x6 0 x1000 x1001)
def spec_l04Tight.l4 : Nat → List (List Int) → Int → Int → Int → List (S53) → Option ((List (List Int)) × Bool × Int)
 | 0, _, _, _, _, _ => none
 | k + 1, x6, x12, x13, x1000, x1001 => if x13 < x1000 then (spec_l04Tight.l5 k x6 x12 x13 0 x1000 x1001) else (spec_l04Tight.l3 k x6 (wrap64 (x12 + 1)) x1000 x1001)
def spec_l04Tight.l5 : Nat → List (List Int) → Int → Int → Int → Int → List (S53) → Option ((List (List Int)) × Bool × Int)
 | 0, _, _, _, _, _, _ => none
 | k + 1, x6, x12, x13, x14, x1000, x1001 => if x14 < x1000 then (if 0 ≤ x13 then (if x13 < (x6.length : Int) then (if 0 ≤ x12 then (if x12 < ((rd_L6 x6 x13).length : Int) then (if (rd (rd_L6 x6 x13) x12) < 1000000 then (if x12 < (x6.length : Int) then (if 0 ≤ x14 then (if x14 < ((rd_L6 x6 x12).length : Int) then (if (rd (rd_L6 x6 x12) x14) < 1000000 then (if x14 < ((rd_L6 x6 x13).length : Int) then ((spec_l00Min.f (rd (rd_L6 x6 x13) x14) (wrap64 ((rd (rd_L6 x6 x13) x12) + (rd (rd_L6 x6 x12) x14)))).bind fun t243 => (spec_l04Tight.l5 k (x6.set (x13 : Int).toNat ((rd_L6 x6 x13).set (x14 : Int).toNat t243)) x12 x13 (wrap64 (x14 + 1)) x1000 x1001)) else (none)) else (spec_l04Tight.l5 k x6 x12 x13 (wrap64 (x14 + 1)) x1000 x1001)) else (none)) else (none)) else (none)) else (spec_l04Tight.l5 k x6 x12 x13 (wrap64 (x14 + 1)) x1000 x1001)) else (none)) else (none)) else (none)) else (none)) else (spec_l04Tight.l4 k x6 x12 (wrap64 (x13 + 1)) x1000 x1001)
def spec_l04Tight.l6 : Nat → List (List Int) → Int → Int → List (S53) → Option ((List (List Int)) × Bool × Int)
 | 0, _, _, _, _ => none
 | k + 1, x6, x15, x1000, x1001 => if x15 < x1000 then (if 0 ≤ x15 then (if x15 < (x6.length : Int) then (if x15 < ((rd_L6 x6 x15).length : Int) then (if (rd (rd_L6 x6 x15) x15) < 0 then (some (x6, false, x1000)) else (spec_l04Tight.l6 k x6 (wrap64 (x15 + 1)) x1000 x1001)) else (none)) else (none)) else (none)) else (some (x6, true, x1000))
end
def spec_l04Tight.f (k : Nat) (s0_0 : Int) (s0_1 : List (S53)) (l1 : List Int) : Option ((List (List Int)) × Bool × Int) := spec_l04Tight.l0 k l1 (([] : List (List Int))) 0 s0_0 s0_1
def spec_l04Tight.T18 : Bool × List (List Nat × List Nat) := (true, [([], []), ([], []), ([1], [1]), ([0, 2], [0, 2]), ([3], [3]), ([], []), ([5], [5]), ([], []), ([], []), ([8], [8]), ([7, 9], [7, 9]), ([10], [10]), ([], []), ([12], [12]), ([11, 13], [11, 13]), ([14], [14]), ([], []), ([16], [16]), ([15, 17], [15, 17]), ([4, 6, 0, 1, 2, 3, 4, 5, 6, 7, 8, 9, 10, 11, 12, 13, 14, 15, 16, 17, 18], [4, 6]), ([19, 18, 18, 0, 1, 2, 3, 4, 5, 6, 7, 8, 9, 10, 11, 12, 13, 14, 15, 16, 17, 18], [18, 19])])
def spec_l04Tight.B18 : List Nat := [0, 0, 2, 7, 15, 0, 32, 0, 0, 256, 896, 1920, 0, 4096, 16256, 32640, 0, 65536, 262016, 524287, 1048575]
theorem spec_l04Tight.tab18 : rtab .any (opsOf Try.f24 18) = spec_l04Tight.T18 := by kernel_rfl
theorem spec_l04Tight.bits18 : waitsOk spec_l04Tight.T18.2 spec_l04Tight.B18 = true := by kernel_rfl
def spec_l04Tight.T29 : Bool × List (List Nat × List Nat) := (true, [([], []), ([], []), ([0, 1], [0, 1]), ([2], [2]), ([], []), ([], []), ([], []), ([5, 6], [5, 6]), ([7], [7]), ([], []), ([8, 9], [8, 9]), ([10], [10]), ([], []), ([], []), ([12, 13], [12, 13]), ([14], [14]), ([], []), ([15, 16], [15, 16]), ([17], [17]), ([], []), ([], []), ([19, 20], [19, 20]), ([21], [21]), ([], []), ([22, 23], [22, 23]), ([24], [24]), ([18, 25], [18, 25]), ([11, 26], [11, 26]), ([3, 4, 0, 1, 2, 3, 4, 5, 6, 7, 8, 9, 10, 11, 12, 13, 14, 15, 16, 17, 18, 19, 20, 21, 22, 23, 24, 25, 26, 27], [3, 4]), ([28, 27, 27, 0, 1, 2, 3, 4, 5, 6, 7, 8, 9, 10, 11, 12, 13, 14, 15, 16, 17, 18, 19, 20, 21, 22, 23, 24, 25, 26, 27], [27, 28])])
def spec_l04Tight.B29 : List Nat := [0, 0, 3, 7, 0, 0, 0, 96, 224, 0, 992, 2016, 0, 0, 12288, 28672, 0, 126976, 258048, 0, 0, 1572864, 3670016, 0, 16252928, 33030144, 67104768, 134217696, 268435455, 536870911]
theorem spec_l04Tight.tab29 : rtab .any (opsOf Try.f24 29) = spec_l04Tight.T29 := by kernel_rfl
theorem spec_l04Tight.bits29 : waitsOk spec_l04Tight.T29.2 spec_l04Tight.B29 = true := by kernel_rfl
set_option maxHeartbeats 8000000 in
set_option maxRecDepth 100000 in
theorem spec_l04Tight.calls (k : Nat) (g : Nat) (s0_0 : Int) (s0_1 : List (S53)) (A1 : Option Addr) (c1 : Nat) (l1 : List Int) (r1 : List (List Int)) (r2 : Bool) (r3 : Int) (w0 w : World) (hI : IsS31 w0 w g s0_0 s0_1) (hB : Below w0.heap.size w0 w) (hr1 : Kd.C (Kd.int .i64) w A1 l1.length l1) (hc1 : l1.length ≤ c1) (hf1 : ∀ ad, A1 = some ad → 0 < l1.length → ad.block ≠ g) (h : spec_l04Tight.f k s0_0 s0_1 l1 = some (r1, r2, r3)) :
  Calls Try.prog 24 #[.pointer (some ⟨g, 0, none⟩), .slice A1 l1.length c1] w fun e w' => ∃ v0_ : Value, e = .returned (.tuple #[v0_, .bool r2]) ∧ Kd.S (Kd.slice 2 (Kd.int .i64)) 26 w' w.heap.size (fun _ => True) v0_ r1 ∧ IsS31 w0 w' g r3 s0_1 ∧ Below w0.heap.size w0 w' ∧ KeepBut w w' g none := by
 have hu53 := Try.underlying53
 have HR1 := Aside0.mk hr1
 have HC1 := Aside0.mk hc1
 clear hr1 hc1
 have HI0 := Aside0.mk hI
 have HK := Aside0.mk (KeepBut.refl w g none)
 have HL := Aside0.mk hB.size
 clear hI
 have HW0 := Aside0.mk hB.size
 have HB := Aside0.mk hB
 clear hB
 have H : (spec_l04Tight.l0 k l1 (([] : List (List Int))) 0 s0_0 s0_1) = some (r1, r2, r3) := h
 clear h
 obtain ⟨y207, hy207⟩ : ∃ y_ : List (List Int), y_ = (([] : List (List Int))) := ⟨_, rfl⟩
 replace H : (spec_l04Tight.l0 k l1 y207 0 s0_0 s0_1) = some (r1, r2, r3) := by first | (rw [hy207]; with_reducible exact H) | (have H2_ := (Option.bind_some _ _).symm.trans H; rw [hy207]; with_reducible exact H2_) | (have H2_ := (Option.bind_some _ _).symm.trans H; with_reducible exact H2_) | with_reducible exact H | (rw [hy207]; exact H) | exact H
 have Ny207 := Aside0.mk hy207
 clear hy207
 have H' := Aside0.mk H
 clear H
 go_enter Try.func24, Try.ntmps24
 go_wp2_with (first | ((with_reducible refine gate_dst (N := 16) rfl ?_); refine Kd.S_lit (Kd.slice 2 (Kd.int .i64)) _ 26 ?hg (N := 16) ?hd (xs := ([] : List (List Int))) (inner := []) (ok := fun _ => True) (okp := fun _ => True) ?hr ?hp (fun _ hk => hk) trivial (Below.refl _ _) (Nat.le_refl _) (by simp) ?_; (case hd => rfl); (case hg => rfl); (case hr => first | (go_simp; done) | (go_simp; rfl)); (case hp => exact (Reps.none _ _)); intro v208 w3 ho4 hb hg_ hnew_; clear hg_ hnew_; (first | rw [← Ny207.out] at ho4 | (simp only [Int.reduceToNat] at ho4; rw [← Ny207.out] at ho4)); have n0_ := Aside0.mk (Kd.S_lower ho4 (keep_size (w := w) (g := g) (row := none) (by repeat (first | (with_reducible first | exact HK.out | apply KeepBut.set_ | apply keep_drewN | apply keep_drew | apply keep_alloc) | exact HK.out)))); have n1_ := Aside0.mk (IsS31.below (by repeat (first | (with_reducible first | exact HI0.out | apply IsS31.alloc | apply IsS31.drewN | apply IsS31.drew | apply IsS31.set_0) | exact HI0.out)) hb); have n2_ := Aside0.mk (KeepBut.trans (by repeat (first | (with_reducible first | exact HK.out | apply KeepBut.set_ | apply keep_drewN | apply keep_drew | apply keep_alloc) | exact HK.out)) (KeepBut.of_below hb g none) (.inl rfl)); have n3_ := Aside0.mk (below_step (by repeat (first | (with_reducible first | exact HB.out | apply below_alloc | apply pw_below_drewN | apply below_drew1 | refine below_set ?_ (IsS31.ge HI0.out)) | exact HB.out)) hb); clear HI0; clear HK; clear HB; have HO209 := n0_; have HI0 := n1_; have HK := n2_; have HB := n3_; clear n0_ n1_ n2_ n3_; clear hb ho4))
 go_loopg [6, 7] k (fun kq v6 v7 w' => ∃ (x6_1 : List (List Int)) (x7_1 : Int), v7 = .int .i64 x7_1 ∧ Aside0 (spec_l04Tight.l0 kq l1 x6_1 x7_1 s0_0 s0_1 = some (r1, r2, r3)) ∧ Aside0 (kq ≤ k) ∧ Aside0 (Kd.S (Kd.slice 2 (Kd.int .i64)) 26 w' w.heap.size (fun _ => True) v6 x6_1) ∧ Aside0 (IsS31 w0 w' g s0_0 s0_1) ∧ Aside0 (KeepBut w w' g none) ∧ Aside0 (Below w0.heap.size w0 w'))
 case atStart => exact ⟨(y207), (0), (by first | rfl | (simp; done) | (simp [*]; done)), H', ⟨Nat.le_refl _⟩, ⟨by (with_reducible repeat (first | apply Kd.S_alloc | apply Kd.S_drewN | apply Kd.S_drew)); exact HO209.out⟩, ⟨by repeat (first | (with_reducible first | exact HI0.out | apply IsS31.alloc | apply IsS31.drewN | apply IsS31.drew | apply IsS31.set_0) | exact HI0.out)⟩, ⟨by repeat (first | (with_reducible first | exact HK.out | apply KeepBut.set_ | apply keep_drewN | apply keep_drew | apply keep_alloc) | exact HK.out)⟩, ⟨by repeat (first | (with_reducible first | exact HB.out | apply below_alloc | apply pw_below_drewN | apply below_drew1 | refine below_set ?_ (IsS31.ge HI0.out)) | exact HB.out)⟩⟩
 case round =>
  clear H'
  try clear c1
  try clear c2
  try clear p2
  obtain ⟨x6_1, x7_1, rfl, HA, HK1, HO_6, HI0, HK, HB⟩ := hrel
  cases gk with
  | zero => exact absurd HA.out (by simp [spec_l04Tight.l0])
  | succ k1 =>
   have H := HA.out
   clear HA
   simp only [spec_l04Tight.l0] at H
   by_cases c5 : x7_1 < s0_0
   ·rw [if_pos c5] at H
    have c5b0 : decide (x7_1 < s0_0) = true := decide_eq_true c5
    clear c5
    obtain ⟨y210, hy210⟩ : ∃ y_ : List Int, y_ = (([] : List Int)) := ⟨_, rfl⟩
    replace H : (spec_l04Tight.l1 k1 l1 x6_1 x7_1 y210 0 s0_0 s0_1) = some (r1, r2, r3) := by first | (rw [hy210]; with_reducible exact H) | (have H2_ := (Option.bind_some _ _).symm.trans H; rw [hy210]; with_reducible exact H2_) | (have H2_ := (Option.bind_some _ _).symm.trans H; with_reducible exact H2_) | with_reducible exact H | (rw [hy210]; exact H) | exact H
    have Ny210 := Aside0.mk hy210
    clear hy210
    have H' := Aside0.mk H
    clear H
    obtain ⟨ASz6_1, cSz6_1, HGz6, hgz6, HSz6_1⟩ := HI0.out
    have hcz6_0 := cellS31_0 HGz6
    have hcz6_1 := cellS31_1 HGz6
    have hfz6_0 := blk_frozen HGz6 0
    clear HGz6 hgz6
    go_wp2_with (first | ((with_reducible refine gate_dst (N := 25) rfl ?_); refine Kd.R_lit (Kd.int .i64) _ 2 ?hg (N := 25) ?hd (xs := ([] : List Int)) (inner := []) (ok := fun _ => True) (okp := fun _ => True) ?hr ?hp (fun _ hk => hk) trivial (Below.refl _ _) (Nat.le_refl _) (by simp) ?_; (case hd => rfl); (case hg => rfl); (case hr => first | (go_simp; done) | (go_simp; rfl)); (case hp => exact (Reps.none _ _)); intro v211 w7 ho8 hb hg_ hnew_; clear hg_ hnew_; (first | rw [← Ny210.out] at ho8 | (simp only [Int.reduceToNat] at ho8; rw [← Ny210.out] at ho8)); have n0_ := Aside0.mk (Kd.S_elder' (by (with_reducible repeat (first | apply Kd.S_alloc | apply Kd.S_drewN | apply Kd.S_drew)); exact HO_6.out) (Kd.R_base ho8) hb); have n1_ := Aside0.mk (Kd.R_lower ho8 (keep_size (w := w) (g := g) (row := none) (by repeat (first | (with_reducible first | exact HK.out | apply KeepBut.set_ | apply keep_drewN | apply keep_drew | apply keep_alloc) | exact HK.out)))); have n2_ := Aside0.mk (IsS31.below (by repeat (first | (with_reducible first | exact HI0.out | apply IsS31.alloc | apply IsS31.drewN | apply IsS31.drew | apply IsS31.set_0) | exact HI0.out)) hb); have n3_ := Aside0.mk (KeepBut.trans (by repeat (first | (with_reducible first | exact HK.out | apply KeepBut.set_ | apply keep_drewN | apply keep_drew | apply keep_alloc) | exact HK.out)) (KeepBut.of_below hb g none) (.inl rfl)); have n4_ := Aside0.mk (below_step (by repeat (first | (with_reducible first | exact HB.out | apply below_alloc | apply pw_below_drewN | apply below_drew1 | refine below_set ?_ (IsS31.ge HI0.out)) | exact HB.out)) hb); clear HO_6; clear HI0; clear HK; clear HB; have HO_6 := n0_; have HO212 := n1_; have HI0 := n2_; have HK := n3_; have HB := n4_; clear n0_ n1_ n2_ n3_ n4_; clear hb ho8))
    go_loopg [8, 9] k1 (fun kq v8 v9 w' => ∃ (x8_2 : List Int) (x9_2 : Int), v9 = .int .i64 x9_2 ∧ Aside0 (spec_l04Tight.l1 kq l1 x6_1 x7_1 x8_2 x9_2 s0_0 s0_1 = some (r1, r2, r3)) ∧ Aside0 (kq ≤ k1) ∧ Aside0 (Kd.S (Kd.slice 2 (Kd.int .i64)) 26 w' w.heap.size (fun k_ => some k_ ≠ (v8 : Value).ownBlock) u6 x6_1) ∧ Aside0 (Kd.R (Kd.int .i64) 2 w' w.heap.size (fun _ => True) v8 x8_2) ∧ Aside0 (IsS31 w0 w' g s0_0 s0_1) ∧ Aside0 (KeepBut w w' g none) ∧ Aside0 (Below w0.heap.size w0 w'))
    case atStart => exact ⟨(y210), (0), (by first | rfl | (simp; done) | (simp [*]; done)), H', ⟨Nat.le_refl _⟩, ⟨by (with_reducible repeat (first | apply Kd.S_alloc | apply Kd.S_drewN | apply Kd.S_drew)); exact Kd.S_mono HO_6.out (fun _ hk => hk.2)⟩, ⟨by (with_reducible repeat (first | apply Kd.R_alloc | apply Kd.R_drewN | apply Kd.R_drew)); exact HO212.out⟩, ⟨by repeat (first | (with_reducible first | exact HI0.out | apply IsS31.alloc | apply IsS31.drewN | apply IsS31.drew | apply IsS31.set_0) | exact HI0.out)⟩, ⟨by repeat (first | (with_reducible first | exact HK.out | apply KeepBut.set_ | apply keep_drewN | apply keep_drew | apply keep_alloc) | exact HK.out)⟩, ⟨by repeat (first | (with_reducible first | exact HB.out | apply below_alloc | apply pw_below_drewN | apply below_drew1 | refine below_set ?_ (IsS31.ge HI0.out)) | exact HB.out)⟩⟩
    case round =>
     clear H'
     try clear c1
     try clear c2
     try clear p2
     try clear c5
     try clear c5b0
     try clear hcz6_0
     try clear hcz6_1
     try clear hfz6_0
     try clear p2
     obtain ⟨x8_2, x9_2, rfl, HA, HK2, HO_6, HO_8, HI0, HK, HB⟩ := hrel
     cases gk with
     | zero => exact absurd HA.out (by simp [spec_l04Tight.l1])
     | succ k2 =>
      have H := HA.out
      clear HA
      simp only [spec_l04Tight.l1] at H
      by_cases c9 : x9_2 < s0_0
      ·rw [if_pos c9] at H
       have c9b0 : decide (x9_2 < s0_0) = true := decide_eq_true c9
       clear c9
       by_cases c10 : x7_1 = x9_2
       ·rw [if_pos c10] at H
        have c10b0 : (x7_1 == x9_2) = true := beq_iff_eq.mpr c10
        have c10b1 : (x7_1 != x9_2) = false := bne_eq_false_iff_eq.mpr c10
        clear c10
        by_cases c11 : x8_2.length < 17592186044416
        ·rw [if_pos c11] at H
         have LMc11 := Aside0.mk c11
         clear c11
         obtain ⟨y213, hy213⟩ : ∃ y_ : List Int, y_ = (x8_2 ++ [0]) := ⟨_, rfl⟩
         replace H : (spec_l04Tight.l1 k2 l1 x6_1 x7_1 y213 (wrap64 (x9_2 + 1)) s0_0 s0_1) = some (r1, r2, r3) := by first | (rw [hy213]; with_reducible exact H) | (have H2_ := (Option.bind_some _ _).symm.trans H; rw [hy213]; with_reducible exact H2_) | (have H2_ := (Option.bind_some _ _).symm.trans H; with_reducible exact H2_) | with_reducible exact H | (rw [hy213]; exact H) | exact H
         have Ny213 := Aside0.mk hy213
         clear hy213
         have H' := Aside0.mk H
         clear H
         obtain ⟨ASz12_1, cSz12_1, HGz12, hgz12, HSz12_1⟩ := HI0.out
         have hcz12_0 := cellS31_0 HGz12
         have hcz12_1 := cellS31_1 HGz12
         have hfz12_0 := blk_frozen HGz12 0
         clear HGz12 hgz12
         go_wp2_with (first | ((with_reducible refine gate_builtin (b := .append) (xs := #[.tmp 37, .tmp 38]) rfl ?_); at_builtin; refine Kd.R_append (Kd.int .i64) w.heap.size rfl (.tmp 37) (.tmp 38) 26 2 (.int .i64 0) 8 rfl Try.underlying26 info2 rfl (by decide) (by omega) u8 x8_2 0 [.int .i64 0] (fun _ => True) (fun _ => False) rfl rfl ?aP (fun _ hk => hk.elim) ?aF ?aO (Below.refl _ _) ?aS ?aL ?_; (case aP => exact rfl); (case aF => exact (fun _ _ => trivial)); (case aO => exact (by (with_reducible repeat (first | apply Kd.R_alloc | apply Kd.R_drewN | apply Kd.R_drew)); exact HO_8.out)); (case aS => exact (keep_size (w := w) (g := g) (row := none) (by repeat (first | (with_reducible first | exact HK.out | apply KeepBut.set_ | apply keep_drewN | apply keep_drew | apply keep_alloc) | exact HK.out)))); (case aL => have := LMc11.out; omega); intro v214 w13 ho hb hg hat; rw [← Ny213.out] at ho; have n0_ := Aside0.mk (Kd.S_after (ok := (fun _ => True)) (by (with_reducible repeat (first | apply Kd.S_alloc | apply Kd.S_drewN | apply Kd.S_drew)); exact Kd.S_mono HO_6.out (fun _ hk => ⟨trivial, hk⟩)) hg hat); have n1_ := Aside0.mk (IsS31.grown (by repeat (first | (with_reducible first | exact HI0.out | apply IsS31.alloc | apply IsS31.drewN | apply IsS31.drew | apply IsS31.set_0) | exact HI0.out)) hg (IsS31.own_ne HI0.out HO_8.out (by decide))); have n2_ := Aside0.mk (below_weaken (by repeat (first | (with_reducible first | exact HB.out | apply below_alloc | apply pw_below_drewN | apply below_drew1 | refine below_set ?_ (IsS31.ge HI0.out)) | exact HB.out)) HL.out hb); have n3_ := Aside0.mk (KeepBut.trans (by repeat (first | (with_reducible first | exact HK.out | apply KeepBut.set_ | apply keep_drewN | apply keep_drew | apply keep_alloc) | exact HK.out)) (KeepBut.of_grown hg g) (Kd.R_base2 HO_8.out)); have n4_ := Aside0.mk (ho); clear HO_6; clear HI0; clear HB; clear HK; clear HO_8; have HO_6 := n0_; have HI0 := n1_; have HB := n2_; have HK := n3_; have HO215 := n4_; clear n0_ n1_ n2_ n3_ n4_; clear ho hb hg hat))
         go_roundg k2
         case measure => have := HK1.out; have := HK2.out; omega
         case rel => exact ⟨(y213), (wrap64 (x9_2 + 1)), (by first | rfl | (simp; done) | (simp [*]; done)), H', ⟨by have := HK1.out; have := HK2.out; omega⟩, ⟨by (with_reducible repeat (first | apply Kd.S_alloc | apply Kd.S_drewN | apply Kd.S_drew)); exact Kd.S_mono HO_6.out (fun _ hk => hk.2)⟩, ⟨by (with_reducible repeat (first | apply Kd.R_alloc | apply Kd.R_drewN | apply Kd.R_drew)); exact HO215.out⟩, ⟨by repeat (first | (with_reducible first | exact HI0.out | apply IsS31.alloc | apply IsS31.drewN | apply IsS31.drew | apply IsS31.set_0) | exact HI0.out)⟩, ⟨by repeat (first | (with_reducible first | exact HK.out | apply KeepBut.set_ | apply keep_drewN | apply keep_drew | apply keep_alloc) | exact HK.out)⟩, ⟨by repeat (first | (with_reducible first | exact HB.out | apply below_alloc | apply pw_below_drewN | apply below_drew1 | refine below_set ?_ (IsS31.ge HI0.out)) | exact HB.out)⟩⟩
        ·rw [if_neg c11] at H
         exact absurd H (by simp)
       ·rw [if_neg c10] at H
        have c10b0 : (x7_1 == x9_2) = false := beq_eq_false_iff_ne.mpr c10
        have c10b1 : (x7_1 != x9_2) = true := bne_iff_ne.mpr c10
        by_cases c14 : x8_2.length < 17592186044416
        ·rw [if_pos c14] at H
         have LMc14 := Aside0.mk c14
         clear c14
         obtain ⟨y216, hy216⟩ : ∃ y_ : List Int, y_ = (x8_2 ++ [1000000]) := ⟨_, rfl⟩
         replace H : (spec_l04Tight.l1 k2 l1 x6_1 x7_1 y216 (wrap64 (x9_2 + 1)) s0_0 s0_1) = some (r1, r2, r3) := by first | (rw [hy216]; with_reducible exact H) | (have H2_ := (Option.bind_some _ _).symm.trans H; rw [hy216]; with_reducible exact H2_) | (have H2_ := (Option.bind_some _ _).symm.trans H; with_reducible exact H2_) | with_reducible exact H | (rw [hy216]; exact H) | exact H
         have Ny216 := Aside0.mk hy216
         clear hy216
         have H' := Aside0.mk H
         clear H
         obtain ⟨ASz15_1, cSz15_1, HGz15, hgz15, HSz15_1⟩ := HI0.out
         have hcz15_0 := cellS31_0 HGz15
         have hcz15_1 := cellS31_1 HGz15
         have hfz15_0 := blk_frozen HGz15 0
         clear HGz15 hgz15
         go_wp2_with (first | ((with_reducible refine gate_builtin (b := .append) (xs := #[.tmp 40, .tmp 41]) rfl ?_); at_builtin; refine Kd.R_append (Kd.int .i64) w.heap.size rfl (.tmp 40) (.tmp 41) 26 2 (.int .i64 0) 8 rfl Try.underlying26 info2 rfl (by decide) (by omega) u8 x8_2 1000000 [.int .i64 1000000] (fun _ => True) (fun _ => False) rfl rfl ?aP (fun _ hk => hk.elim) ?aF ?aO (Below.refl _ _) ?aS ?aL ?_; (case aP => exact rfl); (case aF => exact (fun _ _ => trivial)); (case aO => exact (by (with_reducible repeat (first | apply Kd.R_alloc | apply Kd.R_drewN | apply Kd.R_drew)); exact HO_8.out)); (case aS => exact (keep_size (w := w) (g := g) (row := none) (by repeat (first | (with_reducible first | exact HK.out | apply KeepBut.set_ | apply keep_drewN | apply keep_drew | apply keep_alloc) | exact HK.out)))); (case aL => have := LMc14.out; omega); intro v217 w16 ho hb hg hat; rw [← Ny216.out] at ho; have n0_ := Aside0.mk (Kd.S_after (ok := (fun _ => True)) (by (with_reducible repeat (first | apply Kd.S_alloc | apply Kd.S_drewN | apply Kd.S_drew)); exact Kd.S_mono HO_6.out (fun _ hk => ⟨trivial, hk⟩)) hg hat); have n1_ := Aside0.mk (IsS31.grown (by repeat (first | (with_reducible first | exact HI0.out | apply IsS31.alloc | apply IsS31.drewN | apply IsS31.drew | apply IsS31.set_0) | exact HI0.out)) hg (IsS31.own_ne HI0.out HO_8.out (by decide))); have n2_ := Aside0.mk (below_weaken (by repeat (first | (with_reducible first | exact HB.out | apply below_alloc | apply pw_below_drewN | apply below_drew1 | refine below_set ?_ (IsS31.ge HI0.out)) | exact HB.out)) HL.out hb); have n3_ := Aside0.mk (KeepBut.trans (by repeat (first | (with_reducible first | exact HK.out | apply KeepBut.set_ | apply keep_drewN | apply keep_drew | apply keep_alloc) | exact HK.out)) (KeepBut.of_grown hg g) (Kd.R_base2 HO_8.out)); have n4_ := Aside0.mk (ho); clear HO_6; clear HI0; clear HB; clear HK; clear HO_8; have HO_6 := n0_; have HI0 := n1_; have HB := n2_; have HK := n3_; have HO218 := n4_; clear n0_ n1_ n2_ n3_ n4_; clear ho hb hg hat))
         go_roundg k2
         case measure => have := HK1.out; have := HK2.out; omega
         case rel => exact ⟨(y216), (wrap64 (x9_2 + 1)), (by first | rfl | (simp; done) | (simp [*]; done)), H', ⟨by have := HK1.out; have := HK2.out; omega⟩, ⟨by (with_reducible repeat (first | apply Kd.S_alloc | apply Kd.S_drewN | apply Kd.S_drew)); exact Kd.S_mono HO_6.out (fun _ hk => hk.2)⟩, ⟨by (with_reducible repeat (first | apply Kd.R_alloc | apply Kd.R_drewN | apply Kd.R_drew)); exact HO218.out⟩, ⟨by repeat (first | (with_reducible first | exact HI0.out | apply IsS31.alloc | apply IsS31.drewN | apply IsS31.drew | apply IsS31.set_0) | exact HI0.out)⟩, ⟨by repeat (first | (with_reducible first | exact HK.out | apply KeepBut.set_ | apply keep_drewN | apply keep_drew | apply keep_alloc) | exact HK.out)⟩, ⟨by repeat (first | (with_reducible first | exact HB.out | apply below_alloc | apply pw_below_drewN | apply below_drew1 | refine below_set ?_ (IsS31.ge HI0.out)) | exact HB.out)⟩⟩
        ·rw [if_neg c14] at H
         exact absurd H (by simp)
      ·rw [if_neg c9] at H
       have c9b0 : decide (x9_2 < s0_0) = false := decide_eq_false c9
       clear c9
       by_cases c17 : x6_1.length < 5864062014805
       ·rw [if_pos c17] at H
        have LMc17 := Aside0.mk c17
        clear c17
        obtain ⟨y219, hy219⟩ : ∃ y_ : List (List Int), y_ = (x6_1 ++ [x8_2]) := ⟨_, rfl⟩
        replace H : (spec_l04Tight.l0 k2 l1 y219 (wrap64 (x7_1 + 1)) s0_0 s0_1) = some (r1, r2, r3) := by first | (rw [hy219]; with_reducible exact H) | (have H2_ := (Option.bind_some _ _).symm.trans H; rw [hy219]; with_reducible exact H2_) | (have H2_ := (Option.bind_some _ _).symm.trans H; with_reducible exact H2_) | with_reducible exact H | (rw [hy219]; exact H) | exact H
        have Ny219 := Aside0.mk hy219
        clear hy219
        have H' := Aside0.mk H
        clear H
        obtain ⟨ASz18_1, cSz18_1, HGz18, hgz18, HSz18_1⟩ := HI0.out
        have hcz18_0 := cellS31_0 HGz18
        have hcz18_1 := cellS31_1 HGz18
        have hfz18_0 := blk_frozen HGz18 0
        clear HGz18 hgz18
        obtain ⟨Ao20, co20, eo20⟩ := Kd.R_slice HO_8.out
        subst eo20
        go_wp2_with (first | ((with_reducible refine gate_builtin (b := .append) (xs := #[.tmp 43, .tmp 45]) rfl ?_); at_builtin; refine Kd.S_append (Kd.slice 2 (Kd.int .i64)) w.heap.size rfl (.tmp 43) (.tmp 45) 47 26 (.slice none 0 0) 24 rfl Try.underlying47 info26 rfl (by decide) (by omega) u6 x6_1 x8_2 [.slice Ao20 x8_2.length co20] (fun _ => True) (fun k_ => some k_ = (.slice Ao20 x8_2.length co20 : Value).ownBlock) rfl rfl ?aP (fun k_ hk_ => ((Kd.R_mono (ok' := fun k_ => ((fun _ => True)) k_ ∧ some k_ ≠ (u6 : Value).ownBlock) (Kd.R_apart' (HO_8.out) (Kd.S_typed HO_6.out) (by decide)) (fun k_ hk => ⟨trivial, hk.2⟩))).1 k_ hk_.symm) ?aF ?aO (Below.refl _ _) ?aS ?aL ?_; (case aP => exact Kd.M_row (Kd.R_mono (Kd.R_tight rfl (Kd.R_mono (ok' := fun k_ => ((fun _ => True)) k_ ∧ some k_ ≠ (u6 : Value).ownBlock) (Kd.R_apart' (HO_8.out) (Kd.S_typed HO_6.out) (by decide)) (fun k_ hk => ⟨trivial, hk.2⟩))) (fun _ h_ => h_))); (case aF => exact (fun _ _ => trivial)); (case aO => exact (by (with_reducible repeat (first | apply Kd.S_alloc | apply Kd.S_drewN | apply Kd.S_drew)); exact Kd.S_mono HO_6.out (fun k_ hk => ⟨trivial, fun e_ => hk e_⟩))); (case aS => exact (keep_size (w := w) (g := g) (row := none) (by repeat (first | (with_reducible first | exact HK.out | apply KeepBut.set_ | apply keep_drewN | apply keep_drew | apply keep_alloc) | exact HK.out)))); (case aL => have := LMc17.out; omega); intro v220 w19 ho hb hg hat; rw [← Ny219.out] at ho; have n0_ := Aside0.mk (IsS31.grown (by repeat (first | (with_reducible first | exact HI0.out | apply IsS31.alloc | apply IsS31.drewN | apply IsS31.drew | apply IsS31.set_0) | exact HI0.out)) hg (IsS31.own_neS HI0.out HO_6.out (by decide))); have n1_ := Aside0.mk (below_weaken (by repeat (first | (with_reducible first | exact HB.out | apply below_alloc | apply pw_below_drewN | apply below_drew1 | refine below_set ?_ (IsS31.ge HI0.out)) | exact HB.out)) HL.out hb); have n2_ := Aside0.mk (KeepBut.trans (by repeat (first | (with_reducible first | exact HK.out | apply KeepBut.set_ | apply keep_drewN | apply keep_drew | apply keep_alloc) | exact HK.out)) (KeepBut.of_grown hg g) (Kd.S_base2 HO_6.out)); have n3_ := Aside0.mk (ho); clear HI0; clear HB; clear HK; clear HO_6; clear HO_8; have HI0 := n0_; have HB := n1_; have HK := n2_; have HO221 := n3_; clear n0_ n1_ n2_ n3_; clear ho hb hg hat))
        go_roundg k2
        case measure => have := HK1.out; have := HK2.out; omega
        case rel => exact ⟨(y219), (wrap64 (x7_1 + 1)), (by first | rfl | (simp; done) | (simp [*]; done)), H', ⟨by have := HK1.out; have := HK2.out; omega⟩, ⟨by (with_reducible repeat (first | apply Kd.S_alloc | apply Kd.S_drewN | apply Kd.S_drew)); exact HO221.out⟩, ⟨by repeat (first | (with_reducible first | exact HI0.out | apply IsS31.alloc | apply IsS31.drewN | apply IsS31.drew | apply IsS31.set_0) | exact HI0.out)⟩, ⟨by repeat (first | (with_reducible first | exact HK.out | apply KeepBut.set_ | apply keep_drewN | apply keep_drew | apply keep_alloc) | exact HK.out)⟩, ⟨by repeat (first | (with_reducible first | exact HB.out | apply below_alloc | apply pw_below_drewN | apply below_drew1 | refine below_set ?_ (IsS31.ge HI0.out)) | exact HB.out)⟩⟩
       ·rw [if_neg c17] at H
        exact absurd H (by simp)
   ·rw [if_neg c5] at H
    have c5b0 : decide (x7_1 < s0_0) = false := decide_eq_false c5
    clear c5
    have H' := Aside0.mk H
    clear H
    obtain ⟨ASz21_1, cSz21_1, HGz21, hgz21, HSz21_1⟩ := HI0.out
    have hcz21_0 := cellS31_0 HGz21
    have hcz21_1 := cellS31_1 HGz21
    have hfz21_0 := blk_frozen HGz21 0
    clear HGz21 hgz21
    go_wp2
    go_loopg [10] k1 (fun kq v10 w' => ∃ (x6_2 : List (List Int)) (x10_2 : Int), v10 = .int .i64 x10_2 ∧ Aside0 (spec_l04Tight.l2 kq l1 x6_2 x10_2 s0_0 s0_1 = some (r1, r2, r3)) ∧ Aside0 (kq ≤ k1) ∧ Aside0 (Kd.S (Kd.slice 2 (Kd.int .i64)) 26 w' w.heap.size (fun _ => True) u6 x6_2) ∧ Aside0 (IsS31 w0 w' g s0_0 s0_1) ∧ Aside0 (KeepBut w w' g none) ∧ Aside0 (Below w0.heap.size w0 w'))
    case atStart => exact ⟨(x6_1), (0), (by first | rfl | (simp; done) | (simp [*]; done)), H', ⟨Nat.le_refl _⟩, ⟨by (with_reducible repeat (first | apply Kd.S_alloc | apply Kd.S_drewN | apply Kd.S_drew)); exact HO_6.out⟩, ⟨by repeat (first | (with_reducible first | exact HI0.out | apply IsS31.alloc | apply IsS31.drewN | apply IsS31.drew | apply IsS31.set_0) | exact HI0.out)⟩, ⟨by repeat (first | (with_reducible first | exact HK.out | apply KeepBut.set_ | apply keep_drewN | apply keep_drew | apply keep_alloc) | exact HK.out)⟩, ⟨by repeat (first | (with_reducible first | exact HB.out | apply below_alloc | apply pw_below_drewN | apply below_drew1 | refine below_set ?_ (IsS31.ge HI0.out)) | exact HB.out)⟩⟩
    case round =>
     clear H'
     try clear c1
     try clear c2
     try clear p2
     try clear c5
     try clear c5b0
     try clear p6
     try clear c9
     try clear c9b0
     try clear c10
     try clear c10b0
     try clear c10b1
     try clear c11
     try clear c14
     try clear c17
     try clear hcz12_0
     try clear hcz12_1
     try clear hcz15_0
     try clear hcz15_1
     try clear hcz18_0
     try clear hcz18_1
     try clear hcz21_0
     try clear hcz21_1
     try clear hcz6_0
     try clear hcz6_1
     try clear hfz12_0
     try clear hfz15_0
     try clear hfz18_0
     try clear hfz21_0
     try clear hfz6_0
     try clear p2
     obtain ⟨x6_2, x10_2, rfl, HA, HK2, HO_6, HI0, HK, HB⟩ := hrel
     cases gk with
     | zero => exact absurd HA.out (by simp [spec_l04Tight.l2])
     | succ k2 =>
      have H := HA.out
      clear HA
      simp only [spec_l04Tight.l2] at H
      by_cases c22 : x10_2 < (s0_1.length : Int)
      ·rw [if_pos c22] at H
       have c22b0 : decide (x10_2 < (s0_1.length : Int)) = true := decide_eq_true c22
       clear c22
       by_cases c23 : 0 ≤ x10_2
       ·rw [if_pos c23] at H
        have c23b0 : decide (0 ≤ x10_2) = true := decide_eq_true c23
        clear c23
        replace H := Option.bind_eq_some_iff.mp H
        obtain ⟨t224, A240, H⟩ := H
        replace H : (if t224 = true then (spec_l04Tight.l2 k2 l1 x6_2 (wrap64 (x10_2 + 1)) s0_0 s0_1) else (if 0 ≤ ((rd_T53 s0_1 x10_2).f0) then (if ((rd_T53 s0_1 x10_2).f0) < (x6_2.length : Int) then (if 0 ≤ ((rd_T53 s0_1 x10_2).f1) then (if ((rd_T53 s0_1 x10_2).f1) < ((rd_L6 x6_2 ((rd_T53 s0_1 x10_2).f0)).length : Int) then ((spec_l00Min.f (rd (rd_L6 x6_2 ((rd_T53 s0_1 x10_2).f0)) ((rd_T53 s0_1 x10_2).f1)) ((rd_T53 s0_1 x10_2).f2)).bind fun t228 => (spec_l04Tight.l2 k2 l1 (x6_2.set (((rd_T53 s0_1 x10_2).f0) : Int).toNat ((rd_L6 x6_2 ((rd_T53 s0_1 x10_2).f0)).set (((rd_T53 s0_1 x10_2).f1) : Int).toNat t228)) (wrap64 (x10_2 + 1)) s0_0 s0_1)) else (none)) else (none)) else (none)) else (none))) = some (r1, r2, r3) := H
        have A24 := Aside0.mk A240
        clear A240
        by_cases c25 : t224 = true
        ·subst c25
         have H1 : (spec_l04Tight.l2 k2 l1 x6_2 (wrap64 (x10_2 + 1)) s0_0 s0_1) = some (r1, r2, r3) := by rw [if_pos rfl] at H; exact H
         clear H
         have H := H1
         clear H1
         have H' := Aside0.mk H
         clear H
         obtain ⟨ASz26_1, cSz26_1, HGz26, hgz26, HSz26_1⟩ := HI0.out
         have hcz26_0 := cellS31_0 HGz26
         have hcz26_1 := cellS31_1 HGz26
         have hfz26_0 := blk_frozen HGz26 0
         clear HGz26 hgz26
         have p222 : 0 ≤ (x10_2 : Int) := of_decide_eq_true (by with_reducible assumption)
         have q222 : x10_2 < (s0_1.length : Int) := of_decide_eq_true (by with_reducible assumption)
         obtain ⟨ad222, e222, hx222_0, hx222_1, hx222_2⟩ := at_T53 HSz26_1 x10_2 p222 q222
         cases e222
         replace hx222_0 := pw_cell_below HB.out hx222_0
         replace hx222_1 := pw_cell_below HB.out hx222_1
         replace hx222_2 := pw_cell_below HB.out hx222_2
         replace p222 := eq_true p222
         replace q222 := eq_true q222
         go_wp2_with (first | ((with_reducible refine gate_dst (N := 11) rfl ?_); refine box_event ?hg (N := 11) ?hd (cs := #[.int .i64 0, .int .i64 0, .int .i64 0]) (t := 53) ?hr ?_; (case hd => rfl); (case hg => rfl); (case hr => first | (go_simp; done) | (go_simp; rfl)); intro gb223 hg w27 hbox hb; have n0_ := Aside0.mk (Kd.S_below (by (with_reducible repeat (first | apply Kd.S_alloc | apply Kd.S_drewN | apply Kd.S_drew)); exact HO_6.out) hb); have n1_ := Aside0.mk (IsS31.below (by repeat (first | (with_reducible first | exact HI0.out | apply IsS31.alloc | apply IsS31.drewN | apply IsS31.drew | apply IsS31.set_0) | exact HI0.out)) hb); have n2_ := Aside0.mk (KeepBut.trans (by repeat (first | (with_reducible first | exact HK.out | apply KeepBut.set_ | apply keep_drewN | apply keep_drew | apply keep_alloc) | exact HK.out)) (KeepBut.of_below hb g none) (.inl rfl)); have n3_ := Aside0.mk (below_step (by repeat (first | (with_reducible first | exact HB.out | apply below_alloc | apply pw_below_drewN | apply below_drew1 | refine below_set ?_ (IsS31.ge HI0.out)) | exact HB.out)) hb); have n4_ := Aside0.mk (hbox); have n5_ := Aside0.mk ((by rw [hg]; exact (keep_size (w := w) (g := g) (row := none) (by repeat (first | (with_reducible first | exact HK.out | apply KeepBut.set_ | apply keep_drewN | apply keep_drew | apply keep_alloc) | exact HK.out))) : w.heap.size ≤ gb223)); have n6_ := Aside0.mk ((Nat.le_trans HW0.out (by rw [hg]; exact (keep_size (w := w) (g := g) (row := none) (by repeat (first | (with_reducible first | exact HK.out | apply KeepBut.set_ | apply keep_drewN | apply keep_drew | apply keep_alloc) | exact HK.out))) : w.heap.size ≤ gb223) : w0.heap.size ≤ gb223)); have n7_ := Aside0.mk ((by rw [hg]; exact Nat.ne_of_lt (IsS31.lt (show IsS31 w0 _ g s0_0 s0_1 from by repeat (first | (with_reducible first | exact HI0.out | apply IsS31.alloc | apply IsS31.drewN | apply IsS31.drew | apply IsS31.set_0) | exact HI0.out))) : g ≠ gb223)); have n8_ := Aside0.mk ((by rw [hg]; exact Nat.ne_of_gt (IsS31.lt (show IsS31 w0 _ g s0_0 s0_1 from by repeat (first | (with_reducible first | exact HI0.out | apply IsS31.alloc | apply IsS31.drewN | apply IsS31.drew | apply IsS31.set_0) | exact HI0.out))) : gb223 ≠ g)); clear HO_6; clear HI0; clear HK; clear HB; have HO_6 := n0_; have HI0 := n1_; have HK := n2_; have HB := n3_; have BK223 := n4_; have GW223 := n5_; have GE223 := n6_; have NB0_223 := n7_; have NB223_0 := n8_; clear n0_ n1_ n2_ n3_ n4_ n5_ n6_ n7_ n8_; clear hb hbox hg; have hnb28 := NB223_0.out; have hnc28 := NB0_223.out; have hcz29_0 : w27.cell? ⟨gb223, 0, none⟩ = some (.int .i64 0) := (blk_cell BK223.out 0).trans rfl; have hcz29_1 : w27.cell? ⟨gb223, 1, none⟩ = some (.int .i64 0) := (blk_cell BK223.out 1).trans rfl; have hcz29_2 : w27.cell? ⟨gb223, 2, none⟩ = some (.int .i64 0) := (blk_cell BK223.out 2).trans rfl; have hfz29_0 := blk_frozen BK223.out 0; have hfz29_1 := blk_frozen BK223.out 1; have hfz29_2 := blk_frozen BK223.out 2) | ((with_reducible refine gate_callee (f := 39) rfl ?_); refine goesL_ (some 65) rfl rfl Try.func39 (by kernel_rfl) rfl #[.slice A1 l1.length c1, .int .i64 x10_2] rfl (by (try simp only [List.map_toArray, List.map_cons, List.map_nil]); first | done | rfl | (simp only [List.length_drop, List.length_take]; rfl)) ?_; (with_reducible refine (spec_l00Has.calls k2 _ _ l1 x10_2 true _ ?side1 ?side2 A24.out).mono ?_); (case side1 => exact Kd.C_keep 0 HR1.out (by repeat (first | (with_reducible first | exact HK.out | apply KeepBut.set_ | apply keep_drewN | apply keep_drew | apply keep_alloc | refine keep_far ?_ GW223.out _) | exact HK.out)) hf1); (case side2 => exact HC1.out); rintro e w' ⟨rfl, ⟨nd, rfl⟩⟩; refine ⟨_, rfl, ?_⟩))
         go_roundg k2
         case measure => have := HK1.out; have := HK2.out; omega
         case rel => exact ⟨(x6_2), (wrap64 (x10_2 + 1)), (by first | rfl | (simp; done) | (simp [*]; done)), H', ⟨by have := HK1.out; have := HK2.out; omega⟩, ⟨by (with_reducible repeat (first | apply Kd.S_alloc | apply Kd.S_drewN | apply Kd.S_drew)); exact Kd.S_mono (Kd.S_far (p := ⟨gb223, 2, none⟩) (Kd.S_far (p := ⟨gb223, 1, none⟩) (Kd.S_far (p := ⟨gb223, 0, none⟩) (Kd.S_types HO_6.out BK223.out (by decide)) (fun _ hk => hk.2) (.int .i64 ((rd_T53 s0_1 x10_2).f0))) (fun _ hk => hk.2) (.int .i64 ((rd_T53 s0_1 x10_2).f1))) (fun _ hk => hk.2) (.int .i64 ((rd_T53 s0_1 x10_2).f2))) (fun _ hk => trivial)⟩, ⟨by repeat (first | (with_reducible first | exact HI0.out | apply IsS31.alloc | apply IsS31.drewN | apply IsS31.drew | apply IsS31.set_0 | refine IsS31.far ?_ NB0_223.out _) | exact HI0.out)⟩, ⟨by repeat (first | (with_reducible first | exact HK.out | apply KeepBut.set_ | apply keep_drewN | apply keep_drew | apply keep_alloc | refine keep_far ?_ GW223.out _) | exact HK.out)⟩, ⟨by repeat (first | (with_reducible first | exact HB.out | apply below_alloc | apply pw_below_drewN | apply below_drew1 | refine below_set ?_ (IsS31.ge HI0.out) | refine below_set ?_ GE223.out) | exact HB.out)⟩⟩
        ·replace c25 := Bool.eq_false_iff.mpr c25
         subst c25
         have H1 : (if 0 ≤ ((rd_T53 s0_1 x10_2).f0) then (if ((rd_T53 s0_1 x10_2).f0) < (x6_2.length : Int) then (if 0 ≤ ((rd_T53 s0_1 x10_2).f1) then (if ((rd_T53 s0_1 x10_2).f1) < ((rd_L6 x6_2 ((rd_T53 s0_1 x10_2).f0)).length : Int) then ((spec_l00Min.f (rd (rd_L6 x6_2 ((rd_T53 s0_1 x10_2).f0)) ((rd_T53 s0_1 x10_2).f1)) ((rd_T53 s0_1 x10_2).f2)).bind fun t228 => (spec_l04Tight.l2 k2 l1 (x6_2.set (((rd_T53 s0_1 x10_2).f0) : Int).toNat ((rd_L6 x6_2 ((rd_T53 s0_1 x10_2).f0)).set (((rd_T53 s0_1 x10_2).f1) : Int).toNat t228)) (wrap64 (x10_2 + 1)) s0_0 s0_1)) else (none)) else (none)) else (none)) else (none)) = some (r1, r2, r3) := by rw [if_neg (show ¬ (false = true) by decide)] at H; exact H
         clear H
         have H := H1
         clear H1
         by_cases c30 : 0 ≤ ((rd_T53 s0_1 x10_2).f0)
         ·rw [if_pos c30] at H
          have c30b0 : decide (0 ≤ ((rd_T53 s0_1 x10_2).f0)) = true := decide_eq_true c30
          clear c30
          by_cases c31 : ((rd_T53 s0_1 x10_2).f0) < (x6_2.length : Int)
          ·rw [if_pos c31] at H
           have c31b0 : decide (((rd_T53 s0_1 x10_2).f0) < (x6_2.length : Int)) = true := decide_eq_true c31
           clear c31
           by_cases c32 : 0 ≤ ((rd_T53 s0_1 x10_2).f1)
           ·rw [if_pos c32] at H
            have c32b0 : decide (0 ≤ ((rd_T53 s0_1 x10_2).f1)) = true := decide_eq_true c32
            clear c32
            by_cases c33 : ((rd_T53 s0_1 x10_2).f1) < ((rd_L6 x6_2 ((rd_T53 s0_1 x10_2).f0)).length : Int)
            ·rw [if_pos c33] at H
             have c33b0 : decide (((rd_T53 s0_1 x10_2).f1) < ((rd_L6 x6_2 ((rd_T53 s0_1 x10_2).f0)).length : Int)) = true := decide_eq_true c33
             clear c33
             replace H := Option.bind_eq_some_iff.mp H
             obtain ⟨t228, A340, H⟩ := H
             replace H : (spec_l04Tight.l2 k2 l1 (x6_2.set (((rd_T53 s0_1 x10_2).f0) : Int).toNat ((rd_L6 x6_2 ((rd_T53 s0_1 x10_2).f0)).set (((rd_T53 s0_1 x10_2).f1) : Int).toNat t228)) (wrap64 (x10_2 + 1)) s0_0 s0_1) = some (r1, r2, r3) := H
             have A34 := Aside0.mk A340
             clear A340
             obtain ⟨y229, hy229⟩ : ∃ y_ : List Int, y_ = ((rd_L6 x6_2 ((rd_T53 s0_1 x10_2).f0)).set (((rd_T53 s0_1 x10_2).f1) : Int).toNat t228) := ⟨_, rfl⟩
             replace H : (spec_l04Tight.l2 k2 l1 (x6_2.set (((rd_T53 s0_1 x10_2).f0) : Int).toNat y229) (wrap64 (x10_2 + 1)) s0_0 s0_1) = some (r1, r2, r3) := by first | (rw [hy229]; with_reducible exact H) | (have H2_ := (Option.bind_some _ _).symm.trans H; rw [hy229]; with_reducible exact H2_) | (have H2_ := (Option.bind_some _ _).symm.trans H; with_reducible exact H2_) | with_reducible exact H | (rw [hy229]; exact H) | exact H
             have Ny229 := Aside0.mk hy229
             clear hy229
             obtain ⟨y231, hy231⟩ : ∃ y_ : List (List Int), y_ = (x6_2.set (((rd_T53 s0_1 x10_2).f0) : Int).toNat y229) := ⟨_, rfl⟩
             replace H : (spec_l04Tight.l2 k2 l1 y231 (wrap64 (x10_2 + 1)) s0_0 s0_1) = some (r1, r2, r3) := by first | (rw [hy231]; with_reducible exact H) | (have H2_ := (Option.bind_some _ _).symm.trans H; rw [hy231]; with_reducible exact H2_) | (have H2_ := (Option.bind_some _ _).symm.trans H; with_reducible exact H2_) | with_reducible exact H | (rw [hy231]; exact H) | exact H
             have Ny231 := Aside0.mk hy231
             clear hy231
             have H' := Aside0.mk H
             clear H
             obtain ⟨ASz36_1, cSz36_1, HGz36, hgz36, HSz36_1⟩ := HI0.out
             have hcz36_0 := cellS31_0 HGz36
             have hcz36_1 := cellS31_1 HGz36
             have hfz36_0 := blk_frozen HGz36 0
             clear HGz36 hgz36
             have p222 : 0 ≤ (x10_2 : Int) := of_decide_eq_true (by with_reducible assumption)
             have q222 : x10_2 < (s0_1.length : Int) := of_decide_eq_true (by with_reducible assumption)
             obtain ⟨ad222, e222, hx222_0, hx222_1, hx222_2⟩ := at_T53 HSz36_1 x10_2 p222 q222
             cases e222
             replace hx222_0 := pw_cell_below HB.out hx222_0
             replace hx222_1 := pw_cell_below HB.out hx222_1
             replace hx222_2 := pw_cell_below HB.out hx222_2
             replace p222 := eq_true p222
             replace q222 := eq_true q222
             try go_wp2_with (first | ((with_reducible refine gate_dst (N := 11) rfl ?_); refine box_event ?hg (N := 11) ?hd (cs := #[.int .i64 0, .int .i64 0, .int .i64 0]) (t := 53) ?hr ?_; (case hd => rfl); (case hg => rfl); (case hr => first | (go_simp; done) | (go_simp; rfl)); intro gb223 hg w37 hbox hb; have n0_ := Aside0.mk (Kd.S_below (by (with_reducible repeat (first | apply Kd.S_alloc | apply Kd.S_drewN | apply Kd.S_drew)); exact HO_6.out) hb); have n1_ := Aside0.mk (IsS31.below (by repeat (first | (with_reducible first | exact HI0.out | apply IsS31.alloc | apply IsS31.drewN | apply IsS31.drew | apply IsS31.set_0) | exact HI0.out)) hb); have n2_ := Aside0.mk (KeepBut.trans (by repeat (first | (with_reducible first | exact HK.out | apply KeepBut.set_ | apply keep_drewN | apply keep_drew | apply keep_alloc) | exact HK.out)) (KeepBut.of_below hb g none) (.inl rfl)); have n3_ := Aside0.mk (below_step (by repeat (first | (with_reducible first | exact HB.out | apply below_alloc | apply pw_below_drewN | apply below_drew1 | refine below_set ?_ (IsS31.ge HI0.out)) | exact HB.out)) hb); have n4_ := Aside0.mk (hbox); have n5_ := Aside0.mk ((by rw [hg]; exact (keep_size (w := w) (g := g) (row := none) (by repeat (first | (with_reducible first | exact HK.out | apply KeepBut.set_ | apply keep_drewN | apply keep_drew | apply keep_alloc) | exact HK.out))) : w.heap.size ≤ gb223)); have n6_ := Aside0.mk ((Nat.le_trans HW0.out (by rw [hg]; exact (keep_size (w := w) (g := g) (row := none) (by repeat (first | (with_reducible first | exact HK.out | apply KeepBut.set_ | apply keep_drewN | apply keep_drew | apply keep_alloc) | exact HK.out))) : w.heap.size ≤ gb223) : w0.heap.size ≤ gb223)); have n7_ := Aside0.mk ((by rw [hg]; exact Nat.ne_of_lt (IsS31.lt (show IsS31 w0 _ g s0_0 s0_1 from by repeat (first | (with_reducible first | exact HI0.out | apply IsS31.alloc | apply IsS31.drewN | apply IsS31.drew | apply IsS31.set_0) | exact HI0.out))) : g ≠ gb223)); have n8_ := Aside0.mk ((by rw [hg]; exact Nat.ne_of_gt (IsS31.lt (show IsS31 w0 _ g s0_0 s0_1 from by repeat (first | (with_reducible first | exact HI0.out | apply IsS31.alloc | apply IsS31.drewN | apply IsS31.drew | apply IsS31.set_0) | exact HI0.out))) : gb223 ≠ g)); clear HO_6; clear HI0; clear HK; clear HB; have HO_6 := n0_; have HI0 := n1_; have HK := n2_; have HB := n3_; have BK223 := n4_; have GW223 := n5_; have GE223 := n6_; have NB0_223 := n7_; have NB223_0 := n8_; clear n0_ n1_ n2_ n3_ n4_ n5_ n6_ n7_ n8_; clear hb hbox hg; have hnb38 := NB223_0.out; have hnc38 := NB0_223.out; have hcz39_0 : w37.cell? ⟨gb223, 0, none⟩ = some (.int .i64 0) := (blk_cell BK223.out 0).trans rfl; have hcz39_1 : w37.cell? ⟨gb223, 1, none⟩ = some (.int .i64 0) := (blk_cell BK223.out 1).trans rfl; have hcz39_2 : w37.cell? ⟨gb223, 2, none⟩ = some (.int .i64 0) := (blk_cell BK223.out 2).trans rfl; have hfz39_0 := blk_frozen BK223.out 0; have hfz39_1 := blk_frozen BK223.out 1; have hfz39_2 := blk_frozen BK223.out 2) | ((with_reducible refine gate_callee (f := 39) rfl ?_); refine goesL_ (some 65) rfl rfl Try.func39 (by kernel_rfl) rfl #[.slice A1 l1.length c1, .int .i64 x10_2] rfl (by (try simp only [List.map_toArray, List.map_cons, List.map_nil]); first | done | rfl | (simp only [List.length_drop, List.length_take]; rfl)) ?_; (with_reducible refine (spec_l00Has.calls k2 _ _ l1 x10_2 false _ ?side1 ?side2 A24.out).mono ?_); (case side1 => exact Kd.C_keep 0 HR1.out (by repeat (first | (with_reducible first | exact HK.out | apply KeepBut.set_ | apply keep_drewN | apply keep_drew | apply keep_alloc | refine keep_far ?_ GW223.out _) | exact HK.out)) hf1); (case side2 => exact HC1.out); rintro e w' ⟨rfl, ⟨nd, rfl⟩⟩; refine ⟨_, rfl, ?_⟩))
             have n0_ : Aside0 (Kd.S (Kd.slice 2 (Kd.int .i64)) 26 (((w37.setCell ⟨gb223, 0, none⟩ (.int .i64 ((rd_T53 s0_1 x10_2).f0))).setCell ⟨gb223, 1, none⟩ (.int .i64 ((rd_T53 s0_1 x10_2).f1))).setCell ⟨gb223, 2, none⟩ (.int .i64 ((rd_T53 s0_1 x10_2).f2))) w.heap.size (fun _ => True) u6 x6_2) := ⟨by (with_reducible repeat (first | apply Kd.S_alloc | apply Kd.S_drewN | apply Kd.S_drew)); exact Kd.S_mono (Kd.S_far (p := ⟨gb223, 2, none⟩) (Kd.S_far (p := ⟨gb223, 1, none⟩) (Kd.S_far (p := ⟨gb223, 0, none⟩) (Kd.S_types HO_6.out BK223.out (by decide)) (fun _ hk => hk.2) (.int .i64 ((rd_T53 s0_1 x10_2).f0))) (fun _ hk => hk.2) (.int .i64 ((rd_T53 s0_1 x10_2).f1))) (fun _ hk => hk.2) (.int .i64 ((rd_T53 s0_1 x10_2).f2))) (fun _ hk => trivial)⟩
             have n1_ : Aside0 ((((w37.setCell ⟨gb223, 0, none⟩ (.int .i64 ((rd_T53 s0_1 x10_2).f0))).setCell ⟨gb223, 1, none⟩ (.int .i64 ((rd_T53 s0_1 x10_2).f1))).setCell ⟨gb223, 2, none⟩ (.int .i64 ((rd_T53 s0_1 x10_2).f2))).heap[gb223]? = some (.cells #[.int .i64 ((rd_T53 s0_1 x10_2).f0), .int .i64 ((rd_T53 s0_1 x10_2).f1), .int .i64 ((rd_T53 s0_1 x10_2).f2)] 53 (0, 0))) := ⟨by (with_reducible repeat (first | refine blk_drewN ?_ _ | refine blk_drew ?_ | refine blk_alloc ?_ _)); refine blk_put (cs := #[.int .i64 ((rd_T53 s0_1 x10_2).f0), .int .i64 ((rd_T53 s0_1 x10_2).f1), .int .i64 0]) ?_ 2 _ rfl; (with_reducible repeat (first | refine blk_drewN ?_ _ | refine blk_drew ?_ | refine blk_alloc ?_ _)); refine blk_put (cs := #[.int .i64 ((rd_T53 s0_1 x10_2).f0), .int .i64 0, .int .i64 0]) ?_ 1 _ rfl; (with_reducible repeat (first | refine blk_drewN ?_ _ | refine blk_drew ?_ | refine blk_alloc ?_ _)); refine blk_put (cs := #[.int .i64 0, .int .i64 0, .int .i64 0]) ?_ 0 _ rfl; (with_reducible repeat (first | refine blk_drewN ?_ _ | refine blk_drew ?_ | refine blk_alloc ?_ _)); exact BK223.out⟩
             have n2_ : Aside0 (IsS31 w0 (((w37.setCell ⟨gb223, 0, none⟩ (.int .i64 ((rd_T53 s0_1 x10_2).f0))).setCell ⟨gb223, 1, none⟩ (.int .i64 ((rd_T53 s0_1 x10_2).f1))).setCell ⟨gb223, 2, none⟩ (.int .i64 ((rd_T53 s0_1 x10_2).f2))) g s0_0 s0_1) := ⟨by repeat (first | (with_reducible first | exact HI0.out | apply IsS31.alloc | apply IsS31.drewN | apply IsS31.drew | apply IsS31.set_0 | refine IsS31.far ?_ NB0_223.out _) | exact HI0.out)⟩
             have n3_ : Aside0 (KeepBut w (((w37.setCell ⟨gb223, 0, none⟩ (.int .i64 ((rd_T53 s0_1 x10_2).f0))).setCell ⟨gb223, 1, none⟩ (.int .i64 ((rd_T53 s0_1 x10_2).f1))).setCell ⟨gb223, 2, none⟩ (.int .i64 ((rd_T53 s0_1 x10_2).f2))) g none) := ⟨by repeat (first | (with_reducible first | exact HK.out | apply KeepBut.set_ | apply keep_drewN | apply keep_drew | apply keep_alloc | refine keep_far ?_ GW223.out _) | exact HK.out)⟩
             have n4_ : Aside0 (Below w0.heap.size w0 (((w37.setCell ⟨gb223, 0, none⟩ (.int .i64 ((rd_T53 s0_1 x10_2).f0))).setCell ⟨gb223, 1, none⟩ (.int .i64 ((rd_T53 s0_1 x10_2).f1))).setCell ⟨gb223, 2, none⟩ (.int .i64 ((rd_T53 s0_1 x10_2).f2)))) := ⟨by repeat (first | (with_reducible first | exact HB.out | apply below_alloc | apply pw_below_drewN | apply below_drew1 | refine below_set ?_ (IsS31.ge HI0.out) | refine below_set ?_ GE223.out) | exact HB.out)⟩
             (try clear HO_6)
             (try clear BK223)
             (try clear HI0)
             (try clear HK)
             (try clear HB)
             generalize (((w37.setCell ⟨gb223, 0, none⟩ (.int .i64 ((rd_T53 s0_1 x10_2).f0))).setCell ⟨gb223, 1, none⟩ (.int .i64 ((rd_T53 s0_1 x10_2).f1))).setCell ⟨gb223, 2, none⟩ (.int .i64 ((rd_T53 s0_1 x10_2).f2))) = w40 at n0_ n1_ n2_ n3_ n4_ ⊢
             have HO_6 := n0_
             have BK223 := n1_
             have HI0 := n2_
             have HK := n3_
             have HB := n4_
             clear n0_ n1_ n2_ n3_ n4_
             (try (rw [drewN_self w40]; generalize hq_ : World.drewN w40 _ = w40; have n0_ : Aside0 (Kd.S (Kd.slice 2 (Kd.int .i64)) 26 w40 w.heap.size (fun _ => True) u6 x6_2) := ⟨by rw [← hq_]; exact (by (with_reducible repeat (first | apply Kd.S_alloc | apply Kd.S_drewN | apply Kd.S_drew)); exact HO_6.out)⟩; have n1_ : Aside0 (w40.heap[gb223]? = some (.cells #[.int .i64 ((rd_T53 s0_1 x10_2).f0), .int .i64 ((rd_T53 s0_1 x10_2).f1), .int .i64 ((rd_T53 s0_1 x10_2).f2)] 53 (0, 0))) := ⟨by rw [← hq_]; exact (by (with_reducible repeat (first | refine blk_drewN ?_ _ | refine blk_drew ?_ | refine blk_alloc ?_ _)); exact BK223.out)⟩; have n2_ : Aside0 (IsS31 w0 w40 g s0_0 s0_1) := ⟨by rw [← hq_]; exact (by repeat (first | (with_reducible first | exact HI0.out | apply IsS31.alloc | apply IsS31.drewN | apply IsS31.drew | apply IsS31.set_0 | refine IsS31.far ?_ NB0_223.out _) | exact HI0.out))⟩; have n3_ : Aside0 (KeepBut w w40 g none) := ⟨by rw [← hq_]; exact (by repeat (first | (with_reducible first | exact HK.out | apply KeepBut.set_ | apply keep_drewN | apply keep_drew | apply keep_alloc | refine keep_far ?_ GW223.out _) | exact HK.out))⟩; have n4_ : Aside0 (Below w0.heap.size w0 w40) := ⟨by rw [← hq_]; exact (by repeat (first | (with_reducible first | exact HB.out | apply below_alloc | apply pw_below_drewN | apply below_drew1 | refine below_set ?_ (IsS31.ge HI0.out) | refine below_set ?_ GE223.out) | exact HB.out))⟩; clear HO_6 BK223 HI0 HK HB hq_; have HO_6 := n0_; have BK223 := n1_; have HI0 := n2_; have HK := n3_; have HB := n4_; clear n0_ n1_ n2_ n3_ n4_))
             have n0_ := Aside0.mk (Kd.S_drew HO_6.out)
             have n1_ := Aside0.mk (blk_drew BK223.out)
             have n2_ := Aside0.mk (IsS31.drew HI0.out)
             have n3_ := Aside0.mk (keep_drew HK.out)
             have n4_ := Aside0.mk (below_drew1 HB.out)
             clear HO_6
             clear BK223
             clear HI0
             clear HK
             clear HB
             have HO_6 := n0_
             have BK223 := n1_
             have HI0 := n2_
             have HK := n3_
             have HB := n4_
             clear n0_ n1_ n2_ n3_ n4_
             obtain ⟨Ao42, co42, eo42⟩ := Kd.S_slice HO_6.out
             (first | subst eo42 | (injection eo42 with f1_ f2_ f3_; have f4_ := f1_.symm; have f5_ := f3_.symm; clear f1_ f2_ f3_; subst f4_; subst f5_))
             have p225 : 0 ≤ (((rd_T53 s0_1 x10_2).f0) : Int) := of_decide_eq_true (by with_reducible assumption)
             have q225 : ((rd_T53 s0_1 x10_2).f0) < (x6_2.length : Int) := of_decide_eq_true (by with_reducible assumption)
             obtain ⟨ad225, A225_0, c225_0, e225, hx225_0, hl225_0, hi225_0⟩ := at_L6 (Kd.S_reads' HO_6.out).2.2 ((rd_T53 s0_1 x10_2).f0) p225 q225
             cases e225
             obtain ⟨ce225, hce225, hMe225, hcc225⟩ := Kd.S_get HO_6.out [] ((rd_T53 s0_1 x10_2).f0) p225 (by first | exact q225 | exact of_decide_eq_true (by with_reducible assumption) | (have e_ := (Kd.S_reads' HO_6.out).1; omega))
             obtain ⟨ve225_0, rfl, ge225_0⟩ := hMe225
             have hv225_0 := hcc225 0 _ rfl
             rw [Nat.add_zero, show ((Kd.slice 2 (Kd.int .i64))).sz = 1 from rfl, Nat.mul_one] at hv225_0
             replace hv225_0 := Option.some.inj (hv225_0.symm.trans hx225_0)
             rw [hv225_0] at ge225_0
             have HL225_0 := Aside0.mk (show Kd.R (Kd.int .i64) 2 _ _ _ _ (rd_L6 x6_2 ((rd_T53 s0_1 x10_2).f0)) from ge225_0)
             clear hv225_0 ge225_0
             have HX225_0 := Aside0.mk hx225_0
             clear hcc225 hce225
             have HR225_0 := Aside0.mk hi225_0
             have HC225_0 := Aside0.mk hl225_0
             clear hi225_0 hl225_0
             replace p225 := eq_true p225
             replace q225 := eq_true q225
             have p226 : 0 ≤ (((rd_T53 s0_1 x10_2).f0) : Int) := of_decide_eq_true (by with_reducible assumption)
             have q226 : ((rd_T53 s0_1 x10_2).f0) < (x6_2.length : Int) := of_decide_eq_true (by with_reducible assumption)
             obtain ⟨ad226, A226_0, c226_0, e226, hx226_0, hl226_0, hi226_0⟩ := at_L6 (Kd.S_reads' HO_6.out).2.2 ((rd_T53 s0_1 x10_2).f0) p226 q226
             obtain rfl : ad225 = ad226 := (by injection e226)
             obtain ⟨ce226, hce226, hMe226, hcc226⟩ := Kd.S_get HO_6.out [] ((rd_T53 s0_1 x10_2).f0) p226 (by first | exact q226 | exact of_decide_eq_true (by with_reducible assumption) | (have e_ := (Kd.S_reads' HO_6.out).1; omega))
             obtain ⟨ve226_0, rfl, ge226_0⟩ := hMe226
             have hv226_0 := hcc226 0 _ rfl
             rw [Nat.add_zero, show ((Kd.slice 2 (Kd.int .i64))).sz = 1 from rfl, Nat.mul_one] at hv226_0
             replace hv226_0 := Option.some.inj (hv226_0.symm.trans hx226_0)
             rw [hv226_0] at ge226_0
             have HL226_0 := Aside0.mk (show Kd.R (Kd.int .i64) 2 _ _ _ _ (rd_L6 x6_2 ((rd_T53 s0_1 x10_2).f0)) from ge226_0)
             clear hv226_0 ge226_0
             have HX226_0 := Aside0.mk hx226_0
             clear hcc226 hce226
             have HR226_0 := Aside0.mk hi226_0
             have HC226_0 := Aside0.mk hl226_0
             clear hi226_0 hl226_0
             replace p226 := eq_true p226
             replace q226 := eq_true q226
             have ea_ := Option.some.inj (hx225_0.symm.trans hx226_0)
             injection ea_ with ea_ en_ ec_
             subst ea_
             subst ec_
             clear en_
             have p227 : 0 ≤ (((rd_T53 s0_1 x10_2).f1) : Int) := of_decide_eq_true (by with_reducible assumption)
             have q227 : ((rd_T53 s0_1 x10_2).f1) < ((rd_L6 x6_2 ((rd_T53 s0_1 x10_2).f0)).length : Int) := of_decide_eq_true (by with_reducible assumption)
             obtain ⟨ad227, e227, hx227_0⟩ := Kd.at_int (by repeat (first | (with_reducible exact HR226_0.out) | (with_reducible refine Kd.C_alloc ?_ _) | (with_reducible refine Kd.C_drewN ?_ _) | (with_reducible refine Kd.C_drew ?_) | exact HR226_0.out)) ((rd_T53 s0_1 x10_2).f1) p227 q227
             cases e227
             replace p227 := eq_true p227
             replace q227 := eq_true q227
             refine start_ (n := 21) (S := fun w' => w'.cell? ⟨gb223, 0, none⟩ = some (.int .i64 ((rd_T53 s0_1 x10_2).f0)) ∧ w'.cell? ⟨gb223, 1, none⟩ = some (.int .i64 ((rd_T53 s0_1 x10_2).f1)) ∧ w'.cell? ⟨gb223, 2, none⟩ = some (.int .i64 ((rd_T53 s0_1 x10_2).f2)) ∧ w'.cell? (ad225.add (((rd_T53 s0_1 x10_2).f0)).toNat) = some (.slice (some ad227) (rd_L6 x6_2 ((rd_T53 s0_1 x10_2).f0)).length c225_0) ∧ w'.cell? (ad225.add (((rd_T53 s0_1 x10_2).f0)).toNat) = some (.slice (some ad227) (rd_L6 x6_2 ((rd_T53 s0_1 x10_2).f0)).length c225_0) ∧ w'.cell? (ad227.add (((rd_T53 s0_1 x10_2).f1)).toNat) = some (.int .i64 (rd (rd_L6 x6_2 ((rd_T53 s0_1 x10_2).f0)) ((rd_T53 s0_1 x10_2).f1)))) (ds := [20]) #[false, false, false, false, false, false, false, false, false, false, false, false, false, false, false, false, false, false, false, false, false] (by kernel_rfl) rfl rfl ⟨(blk_cell BK223.out 0).trans rfl, (blk_cell BK223.out 1).trans rfl, (blk_cell BK223.out 2).trans rfl, hx225_0, hx226_0, hx227_0⟩ (fun hHeld => ?_); refine with_tabW spec_l04Tight.tab18 spec_l04Tight.bits18 (fun HT_ HW_ => ?_)
             generalize w40.drew = w41 at HO_6 BK223 HI0 HK HB HL225_0 HL226_0 HR225_0 HR226_0 HX225_0 HX226_0 hx225_0 hx226_0 hx227_0 hHeld ⊢
             refine pure_ (i := 0) (N := some 67) (v := ?_) (a' := ?_) #[true, false, false, false, false, false, false, false, false, false, false, false, false, false, false, false, false, false, false, false, false] rfl rfl (any_of HT_.out (by kernel_rfl)) (fun _ _ _ h => h) (Or.inl ⟨by rfl, ?_⟩) ?_ ?_
             rotate_left
             ·intro w'
              go_simp
              with_reducible rfl
             rotate_left
             ·simp only [Act.put, List.setIfInBounds_toArray, List.set_cons_zero, List.set_cons_succ, i64_w, i32_w]
              rfl
             refine pure_ (i := 1) (N := some 68) (v := ?_) (a' := ?_) #[true, true, false, false, false, false, false, false, false, false, false, false, false, false, false, false, false, false, false, false, false] rfl rfl (any_of HT_.out (by kernel_rfl)) (fun _ _ _ h => h) (Or.inl ⟨by rfl, ?_⟩) ?_ ?_
             rotate_left
             ·intro w'
              go_simp
              with_reducible rfl
             rotate_left
             ·simp only [Act.put, List.setIfInBounds_toArray, List.set_cons_zero, List.set_cons_succ, i64_w, i32_w]
              rfl
             refine pure_ (i := 5) (N := some 72) (v := ?_) (a' := ?_) #[true, true, false, false, false, true, false, false, false, false, false, false, false, false, false, false, false, false, false, false, false] rfl rfl (any_of HT_.out (by kernel_rfl)) (fun _ _ _ h => h) (Or.inl ⟨by rfl, ?_⟩) ?_ ?_
             rotate_left
             ·intro w'
              go_simp
              with_reducible rfl
             rotate_left
             ·simp only [Act.put, List.setIfInBounds_toArray, List.set_cons_zero, List.set_cons_succ, i64_w, i32_w]
              rfl
             refine pure_ (i := 7) (N := some 74) (v := ?_) (a' := ?_) #[true, true, false, false, false, true, false, true, false, false, false, false, false, false, false, false, false, false, false, false, false] rfl rfl (any_of HT_.out (by kernel_rfl)) (fun _ _ _ h => h) (Or.inl ⟨by rfl, ?_⟩) ?_ ?_
             rotate_left
             ·intro w'
              go_simp
              with_reducible rfl
             rotate_left
             ·simp only [Act.put, List.setIfInBounds_toArray, List.set_cons_zero, List.set_cons_succ, i64_w, i32_w]
              rfl
             refine pure_ (i := 8) (N := some 75) (v := ?_) (a' := ?_) #[true, true, false, false, false, true, false, true, true, false, false, false, false, false, false, false, false, false, false, false, false] rfl rfl (any_of HT_.out (by kernel_rfl)) (fun _ _ _ h => h) (Or.inl ⟨by rfl, ?_⟩) ?_ ?_
             rotate_left
             ·intro w'
              go_simp
              with_reducible rfl
             rotate_left
             ·simp only [Act.put, List.setIfInBounds_toArray, List.set_cons_zero, List.set_cons_succ, i64_w, i32_w]
              rfl
             refine pure_ (i := 12) (N := some 79) (v := ?_) (a' := ?_) #[true, true, false, false, false, true, false, true, true, false, false, false, true, false, false, false, false, false, false, false, false] rfl rfl (any_of HT_.out (by kernel_rfl)) (fun _ _ _ h => h) (Or.inl ⟨by rfl, ?_⟩) ?_ ?_
             rotate_left
             ·intro w'
              go_simp
              with_reducible rfl
             rotate_left
             ·simp only [Act.put, List.setIfInBounds_toArray, List.set_cons_zero, List.set_cons_succ, i64_w, i32_w]
              rfl
             refine pure_ (i := 16) (N := some 83) (v := ?_) (a' := ?_) #[true, true, false, false, false, true, false, true, true, false, false, false, true, false, false, false, true, false, false, false, false] rfl rfl (any_of HT_.out (by kernel_rfl)) (fun _ _ _ h => h) (Or.inl ⟨by rfl, ?_⟩) ?_ ?_
             rotate_left
             ·intro w'
              go_simp
              with_reducible rfl
             rotate_left
             ·simp only [Act.put, List.setIfInBounds_toArray, List.set_cons_zero, List.set_cons_succ, i64_w, i32_w]
              rfl
             refine take_ (i := 2) (N := some 69) (v := ?_) (a' := ?_) #[true, true, true, false, false, true, false, true, true, false, false, false, true, false, false, false, true, false, false, false, false] rfl rfl (take_ofW HT_.out HW_.out (by kernel_rfl)) (fun _ _ _ h => h) (Or.inl ⟨by rfl, ?_⟩) hHeld ?_ ?_
             rotate_left
             ·rintro w' ⟨s0, s1, s2, s3, s4, s5⟩
              go_simp
              with_reducible rfl
             rotate_left
             ·simp only [Act.put, List.setIfInBounds_toArray, List.set_cons_zero, List.set_cons_succ, i64_w, i32_w]
              rfl
             refine pure_ (i := 3) (N := some 70) (v := ?_) (a' := ?_) #[true, true, true, true, false, true, false, true, true, false, false, false, true, false, false, false, true, false, false, false, false] rfl rfl (any_of HT_.out (by kernel_rfl)) (fun _ _ _ h => h) (Or.inl ⟨by rfl, ?_⟩) ?_ ?_
             rotate_left
             ·intro w'
              go_simp
              with_reducible rfl
             rotate_left
             ·simp only [Act.put, List.setIfInBounds_toArray, List.set_cons_zero, List.set_cons_succ, i64_w, i32_w]
              rfl
             refine take_ (i := 4) (N := some 71) (v := ?_) (a' := ?_) #[true, true, true, true, true, true, false, true, true, false, false, false, true, false, false, false, true, false, false, false, false] rfl rfl (take_ofW HT_.out HW_.out (by kernel_rfl)) (fun _ _ _ h => h) (Or.inl ⟨by rfl, ?_⟩) hHeld ?_ ?_
             rotate_left
             ·rintro w' ⟨s0, s1, s2, s3, s4, s5⟩
              go_simp
              with_reducible rfl
             rotate_left
             ·simp only [Act.put, List.setIfInBounds_toArray, List.set_cons_zero, List.set_cons_succ, i64_w, i32_w]
              rfl
             refine take_ (i := 6) (N := some 73) (v := ?_) (a' := ?_) #[true, true, true, true, true, true, true, true, true, false, false, false, true, false, false, false, true, false, false, false, false] rfl rfl (take_ofW HT_.out HW_.out (by kernel_rfl)) (fun _ _ _ h => h) (Or.inl ⟨by rfl, ?_⟩) hHeld ?_ ?_
             rotate_left
             ·rintro w' ⟨s0, s1, s2, s3, s4, s5⟩
              go_simp
              with_reducible rfl
             rotate_left
             ·simp only [Act.put, List.setIfInBounds_toArray, List.set_cons_zero, List.set_cons_succ, i64_w, i32_w]
              rfl
             refine take_ (i := 9) (N := some 76) (v := ?_) (a' := ?_) #[true, true, true, true, true, true, true, true, true, true, false, false, true, false, false, false, true, false, false, false, false] rfl rfl (take_ofW HT_.out HW_.out (by kernel_rfl)) (fun _ _ _ h => h) (Or.inl ⟨by rfl, ?_⟩) hHeld ?_ ?_
             rotate_left
             ·rintro w' ⟨s0, s1, s2, s3, s4, s5⟩
              go_simp
              with_reducible rfl
             rotate_left
             ·simp only [Act.put, List.setIfInBounds_toArray, List.set_cons_zero, List.set_cons_succ, i64_w, i32_w]
              rfl
             refine pure_ (i := 10) (N := some 77) (v := ?_) (a' := ?_) #[true, true, true, true, true, true, true, true, true, true, true, false, true, false, false, false, true, false, false, false, false] rfl rfl (any_of HT_.out (by kernel_rfl)) (fun _ _ _ h => h) (Or.inl ⟨by rfl, ?_⟩) ?_ ?_
             rotate_left
             ·intro w'
              go_simp
              with_reducible rfl
             rotate_left
             ·simp only [Act.put, List.setIfInBounds_toArray, List.set_cons_zero, List.set_cons_succ, i64_w, i32_w]
              rfl
             refine take_ (i := 11) (N := some 78) (v := ?_) (a' := ?_) #[true, true, true, true, true, true, true, true, true, true, true, true, true, false, false, false, true, false, false, false, false] rfl rfl (take_ofW HT_.out HW_.out (by kernel_rfl)) (fun _ _ _ h => h) (Or.inl ⟨by rfl, ?_⟩) hHeld ?_ ?_
             rotate_left
             ·rintro w' ⟨s0, s1, s2, s3, s4, s5⟩
              go_simp
              with_reducible rfl
             rotate_left
             ·simp only [Act.put, List.setIfInBounds_toArray, List.set_cons_zero, List.set_cons_succ, i64_w, i32_w]
              rfl
             refine take_ (i := 13) (N := some 80) (v := ?_) (a' := ?_) #[true, true, true, true, true, true, true, true, true, true, true, true, true, true, false, false, true, false, false, false, false] rfl rfl (take_ofW HT_.out HW_.out (by kernel_rfl)) (fun _ _ _ h => h) (Or.inl ⟨by rfl, ?_⟩) hHeld ?_ ?_
             rotate_left
             ·rintro w' ⟨s0, s1, s2, s3, s4, s5⟩
              go_simp
              with_reducible rfl
             rotate_left
             ·simp only [Act.put, List.setIfInBounds_toArray, List.set_cons_zero, List.set_cons_succ, i64_w, i32_w]
              rfl
             refine pure_ (i := 14) (N := some 81) (v := ?_) (a' := ?_) #[true, true, true, true, true, true, true, true, true, true, true, true, true, true, true, false, true, false, false, false, false] rfl rfl (any_of HT_.out (by kernel_rfl)) (fun _ _ _ h => h) (Or.inl ⟨by rfl, ?_⟩) ?_ ?_
             rotate_left
             ·intro w'
              go_simp
              with_reducible rfl
             rotate_left
             ·simp only [Act.put, List.setIfInBounds_toArray, List.set_cons_zero, List.set_cons_succ, i64_w, i32_w]
              rfl
             refine take_ (i := 15) (N := some 82) (v := ?_) (a' := ?_) #[true, true, true, true, true, true, true, true, true, true, true, true, true, true, true, true, true, false, false, false, false] rfl rfl (take_ofW HT_.out HW_.out (by kernel_rfl)) (fun _ _ _ h => h) (Or.inl ⟨by rfl, ?_⟩) hHeld ?_ ?_
             rotate_left
             ·rintro w' ⟨s0, s1, s2, s3, s4, s5⟩
              go_simp
              with_reducible rfl
             rotate_left
             ·simp only [Act.put, List.setIfInBounds_toArray, List.set_cons_zero, List.set_cons_succ, i64_w, i32_w]
              rfl
             refine take_ (i := 17) (N := some 84) (v := ?_) (a' := ?_) #[true, true, true, true, true, true, true, true, true, true, true, true, true, true, true, true, true, true, false, false, false] rfl rfl (take_ofW HT_.out HW_.out (by kernel_rfl)) (fun _ _ _ h => h) (Or.inl ⟨by rfl, ?_⟩) hHeld ?_ ?_
             rotate_left
             ·rintro w' ⟨s0, s1, s2, s3, s4, s5⟩
              go_simp
              with_reducible rfl
             rotate_left
             ·simp only [Act.put, List.setIfInBounds_toArray, List.set_cons_zero, List.set_cons_succ, i64_w, i32_w]
              rfl
             refine one_ (i := 18) (N := some 85) #[true, true, true, true, true, true, true, true, true, true, true, true, true, true, true, true, true, true, true, false, false] rfl rfl (one_of HT_.out (by kernel_rfl)) (by decide) (fun K hK => ?_)
             refine goes_ Try.func40 (by kernel_rfl) rfl #[.int .i64 (rd (rd_L6 x6_2 ((rd_T53 s0_1 x10_2).f0)) ((rd_T53 s0_1 x10_2).f1)), .int .i64 ((rd_T53 s0_1 x10_2).f2)] (by rfl) rfl rfl (by (try simp only [List.map_toArray, List.map_cons, List.map_nil]); first | done | rfl | (simp only [List.length_drop, List.length_take]; rfl)) ?_
             with_reducible refine (spec_l00Min.calls (rd (rd_L6 x6_2 ((rd_T53 s0_1 x10_2).f0)) ((rd_T53 s0_1 x10_2).f1)) ((rd_T53 s0_1 x10_2).f2) t228 _ A34.out).mono ?_
             rintro e w' ⟨rfl, ⟨nd, rfl⟩⟩
             refine ⟨_, rfl, ?_⟩
             have p35 : 0 ≤ (((rd_T53 s0_1 x10_2).f1) : Int) := of_decide_eq_true (by with_reducible assumption)
             have q35 : (((rd_T53 s0_1 x10_2).f1) : Int) < (((rd_L6 x6_2 ((rd_T53 s0_1 x10_2).f0)).length : Int) : Int) := of_decide_eq_true (by with_reducible assumption)
             obtain ⟨go35, co35, eo35, gb35, gl35, cl35, HG35⟩ := Kd.R_form HL225_0.out (by omega)
             (first | cases eo35 | (injection eo35 with ea_ en_ ec_; (first | subst ea_ | (injection ea_ with ea_; subst ea_)); subst ec_; clear en_))
             have GB35 := Aside0.mk gb35
             have GG35 := Aside0.mk HG35
             clear gb35 gl35 HG35
             (first | simp only [add_plain] at hx227_0 | skip)
             obtain ⟨hx35_0, hf35_0⟩ := Kd.R_celln 0 HL225_0.out (((rd_T53 s0_1 x10_2).f1) : Int) p35 q35
             replace p35 := eq_true p35
             replace q35 := eq_true q35
             have hq43 : (((rd_T53 s0_1 x10_2).f0) : Int) < (x6_2.length : Int) := (by have h_ : (((rd_T53 s0_1 x10_2).f0) : Int) < ((x6_2.length : Int) : Int) := of_decide_eq_true (by with_reducible assumption); first | exact h_ | (have e_ := (Kd.S_reads' HO_6.out).1; omega) | simpa only [List.length_set, List.length_set] using h_)
             obtain ⟨oki43, ce43, hcl43, hM43, hcc43, hok43, hbk43⟩ := Kd.S_borrow HO_6.out [] (((rd_T53 s0_1 x10_2).f0) : Int) (of_decide_eq_true (by with_reducible assumption)) hq43
             obtain ⟨ve43_0, rfl, ge43_0⟩ := hM43
             have hv43 := hcc43 0 _ rfl
             rw [Nat.add_zero, show ((Kd.slice 2 (Kd.int .i64))).sz = 1 from rfl, Nat.mul_one] at hv43
             replace hv43 := Option.some.inj (hv43.symm.trans HX225_0.out)
             subst hv43
             clear hcc43 hcl43
             replace ge43_0 := (show Kd.R (Kd.int .i64) 2 _ _ _ _ (rd_L6 x6_2 ((rd_T53 s0_1 x10_2).f0)) from ge43_0)
             have HP43 := Kd.R_putg ge43_0 (((rd_T53 s0_1 x10_2).f1) : Int) t228
             have HN0_go35 := Aside0.mk (show g ≠ go35 from by have h_ := IsS31.own_ne HI0.out HL225_0.out (by decide); intro e_; exact h_ (by rw [e_]; rfl))
             rw [← Ny229.out] at HP43
             have HS43 := hbk43 HP43.2 (fun k_ e_ => by injection e_ with e_; subst e_; exact ge43_0.1 _ rfl) (x' := y229) (Kd.M_row HP43.1)
             rw [← Ny231.out] at HS43
             have HQ43 := Aside0.mk HS43
             clear HP43 HS43 hbk43 hok43
             refine hK.out _ _ ⟨(blk_cell BK223.out 0).trans rfl, (blk_cell BK223.out 1).trans rfl, (blk_cell BK223.out 2).trans rfl, hHeld.2.2.2.1, hHeld.2.2.2.2.1, hHeld.2.2.2.2.2⟩ (fun hHeld => ?_)
             clear hK K
             refine norm_ (a' := ?_) ?_ ?_
             rotate_left
             ·show Act.put _ (some 85) _ = _
              simp only [Act.put, List.setIfInBounds_toArray, List.set_cons_zero, List.set_cons_succ, i64_w, i32_w]
              rfl
             refine pure_ (i := 19) (N := some 86) (v := ?_) (a' := ?_) #[true, true, true, true, true, true, true, true, true, true, true, true, true, true, true, true, true, true, true, true, false] rfl rfl (any_of HT_.out (by kernel_rfl)) (fun _ _ _ h => h) (Or.inl ⟨by rfl, ?_⟩) ?_ ?_
             rotate_left
             ·intro w'
              go_simp
              with_reducible rfl
             rotate_left
             ·simp only [Act.put, List.setIfInBounds_toArray, List.set_cons_zero, List.set_cons_succ, i64_w, i32_w]
              rfl
             refine last_ (i := 20) (N := none) #[true, true, true, true, true, true, true, true, true, true, true, true, true, true, true, true, true, true, true, true, true] rfl rfl (one_of HT_.out (by kernel_rfl)) (by decide) (fun K hK => ?_)
             refine skip_ (w1 := ?_) (by rfl) rfl ?_ ?_
             rotate_left
             ·go_simp
              rfl
             refine hK.out _ _ ?_
             clear hK K
             refine done_ (done_of HT_.out (by kernel_rfl)) ?_
             try go_wp2
             go_roundg k2
             case measure => have := HK1.out; have := HK2.out; omega
             case rel => exact ⟨(y231), (wrap64 (x10_2 + 1)), (by first | rfl | (simp; done) | (simp [*]; done)), H', ⟨by have := HK1.out; have := HK2.out; omega⟩, ⟨by (with_reducible repeat (first | apply Kd.S_alloc | apply Kd.S_drewN | apply Kd.S_drew)); exact HQ43.out⟩, ⟨by repeat (first | (with_reducible first | exact HI0.out | apply IsS31.alloc | apply IsS31.drewN | apply IsS31.drew | apply IsS31.set_0 | refine IsS31.far ?_ HN0_go35.out _ | refine IsS31.far ?_ NB0_223.out _) | exact HI0.out)⟩, ⟨by repeat (first | (with_reducible first | exact HK.out | apply KeepBut.set_ | apply keep_drewN | apply keep_drew | apply keep_alloc | refine keep_far ?_ GB35.out _ | refine keep_far ?_ GW223.out _) | exact HK.out)⟩, ⟨by repeat (first | (with_reducible first | exact HB.out | apply below_alloc | apply pw_below_drewN | apply below_drew1 | refine below_set ?_ (Nat.le_trans HL.out GB35.out) | refine below_set ?_ (IsS31.ge HI0.out) | refine below_set ?_ GE223.out) | exact HB.out)⟩⟩
            ·rw [if_neg c33] at H
             exact absurd H (by simp)
           ·rw [if_neg c32] at H
            exact absurd H (by simp)
          ·rw [if_neg c31] at H
           exact absurd H (by simp)
         ·rw [if_neg c30] at H
          exact absurd H (by simp)
       ·rw [if_neg c23] at H
        exact absurd H (by simp)
      ·rw [if_neg c22] at H
       have c22b0 : decide (x10_2 < (s0_1.length : Int)) = false := decide_eq_false c22
       clear c22
       have H' := Aside0.mk H
       clear H
       obtain ⟨ASz45_1, cSz45_1, HGz45, hgz45, HSz45_1⟩ := HI0.out
       have hcz45_0 := cellS31_0 HGz45
       have hcz45_1 := cellS31_1 HGz45
       have hfz45_0 := blk_frozen HGz45 0
       clear HGz45 hgz45
       go_wp2
       go_loopg [12] k2 (fun kq v12 w' => ∃ (x6_3 : List (List Int)) (x12_3 : Int), v12 = .int .i64 x12_3 ∧ Aside0 (spec_l04Tight.l3 kq x6_3 x12_3 s0_0 s0_1 = some (r1, r2, r3)) ∧ Aside0 (kq ≤ k2) ∧ Aside0 (Kd.S (Kd.slice 2 (Kd.int .i64)) 26 w' w.heap.size (fun _ => True) u6 x6_3) ∧ Aside0 (IsS31 w0 w' g s0_0 s0_1) ∧ Aside0 (KeepBut w w' g none) ∧ Aside0 (Below w0.heap.size w0 w'))
       case atStart => exact ⟨(x6_2), (0), (by first | rfl | (simp; done) | (simp [*]; done)), H', ⟨Nat.le_refl _⟩, ⟨by (with_reducible repeat (first | apply Kd.S_alloc | apply Kd.S_drewN | apply Kd.S_drew)); exact HO_6.out⟩, ⟨by repeat (first | (with_reducible first | exact HI0.out | apply IsS31.alloc | apply IsS31.drewN | apply IsS31.drew | apply IsS31.set_0) | exact HI0.out)⟩, ⟨by repeat (first | (with_reducible first | exact HK.out | apply KeepBut.set_ | apply keep_drewN | apply keep_drew | apply keep_alloc) | exact HK.out)⟩, ⟨by repeat (first | (with_reducible first | exact HB.out | apply below_alloc | apply pw_below_drewN | apply below_drew1 | refine below_set ?_ (IsS31.ge HI0.out)) | exact HB.out)⟩⟩
       case round =>
        clear H'
        try clear c1
        try clear c2
        try clear p2
        try clear q2
        try clear hx2
        try clear c3
        try clear p3
        try clear q3
        try clear hx3
        try clear hf3
        try clear c4
        try clear q4
        try clear c5
        try clear c5b0
        try clear p6
        try clear c9
        try clear c9b0
        try clear c10
        try clear c10b0
        try clear c10b1
        try clear c11
        try clear c14
        try clear c17
        try clear c22
        try clear c22b0
        try clear p22
        try clear q22
        try clear hx22
        try clear c23
        try clear c23b0
        try clear c24
        try clear c25
        try clear c28
        try clear c30
        try clear c30b0
        try clear c31
        try clear c31b0
        try clear c32
        try clear c32b0
        try clear c33
        try clear c33b0
        try clear p35
        try clear q35
        try clear hx35
        try clear hf35
        try clear c38
        try clear c39
        try clear c40
        try clear c43
        try clear q43
        try clear hcz12_0
        try clear hcz12_1
        try clear hcz15_0
        try clear hcz15_1
        try clear hcz18_0
        try clear hcz18_1
        try clear hcz21_0
        try clear hcz21_1
        try clear hcz26_0
        try clear hcz26_1
        try clear hcz29_0
        try clear hcz29_1
        try clear hcz29_2
        try clear hcz36_0
        try clear hcz36_1
        try clear hcz39_0
        try clear hcz39_1
        try clear hcz39_2
        try clear hcz45_0
        try clear hcz45_1
        try clear hcz6_0
        try clear hcz6_1
        try clear hfz12_0
        try clear hfz15_0
        try clear hfz18_0
        try clear hfz21_0
        try clear hfz26_0
        try clear hfz29_0
        try clear hfz29_1
        try clear hfz29_2
        try clear hfz36_0
        try clear hfz39_0
        try clear hfz39_1
        try clear hfz39_2
        try clear hfz45_0
        try clear hfz6_0
        try clear hx222_0
        try clear hx222_1
        try clear hx222_2
        try clear hx225_0
        try clear hx226_0
        try clear hx227_0
        try clear hx35_0
        try clear p2
        try clear p222
        try clear p225
        try clear p226
        try clear p227
        try clear p35
        try clear p6
        try clear q222
        try clear q225
        try clear q226
        try clear q227
        try clear q35
        obtain ⟨x6_3, x12_3, rfl, HA, HK3, HO_6, HI0, HK, HB⟩ := hrel
        cases gk with
        | zero => exact absurd HA.out (by simp [spec_l04Tight.l3])
        | succ k3 =>
         have H := HA.out
         clear HA
         simp only [spec_l04Tight.l3] at H
         by_cases c46 : x12_3 < s0_0
         ·rw [if_pos c46] at H
          have c46b0 : decide (x12_3 < s0_0) = true := decide_eq_true c46
          clear c46
          have H' := Aside0.mk H
          clear H
          obtain ⟨ASz47_1, cSz47_1, HGz47, hgz47, HSz47_1⟩ := HI0.out
          have hcz47_0 := cellS31_0 HGz47
          have hcz47_1 := cellS31_1 HGz47
          have hfz47_0 := blk_frozen HGz47 0
          clear HGz47 hgz47
          go_wp2
          go_loopg [13] k3 (fun kq v13 w' => ∃ (x6_4 : List (List Int)) (x13_4 : Int), v13 = .int .i64 x13_4 ∧ Aside0 (spec_l04Tight.l4 kq x6_4 x12_3 x13_4 s0_0 s0_1 = some (r1, r2, r3)) ∧ Aside0 (kq ≤ k3) ∧ Aside0 (Kd.S (Kd.slice 2 (Kd.int .i64)) 26 w' w.heap.size (fun _ => True) u6 x6_4) ∧ Aside0 (IsS31 w0 w' g s0_0 s0_1) ∧ Aside0 (KeepBut w w' g none) ∧ Aside0 (Below w0.heap.size w0 w'))
          case atStart => exact ⟨(x6_3), (0), (by first | rfl | (simp; done) | (simp [*]; done)), H', ⟨Nat.le_refl _⟩, ⟨by (with_reducible repeat (first | apply Kd.S_alloc | apply Kd.S_drewN | apply Kd.S_drew)); exact HO_6.out⟩, ⟨by repeat (first | (with_reducible first | exact HI0.out | apply IsS31.alloc | apply IsS31.drewN | apply IsS31.drew | apply IsS31.set_0) | exact HI0.out)⟩, ⟨by repeat (first | (with_reducible first | exact HK.out | apply KeepBut.set_ | apply keep_drewN | apply keep_drew | apply keep_alloc) | exact HK.out)⟩, ⟨by repeat (first | (with_reducible first | exact HB.out | apply below_alloc | apply pw_below_drewN | apply below_drew1 | refine below_set ?_ (IsS31.ge HI0.out)) | exact HB.out)⟩⟩
          case round =>
           clear H'
           try clear c1
           try clear c2
           try clear p2
           try clear q2
           try clear hx2
           try clear c3
           try clear p3
           try clear q3
           try clear hx3
           try clear hf3
           try clear c4
           try clear q4
           try clear c5
           try clear c5b0
           try clear p6
           try clear c9
           try clear c9b0
           try clear c10
           try clear c10b0
           try clear c10b1
           try clear c11
           try clear c14
           try clear c17
           try clear c22
           try clear c22b0
           try clear p22
           try clear q22
           try clear hx22
           try clear c23
           try clear c23b0
           try clear c24
           try clear c25
           try clear c28
           try clear c30
           try clear c30b0
           try clear c31
           try clear c31b0
           try clear c32
           try clear c32b0
           try clear c33
           try clear c33b0
           try clear p35
           try clear q35
           try clear hx35
           try clear hf35
           try clear c38
           try clear c39
           try clear c40
           try clear c43
           try clear q43
           try clear c46
           try clear c46b0
           try clear hcz12_0
           try clear hcz12_1
           try clear hcz15_0
           try clear hcz15_1
           try clear hcz18_0
           try clear hcz18_1
           try clear hcz21_0
           try clear hcz21_1
           try clear hcz26_0
           try clear hcz26_1
           try clear hcz29_0
           try clear hcz29_1
           try clear hcz29_2
           try clear hcz36_0
           try clear hcz36_1
           try clear hcz39_0
           try clear hcz39_1
           try clear hcz39_2
           try clear hcz45_0
           try clear hcz45_1
           try clear hcz47_0
           try clear hcz47_1
           try clear hcz6_0
           try clear hcz6_1
           try clear hfz12_0
           try clear hfz15_0
           try clear hfz18_0
           try clear hfz21_0
           try clear hfz26_0
           try clear hfz29_0
           try clear hfz29_1
           try clear hfz29_2
           try clear hfz36_0
           try clear hfz39_0
           try clear hfz39_1
           try clear hfz39_2
           try clear hfz45_0
           try clear hfz47_0
           try clear hfz6_0
           try clear hx222_0
           try clear hx222_1
           try clear hx222_2
           try clear hx225_0
           try clear hx226_0
           try clear hx227_0
           try clear hx35_0
           try clear p2
           try clear p22
           try clear p222
           try clear p225
           try clear p226
           try clear p227
           try clear p3
           try clear p35
           try clear p6
           try clear q2
           try clear q22
           try clear q222
           try clear q225
           try clear q226
           try clear q227
           try clear q3
           try clear q35
           try clear q4
           try clear q43
           obtain ⟨x6_4, x13_4, rfl, HA, HK4, HO_6, HI0, HK, HB⟩ := hrel
           cases gk with
           | zero => exact absurd HA.out (by simp [spec_l04Tight.l4])
           | succ k4 =>
            have H := HA.out
            clear HA
            simp only [spec_l04Tight.l4] at H
            by_cases c48 : x13_4 < s0_0
            ·rw [if_pos c48] at H
             have c48b0 : decide (x13_4 < s0_0) = true := decide_eq_true c48
             clear c48
             have H' := Aside0.mk H
             clear H
             obtain ⟨ASz49_1, cSz49_1, HGz49, hgz49, HSz49_1⟩ := HI0.out
             have hcz49_0 := cellS31_0 HGz49
             have hcz49_1 := cellS31_1 HGz49
             have hfz49_0 := blk_frozen HGz49 0
             clear HGz49 hgz49
             go_wp2
             go_loopg [14] k4 (fun kq v14 w' => ∃ (x6_5 : List (List Int)) (x14_5 : Int), v14 = .int .i64 x14_5 ∧ Aside0 (spec_l04Tight.l5 kq x6_5 x12_3 x13_4 x14_5 s0_0 s0_1 = some (r1, r2, r3)) ∧ Aside0 (kq ≤ k4) ∧ Aside0 (Kd.S (Kd.slice 2 (Kd.int .i64)) 26 w' w.heap.size (fun _ => True) u6 x6_5) ∧ Aside0 (IsS31 w0 w' g s0_0 s0_1) ∧ Aside0 (KeepBut w w' g none) ∧ Aside0 (Below w0.heap.size w0 w'))
             case atStart => exact ⟨(x6_4), (0), (by first | rfl | (simp; done) | (simp [*]; done)), H', ⟨Nat.le_refl _⟩, ⟨by (with_reducible repeat (first | apply Kd.S_alloc | apply Kd.S_drewN | apply Kd.S_drew)); exact HO_6.out⟩, ⟨by repeat (first | (with_reducible first | exact HI0.out | apply IsS31.alloc | apply IsS31.drewN | apply IsS31.drew | apply IsS31.set_0) | exact HI0.out)⟩, ⟨by repeat (first | (with_reducible first | exact HK.out | apply KeepBut.set_ | apply keep_drewN | apply keep_drew | apply keep_alloc) | exact HK.out)⟩, ⟨by repeat (first | (with_reducible first | exact HB.out | apply below_alloc | apply pw_below_drewN | apply below_drew1 | refine below_set ?_ (IsS31.ge HI0.out)) | exact HB.out)⟩⟩
             case round =>
              clear H'
              try clear c1
              try clear c2
              try clear p2
              try clear q2
              try clear hx2
              try clear c3
              try clear p3
              try clear q3
              try clear hx3
              try clear hf3
              try clear c4
              try clear q4
              try clear c5
              try clear c5b0
              try clear p6
              try clear c9
              try clear c9b0
              try clear c10
              try clear c10b0
              try clear c10b1
              try clear c11
              try clear c14
              try clear c17
              try clear c22
              try clear c22b0
              try clear p22
              try clear q22
              try clear hx22
              try clear c23
              try clear c23b0
              try clear c24
              try clear c25
              try clear c28
              try clear c30
              try clear c30b0
              try clear c31
              try clear c31b0
              try clear c32
              try clear c32b0
              try clear c33
              try clear c33b0
              try clear p35
              try clear q35
              try clear hx35
              try clear hf35
              try clear c38
              try clear c39
              try clear c40
              try clear c43
              try clear q43
              try clear c46
              try clear c46b0
              try clear c48
              try clear c48b0
              try clear hcz12_0
              try clear hcz12_1
              try clear hcz15_0
              try clear hcz15_1
              try clear hcz18_0
              try clear hcz18_1
              try clear hcz21_0
              try clear hcz21_1
              try clear hcz26_0
              try clear hcz26_1
              try clear hcz29_0
              try clear hcz29_1
              try clear hcz29_2
              try clear hcz36_0
              try clear hcz36_1
              try clear hcz39_0
              try clear hcz39_1
              try clear hcz39_2
              try clear hcz45_0
              try clear hcz45_1
              try clear hcz47_0
              try clear hcz47_1
              try clear hcz49_0
              try clear hcz49_1
              try clear hcz6_0
              try clear hcz6_1
              try clear hfz12_0
              try clear hfz15_0
              try clear hfz18_0
              try clear hfz21_0
              try clear hfz26_0
              try clear hfz29_0
              try clear hfz29_1
              try clear hfz29_2
              try clear hfz36_0
              try clear hfz39_0
              try clear hfz39_1
              try clear hfz39_2
              try clear hfz45_0
              try clear hfz47_0
              try clear hfz49_0
              try clear hfz6_0
              try clear hx222_0
              try clear hx222_1
              try clear hx222_2
              try clear hx225_0
              try clear hx226_0
              try clear hx227_0
              try clear hx35_0
              try clear p2
              try clear p22
              try clear p222
              try clear p225
              try clear p226
              try clear p227
              try clear p3
              try clear p35
              try clear p6
              try clear q2
              try clear q22
              try clear q222
              try clear q225
              try clear q226
              try clear q227
              try clear q3
              try clear q35
              try clear q4
              try clear q43
              obtain ⟨x6_5, x14_5, rfl, HA, HK5, HO_6, HI0, HK, HB⟩ := hrel
              cases gk with
              | zero => exact absurd HA.out (by simp [spec_l04Tight.l5])
              | succ k5 =>
               have H := HA.out
               clear HA
               simp only [spec_l04Tight.l5] at H
               by_cases c50 : x14_5 < s0_0
               ·rw [if_pos c50] at H
                have c50b0 : decide (x14_5 < s0_0) = true := decide_eq_true c50
                clear c50
                by_cases c51 : 0 ≤ x13_4
                ·rw [if_pos c51] at H
                 have c51b0 : decide (0 ≤ x13_4) = true := decide_eq_true c51
                 clear c51
                 by_cases c52 : x13_4 < (x6_5.length : Int)
                 ·rw [if_pos c52] at H
                  have c52b0 : decide (x13_4 < (x6_5.length : Int)) = true := decide_eq_true c52
                  clear c52
                  by_cases c53 : 0 ≤ x12_3
                  ·rw [if_pos c53] at H
                   have c53b0 : decide (0 ≤ x12_3) = true := decide_eq_true c53
                   clear c53
                   by_cases c54 : x12_3 < ((rd_L6 x6_5 x13_4).length : Int)
                   ·rw [if_pos c54] at H
                    have c54b0 : decide (x12_3 < ((rd_L6 x6_5 x13_4).length : Int)) = true := decide_eq_true c54
                    clear c54
                    by_cases c55 : (rd (rd_L6 x6_5 x13_4) x12_3) < 1000000
                    ·rw [if_pos c55] at H
                     have c55b0 : decide ((rd (rd_L6 x6_5 x13_4) x12_3) < 1000000) = true := decide_eq_true c55
                     clear c55
                     by_cases c56 : x12_3 < (x6_5.length : Int)
                     ·rw [if_pos c56] at H
                      have c56b0 : decide (x12_3 < (x6_5.length : Int)) = true := decide_eq_true c56
                      clear c56
                      by_cases c57 : 0 ≤ x14_5
                      ·rw [if_pos c57] at H
                       have c57b0 : decide (0 ≤ x14_5) = true := decide_eq_true c57
                       clear c57
                       by_cases c58 : x14_5 < ((rd_L6 x6_5 x12_3).length : Int)
                       ·rw [if_pos c58] at H
                        have c58b0 : decide (x14_5 < ((rd_L6 x6_5 x12_3).length : Int)) = true := decide_eq_true c58
                        clear c58
                        by_cases c59 : (rd (rd_L6 x6_5 x12_3) x14_5) < 1000000
                        ·rw [if_pos c59] at H
                         have c59b0 : decide ((rd (rd_L6 x6_5 x12_3) x14_5) < 1000000) = true := decide_eq_true c59
                         clear c59
                         by_cases c60 : x14_5 < ((rd_L6 x6_5 x13_4).length : Int)
                         ·rw [if_pos c60] at H
                          have c60b0 : decide (x14_5 < ((rd_L6 x6_5 x13_4).length : Int)) = true := decide_eq_true c60
                          clear c60
                          replace H := Option.bind_eq_some_iff.mp H
                          obtain ⟨t243, A610, H⟩ := H
                          replace H : (spec_l04Tight.l5 k5 (x6_5.set (x13_4 : Int).toNat ((rd_L6 x6_5 x13_4).set (x14_5 : Int).toNat t243)) x12_3 x13_4 (wrap64 (x14_5 + 1)) s0_0 s0_1) = some (r1, r2, r3) := H
                          have A61 := Aside0.mk A610
                          clear A610
                          obtain ⟨y244, hy244⟩ : ∃ y_ : List Int, y_ = ((rd_L6 x6_5 x13_4).set (x14_5 : Int).toNat t243) := ⟨_, rfl⟩
                          replace H : (spec_l04Tight.l5 k5 (x6_5.set (x13_4 : Int).toNat y244) x12_3 x13_4 (wrap64 (x14_5 + 1)) s0_0 s0_1) = some (r1, r2, r3) := by first | (rw [hy244]; with_reducible exact H) | (have H2_ := (Option.bind_some _ _).symm.trans H; rw [hy244]; with_reducible exact H2_) | (have H2_ := (Option.bind_some _ _).symm.trans H; with_reducible exact H2_) | with_reducible exact H | (rw [hy244]; exact H) | exact H
                          have Ny244 := Aside0.mk hy244
                          clear hy244
                          obtain ⟨y246, hy246⟩ : ∃ y_ : List (List Int), y_ = (x6_5.set (x13_4 : Int).toNat y244) := ⟨_, rfl⟩
                          replace H : (spec_l04Tight.l5 k5 y246 x12_3 x13_4 (wrap64 (x14_5 + 1)) s0_0 s0_1) = some (r1, r2, r3) := by first | (rw [hy246]; with_reducible exact H) | (have H2_ := (Option.bind_some _ _).symm.trans H; rw [hy246]; with_reducible exact H2_) | (have H2_ := (Option.bind_some _ _).symm.trans H; with_reducible exact H2_) | with_reducible exact H | (rw [hy246]; exact H) | exact H
                          have Ny246 := Aside0.mk hy246
                          clear hy246
                          have H' := Aside0.mk H
                          clear H
                          obtain ⟨ASz63_1, cSz63_1, HGz63, hgz63, HSz63_1⟩ := HI0.out
                          have hcz63_0 := cellS31_0 HGz63
                          have hcz63_1 := cellS31_1 HGz63
                          have hfz63_0 := blk_frozen HGz63 0
                          clear HGz63 hgz63
                          obtain ⟨Ao64, co64, eo64⟩ := Kd.S_slice HO_6.out
                          subst eo64
                          have p232 : 0 ≤ (x13_4 : Int) := of_decide_eq_true (by with_reducible assumption)
                          have q232 : x13_4 < (x6_5.length : Int) := of_decide_eq_true (by with_reducible assumption)
                          obtain ⟨ad232, A232_0, c232_0, e232, hx232_0, hl232_0, hi232_0⟩ := at_L6 (Kd.S_reads' HO_6.out).2.2 x13_4 p232 q232
                          cases e232
                          obtain ⟨ce232, hce232, hMe232, hcc232⟩ := Kd.S_get HO_6.out [] x13_4 p232 (by first | exact q232 | exact of_decide_eq_true (by with_reducible assumption) | (have e_ := (Kd.S_reads' HO_6.out).1; omega))
                          obtain ⟨ve232_0, rfl, ge232_0⟩ := hMe232
                          have hv232_0 := hcc232 0 _ rfl
                          rw [Nat.add_zero, show ((Kd.slice 2 (Kd.int .i64))).sz = 1 from rfl, Nat.mul_one] at hv232_0
                          replace hv232_0 := Option.some.inj (hv232_0.symm.trans hx232_0)
                          rw [hv232_0] at ge232_0
                          have HL232_0 := Aside0.mk (show Kd.R (Kd.int .i64) 2 _ _ _ _ (rd_L6 x6_5 x13_4) from ge232_0)
                          clear hv232_0 ge232_0
                          have HX232_0 := Aside0.mk hx232_0
                          clear hcc232 hce232
                          have HR232_0 := Aside0.mk hi232_0
                          have HC232_0 := Aside0.mk hl232_0
                          clear hi232_0 hl232_0
                          replace p232 := eq_true p232
                          replace q232 := eq_true q232
                          have p233 : 0 ≤ (x12_3 : Int) := of_decide_eq_true (by with_reducible assumption)
                          have q233 : x12_3 < ((rd_L6 x6_5 x13_4).length : Int) := of_decide_eq_true (by with_reducible assumption)
                          obtain ⟨ad233, e233, hx233_0⟩ := Kd.at_int (by repeat (first | (with_reducible exact HR232_0.out) | (with_reducible refine Kd.C_alloc ?_ _) | (with_reducible refine Kd.C_drewN ?_ _) | (with_reducible refine Kd.C_drew ?_) | exact HR232_0.out)) x12_3 p233 q233
                          cases e233
                          replace p233 := eq_true p233
                          replace q233 := eq_true q233
                          have p234 : 0 ≤ (x12_3 : Int) := of_decide_eq_true (by with_reducible assumption)
                          have q234 : x12_3 < (x6_5.length : Int) := of_decide_eq_true (by with_reducible assumption)
                          obtain ⟨ad234, A234_0, c234_0, e234, hx234_0, hl234_0, hi234_0⟩ := at_L6 (Kd.S_reads' HO_6.out).2.2 x12_3 p234 q234
                          obtain rfl : ad232 = ad234 := (by injection e234)
                          obtain ⟨ce234, hce234, hMe234, hcc234⟩ := Kd.S_get HO_6.out [] x12_3 p234 (by first | exact q234 | exact of_decide_eq_true (by with_reducible assumption) | (have e_ := (Kd.S_reads' HO_6.out).1; omega))
                          obtain ⟨ve234_0, rfl, ge234_0⟩ := hMe234
                          have hv234_0 := hcc234 0 _ rfl
                          rw [Nat.add_zero, show ((Kd.slice 2 (Kd.int .i64))).sz = 1 from rfl, Nat.mul_one] at hv234_0
                          replace hv234_0 := Option.some.inj (hv234_0.symm.trans hx234_0)
                          rw [hv234_0] at ge234_0
                          have HL234_0 := Aside0.mk (show Kd.R (Kd.int .i64) 2 _ _ _ _ (rd_L6 x6_5 x12_3) from ge234_0)
                          clear hv234_0 ge234_0
                          have HX234_0 := Aside0.mk hx234_0
                          clear hcc234 hce234
                          have HR234_0 := Aside0.mk hi234_0
                          have HC234_0 := Aside0.mk hl234_0
                          clear hi234_0 hl234_0
                          replace p234 := eq_true p234
                          replace q234 := eq_true q234
                          have p235 : 0 ≤ (x14_5 : Int) := of_decide_eq_true (by with_reducible assumption)
                          have q235 : x14_5 < ((rd_L6 x6_5 x12_3).length : Int) := of_decide_eq_true (by with_reducible assumption)
                          obtain ⟨ad235, e235, hx235_0⟩ := Kd.at_int (by repeat (first | (with_reducible exact HR234_0.out) | (with_reducible refine Kd.C_alloc ?_ _) | (with_reducible refine Kd.C_drewN ?_ _) | (with_reducible refine Kd.C_drew ?_) | exact HR234_0.out)) x14_5 p235 q235
                          cases e235
                          replace p235 := eq_true p235
                          replace q235 := eq_true q235
                          try go_wp2
                          have n0_ := Aside0.mk (Kd.S_drew HO_6.out)
                          have n1_ := Aside0.mk (Kd.R_drew HL232_0.out)
                          have n2_ := Aside0.mk (Kd.R_drew HL234_0.out)
                          have n3_ := Aside0.mk (Kd.C_drew HR232_0.out)
                          have n4_ := Aside0.mk (Kd.C_drew HR234_0.out)
                          have n5_ := Aside0.mk (IsS31.drew HI0.out)
                          have n6_ := Aside0.mk (keep_drew HK.out)
                          have n7_ := Aside0.mk (below_drew1 HB.out)
                          clear HO_6
                          clear HL232_0
                          clear HL234_0
                          clear HR232_0
                          clear HR234_0
                          clear HI0
                          clear HK
                          clear HB
                          have HO_6 := n0_
                          have HL232_0 := n1_
                          have HL234_0 := n2_
                          have HR232_0 := n3_
                          have HR234_0 := n4_
                          have HI0 := n5_
                          have HK := n6_
                          have HB := n7_
                          clear n0_ n1_ n2_ n3_ n4_ n5_ n6_ n7_
                          have p236 : 0 ≤ (x13_4 : Int) := of_decide_eq_true (by with_reducible assumption)
                          have q236 : x13_4 < (x6_5.length : Int) := of_decide_eq_true (by with_reducible assumption)
                          obtain ⟨ad236, A236_0, c236_0, e236, hx236_0, hl236_0, hi236_0⟩ := at_L6 (Kd.S_reads' HO_6.out).2.2 x13_4 p236 q236
                          obtain rfl : ad232 = ad236 := (by injection e236)
                          obtain ⟨ce236, hce236, hMe236, hcc236⟩ := Kd.S_get HO_6.out [] x13_4 p236 (by first | exact q236 | exact of_decide_eq_true (by with_reducible assumption) | (have e_ := (Kd.S_reads' HO_6.out).1; omega))
                          obtain ⟨ve236_0, rfl, ge236_0⟩ := hMe236
                          have hv236_0 := hcc236 0 _ rfl
                          rw [Nat.add_zero, show ((Kd.slice 2 (Kd.int .i64))).sz = 1 from rfl, Nat.mul_one] at hv236_0
                          replace hv236_0 := Option.some.inj (hv236_0.symm.trans hx236_0)
                          rw [hv236_0] at ge236_0
                          have HL236_0 := Aside0.mk (show Kd.R (Kd.int .i64) 2 _ _ _ _ (rd_L6 x6_5 x13_4) from ge236_0)
                          clear hv236_0 ge236_0
                          have HX236_0 := Aside0.mk hx236_0
                          clear hcc236 hce236
                          have HR236_0 := Aside0.mk hi236_0
                          have HC236_0 := Aside0.mk hl236_0
                          clear hi236_0 hl236_0
                          replace p236 := eq_true p236
                          replace q236 := eq_true q236
                          have p237 : 0 ≤ (x13_4 : Int) := of_decide_eq_true (by with_reducible assumption)
                          have q237 : x13_4 < (x6_5.length : Int) := of_decide_eq_true (by with_reducible assumption)
                          obtain ⟨ad237, A237_0, c237_0, e237, hx237_0, hl237_0, hi237_0⟩ := at_L6 (Kd.S_reads' HO_6.out).2.2 x13_4 p237 q237
                          obtain rfl : ad232 = ad237 := (by injection e237)
                          obtain ⟨ce237, hce237, hMe237, hcc237⟩ := Kd.S_get HO_6.out [] x13_4 p237 (by first | exact q237 | exact of_decide_eq_true (by with_reducible assumption) | (have e_ := (Kd.S_reads' HO_6.out).1; omega))
                          obtain ⟨ve237_0, rfl, ge237_0⟩ := hMe237
                          have hv237_0 := hcc237 0 _ rfl
                          rw [Nat.add_zero, show ((Kd.slice 2 (Kd.int .i64))).sz = 1 from rfl, Nat.mul_one] at hv237_0
                          replace hv237_0 := Option.some.inj (hv237_0.symm.trans hx237_0)
                          rw [hv237_0] at ge237_0
                          have HL237_0 := Aside0.mk (show Kd.R (Kd.int .i64) 2 _ _ _ _ (rd_L6 x6_5 x13_4) from ge237_0)
                          clear hv237_0 ge237_0
                          have HX237_0 := Aside0.mk hx237_0
                          clear hcc237 hce237
                          have HR237_0 := Aside0.mk hi237_0
                          have HC237_0 := Aside0.mk hl237_0
                          clear hi237_0 hl237_0
                          replace p237 := eq_true p237
                          replace q237 := eq_true q237
                          have ea_ := Option.some.inj (hx236_0.symm.trans hx237_0)
                          injection ea_ with ea_ en_ ec_
                          subst ea_
                          subst ec_
                          clear en_
                          have p238 : 0 ≤ (x14_5 : Int) := of_decide_eq_true (by with_reducible assumption)
                          have q238 : x14_5 < ((rd_L6 x6_5 x13_4).length : Int) := of_decide_eq_true (by with_reducible assumption)
                          obtain ⟨ad238, e238, hx238_0⟩ := Kd.at_int (by repeat (first | (with_reducible exact HR237_0.out) | (with_reducible refine Kd.C_alloc ?_ _) | (with_reducible refine Kd.C_drewN ?_ _) | (with_reducible refine Kd.C_drew ?_) | exact HR237_0.out)) x14_5 p238 q238
                          cases e238
                          replace p238 := eq_true p238
                          replace q238 := eq_true q238
                          have p239 : 0 ≤ (x13_4 : Int) := of_decide_eq_true (by with_reducible assumption)
                          have q239 : x13_4 < (x6_5.length : Int) := of_decide_eq_true (by with_reducible assumption)
                          obtain ⟨ad239, A239_0, c239_0, e239, hx239_0, hl239_0, hi239_0⟩ := at_L6 (Kd.S_reads' HO_6.out).2.2 x13_4 p239 q239
                          obtain rfl : ad232 = ad239 := (by injection e239)
                          obtain ⟨ce239, hce239, hMe239, hcc239⟩ := Kd.S_get HO_6.out [] x13_4 p239 (by first | exact q239 | exact of_decide_eq_true (by with_reducible assumption) | (have e_ := (Kd.S_reads' HO_6.out).1; omega))
                          obtain ⟨ve239_0, rfl, ge239_0⟩ := hMe239
                          have hv239_0 := hcc239 0 _ rfl
                          rw [Nat.add_zero, show ((Kd.slice 2 (Kd.int .i64))).sz = 1 from rfl, Nat.mul_one] at hv239_0
                          replace hv239_0 := Option.some.inj (hv239_0.symm.trans hx239_0)
                          rw [hv239_0] at ge239_0
                          have HL239_0 := Aside0.mk (show Kd.R (Kd.int .i64) 2 _ _ _ _ (rd_L6 x6_5 x13_4) from ge239_0)
                          clear hv239_0 ge239_0
                          have HX239_0 := Aside0.mk hx239_0
                          clear hcc239 hce239
                          have HR239_0 := Aside0.mk hi239_0
                          have HC239_0 := Aside0.mk hl239_0
                          clear hi239_0 hl239_0
                          replace p239 := eq_true p239
                          replace q239 := eq_true q239
                          have ea_ := Option.some.inj (hx236_0.symm.trans hx239_0)
                          injection ea_ with ea_ en_ ec_
                          subst ea_
                          subst ec_
                          clear en_
                          have p240 : 0 ≤ (x12_3 : Int) := of_decide_eq_true (by with_reducible assumption)
                          have q240 : x12_3 < ((rd_L6 x6_5 x13_4).length : Int) := of_decide_eq_true (by with_reducible assumption)
                          obtain ⟨ad240, e240, hx240_0⟩ := Kd.at_int (by repeat (first | (with_reducible exact HR239_0.out) | (with_reducible refine Kd.C_alloc ?_ _) | (with_reducible refine Kd.C_drewN ?_ _) | (with_reducible refine Kd.C_drew ?_) | exact HR239_0.out)) x12_3 p240 q240
                          cases e240
                          replace p240 := eq_true p240
                          replace q240 := eq_true q240
                          have p241 : 0 ≤ (x12_3 : Int) := of_decide_eq_true (by with_reducible assumption)
                          have q241 : x12_3 < (x6_5.length : Int) := of_decide_eq_true (by with_reducible assumption)
                          obtain ⟨ad241, A241_0, c241_0, e241, hx241_0, hl241_0, hi241_0⟩ := at_L6 (Kd.S_reads' HO_6.out).2.2 x12_3 p241 q241
                          obtain rfl : ad232 = ad241 := (by injection e241)
                          obtain ⟨ce241, hce241, hMe241, hcc241⟩ := Kd.S_get HO_6.out [] x12_3 p241 (by first | exact q241 | exact of_decide_eq_true (by with_reducible assumption) | (have e_ := (Kd.S_reads' HO_6.out).1; omega))
                          obtain ⟨ve241_0, rfl, ge241_0⟩ := hMe241
                          have hv241_0 := hcc241 0 _ rfl
                          rw [Nat.add_zero, show ((Kd.slice 2 (Kd.int .i64))).sz = 1 from rfl, Nat.mul_one] at hv241_0
                          replace hv241_0 := Option.some.inj (hv241_0.symm.trans hx241_0)
                          rw [hv241_0] at ge241_0
                          have HL241_0 := Aside0.mk (show Kd.R (Kd.int .i64) 2 _ _ _ _ (rd_L6 x6_5 x12_3) from ge241_0)
                          clear hv241_0 ge241_0
                          have HX241_0 := Aside0.mk hx241_0
                          clear hcc241 hce241
                          have HR241_0 := Aside0.mk hi241_0
                          have HC241_0 := Aside0.mk hl241_0
                          clear hi241_0 hl241_0
                          replace p241 := eq_true p241
                          replace q241 := eq_true q241
                          have p242 : 0 ≤ (x14_5 : Int) := of_decide_eq_true (by with_reducible assumption)
                          have q242 : x14_5 < ((rd_L6 x6_5 x12_3).length : Int) := of_decide_eq_true (by with_reducible assumption)
                          obtain ⟨ad242, e242, hx242_0⟩ := Kd.at_int (by repeat (first | (with_reducible exact HR241_0.out) | (with_reducible refine Kd.C_alloc ?_ _) | (with_reducible refine Kd.C_drewN ?_ _) | (with_reducible refine Kd.C_drew ?_) | exact HR241_0.out)) x14_5 p242 q242
                          cases e242
                          replace p242 := eq_true p242
                          replace q242 := eq_true q242
                          refine start_ (n := 30) (S := fun w' => w'.cell? (ad232.add (x13_4).toNat) = some (.slice (some ad238) (rd_L6 x6_5 x13_4).length c236_0) ∧ w'.cell? (ad232.add (x13_4).toNat) = some (.slice (some ad238) (rd_L6 x6_5 x13_4).length c236_0) ∧ w'.cell? (ad238.add (x14_5).toNat) = some (.int .i64 (rd (rd_L6 x6_5 x13_4) x14_5)) ∧ w'.cell? (ad232.add (x13_4).toNat) = some (.slice (some ad238) (rd_L6 x6_5 x13_4).length c236_0) ∧ w'.cell? (ad238.add (x12_3).toNat) = some (.int .i64 (rd (rd_L6 x6_5 x13_4) x12_3)) ∧ w'.cell? (ad232.add (x12_3).toNat) = some (.slice (some ad242) (rd_L6 x6_5 x12_3).length c241_0) ∧ w'.cell? (ad242.add (x14_5).toNat) = some (.int .i64 (rd (rd_L6 x6_5 x12_3) x14_5))) (ds := [29]) #[false, false, false, false, false, false, false, false, false, false, false, false, false, false, false, false, false, false, false, false, false, false, false, false, false, false, false, false, false, false] (by kernel_rfl) rfl rfl ⟨hx236_0, hx237_0, hx238_0, hx239_0, hx240_0, hx241_0, hx242_0⟩ (fun hHeld => ?_); refine with_tabW spec_l04Tight.tab29 spec_l04Tight.bits29 (fun HT_ HW_ => ?_)
                          generalize wr.drew = w65 at HO_6 HL232_0 HL234_0 HR232_0 HR234_0 HI0 HK HB HL236_0 HL237_0 HL239_0 HL241_0 HR236_0 HR237_0 HR239_0 HR241_0 HX236_0 HX237_0 HX239_0 HX241_0 hx236_0 hx237_0 hx238_0 hx239_0 hx240_0 hx241_0 hx242_0 hHeld ⊢
                          refine pure_ (i := 0) (N := some 129) (v := ?_) (a' := ?_) #[true, false, false, false, false, false, false, false, false, false, false, false, false, false, false, false, false, false, false, false, false, false, false, false, false, false, false, false, false, false] rfl rfl (any_of HT_.out (by kernel_rfl)) (fun _ _ _ h => h) (Or.inl ⟨by rfl, ?_⟩) ?_ ?_
                          rotate_left
                          ·intro w'
                           go_simp
                           with_reducible rfl
                          rotate_left
                          ·simp only [Act.put, List.setIfInBounds_toArray, List.set_cons_zero, List.set_cons_succ, i64_w, i32_w]
                           rfl
                          refine pure_ (i := 1) (N := some 130) (v := ?_) (a' := ?_) #[true, true, false, false, false, false, false, false, false, false, false, false, false, false, false, false, false, false, false, false, false, false, false, false, false, false, false, false, false, false] rfl rfl (any_of HT_.out (by kernel_rfl)) (fun _ _ _ h => h) (Or.inl ⟨by rfl, ?_⟩) ?_ ?_
                          rotate_left
                          ·intro w'
                           go_simp
                           with_reducible rfl
                          rotate_left
                          ·simp only [Act.put, List.setIfInBounds_toArray, List.set_cons_zero, List.set_cons_succ, i64_w, i32_w]
                           rfl
                          refine pure_ (i := 2) (N := some 131) (v := ?_) (a' := ?_) #[true, true, true, false, false, false, false, false, false, false, false, false, false, false, false, false, false, false, false, false, false, false, false, false, false, false, false, false, false, false] rfl rfl (any_of HT_.out (by kernel_rfl)) (fun _ _ _ h => h) (Or.inl ⟨by rfl, ?_⟩) ?_ ?_
                          rotate_left
                          ·intro w'
                           go_simp
                           with_reducible rfl
                          rotate_left
                          ·simp only [Act.put, List.setIfInBounds_toArray, List.set_cons_zero, List.set_cons_succ, i64_w, i32_w]
                           rfl
                          refine pure_ (i := 4) (N := some 133) (v := ?_) (a' := ?_) #[true, true, true, false, true, false, false, false, false, false, false, false, false, false, false, false, false, false, false, false, false, false, false, false, false, false, false, false, false, false] rfl rfl (any_of HT_.out (by kernel_rfl)) (fun _ _ _ h => h) (Or.inl ⟨by rfl, ?_⟩) ?_ ?_
                          rotate_left
                          ·intro w'
                           go_simp
                           with_reducible rfl
                          rotate_left
                          ·simp only [Act.put, List.setIfInBounds_toArray, List.set_cons_zero, List.set_cons_succ, i64_w, i32_w]
                           rfl
                          refine pure_ (i := 5) (N := some 134) (v := ?_) (a' := ?_) #[true, true, true, false, true, true, false, false, false, false, false, false, false, false, false, false, false, false, false, false, false, false, false, false, false, false, false, false, false, false] rfl rfl (any_of HT_.out (by kernel_rfl)) (fun _ _ _ h => h) (Or.inl ⟨by rfl, ?_⟩) ?_ ?_
                          rotate_left
                          ·intro w'
                           go_simp
                           with_reducible rfl
                          rotate_left
                          ·simp only [Act.put, List.setIfInBounds_toArray, List.set_cons_zero, List.set_cons_succ, i64_w, i32_w]
                           rfl
                          refine pure_ (i := 6) (N := some 135) (v := ?_) (a' := ?_) #[true, true, true, false, true, true, true, false, false, false, false, false, false, false, false, false, false, false, false, false, false, false, false, false, false, false, false, false, false, false] rfl rfl (any_of HT_.out (by kernel_rfl)) (fun _ _ _ h => h) (Or.inl ⟨by rfl, ?_⟩) ?_ ?_
                          rotate_left
                          ·intro w'
                           go_simp
                           with_reducible rfl
                          rotate_left
                          ·simp only [Act.put, List.setIfInBounds_toArray, List.set_cons_zero, List.set_cons_succ, i64_w, i32_w]
                           rfl
                          refine pure_ (i := 7) (N := some 136) (v := ?_) (a' := ?_) #[true, true, true, false, true, true, true, true, false, false, false, false, false, false, false, false, false, false, false, false, false, false, false, false, false, false, false, false, false, false] rfl rfl (any_of HT_.out (by kernel_rfl)) (fun _ _ _ h => h) (Or.inl ⟨by rfl, ?_⟩) ?_ ?_
                          rotate_left
                          ·intro w'
                           go_simp
                           with_reducible rfl
                          rotate_left
                          ·simp only [Act.put, List.setIfInBounds_toArray, List.set_cons_zero, List.set_cons_succ, i64_w, i32_w]
                           rfl
                          refine pure_ (i := 9) (N := some 138) (v := ?_) (a' := ?_) #[true, true, true, false, true, true, true, true, false, true, false, false, false, false, false, false, false, false, false, false, false, false, false, false, false, false, false, false, false, false] rfl rfl (any_of HT_.out (by kernel_rfl)) (fun _ _ _ h => h) (Or.inl ⟨by rfl, ?_⟩) ?_ ?_
                          rotate_left
                          ·intro w'
                           go_simp
                           with_reducible rfl
                          rotate_left
                          ·simp only [Act.put, List.setIfInBounds_toArray, List.set_cons_zero, List.set_cons_succ, i64_w, i32_w]
                           rfl
                          refine pure_ (i := 12) (N := some 141) (v := ?_) (a' := ?_) #[true, true, true, false, true, true, true, true, false, true, false, false, true, false, false, false, false, false, false, false, false, false, false, false, false, false, false, false, false, false] rfl rfl (any_of HT_.out (by kernel_rfl)) (fun _ _ _ h => h) (Or.inl ⟨by rfl, ?_⟩) ?_ ?_
                          rotate_left
                          ·intro w'
                           go_simp
                           with_reducible rfl
                          rotate_left
                          ·simp only [Act.put, List.setIfInBounds_toArray, List.set_cons_zero, List.set_cons_succ, i64_w, i32_w]
                           rfl
                          refine pure_ (i := 13) (N := some 142) (v := ?_) (a' := ?_) #[true, true, true, false, true, true, true, true, false, true, false, false, true, true, false, false, false, false, false, false, false, false, false, false, false, false, false, false, false, false] rfl rfl (any_of HT_.out (by kernel_rfl)) (fun _ _ _ h => h) (Or.inl ⟨by rfl, ?_⟩) ?_ ?_
                          rotate_left
                          ·intro w'
                           go_simp
                           with_reducible rfl
                          rotate_left
                          ·simp only [Act.put, List.setIfInBounds_toArray, List.set_cons_zero, List.set_cons_succ, i64_w, i32_w]
                           rfl
                          refine pure_ (i := 14) (N := some 143) (v := ?_) (a' := ?_) #[true, true, true, false, true, true, true, true, false, true, false, false, true, true, true, false, false, false, false, false, false, false, false, false, false, false, false, false, false, false] rfl rfl (any_of HT_.out (by kernel_rfl)) (fun _ _ _ h => h) (Or.inl ⟨by rfl, ?_⟩) ?_ ?_
                          rotate_left
                          ·intro w'
                           go_simp
                           with_reducible rfl
                          rotate_left
                          ·simp only [Act.put, List.setIfInBounds_toArray, List.set_cons_zero, List.set_cons_succ, i64_w, i32_w]
                           rfl
                          refine pure_ (i := 16) (N := some 145) (v := ?_) (a' := ?_) #[true, true, true, false, true, true, true, true, false, true, false, false, true, true, true, false, true, false, false, false, false, false, false, false, false, false, false, false, false, false] rfl rfl (any_of HT_.out (by kernel_rfl)) (fun _ _ _ h => h) (Or.inl ⟨by rfl, ?_⟩) ?_ ?_
                          rotate_left
                          ·intro w'
                           go_simp
                           with_reducible rfl
                          rotate_left
                          ·simp only [Act.put, List.setIfInBounds_toArray, List.set_cons_zero, List.set_cons_succ, i64_w, i32_w]
                           rfl
                          refine pure_ (i := 19) (N := some 148) (v := ?_) (a' := ?_) #[true, true, true, false, true, true, true, true, false, true, false, false, true, true, true, false, true, false, false, true, false, false, false, false, false, false, false, false, false, false] rfl rfl (any_of HT_.out (by kernel_rfl)) (fun _ _ _ h => h) (Or.inl ⟨by rfl, ?_⟩) ?_ ?_
                          rotate_left
                          ·intro w'
                           go_simp
                           with_reducible rfl
                          rotate_left
                          ·simp only [Act.put, List.setIfInBounds_toArray, List.set_cons_zero, List.set_cons_succ, i64_w, i32_w]
                           rfl
                          refine pure_ (i := 20) (N := some 149) (v := ?_) (a' := ?_) #[true, true, true, false, true, true, true, true, false, true, false, false, true, true, true, false, true, false, false, true, true, false, false, false, false, false, false, false, false, false] rfl rfl (any_of HT_.out (by kernel_rfl)) (fun _ _ _ h => h) (Or.inl ⟨by rfl, ?_⟩) ?_ ?_
                          rotate_left
                          ·intro w'
                           go_simp
                           with_reducible rfl
                          rotate_left
                          ·simp only [Act.put, List.setIfInBounds_toArray, List.set_cons_zero, List.set_cons_succ, i64_w, i32_w]
                           rfl
                          refine pure_ (i := 21) (N := some 150) (v := ?_) (a' := ?_) #[true, true, true, false, true, true, true, true, false, true, false, false, true, true, true, false, true, false, false, true, true, true, false, false, false, false, false, false, false, false] rfl rfl (any_of HT_.out (by kernel_rfl)) (fun _ _ _ h => h) (Or.inl ⟨by rfl, ?_⟩) ?_ ?_
                          rotate_left
                          ·intro w'
                           go_simp
                           with_reducible rfl
                          rotate_left
                          ·simp only [Act.put, List.setIfInBounds_toArray, List.set_cons_zero, List.set_cons_succ, i64_w, i32_w]
                           rfl
                          refine pure_ (i := 23) (N := some 152) (v := ?_) (a' := ?_) #[true, true, true, false, true, true, true, true, false, true, false, false, true, true, true, false, true, false, false, true, true, true, false, true, false, false, false, false, false, false] rfl rfl (any_of HT_.out (by kernel_rfl)) (fun _ _ _ h => h) (Or.inl ⟨by rfl, ?_⟩) ?_ ?_
                          rotate_left
                          ·intro w'
                           go_simp
                           with_reducible rfl
                          rotate_left
                          ·simp only [Act.put, List.setIfInBounds_toArray, List.set_cons_zero, List.set_cons_succ, i64_w, i32_w]
                           rfl
                          refine take_ (i := 3) (N := some 132) (v := ?_) (a' := ?_) #[true, true, true, true, true, true, true, true, false, true, false, false, true, true, true, false, true, false, false, true, true, true, false, true, false, false, false, false, false, false] rfl rfl (take_ofW HT_.out HW_.out (by kernel_rfl)) (fun _ _ _ h => h) (Or.inl ⟨by rfl, ?_⟩) hHeld ?_ ?_
                          rotate_left
                          ·rintro w' ⟨s0, s1, s2, s3, s4, s5, s6⟩
                           go_simp
                           with_reducible rfl
                          rotate_left
                          ·simp only [Act.put, List.setIfInBounds_toArray, List.set_cons_zero, List.set_cons_succ, i64_w, i32_w]
                           rfl
                          refine take_ (i := 8) (N := some 137) (v := ?_) (a' := ?_) #[true, true, true, true, true, true, true, true, true, true, false, false, true, true, true, false, true, false, false, true, true, true, false, true, false, false, false, false, false, false] rfl rfl (take_ofW HT_.out HW_.out (by kernel_rfl)) (fun _ _ _ h => h) (Or.inl ⟨by rfl, ?_⟩) hHeld ?_ ?_
                          rotate_left
                          ·rintro w' ⟨s0, s1, s2, s3, s4, s5, s6⟩
                           go_simp
                           with_reducible rfl
                          rotate_left
                          ·simp only [Act.put, List.setIfInBounds_toArray, List.set_cons_zero, List.set_cons_succ, i64_w, i32_w]
                           rfl
                          refine pure_ (i := 10) (N := some 139) (v := ?_) (a' := ?_) #[true, true, true, true, true, true, true, true, true, true, true, false, true, true, true, false, true, false, false, true, true, true, false, true, false, false, false, false, false, false] rfl rfl (any_of HT_.out (by kernel_rfl)) (fun _ _ _ h => h) (Or.inl ⟨by rfl, ?_⟩) ?_ ?_
                          rotate_left
                          ·intro w'
                           go_simp
                           with_reducible rfl
                          rotate_left
                          ·simp only [Act.put, List.setIfInBounds_toArray, List.set_cons_zero, List.set_cons_succ, i64_w, i32_w]
                           rfl
                          refine take_ (i := 11) (N := some 140) (v := ?_) (a' := ?_) #[true, true, true, true, true, true, true, true, true, true, true, true, true, true, true, false, true, false, false, true, true, true, false, true, false, false, false, false, false, false] rfl rfl (take_ofW HT_.out HW_.out (by kernel_rfl)) (fun _ _ _ h => h) (Or.inl ⟨by rfl, ?_⟩) hHeld ?_ ?_
                          rotate_left
                          ·rintro w' ⟨s0, s1, s2, s3, s4, s5, s6⟩
                           go_simp
                           with_reducible rfl
                          rotate_left
                          ·simp only [Act.put, List.setIfInBounds_toArray, List.set_cons_zero, List.set_cons_succ, i64_w, i32_w]
                           rfl
                          refine take_ (i := 15) (N := some 144) (v := ?_) (a' := ?_) #[true, true, true, true, true, true, true, true, true, true, true, true, true, true, true, true, true, false, false, true, true, true, false, true, false, false, false, false, false, false] rfl rfl (take_ofW HT_.out HW_.out (by kernel_rfl)) (fun _ _ _ h => h) (Or.inl ⟨by rfl, ?_⟩) hHeld ?_ ?_
                          rotate_left
                          ·rintro w' ⟨s0, s1, s2, s3, s4, s5, s6⟩
                           go_simp
                           with_reducible rfl
                          rotate_left
                          ·simp only [Act.put, List.setIfInBounds_toArray, List.set_cons_zero, List.set_cons_succ, i64_w, i32_w]
                           rfl
                          refine pure_ (i := 17) (N := some 146) (v := ?_) (a' := ?_) #[true, true, true, true, true, true, true, true, true, true, true, true, true, true, true, true, true, true, false, true, true, true, false, true, false, false, false, false, false, false] rfl rfl (any_of HT_.out (by kernel_rfl)) (fun _ _ _ h => h) (Or.inl ⟨by rfl, ?_⟩) ?_ ?_
                          rotate_left
                          ·intro w'
                           go_simp
                           with_reducible rfl
                          rotate_left
                          ·simp only [Act.put, List.setIfInBounds_toArray, List.set_cons_zero, List.set_cons_succ, i64_w, i32_w]
                           rfl
                          refine take_ (i := 18) (N := some 147) (v := ?_) (a' := ?_) #[true, true, true, true, true, true, true, true, true, true, true, true, true, true, true, true, true, true, true, true, true, true, false, true, false, false, false, false, false, false] rfl rfl (take_ofW HT_.out HW_.out (by kernel_rfl)) (fun _ _ _ h => h) (Or.inl ⟨by rfl, ?_⟩) hHeld ?_ ?_
                          rotate_left
                          ·rintro w' ⟨s0, s1, s2, s3, s4, s5, s6⟩
                           go_simp
                           with_reducible rfl
                          rotate_left
                          ·simp only [Act.put, List.setIfInBounds_toArray, List.set_cons_zero, List.set_cons_succ, i64_w, i32_w]
                           rfl
                          refine take_ (i := 22) (N := some 151) (v := ?_) (a' := ?_) #[true, true, true, true, true, true, true, true, true, true, true, true, true, true, true, true, true, true, true, true, true, true, true, true, false, false, false, false, false, false] rfl rfl (take_ofW HT_.out HW_.out (by kernel_rfl)) (fun _ _ _ h => h) (Or.inl ⟨by rfl, ?_⟩) hHeld ?_ ?_
                          rotate_left
                          ·rintro w' ⟨s0, s1, s2, s3, s4, s5, s6⟩
                           go_simp
                           with_reducible rfl
                          rotate_left
                          ·simp only [Act.put, List.setIfInBounds_toArray, List.set_cons_zero, List.set_cons_succ, i64_w, i32_w]
                           rfl
                          refine pure_ (i := 24) (N := some 153) (v := ?_) (a' := ?_) #[true, true, true, true, true, true, true, true, true, true, true, true, true, true, true, true, true, true, true, true, true, true, true, true, true, false, false, false, false, false] rfl rfl (any_of HT_.out (by kernel_rfl)) (fun _ _ _ h => h) (Or.inl ⟨by rfl, ?_⟩) ?_ ?_
                          rotate_left
                          ·intro w'
                           go_simp
                           with_reducible rfl
                          rotate_left
                          ·simp only [Act.put, List.setIfInBounds_toArray, List.set_cons_zero, List.set_cons_succ, i64_w, i32_w]
                           rfl
                          refine take_ (i := 25) (N := some 154) (v := ?_) (a' := ?_) #[true, true, true, true, true, true, true, true, true, true, true, true, true, true, true, true, true, true, true, true, true, true, true, true, true, true, false, false, false, false] rfl rfl (take_ofW HT_.out HW_.out (by kernel_rfl)) (fun _ _ _ h => h) (Or.inl ⟨by rfl, ?_⟩) hHeld ?_ ?_
                          rotate_left
                          ·rintro w' ⟨s0, s1, s2, s3, s4, s5, s6⟩
                           go_simp
                           with_reducible rfl
                          rotate_left
                          ·simp only [Act.put, List.setIfInBounds_toArray, List.set_cons_zero, List.set_cons_succ, i64_w, i32_w]
                           rfl
                          refine pure_ (i := 26) (N := some 155) (v := ?_) (a' := ?_) #[true, true, true, true, true, true, true, true, true, true, true, true, true, true, true, true, true, true, true, true, true, true, true, true, true, true, true, false, false, false] rfl rfl (any_of HT_.out (by kernel_rfl)) (fun _ _ _ h => h) (Or.inl ⟨by rfl, ?_⟩) ?_ ?_
                          rotate_left
                          ·intro w'
                           go_simp
                           with_reducible rfl
                          rotate_left
                          ·simp only [Act.put, List.setIfInBounds_toArray, List.set_cons_zero, List.set_cons_succ, i64_w, i32_w]
                           rfl
                          refine one_ (i := 27) (N := some 156) #[true, true, true, true, true, true, true, true, true, true, true, true, true, true, true, true, true, true, true, true, true, true, true, true, true, true, true, true, false, false] rfl rfl (one_of HT_.out (by kernel_rfl)) (by decide) (fun K hK => ?_)
                          refine goes_ Try.func40 (by kernel_rfl) rfl #[.int .i64 (rd (rd_L6 x6_5 x13_4) x14_5), .int .i64 (wrap64 ((rd (rd_L6 x6_5 x13_4) x12_3) + (rd (rd_L6 x6_5 x12_3) x14_5)))] (by rfl) rfl rfl (by (try simp only [List.map_toArray, List.map_cons, List.map_nil]); first | done | rfl | (simp only [List.length_drop, List.length_take]; rfl)) ?_
                          with_reducible refine (spec_l00Min.calls (rd (rd_L6 x6_5 x13_4) x14_5) (wrap64 ((rd (rd_L6 x6_5 x13_4) x12_3) + (rd (rd_L6 x6_5 x12_3) x14_5))) t243 _ A61.out).mono ?_
                          rintro e w' ⟨rfl, ⟨nd, rfl⟩⟩
                          refine ⟨_, rfl, ?_⟩
                          have p62 : 0 ≤ (x14_5 : Int) := of_decide_eq_true (by with_reducible assumption)
                          have q62 : (x14_5 : Int) < (((rd_L6 x6_5 x13_4).length : Int) : Int) := of_decide_eq_true (by with_reducible assumption)
                          obtain ⟨go62, co62, eo62, gb62, gl62, cl62, HG62⟩ := Kd.R_form HL236_0.out (by omega)
                          (first | cases eo62 | (injection eo62 with ea_ en_ ec_; (first | subst ea_ | (injection ea_ with ea_; subst ea_)); subst ec_; clear en_))
                          have GB62 := Aside0.mk gb62
                          have GG62 := Aside0.mk HG62
                          clear gb62 gl62 HG62
                          (first | simp only [add_plain] at hx240_0 | skip)
                          obtain ⟨hx62_0, hf62_0⟩ := Kd.R_celln 0 HL236_0.out (x14_5 : Int) p62 q62
                          replace p62 := eq_true p62
                          replace q62 := eq_true q62
                          have hq66 : (x13_4 : Int) < (x6_5.length : Int) := (by have h_ : (x13_4 : Int) < ((x6_5.length : Int) : Int) := of_decide_eq_true (by with_reducible assumption); first | exact h_ | (have e_ := (Kd.S_reads' HO_6.out).1; omega) | simpa only [List.length_set, List.length_set] using h_)
                          obtain ⟨oki66, ce66, hcl66, hM66, hcc66, hok66, hbk66⟩ := Kd.S_borrow HO_6.out [] (x13_4 : Int) (of_decide_eq_true (by with_reducible assumption)) hq66
                          obtain ⟨ve66_0, rfl, ge66_0⟩ := hM66
                          have hv66 := hcc66 0 _ rfl
                          rw [Nat.add_zero, show ((Kd.slice 2 (Kd.int .i64))).sz = 1 from rfl, Nat.mul_one] at hv66
                          replace hv66 := Option.some.inj (hv66.symm.trans HX236_0.out)
                          subst hv66
                          clear hcc66 hcl66
                          replace ge66_0 := (show Kd.R (Kd.int .i64) 2 _ _ _ _ (rd_L6 x6_5 x13_4) from ge66_0)
                          have HP66 := Kd.R_putg ge66_0 (x14_5 : Int) t243
                          have HN0_go62 := Aside0.mk (show g ≠ go62 from by have h_ := IsS31.own_ne HI0.out HL236_0.out (by decide); intro e_; exact h_ (by rw [e_]; rfl))
                          rw [← Ny244.out] at HP66
                          have HS66 := hbk66 HP66.2 (fun k_ e_ => by injection e_ with e_; subst e_; exact ge66_0.1 _ rfl) (x' := y244) (Kd.M_row HP66.1)
                          rw [← Ny246.out] at HS66
                          have HQ66 := Aside0.mk HS66
                          clear HP66 HS66 hbk66 hok66
                          refine hK.out _ _ ⟨hHeld.1, hHeld.2.1, hHeld.2.2.1, hHeld.2.2.2.1, hHeld.2.2.2.2.1, hHeld.2.2.2.2.2.1, hHeld.2.2.2.2.2.2⟩ (fun hHeld => ?_)
                          clear hK K
                          refine norm_ (a' := ?_) ?_ ?_
                          rotate_left
                          ·show Act.put _ (some 156) _ = _
                           simp only [Act.put, List.setIfInBounds_toArray, List.set_cons_zero, List.set_cons_succ, i64_w, i32_w]
                           rfl
                          refine pure_ (i := 28) (N := some 157) (v := ?_) (a' := ?_) #[true, true, true, true, true, true, true, true, true, true, true, true, true, true, true, true, true, true, true, true, true, true, true, true, true, true, true, true, true, false] rfl rfl (any_of HT_.out (by kernel_rfl)) (fun _ _ _ h => h) (Or.inl ⟨by rfl, ?_⟩) ?_ ?_
                          rotate_left
                          ·intro w'
                           go_simp
                           with_reducible rfl
                          rotate_left
                          ·simp only [Act.put, List.setIfInBounds_toArray, List.set_cons_zero, List.set_cons_succ, i64_w, i32_w]
                           rfl
                          refine last_ (i := 29) (N := none) #[true, true, true, true, true, true, true, true, true, true, true, true, true, true, true, true, true, true, true, true, true, true, true, true, true, true, true, true, true, true] rfl rfl (one_of HT_.out (by kernel_rfl)) (by decide) (fun K hK => ?_)
                          refine skip_ (w1 := ?_) (by rfl) rfl ?_ ?_
                          rotate_left
                          ·go_simp
                           rfl
                          refine hK.out _ _ ?_
                          clear hK K
                          refine done_ (done_of HT_.out (by kernel_rfl)) ?_
                          try go_wp2
                          go_roundg k5
                          case measure => have := HK1.out; have := HK2.out; have := HK3.out; have := HK4.out; have := HK5.out; omega
                          case rel => exact ⟨(y246), (wrap64 (x14_5 + 1)), (by first | rfl | (simp; done) | (simp [*]; done)), H', ⟨by have := HK1.out; have := HK2.out; have := HK3.out; have := HK4.out; have := HK5.out; omega⟩, ⟨by (with_reducible repeat (first | apply Kd.S_alloc | apply Kd.S_drewN | apply Kd.S_drew)); exact HQ66.out⟩, ⟨by repeat (first | (with_reducible first | exact HI0.out | apply IsS31.alloc | apply IsS31.drewN | apply IsS31.drew | apply IsS31.set_0 | refine IsS31.far ?_ HN0_go62.out _) | exact HI0.out)⟩, ⟨by repeat (first | (with_reducible first | exact HK.out | apply KeepBut.set_ | apply keep_drewN | apply keep_drew | apply keep_alloc | refine keep_far ?_ GB62.out _) | exact HK.out)⟩, ⟨by repeat (first | (with_reducible first | exact HB.out | apply below_alloc | apply pw_below_drewN | apply below_drew1 | refine below_set ?_ (Nat.le_trans HL.out GB62.out) | refine below_set ?_ (IsS31.ge HI0.out)) | exact HB.out)⟩⟩
                         ·rw [if_neg c60] at H
                          exact absurd H (by simp)
                        ·rw [if_neg c59] at H
                         have c59b0 : decide ((rd (rd_L6 x6_5 x12_3) x14_5) < 1000000) = false := decide_eq_false c59
                         clear c59
                         have H' := Aside0.mk H
                         clear H
                         obtain ⟨ASz68_1, cSz68_1, HGz68, hgz68, HSz68_1⟩ := HI0.out
                         have hcz68_0 := cellS31_0 HGz68
                         have hcz68_1 := cellS31_1 HGz68
                         have hfz68_0 := blk_frozen HGz68 0
                         clear HGz68 hgz68
                         obtain ⟨Ao69, co69, eo69⟩ := Kd.S_slice HO_6.out
                         subst eo69
                         have p232 : 0 ≤ (x13_4 : Int) := of_decide_eq_true (by with_reducible assumption)
                         have q232 : x13_4 < (x6_5.length : Int) := of_decide_eq_true (by with_reducible assumption)
                         obtain ⟨ad232, A232_0, c232_0, e232, hx232_0, hl232_0, hi232_0⟩ := at_L6 (Kd.S_reads' HO_6.out).2.2 x13_4 p232 q232
                         cases e232
                         obtain ⟨ce232, hce232, hMe232, hcc232⟩ := Kd.S_get HO_6.out [] x13_4 p232 (by first | exact q232 | exact of_decide_eq_true (by with_reducible assumption) | (have e_ := (Kd.S_reads' HO_6.out).1; omega))
                         obtain ⟨ve232_0, rfl, ge232_0⟩ := hMe232
                         have hv232_0 := hcc232 0 _ rfl
                         rw [Nat.add_zero, show ((Kd.slice 2 (Kd.int .i64))).sz = 1 from rfl, Nat.mul_one] at hv232_0
                         replace hv232_0 := Option.some.inj (hv232_0.symm.trans hx232_0)
                         rw [hv232_0] at ge232_0
                         have HL232_0 := Aside0.mk (show Kd.R (Kd.int .i64) 2 _ _ _ _ (rd_L6 x6_5 x13_4) from ge232_0)
                         clear hv232_0 ge232_0
                         have HX232_0 := Aside0.mk hx232_0
                         clear hcc232 hce232
                         have HR232_0 := Aside0.mk hi232_0
                         have HC232_0 := Aside0.mk hl232_0
                         clear hi232_0 hl232_0
                         replace p232 := eq_true p232
                         replace q232 := eq_true q232
                         have p233 : 0 ≤ (x12_3 : Int) := of_decide_eq_true (by with_reducible assumption)
                         have q233 : x12_3 < ((rd_L6 x6_5 x13_4).length : Int) := of_decide_eq_true (by with_reducible assumption)
                         obtain ⟨ad233, e233, hx233_0⟩ := Kd.at_int (by repeat (first | (with_reducible exact HR232_0.out) | (with_reducible refine Kd.C_alloc ?_ _) | (with_reducible refine Kd.C_drewN ?_ _) | (with_reducible refine Kd.C_drew ?_) | exact HR232_0.out)) x12_3 p233 q233
                         cases e233
                         replace p233 := eq_true p233
                         replace q233 := eq_true q233
                         have p234 : 0 ≤ (x12_3 : Int) := of_decide_eq_true (by with_reducible assumption)
                         have q234 : x12_3 < (x6_5.length : Int) := of_decide_eq_true (by with_reducible assumption)
                         obtain ⟨ad234, A234_0, c234_0, e234, hx234_0, hl234_0, hi234_0⟩ := at_L6 (Kd.S_reads' HO_6.out).2.2 x12_3 p234 q234
                         obtain rfl : ad232 = ad234 := (by injection e234)
                         obtain ⟨ce234, hce234, hMe234, hcc234⟩ := Kd.S_get HO_6.out [] x12_3 p234 (by first | exact q234 | exact of_decide_eq_true (by with_reducible assumption) | (have e_ := (Kd.S_reads' HO_6.out).1; omega))
                         obtain ⟨ve234_0, rfl, ge234_0⟩ := hMe234
                         have hv234_0 := hcc234 0 _ rfl
                         rw [Nat.add_zero, show ((Kd.slice 2 (Kd.int .i64))).sz = 1 from rfl, Nat.mul_one] at hv234_0
                         replace hv234_0 := Option.some.inj (hv234_0.symm.trans hx234_0)
                         rw [hv234_0] at ge234_0
                         have HL234_0 := Aside0.mk (show Kd.R (Kd.int .i64) 2 _ _ _ _ (rd_L6 x6_5 x12_3) from ge234_0)
                         clear hv234_0 ge234_0
                         have HX234_0 := Aside0.mk hx234_0
                         clear hcc234 hce234
                         have HR234_0 := Aside0.mk hi234_0
                         have HC234_0 := Aside0.mk hl234_0
                         clear hi234_0 hl234_0
                         replace p234 := eq_true p234
                         replace q234 := eq_true q234
                         have p235 : 0 ≤ (x14_5 : Int) := of_decide_eq_true (by with_reducible assumption)
                         have q235 : x14_5 < ((rd_L6 x6_5 x12_3).length : Int) := of_decide_eq_true (by with_reducible assumption)
                         obtain ⟨ad235, e235, hx235_0⟩ := Kd.at_int (by repeat (first | (with_reducible exact HR234_0.out) | (with_reducible refine Kd.C_alloc ?_ _) | (with_reducible refine Kd.C_drewN ?_ _) | (with_reducible refine Kd.C_drew ?_) | exact HR234_0.out)) x14_5 p235 q235
                         cases e235
                         replace p235 := eq_true p235
                         replace q235 := eq_true q235
                         go_wp2
                         go_roundg k5
                         case measure => have := HK1.out; have := HK2.out; have := HK3.out; have := HK4.out; have := HK5.out; omega
                         case rel => exact ⟨(x6_5), (wrap64 (x14_5 + 1)), (by first | rfl | (simp; done) | (simp [*]; done)), H', ⟨by have := HK1.out; have := HK2.out; have := HK3.out; have := HK4.out; have := HK5.out; omega⟩, ⟨by (with_reducible repeat (first | apply Kd.S_alloc | apply Kd.S_drewN | apply Kd.S_drew)); exact HO_6.out⟩, ⟨by repeat (first | (with_reducible first | exact HI0.out | apply IsS31.alloc | apply IsS31.drewN | apply IsS31.drew | apply IsS31.set_0) | exact HI0.out)⟩, ⟨by repeat (first | (with_reducible first | exact HK.out | apply KeepBut.set_ | apply keep_drewN | apply keep_drew | apply keep_alloc) | exact HK.out)⟩, ⟨by repeat (first | (with_reducible first | exact HB.out | apply below_alloc | apply pw_below_drewN | apply below_drew1 | refine below_set ?_ (IsS31.ge HI0.out)) | exact HB.out)⟩⟩
                       ·rw [if_neg c58] at H
                        exact absurd H (by simp)
                      ·rw [if_neg c57] at H
                       exact absurd H (by simp)
                     ·rw [if_neg c56] at H
                      exact absurd H (by simp)
                    ·rw [if_neg c55] at H
                     have c55b0 : decide ((rd (rd_L6 x6_5 x13_4) x12_3) < 1000000) = false := decide_eq_false c55
                     clear c55
                     have H' := Aside0.mk H
                     clear H
                     obtain ⟨ASz70_1, cSz70_1, HGz70, hgz70, HSz70_1⟩ := HI0.out
                     have hcz70_0 := cellS31_0 HGz70
                     have hcz70_1 := cellS31_1 HGz70
                     have hfz70_0 := blk_frozen HGz70 0
                     clear HGz70 hgz70
                     obtain ⟨Ao71, co71, eo71⟩ := Kd.S_slice HO_6.out
                     subst eo71
                     have p232 : 0 ≤ (x13_4 : Int) := of_decide_eq_true (by with_reducible assumption)
                     have q232 : x13_4 < (x6_5.length : Int) := of_decide_eq_true (by with_reducible assumption)
                     obtain ⟨ad232, A232_0, c232_0, e232, hx232_0, hl232_0, hi232_0⟩ := at_L6 (Kd.S_reads' HO_6.out).2.2 x13_4 p232 q232
                     cases e232
                     obtain ⟨ce232, hce232, hMe232, hcc232⟩ := Kd.S_get HO_6.out [] x13_4 p232 (by first | exact q232 | exact of_decide_eq_true (by with_reducible assumption) | (have e_ := (Kd.S_reads' HO_6.out).1; omega))
                     obtain ⟨ve232_0, rfl, ge232_0⟩ := hMe232
                     have hv232_0 := hcc232 0 _ rfl
                     rw [Nat.add_zero, show ((Kd.slice 2 (Kd.int .i64))).sz = 1 from rfl, Nat.mul_one] at hv232_0
                     replace hv232_0 := Option.some.inj (hv232_0.symm.trans hx232_0)
                     rw [hv232_0] at ge232_0
                     have HL232_0 := Aside0.mk (show Kd.R (Kd.int .i64) 2 _ _ _ _ (rd_L6 x6_5 x13_4) from ge232_0)
                     clear hv232_0 ge232_0
                     have HX232_0 := Aside0.mk hx232_0
                     clear hcc232 hce232
                     have HR232_0 := Aside0.mk hi232_0
                     have HC232_0 := Aside0.mk hl232_0
                     clear hi232_0 hl232_0
                     replace p232 := eq_true p232
                     replace q232 := eq_true q232
                     have p233 : 0 ≤ (x12_3 : Int) := of_decide_eq_true (by with_reducible assumption)
                     have q233 : x12_3 < ((rd_L6 x6_5 x13_4).length : Int) := of_decide_eq_true (by with_reducible assumption)
                     obtain ⟨ad233, e233, hx233_0⟩ := Kd.at_int (by repeat (first | (with_reducible exact HR232_0.out) | (with_reducible refine Kd.C_alloc ?_ _) | (with_reducible refine Kd.C_drewN ?_ _) | (with_reducible refine Kd.C_drew ?_) | exact HR232_0.out)) x12_3 p233 q233
                     cases e233
                     replace p233 := eq_true p233
                     replace q233 := eq_true q233
                     go_wp2
                     go_roundg k5
                     case measure => have := HK1.out; have := HK2.out; have := HK3.out; have := HK4.out; have := HK5.out; omega
                     case rel => exact ⟨(x6_5), (wrap64 (x14_5 + 1)), (by first | rfl | (simp; done) | (simp [*]; done)), H', ⟨by have := HK1.out; have := HK2.out; have := HK3.out; have := HK4.out; have := HK5.out; omega⟩, ⟨by (with_reducible repeat (first | apply Kd.S_alloc | apply Kd.S_drewN | apply Kd.S_drew)); exact HO_6.out⟩, ⟨by repeat (first | (with_reducible first | exact HI0.out | apply IsS31.alloc | apply IsS31.drewN | apply IsS31.drew | apply IsS31.set_0) | exact HI0.out)⟩, ⟨by repeat (first | (with_reducible first | exact HK.out | apply KeepBut.set_ | apply keep_drewN | apply keep_drew | apply keep_alloc) | exact HK.out)⟩, ⟨by repeat (first | (with_reducible first | exact HB.out | apply below_alloc | apply pw_below_drewN | apply below_drew1 | refine below_set ?_ (IsS31.ge HI0.out)) | exact HB.out)⟩⟩
                   ·rw [if_neg c54] at H
                    exact absurd H (by simp)
                  ·rw [if_neg c53] at H
                   exact absurd H (by simp)
                 ·rw [if_neg c52] at H
                  exact absurd H (by simp)
                ·rw [if_neg c51] at H
                 exact absurd H (by simp)
               ·rw [if_neg c50] at H
                have c50b0 : decide (x14_5 < s0_0) = false := decide_eq_false c50
                clear c50
                have H' := Aside0.mk H
                clear H
                obtain ⟨ASz72_1, cSz72_1, HGz72, hgz72, HSz72_1⟩ := HI0.out
                have hcz72_0 := cellS31_0 HGz72
                have hcz72_1 := cellS31_1 HGz72
                have hfz72_0 := blk_frozen HGz72 0
                clear HGz72 hgz72
                go_wp2
                go_roundg k5
                case measure => have := HK1.out; have := HK2.out; have := HK3.out; have := HK4.out; have := HK5.out; omega
                case rel => exact ⟨(x6_5), (wrap64 (x13_4 + 1)), (by first | rfl | (simp; done) | (simp [*]; done)), H', ⟨by have := HK1.out; have := HK2.out; have := HK3.out; have := HK4.out; have := HK5.out; omega⟩, ⟨by (with_reducible repeat (first | apply Kd.S_alloc | apply Kd.S_drewN | apply Kd.S_drew)); exact HO_6.out⟩, ⟨by repeat (first | (with_reducible first | exact HI0.out | apply IsS31.alloc | apply IsS31.drewN | apply IsS31.drew | apply IsS31.set_0) | exact HI0.out)⟩, ⟨by repeat (first | (with_reducible first | exact HK.out | apply KeepBut.set_ | apply keep_drewN | apply keep_drew | apply keep_alloc) | exact HK.out)⟩, ⟨by repeat (first | (with_reducible first | exact HB.out | apply below_alloc | apply pw_below_drewN | apply below_drew1 | refine below_set ?_ (IsS31.ge HI0.out)) | exact HB.out)⟩⟩
            ·rw [if_neg c48] at H
             have c48b0 : decide (x13_4 < s0_0) = false := decide_eq_false c48
             clear c48
             have H' := Aside0.mk H
             clear H
             obtain ⟨ASz73_1, cSz73_1, HGz73, hgz73, HSz73_1⟩ := HI0.out
             have hcz73_0 := cellS31_0 HGz73
             have hcz73_1 := cellS31_1 HGz73
             have hfz73_0 := blk_frozen HGz73 0
             clear HGz73 hgz73
             go_wp2
             go_roundg k4
             case measure => have := HK1.out; have := HK2.out; have := HK3.out; have := HK4.out; omega
             case rel => exact ⟨(x6_4), (wrap64 (x12_3 + 1)), (by first | rfl | (simp; done) | (simp [*]; done)), H', ⟨by have := HK1.out; have := HK2.out; have := HK3.out; have := HK4.out; omega⟩, ⟨by (with_reducible repeat (first | apply Kd.S_alloc | apply Kd.S_drewN | apply Kd.S_drew)); exact HO_6.out⟩, ⟨by repeat (first | (with_reducible first | exact HI0.out | apply IsS31.alloc | apply IsS31.drewN | apply IsS31.drew | apply IsS31.set_0) | exact HI0.out)⟩, ⟨by repeat (first | (with_reducible first | exact HK.out | apply KeepBut.set_ | apply keep_drewN | apply keep_drew | apply keep_alloc) | exact HK.out)⟩, ⟨by repeat (first | (with_reducible first | exact HB.out | apply below_alloc | apply pw_below_drewN | apply below_drew1 | refine below_set ?_ (IsS31.ge HI0.out)) | exact HB.out)⟩⟩
         ·rw [if_neg c46] at H
          have c46b0 : decide (x12_3 < s0_0) = false := decide_eq_false c46
          clear c46
          have H' := Aside0.mk H
          clear H
          obtain ⟨ASz74_1, cSz74_1, HGz74, hgz74, HSz74_1⟩ := HI0.out
          have hcz74_0 := cellS31_0 HGz74
          have hcz74_1 := cellS31_1 HGz74
          have hfz74_0 := blk_frozen HGz74 0
          clear HGz74 hgz74
          go_wp2
          go_loopg [15] k3 (fun kq v15 w' => ∃ (x15_4 : Int), v15 = .int .i64 x15_4 ∧ Aside0 (spec_l04Tight.l6 kq x6_3 x15_4 s0_0 s0_1 = some (r1, r2, r3)) ∧ Aside0 (kq ≤ k3) ∧ Aside0 (Kd.S (Kd.slice 2 (Kd.int .i64)) 26 w' w.heap.size (fun _ => True) u6 x6_3) ∧ Aside0 (IsS31 w0 w' g s0_0 s0_1) ∧ Aside0 (KeepBut w w' g none) ∧ Aside0 (Below w0.heap.size w0 w'))
          case atStart => exact ⟨(0), (by first | rfl | (simp; done) | (simp [*]; done)), H', ⟨Nat.le_refl _⟩, ⟨by (with_reducible repeat (first | apply Kd.S_alloc | apply Kd.S_drewN | apply Kd.S_drew)); exact HO_6.out⟩, ⟨by repeat (first | (with_reducible first | exact HI0.out | apply IsS31.alloc | apply IsS31.drewN | apply IsS31.drew | apply IsS31.set_0) | exact HI0.out)⟩, ⟨by repeat (first | (with_reducible first | exact HK.out | apply KeepBut.set_ | apply keep_drewN | apply keep_drew | apply keep_alloc) | exact HK.out)⟩, ⟨by repeat (first | (with_reducible first | exact HB.out | apply below_alloc | apply pw_below_drewN | apply below_drew1 | refine below_set ?_ (IsS31.ge HI0.out)) | exact HB.out)⟩⟩
          case round =>
           clear H'
           try clear c2
           try clear p2
           try clear q2
           try clear hx2
           try clear c4
           try clear c5
           try clear c6
           try clear p6
           try clear q6
           try clear hx6
           try clear hf6
           try clear c23
           try clear p23
           try clear q23
           try clear hx23
           try clear c24
           try clear p24
           try clear q24
           try clear hx24
           try clear c40
           try clear c46
           try clear c46b0
           try clear c48
           try clear c48b0
           try clear c50
           try clear c50b0
           try clear c51
           try clear c52
           try clear c53
           try clear c54
           try clear c55
           try clear c55b0
           try clear c56
           try clear c57
           try clear c58
           try clear c59
           try clear c59b0
           try clear c60
           try clear p62
           try clear q62
           try clear hx62
           try clear hf62
           try clear p64
           try clear c66
           try clear q66
           try clear hcz68_0
           try clear hcz68_1
           try clear hcz70_0
           try clear hcz70_1
           try clear hcz72_0
           try clear hcz72_1
           try clear hcz73_0
           try clear hcz73_1
           try clear hcz74_0
           try clear hcz74_1
           try clear hfz68_0
           try clear hfz70_0
           try clear hfz72_0
           try clear hfz73_0
           try clear hfz74_0
           try clear hx232_0
           try clear hx233_0
           try clear hx234_0
           try clear hx235_0
           try clear hx236_0
           try clear hx237_0
           try clear hx238_0
           try clear hx239_0
           try clear hx240_0
           try clear hx241_0
           try clear hx242_0
           try clear hx62_0
           try clear p232
           try clear p233
           try clear p234
           try clear p235
           try clear p236
           try clear p237
           try clear p238
           try clear p239
           try clear p240
           try clear p241
           try clear p242
           try clear p62
           try clear q232
           try clear q233
           try clear q234
           try clear q235
           try clear q236
           try clear q237
           try clear q238
           try clear q239
           try clear q240
           try clear q241
           try clear q242
           try clear q62
           obtain ⟨x15_4, rfl, HA, HK4, HO_6, HI0, HK, HB⟩ := hrel
           cases gk with
           | zero => exact absurd HA.out (by simp [spec_l04Tight.l6])
           | succ k4 =>
            have H := HA.out
            clear HA
            simp only [spec_l04Tight.l6] at H
            by_cases c75 : x15_4 < s0_0
            ·rw [if_pos c75] at H
             have c75b0 : decide (x15_4 < s0_0) = true := decide_eq_true c75
             clear c75
             by_cases c76 : 0 ≤ x15_4
             ·rw [if_pos c76] at H
              have c76b0 : decide (0 ≤ x15_4) = true := decide_eq_true c76
              clear c76
              by_cases c77 : x15_4 < (x6_3.length : Int)
              ·rw [if_pos c77] at H
               have c77b0 : decide (x15_4 < (x6_3.length : Int)) = true := decide_eq_true c77
               clear c77
               by_cases c78 : x15_4 < ((rd_L6 x6_3 x15_4).length : Int)
               ·rw [if_pos c78] at H
                have c78b0 : decide (x15_4 < ((rd_L6 x6_3 x15_4).length : Int)) = true := decide_eq_true c78
                clear c78
                by_cases c79 : (rd (rd_L6 x6_3 x15_4) x15_4) < 0
                ·rw [if_pos c79] at H
                 have c79b0 : decide ((rd (rd_L6 x6_3 x15_4) x15_4) < 0) = true := decide_eq_true c79
                 clear c79
                 simp only [Option.some.injEq, Prod.mk.injEq] at H
                 obtain ⟨rfl, rfl, rfl⟩ := H
                 obtain ⟨ASz80_1, cSz80_1, HGz80, hgz80, HSz80_1⟩ := HI0.out
                 have hcz80_0 := cellS31_0 HGz80
                 have hcz80_1 := cellS31_1 HGz80
                 have hfz80_0 := blk_frozen HGz80 0
                 clear HGz80 hgz80
                 obtain ⟨Ao81, co81, eo81⟩ := Kd.S_slice HO_6.out
                 subst eo81
                 have p247 : 0 ≤ (x15_4 : Int) := of_decide_eq_true (by with_reducible assumption)
                 have q247 : x15_4 < (x6_3.length : Int) := of_decide_eq_true (by with_reducible assumption)
                 obtain ⟨ad247, A247_0, c247_0, e247, hx247_0, hl247_0, hi247_0⟩ := at_L6 (Kd.S_reads' HO_6.out).2.2 x15_4 p247 q247
                 cases e247
                 obtain ⟨ce247, hce247, hMe247, hcc247⟩ := Kd.S_get HO_6.out [] x15_4 p247 (by first | exact q247 | exact of_decide_eq_true (by with_reducible assumption) | (have e_ := (Kd.S_reads' HO_6.out).1; omega))
                 obtain ⟨ve247_0, rfl, ge247_0⟩ := hMe247
                 have hv247_0 := hcc247 0 _ rfl
                 rw [Nat.add_zero, show ((Kd.slice 2 (Kd.int .i64))).sz = 1 from rfl, Nat.mul_one] at hv247_0
                 replace hv247_0 := Option.some.inj (hv247_0.symm.trans hx247_0)
                 rw [hv247_0] at ge247_0
                 have HL247_0 := Aside0.mk (show Kd.R (Kd.int .i64) 2 _ _ _ _ (rd_L6 x6_3 x15_4) from ge247_0)
                 clear hv247_0 ge247_0
                 have HX247_0 := Aside0.mk hx247_0
                 clear hcc247 hce247
                 have HR247_0 := Aside0.mk hi247_0
                 have HC247_0 := Aside0.mk hl247_0
                 clear hi247_0 hl247_0
                 replace p247 := eq_true p247
                 replace q247 := eq_true q247
                 have p248 : 0 ≤ (x15_4 : Int) := of_decide_eq_true (by with_reducible assumption)
                 have q248 : x15_4 < ((rd_L6 x6_3 x15_4).length : Int) := of_decide_eq_true (by with_reducible assumption)
                 obtain ⟨ad248, e248, hx248_0⟩ := Kd.at_int (by repeat (first | (with_reducible exact HR247_0.out) | (with_reducible refine Kd.C_alloc ?_ _) | (with_reducible refine Kd.C_drewN ?_ _) | (with_reducible refine Kd.C_drew ?_) | exact HR247_0.out)) x15_4 p248 q248
                 cases e248
                 replace p248 := eq_true p248
                 replace q248 := eq_true q248
                 go_wp2
                 go_ret2
                 exact ⟨_, by first | rfl | (simp [errW_none, errW_some] <;> rfl) | (simp [*, errW_none, errW_some] <;> rfl), by (with_reducible repeat (first | apply Kd.S_alloc | apply Kd.S_drewN | apply Kd.S_drew)); exact HO_6.out, by repeat (first | (with_reducible first | exact HI0.out | apply IsS31.alloc | apply IsS31.drewN | apply IsS31.drew | apply IsS31.set_0) | exact HI0.out), by repeat (first | (with_reducible first | exact HB.out | apply below_alloc | apply pw_below_drewN | apply below_drew1 | refine below_set ?_ (IsS31.ge HI0.out)) | exact HB.out), by repeat (first | (with_reducible first | exact HK.out | apply KeepBut.set_ | apply keep_drewN | apply keep_drew | apply keep_alloc) | exact HK.out)⟩
                ·rw [if_neg c79] at H
                 have c79b0 : decide ((rd (rd_L6 x6_3 x15_4) x15_4) < 0) = false := decide_eq_false c79
                 clear c79
                 have H' := Aside0.mk H
                 clear H
                 obtain ⟨ASz82_1, cSz82_1, HGz82, hgz82, HSz82_1⟩ := HI0.out
                 have hcz82_0 := cellS31_0 HGz82
                 have hcz82_1 := cellS31_1 HGz82
                 have hfz82_0 := blk_frozen HGz82 0
                 clear HGz82 hgz82
                 obtain ⟨Ao83, co83, eo83⟩ := Kd.S_slice HO_6.out
                 subst eo83
                 have p247 : 0 ≤ (x15_4 : Int) := of_decide_eq_true (by with_reducible assumption)
                 have q247 : x15_4 < (x6_3.length : Int) := of_decide_eq_true (by with_reducible assumption)
                 obtain ⟨ad247, A247_0, c247_0, e247, hx247_0, hl247_0, hi247_0⟩ := at_L6 (Kd.S_reads' HO_6.out).2.2 x15_4 p247 q247
                 cases e247
                 obtain ⟨ce247, hce247, hMe247, hcc247⟩ := Kd.S_get HO_6.out [] x15_4 p247 (by first | exact q247 | exact of_decide_eq_true (by with_reducible assumption) | (have e_ := (Kd.S_reads' HO_6.out).1; omega))
                 obtain ⟨ve247_0, rfl, ge247_0⟩ := hMe247
                 have hv247_0 := hcc247 0 _ rfl
                 rw [Nat.add_zero, show ((Kd.slice 2 (Kd.int .i64))).sz = 1 from rfl, Nat.mul_one] at hv247_0
                 replace hv247_0 := Option.some.inj (hv247_0.symm.trans hx247_0)
                 rw [hv247_0] at ge247_0
                 have HL247_0 := Aside0.mk (show Kd.R (Kd.int .i64) 2 _ _ _ _ (rd_L6 x6_3 x15_4) from ge247_0)
                 clear hv247_0 ge247_0
                 have HX247_0 := Aside0.mk hx247_0
                 clear hcc247 hce247
                 have HR247_0 := Aside0.mk hi247_0
                 have HC247_0 := Aside0.mk hl247_0
                 clear hi247_0 hl247_0
                 replace p247 := eq_true p247
                 replace q247 := eq_true q247
                 have p248 : 0 ≤ (x15_4 : Int) := of_decide_eq_true (by with_reducible assumption)
                 have q248 : x15_4 < ((rd_L6 x6_3 x15_4).length : Int) := of_decide_eq_true (by with_reducible assumption)
                 obtain ⟨ad248, e248, hx248_0⟩ := Kd.at_int (by repeat (first | (with_reducible exact HR247_0.out) | (with_reducible refine Kd.C_alloc ?_ _) | (with_reducible refine Kd.C_drewN ?_ _) | (with_reducible refine Kd.C_drew ?_) | exact HR247_0.out)) x15_4 p248 q248
                 cases e248
                 replace p248 := eq_true p248
                 replace q248 := eq_true q248
                 go_wp2
                 go_roundg k4
                 case measure => have := HK1.out; have := HK2.out; have := HK3.out; have := HK4.out; omega
                 case rel => exact ⟨(wrap64 (x15_4 + 1)), (by first | rfl | (simp; done) | (simp [*]; done)), H', ⟨by have := HK1.out; have := HK2.out; have := HK3.out; have := HK4.out; omega⟩, ⟨by (with_reducible repeat (first | apply Kd.S_alloc | apply Kd.S_drewN | apply Kd.S_drew)); exact HO_6.out⟩, ⟨by repeat (first | (with_reducible first | exact HI0.out | apply IsS31.alloc | apply IsS31.drewN | apply IsS31.drew | apply IsS31.set_0) | exact HI0.out)⟩, ⟨by repeat (first | (with_reducible first | exact HK.out | apply KeepBut.set_ | apply keep_drewN | apply keep_drew | apply keep_alloc) | exact HK.out)⟩, ⟨by repeat (first | (with_reducible first | exact HB.out | apply below_alloc | apply pw_below_drewN | apply below_drew1 | refine below_set ?_ (IsS31.ge HI0.out)) | exact HB.out)⟩⟩
               ·rw [if_neg c78] at H
                exact absurd H (by simp)
              ·rw [if_neg c77] at H
               exact absurd H (by simp)
             ·rw [if_neg c76] at H
              exact absurd H (by simp)
            ·rw [if_neg c75] at H
             have c75b0 : decide (x15_4 < s0_0) = false := decide_eq_false c75
             clear c75
             simp only [Option.some.injEq, Prod.mk.injEq] at H
             obtain ⟨rfl, rfl, rfl⟩ := H
             obtain ⟨ASz84_1, cSz84_1, HGz84, hgz84, HSz84_1⟩ := HI0.out
             have hcz84_0 := cellS31_0 HGz84
             have hcz84_1 := cellS31_1 HGz84
             have hfz84_0 := blk_frozen HGz84 0
             clear HGz84 hgz84
             go_wp2
             go_ret2
             exact ⟨_, by first | rfl | (simp [errW_none, errW_some] <;> rfl) | (simp [*, errW_none, errW_some] <;> rfl), by (with_reducible repeat (first | apply Kd.S_alloc | apply Kd.S_drewN | apply Kd.S_drew)); exact HO_6.out, by repeat (first | (with_reducible first | exact HI0.out | apply IsS31.alloc | apply IsS31.drewN | apply IsS31.drew | apply IsS31.set_0) | exact HI0.out), by repeat (first | (with_reducible first | exact HB.out | apply below_alloc | apply pw_below_drewN | apply below_drew1 | refine below_set ?_ (IsS31.ge HI0.out)) | exact HB.out), by repeat (first | (with_reducible first | exact HK.out | apply KeepBut.set_ | apply keep_drewN | apply keep_drew | apply keep_alloc) | exact HK.out)⟩

end Go.Proofs.Ytkdijegkoajdgaa.Pa

