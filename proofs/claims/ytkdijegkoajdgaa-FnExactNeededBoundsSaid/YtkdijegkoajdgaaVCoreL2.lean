-- Written for this claim by a program of this session.
import Derived.Test.YtkdijegkoajdgaaVPax0
import Derived.Test.YtkdijegkoajdgaaVCoreL1
namespace Go.Proofs.Ytkdijegkoajdgaa.Pa
open Go.RowKit Go.Proofs.YtkdijegkoajdgaaW.PrintWords Go.Proofs.YtkdijegkoajdgaaW.PrintLast Go.Proofs.YtkdijegkoajdgaaW.PrintMore
attribute [local go_sem] max2_int min2_int max_two min_two max_three min_three max_four min_four   -- for this text's walks alone
set_option linter.unusedVariables false
set_option linter.unusedSimpArgs false

/-! ### impl_tightest: function 41 -/
mutual
def impl_tightest.l0 : Nat → Int → List (S53) → List (List Int) → Int → Int → Option ((List (List Int)) × Bool)
 | 0, _, _, _, _, _ => none
 | k + 1, x0, x1, x6, x16, x17 => if x17 < x16 then ((slices_Repeat_int64_int64.f (([1000000] : List Int)) x0).bind fun t293 => (if 0 ≤ x17 then (if x17 < (t293.length : Int) then (if x6.length < 5864062014805 then (impl_tightest.l0 k x0 x1 (x6 ++ [(t293.set (x17 : Int).toNat 0)]) x16 (wrap64 (x17 + 1))) else (none)) else (none)) else (none))) else (impl_tightest.l1 k x6 x1 (x1.length : Int) 0)
def impl_tightest.l1 : Nat → List (List Int) → List (S53) → Int → Int → Option ((List (List Int)) × Bool)
 | 0, _, _, _, _ => none
 | k + 1, x6, x31, x32, x33 => if x33 < x32 then (if 0 ≤ x33 then (if x33 < (x31.length : Int) then (if 0 ≤ ((rd_T53 x31 x33).f0) then (if ((rd_T53 x31 x33).f0) < (x6.length : Int) then (if 0 ≤ ((rd_T53 x31 x33).f1) then (if ((rd_T53 x31 x33).f1) < ((rd_L6 x6 ((rd_T53 x31 x33).f0)).length : Int) then (impl_tightest.l1 k (x6.set (((rd_T53 x31 x33).f0) : Int).toNat ((rd_L6 x6 ((rd_T53 x31 x33).f0)).set (((rd_T53 x31 x33).f1) : Int).toNat (mn (rd (rd_L6 x6 ((rd_T53 x31 x33).f0)) ((rd_T53 x31 x33).f1)) ((rd_T53 x31 x33).f2)))) x31 x32 (wrap64 (x33 + 1))) else (none)) else (none)) else (none)) else (none)) else (none)) else (none)) else (impl_tightest.l2 k x6 (x6.length : Int) 0)
def impl_tightest.l2 : Nat → List (List Int) → Int → Int → Option ((List (List Int)) × Bool)
 | 0, _, _, _ => none
 | k + 1, x6, x59, x60 => if x60 < x59 then (impl_tightest.l3 k x6 x60 x59 x60 (x6.length : Int) 0) else (impl_tightest.l5 k x6 (x6.length : Int) 0)
def impl_tightest.l3 : Nat → List (List Int) → Int → Int → Int → Int → Int → Option ((List (List Int)) × Bool)
 | 0, _, _, _, _, _, _ => none
 | k + 1, x6, x11, x59, x60, x64, x65 => if x65 < x64 then (impl_tightest.l4 k x6 x11 x65 x59 x60 x64 x65 (x6.length : Int) 0) else (impl_tightest.l2 k x6 x59 (wrap64 (x60 + 1)))
def impl_tightest.l4 : Nat → List (List Int) → Int → Int → Int → Int → Int → Int → Int → Int → Option ((List (List Int)) × Bool)
 | 0, _, _, _, _, _, _, _, _, _ => none
 | k + 1, x6, x11, x12, x59, x60, x64, x65, x69, x70 => if x70 < x69 then (if 0 ≤ x12 then (if x12 < (x6.length : Int) then (if 0 ≤ x11 then (if x11 < ((rd_L6 x6 x12).length : Int) then (if (rd (rd_L6 x6 x12) x11) < 1000000 then (if x11 < (x6.length : Int) then (if 0 ≤ x70 then (if x70 < ((rd_L6 x6 x11).length : Int) then (if (rd (rd_L6 x6 x11) x70) < 1000000 then (if x70 < ((rd_L6 x6 x12).length : Int) then (impl_tightest.l4 k (x6.set (x12 : Int).toNat ((rd_L6 x6 x12).set (x70 : Int).toNat (mn (rd (rd_L6 x6 x12) x70) (wrap64 ((rd (rd_L6 x6 x12) x11) + (rd (rd_L6 x6 x11) x70)))))) x11 x12 x59 x60 x64 x65 x69 (wrap64 (x70 + 1))) else (none)) else (impl_tightest.l4 k x6 x11 x12 x59 x60 x64 x65 x69 (wrap64 (x70 + 1)))) else (none)) else (none)) else (none)) else (impl_tightest.l4 k x6 x11 x12 x59 x60 x64 x65 x69 (wrap64 (x70 + 1)))) else (none)) else (none)) else (none)) else (none)) else (impl_tightest.l3 k x6 x11 x59 x60 x64 (wrap64 (x65 + 1)))
def impl_tightest.l5 : Nat → List (List Int) → Int → Int → Option ((List (List Int)) × Bool)
 | 0, _, _, _ => none
 | k + 1, x6, x124, x125 => if x125 < x124 then (if 0 ≤ x125 then (if x125 < (x6.length : Int) then (if x125 < ((rd_L6 x6 x125).length : Int) then (if (rd (rd_L6 x6 x125) x125) < 0 then (some (([] : List (List Int)), false)) else (impl_tightest.l5 k x6 x124 (wrap64 (x125 + 1)))) else (none)) else (none)) else (none)) else (some (x6, true))
end
def impl_tightest.f (k : Nat) (a0 : Int) (l1 : List (S53)) : Option ((List (List Int)) × Bool) := impl_tightest.l0 k a0 l1 (([] : List (List Int))) a0 0
def impl_tightest.T12 : Bool × List (List Nat × List Nat) := (true, [([], []), ([], []), ([1], [1]), ([0, 2], [0, 2]), ([3], [3]), ([], []), ([5], [5]), ([], []), ([], []), ([8], [8]), ([7, 9], [7, 9]), ([10], [10]), ([], []), ([12], [12]), ([11, 13], [11, 13]), ([14], [14]), ([], []), ([16], [16]), ([15, 17], [15, 17]), ([4, 6, 0, 1, 2, 3, 4, 5, 6, 7, 8, 9, 10, 11, 12, 13, 14, 15, 16, 17, 18], [4, 6]), ([19, 18, 0, 1, 2, 3, 4, 5, 6, 7, 8, 9, 10, 11, 12, 13, 14, 15, 16, 17, 18], [18, 19])])
def impl_tightest.B12 : List Nat := [0, 0, 2, 7, 15, 0, 32, 0, 0, 256, 896, 1920, 0, 4096, 16256, 32640, 0, 65536, 262016, 524287, 1048575]
theorem impl_tightest.tab12 : rtab .any (opsOf Try.f41 12) = impl_tightest.T12 := by kernel_rfl
theorem impl_tightest.bits12 : waitsOk impl_tightest.T12.2 impl_tightest.B12 = true := by kernel_rfl
def impl_tightest.T24 : Bool × List (List Nat × List Nat) := (true, [([], []), ([], []), ([0, 1], [0, 1]), ([2], [2]), ([], []), ([], []), ([], []), ([5, 6], [5, 6]), ([7], [7]), ([], []), ([8, 9], [8, 9]), ([10], [10]), ([], []), ([], []), ([12, 13], [12, 13]), ([14], [14]), ([], []), ([15, 16], [15, 16]), ([17], [17]), ([], []), ([], []), ([19, 20], [19, 20]), ([21], [21]), ([], []), ([22, 23], [22, 23]), ([24], [24]), ([18, 25], [18, 25]), ([11, 26], [11, 26]), ([3, 4, 0, 1, 2, 3, 4, 5, 6, 7, 8, 9, 10, 11, 12, 13, 14, 15, 16, 17, 18, 19, 20, 21, 22, 23, 24, 25, 26, 27], [3, 4]), ([28, 27, 0, 1, 2, 3, 4, 5, 6, 7, 8, 9, 10, 11, 12, 13, 14, 15, 16, 17, 18, 19, 20, 21, 22, 23, 24, 25, 26, 27], [27, 28])])
def impl_tightest.B24 : List Nat := [0, 0, 3, 7, 0, 0, 0, 96, 224, 0, 992, 2016, 0, 0, 12288, 28672, 0, 126976, 258048, 0, 0, 1572864, 3670016, 0, 16252928, 33030144, 67104768, 134217696, 268435455, 536870911]
theorem impl_tightest.tab24 : rtab .any (opsOf Try.f41 24) = impl_tightest.T24 := by kernel_rfl
theorem impl_tightest.bits24 : waitsOk impl_tightest.T24.2 impl_tightest.B24 = true := by kernel_rfl
set_option maxHeartbeats 8000000 in
set_option maxRecDepth 100000 in
theorem impl_tightest.calls (k : Nat) (a0 : Int) (A1 : Option Addr) (c1 : Nat) (l1 : List (S53)) (r1 : List (List Int)) (r2 : Bool) (w : World) (hr1 : Kd.C k53 w A1 l1.length l1) (hc1 : l1.length ≤ c1) (h : impl_tightest.f k a0 l1 = some (r1, r2)) :
  Calls Try.prog 41 #[.int .i64 a0, .slice A1 l1.length c1] w fun e w' => ∃ v0_ : Value, e = .returned (.tuple #[v0_, .bool r2]) ∧ Kd.S (Kd.slice 2 (Kd.int .i64)) 26 w' w.heap.size (fun _ => True) v0_ r1 ∧ Below w.heap.size w w' := by
 have hu53 := Try.underlying53
 have HR1 := Aside0.mk hr1
 have HC1 := Aside0.mk hc1
 clear hr1 hc1
 have HB := Aside0.mk (Below.refl w.heap.size w)
 have H : (impl_tightest.l0 k a0 l1 (([] : List (List Int))) a0 0) = some (r1, r2) := h
 clear h
 obtain ⟨y287, hy287⟩ : ∃ y_ : List (List Int), y_ = (([] : List (List Int))) := ⟨_, rfl⟩
 replace H : (impl_tightest.l0 k a0 l1 y287 a0 0) = some (r1, r2) := by first | (rw [hy287]; with_reducible exact H) | (have H2_ := (Option.bind_some _ _).symm.trans H; rw [hy287]; with_reducible exact H2_) | (have H2_ := (Option.bind_some _ _).symm.trans H; with_reducible exact H2_) | with_reducible exact H | (rw [hy287]; exact H) | exact H
 have Ny287 := Aside0.mk hy287
 clear hy287
 have H' := Aside0.mk H
 clear H
 go_enter Try.func41, Try.ntmps41
 go_wp2_with (first | ((with_reducible refine gate_dst (N := 15) rfl ?_); refine Kd.S_lit (Kd.slice 2 (Kd.int .i64)) _ 26 ?hg (N := 15) ?hd (xs := ([] : List (List Int))) (inner := []) (ok := fun _ => True) (okp := fun _ => True) ?hr ?hp (fun _ hk => hk) trivial (Below.refl _ _) (Nat.le_refl _) (by simp) ?_; (case hd => rfl); (case hg => rfl); (case hr => first | (go_simp; done) | (go_simp; rfl)); (case hp => exact (Reps.none _ _)); intro v288 w3 ho4 hb hg_ hnew_; clear hg_ hnew_; (first | rw [← Ny287.out] at ho4 | (simp only [Int.reduceToNat] at ho4; rw [← Ny287.out] at ho4)); have n0_ := Aside0.mk (Kd.S_lower ho4 (below_size (by repeat (first | (with_reducible first | exact HB.out | apply below_alloc | apply pw_below_drewN | apply below_drew1) | exact HB.out)))); have n1_ := Aside0.mk (below_step (by repeat (first | (with_reducible first | exact HB.out | apply below_alloc | apply pw_below_drewN | apply below_drew1) | exact HB.out)) hb); clear HB; have HO289 := n0_; have HB := n1_; clear n0_ n1_; clear hb ho4))
 go_loopg [6, 17] k (fun kq v6 v17 w' => ∃ (x6_1 : List (List Int)) (x17_1 : Int), v17 = .int .i64 x17_1 ∧ Aside0 (impl_tightest.l0 kq a0 l1 x6_1 a0 x17_1 = some (r1, r2)) ∧ Aside0 (kq ≤ k) ∧ Aside0 (Kd.S (Kd.slice 2 (Kd.int .i64)) 26 w' w.heap.size (fun _ => True) v6 x6_1) ∧ Aside0 (Below w.heap.size w w'))
 case atStart => exact ⟨(y287), (0), (by first | rfl | (simp; done) | (simp [*]; done)), H', ⟨Nat.le_refl _⟩, ⟨by (with_reducible repeat (first | apply Kd.S_alloc | apply Kd.S_drewN | apply Kd.S_drew)); exact HO289.out⟩, ⟨by repeat (first | (with_reducible first | exact HB.out | apply below_alloc | apply pw_below_drewN | apply below_drew1) | exact HB.out)⟩⟩
 case round =>
  clear H'
  try clear c1
  try clear p2
  try clear c4
  obtain ⟨x6_1, x17_1, rfl, HA, HK1, HO_6, HB⟩ := hrel
  cases gk with
  | zero => exact absurd HA.out (by simp [impl_tightest.l0])
  | succ k1 =>
   have H := HA.out
   clear HA
   simp only [impl_tightest.l0] at H
   by_cases c5 : x17_1 < a0
   ·rw [if_pos c5] at H
    have c5b0 : decide (x17_1 < a0) = true := decide_eq_true c5
    clear c5
    obtain ⟨y290, hy290⟩ : ∃ y_ : List Int, y_ = (([1000000] : List Int)) := ⟨_, rfl⟩
    replace H : ((slices_Repeat_int64_int64.f y290 a0).bind fun t293 => (if 0 ≤ x17_1 then (if x17_1 < (t293.length : Int) then (if x6_1.length < 5864062014805 then (impl_tightest.l0 k1 a0 l1 (x6_1 ++ [(t293.set (x17_1 : Int).toNat 0)]) a0 (wrap64 (x17_1 + 1))) else (none)) else (none)) else (none))) = some (r1, r2) := by first | (rw [hy290]; with_reducible exact H) | (have H2_ := (Option.bind_some _ _).symm.trans H; rw [hy290]; with_reducible exact H2_) | (have H2_ := (Option.bind_some _ _).symm.trans H; with_reducible exact H2_) | with_reducible exact H | (rw [hy290]; exact H) | exact H
    have Ny290 := Aside0.mk hy290
    clear hy290
    replace H := Option.bind_eq_some_iff.mp H
    obtain ⟨t293, A60, H⟩ := H
    replace H : (if 0 ≤ x17_1 then (if x17_1 < (t293.length : Int) then (if x6_1.length < 5864062014805 then (impl_tightest.l0 k1 a0 l1 (x6_1 ++ [(t293.set (x17_1 : Int).toNat 0)]) a0 (wrap64 (x17_1 + 1))) else (none)) else (none)) else (none)) = some (r1, r2) := H
    have A6 := Aside0.mk A60
    clear A60
    by_cases c7 : 0 ≤ x17_1
    ·rw [if_pos c7] at H
     have c7b0 : decide (0 ≤ x17_1) = true := decide_eq_true c7
     clear c7
     by_cases c8 : x17_1 < (t293.length : Int)
     ·rw [if_pos c8] at H
      have c8b0 : decide (x17_1 < (t293.length : Int)) = true := decide_eq_true c8
      clear c8
      obtain ⟨y296, hy296⟩ : ∃ y_ : List Int, y_ = (t293.set (x17_1 : Int).toNat 0) := ⟨_, rfl⟩
      replace H : (if x6_1.length < 5864062014805 then (impl_tightest.l0 k1 a0 l1 (x6_1 ++ [y296]) a0 (wrap64 (x17_1 + 1))) else (none)) = some (r1, r2) := by first | (rw [hy296]; with_reducible exact H) | (have H2_ := (Option.bind_some _ _).symm.trans H; rw [hy296]; with_reducible exact H2_) | (have H2_ := (Option.bind_some _ _).symm.trans H; with_reducible exact H2_) | with_reducible exact H | (rw [hy296]; exact H) | exact H
      have Ny296 := Aside0.mk hy296
      clear hy296
      by_cases c10 : x6_1.length < 5864062014805
      ·rw [if_pos c10] at H
       have LMc10 := Aside0.mk c10
       clear c10
       obtain ⟨y297, hy297⟩ : ∃ y_ : List (List Int), y_ = (x6_1 ++ [y296]) := ⟨_, rfl⟩
       replace H : (impl_tightest.l0 k1 a0 l1 y297 a0 (wrap64 (x17_1 + 1))) = some (r1, r2) := by first | (rw [hy297]; with_reducible exact H) | (have H2_ := (Option.bind_some _ _).symm.trans H; rw [hy297]; with_reducible exact H2_) | (have H2_ := (Option.bind_some _ _).symm.trans H; with_reducible exact H2_) | with_reducible exact H | (rw [hy297]; exact H) | exact H
       have Ny297 := Aside0.mk hy297
       clear hy297
       have H' := Aside0.mk H
       clear H
       go_wp2_with (first | ((with_reducible refine gate_dst (N := 20) rfl ?_); refine Kd.R_lit (Kd.int .i64) _ 2 ?hg (N := 20) ?hd (xs := ([1000000] : List Int)) (inner := [.int .i64 1000000]) (ok := fun _ => True) (okp := fun _ => True) ?hr ?hp (fun _ hk => hk) trivial (Below.refl _ _) (Nat.le_refl _) (by simp) ?_; (case hd => rfl); (case hg => rfl); (case hr => first | (go_simp; done) | (go_simp; rfl)); (case hp => exact (Reps.one (show Kd.M (Kd.int .i64) _ _ _ 1000000 [.int .i64 1000000] from rfl) (Reps.none _ _))); intro v291 w11 ho12 hb hg_ hnew_; clear hg_ hnew_; (first | rw [← Ny290.out] at ho12 | (simp only [Int.reduceToNat] at ho12; rw [← Ny290.out] at ho12)); have n0_ := Aside0.mk (Kd.S_elder' (by (with_reducible repeat (first | apply Kd.S_alloc | apply Kd.S_drewN | apply Kd.S_drew)); exact HO_6.out) (Kd.R_base ho12) hb); have n1_ := Aside0.mk (Kd.R_lower ho12 (below_size (by repeat (first | (with_reducible first | exact HB.out | apply below_alloc | apply pw_below_drewN | apply below_drew1) | exact HB.out)))); have n2_ := Aside0.mk (below_step (by repeat (first | (with_reducible first | exact HB.out | apply below_alloc | apply pw_below_drewN | apply below_drew1) | exact HB.out)) hb); clear HO_6; clear HB; have HO_6 := n0_; have HO292 := n1_; have HB := n2_; clear n0_ n1_ n2_; clear hb ho12; obtain ⟨Ao13, co13, eo13⟩ := Kd.R_slice HO292.out; subst eo13) | ((with_reducible refine gate_callee (f := 45) rfl ?_); refine goesL_ (some 22) rfl rfl Try.func45 (by kernel_rfl) rfl #[.slice Ao13 y290.length co13, .int .i64 a0] rfl (by (try simp only [List.map_toArray, List.map_cons, List.map_nil]); first | done | rfl | (simp only [List.length_drop, List.length_take]; rfl)) ?_; (with_reducible refine (slices_Repeat_int64_int64.calls _ _ y290 a0 t293 _ ?side1 ?side2 A6.out).mono ?_); (case side1 => repeat (first | exact (Kd.R_reads' HO292.out).2.2 | (with_reducible refine Kd.C_alloc ?_ _) | (with_reducible refine Kd.C_drewN ?_ _) | (with_reducible refine Kd.C_drew ?_))); (case side2 => exact (Kd.R_reads' HO292.out).2.1); rintro e w14 ⟨v294, rfl, ho0, hb⟩; refine ⟨_, rfl, ?_⟩; have n0_ := Aside0.mk (Kd.S_elder' (by (with_reducible repeat (first | apply Kd.S_alloc | apply Kd.S_drewN | apply Kd.S_drew)); exact HO_6.out) (Kd.R_base ho0) hb); have n1_ := Aside0.mk (Kd.R_elder' (by (with_reducible repeat (first | apply Kd.R_alloc | apply Kd.R_drewN | apply Kd.R_drew)); exact HO292.out) (Kd.R_base ho0) hb); have n2_ := Aside0.mk (Kd.R_lower (Kd.R_new' ho0 (Kd.R_lt (by (with_reducible repeat (first | apply Kd.R_alloc | apply Kd.R_drewN | apply Kd.R_drew)); exact HO292.out))) (below_size (by repeat (first | (with_reducible first | exact HB.out | apply below_alloc | apply pw_below_drewN | apply below_drew1) | exact HB.out)))); have n3_ := Aside0.mk (below_step (by repeat (first | (with_reducible first | exact HB.out | apply below_alloc | apply pw_below_drewN | apply below_drew1) | exact HB.out)) hb); clear HO_6; clear HO292; clear HB; have HO_6 := n0_; have HO292 := n1_; have HO295 := n2_; have HB := n3_; clear n0_ n1_ n2_ n3_; (try clear hb); (try clear hb2); (try clear hk); (try clear hi); (try clear ho0); have p9 : 0 ≤ (x17_1 : Int) := of_decide_eq_true (by with_reducible assumption); have q9 : (x17_1 : Int) < ((t293.length : Int) : Int) := of_decide_eq_true (by with_reducible assumption); obtain ⟨go9, co9, eo9, gb9, gl9, cl9, HG9⟩ := Kd.R_form HO295.out (by omega); (first | cases eo9 | (injection eo9 with ea_ en_ ec_; (first | subst ea_ | (injection ea_ with ea_; subst ea_)); subst ec_; clear en_)); have GB9 := Aside0.mk gb9; have GG9 := Aside0.mk HG9; clear gb9 gl9 HG9; obtain ⟨hx9_0, hf9_0⟩ := Kd.R_celln 0 HO295.out (x17_1 : Int) p9 q9; replace p9 := eq_true p9; replace q9 := eq_true q9; have n_ := Aside0.mk (Kd.R_mono (ok' := (fun k_ => some k_ ≠ (.slice Ao13 y290.length co13 : Value).ownBlock)) HO295.out (fun k_ hk => hk.2)); clear HO295; have HO295 := n_; clear n_; obtain ⟨hy15_, hz15_⟩ := Kd.R_celln 0 HO295.out (x17_1 : Int) (of_decide_eq_true (by with_reducible assumption)) (of_decide_eq_true (by with_reducible assumption)); have HP15 := Kd.R_putg HO295.out (x17_1 : Int) 0) | ((with_reducible refine gate_store (t := 2) (p := 25) rfl ?_); refine store_event (t := 2) (p := 25) (v := ?vo_w16) (w1 := (w14.setCell ⟨go9, (x17_1 : Int).toNat, none⟩ (.int .i64 0))) ?hg ?ho ?hn ?hr ?_; (case ho => rfl); (case hg => rfl); (case hn => rfl); (case hr => first | (go_simp; done) | (go_simp; rfl)); intro w16 hw; have hg : w14.grownBy w16 (some go9) := (by rw [hw]; exact HP15.2); have hp_ : Kd.R (Kd.int .i64) 2 w16 w.heap.size (fun k_ => some k_ ≠ (.slice Ao13 y290.length co13 : Value).ownBlock) (.slice (some ⟨go9, 0, none⟩) t293.length co9) y296 := (by rw [hw, Ny296.out]; exact HP15.1); clear HP15; have n0_ := Aside0.mk (Kd.S_after (v := (.slice (some ⟨go9, 0, none⟩) t293.length co9)) (v1 := (.slice (some ⟨go9, 0, none⟩) t293.length co9)) (ok := (fun k_ => some k_ ≠ (.slice Ao13 y290.length co13 : Value).ownBlock)) (by (with_reducible repeat (first | apply Kd.S_alloc | apply Kd.S_drewN | apply Kd.S_drew)); exact Kd.S_mono HO_6.out (fun _ hk => ⟨hk.1.2, hk.2⟩)) hg (.inl rfl)); have n1_ := Aside0.mk (Kd.R_after (v := (.slice (some ⟨go9, 0, none⟩) t293.length co9)) (v1 := (.slice (some ⟨go9, 0, none⟩) t293.length co9)) (ok := (fun _ => True)) (by (with_reducible repeat (first | apply Kd.R_alloc | apply Kd.R_drewN | apply Kd.R_drew)); exact HO292.out) hg (.inl rfl)); have n2_ := Aside0.mk (hp_); have n3_ := Aside0.mk ((by rw [hw]; exact below_set (HB.out) GB9.out : Below w.heap.size w w16)); clear HO_6; clear HO292; clear HO295; clear HB; have HO_6 := n0_; have HO292 := n1_; have HO295 := n2_; have HB := n3_; clear n0_ n1_ n2_ n3_; clear hg hw hp_) | ((with_reducible refine gate_builtin (b := .append) (xs := #[.tmp 26, .tmp 28]) rfl ?_); at_builtin; refine Kd.S_append (Kd.slice 2 (Kd.int .i64)) (w0 := w) w.heap.size rfl (.tmp 26) (.tmp 28) 47 26 (.slice none 0 0) 24 rfl Try.underlying47 info26 rfl (by decide) (by omega) u6 x6_1 y296 [.slice (some ⟨go9, 0, none⟩) t293.length co9] (fun k_ => some k_ ≠ (.slice Ao13 y290.length co13 : Value).ownBlock) (fun k_ => some k_ = (.slice (some ⟨go9, 0, none⟩) t293.length co9 : Value).ownBlock) rfl rfl ?aP (fun k_ hk_ => ((Kd.R_mono (ok' := fun k_ => ((fun k_ => some k_ ≠ (.slice Ao13 y290.length co13 : Value).ownBlock)) k_ ∧ some k_ ≠ (u6 : Value).ownBlock) (Kd.R_apart' (HO295.out) (Kd.S_typed HO_6.out) (by decide)) (fun k_ hk => ⟨hk.1, hk.2⟩))).1 k_ hk_.symm) ?aF ?aO ?aB ?aS ?aL ?_; (case aP => exact Kd.M_row (Kd.R_mono (Kd.R_tight rfl (Kd.R_mono (ok' := fun k_ => ((fun k_ => some k_ ≠ (.slice Ao13 y290.length co13 : Value).ownBlock)) k_ ∧ some k_ ≠ (u6 : Value).ownBlock) (Kd.R_apart' (HO295.out) (Kd.S_typed HO_6.out) (by decide)) (fun k_ hk => ⟨hk.1, hk.2⟩))) (fun _ h_ => h_))); (case aB => exact (by repeat (first | (with_reducible first | exact HB.out | apply below_alloc | apply pw_below_drewN | apply below_drew1) | exact HB.out))); (case aF => exact (fun k_ hk => Kd.fresh' (Kd.R_lt (by (with_reducible repeat (first | apply Kd.R_alloc | apply Kd.R_drewN | apply Kd.R_drew)); exact HO292.out)) k_ hk)); (case aO => exact (by (with_reducible repeat (first | apply Kd.S_alloc | apply Kd.S_drewN | apply Kd.S_drew)); exact Kd.S_mono HO_6.out (fun k_ hk => ⟨hk.1, fun e_ => hk.2 e_⟩))); (case aS => exact (below_size (by repeat (first | (with_reducible first | exact HB.out | apply below_alloc | apply pw_below_drewN | apply below_drew1) | exact HB.out)))); (case aL => have := LMc10.out; omega); intro v298 w17 ho hb hg hat; rw [← Ny297.out] at ho; have n0_ := Aside0.mk (Kd.R_over' (by (with_reducible repeat (first | apply Kd.R_alloc | apply Kd.R_drewN | apply Kd.R_drew)); exact HO292.out) (Kd.S_typed (by (with_reducible repeat (first | apply Kd.S_alloc | apply Kd.S_drewN | apply Kd.S_drew)); exact HO_6.out)) (by decide) hg); have n1_ := Aside0.mk (hb); have n2_ := Aside0.mk (ho); clear HO292; clear HB; clear HO_6; clear HO295; have HO292 := n0_; have HB := n1_; have HO299 := n2_; clear n0_ n1_ n2_; clear ho hb hg hat))
       go_roundg k1
       case measure => have := HK1.out; omega
       case rel => exact ⟨(y297), (wrap64 (x17_1 + 1)), (by first | rfl | (simp; done) | (simp [*]; done)), H', ⟨by have := HK1.out; omega⟩, ⟨by (with_reducible repeat (first | apply Kd.S_alloc | apply Kd.S_drewN | apply Kd.S_drew)); exact Kd.S_mono HO299.out (fun _ hk => trivial)⟩, ⟨by repeat (first | (with_reducible first | exact HB.out | apply below_alloc | apply pw_below_drewN | apply below_drew1) | exact HB.out)⟩⟩
      ·rw [if_neg c10] at H
       exact absurd H (by simp)
     ·rw [if_neg c8] at H
      exact absurd H (by simp)
    ·rw [if_neg c7] at H
     exact absurd H (by simp)
   ·rw [if_neg c5] at H
    have c5b0 : decide (x17_1 < a0) = false := decide_eq_false c5
    clear c5
    have H' := Aside0.mk H
    clear H
    go_wp2
    go_loopg [33] k1 (fun kq v33 w' => ∃ (x6_2 : List (List Int)) (x33_2 : Int), v33 = .int .i64 x33_2 ∧ Aside0 (impl_tightest.l1 kq x6_2 l1 (l1.length : Int) x33_2 = some (r1, r2)) ∧ Aside0 (kq ≤ k1) ∧ Aside0 (Kd.S (Kd.slice 2 (Kd.int .i64)) 26 w' w.heap.size (fun _ => True) u6 x6_2) ∧ Aside0 (Below w.heap.size w w'))
    case atStart => exact ⟨(x6_1), (0), (by first | rfl | (simp; done) | (simp [*]; done)), H', ⟨Nat.le_refl _⟩, ⟨by (with_reducible repeat (first | apply Kd.S_alloc | apply Kd.S_drewN | apply Kd.S_drew)); exact HO_6.out⟩, ⟨by repeat (first | (with_reducible first | exact HB.out | apply below_alloc | apply pw_below_drewN | apply below_drew1) | exact HB.out)⟩⟩
    case round =>
     clear H'
     try clear c1
     try clear p2
     try clear c4
     try clear c5
     try clear c5b0
     try clear p6
     try clear c7
     try clear c7b0
     try clear c8
     try clear c8b0
     try clear p9
     try clear q9
     try clear hx9
     try clear hf9
     try clear c10
     try clear hx9_0
     try clear p2
     try clear p9
     try clear q9
     obtain ⟨x6_2, x33_2, rfl, HA, HK2, HO_6, HB⟩ := hrel
     cases gk with
     | zero => exact absurd HA.out (by simp [impl_tightest.l1])
     | succ k2 =>
      have H := HA.out
      clear HA
      simp only [impl_tightest.l1] at H
      by_cases c18 : x33_2 < (l1.length : Int)
      ·rw [if_pos c18] at H
       have c18b0 : decide (x33_2 < (l1.length : Int)) = true := decide_eq_true c18
       clear c18
       by_cases c19 : 0 ≤ x33_2
       ·rw [if_pos c19] at H
        have c19b0 : decide (0 ≤ x33_2) = true := decide_eq_true c19
        clear c19
        by_cases c20 : x33_2 < (l1.length : Int)
        ·rw [if_pos c20] at H
         have c20b0 : decide (x33_2 < (l1.length : Int)) = true := decide_eq_true c20
         clear c20
         by_cases c21 : 0 ≤ ((rd_T53 l1 x33_2).f0)
         ·rw [if_pos c21] at H
          have c21b0 : decide (0 ≤ ((rd_T53 l1 x33_2).f0)) = true := decide_eq_true c21
          clear c21
          by_cases c22 : ((rd_T53 l1 x33_2).f0) < (x6_2.length : Int)
          ·rw [if_pos c22] at H
           have c22b0 : decide (((rd_T53 l1 x33_2).f0) < (x6_2.length : Int)) = true := decide_eq_true c22
           clear c22
           by_cases c23 : 0 ≤ ((rd_T53 l1 x33_2).f1)
           ·rw [if_pos c23] at H
            have c23b0 : decide (0 ≤ ((rd_T53 l1 x33_2).f1)) = true := decide_eq_true c23
            clear c23
            by_cases c24 : ((rd_T53 l1 x33_2).f1) < ((rd_L6 x6_2 ((rd_T53 l1 x33_2).f0)).length : Int)
            ·rw [if_pos c24] at H
             have c24b0 : decide (((rd_T53 l1 x33_2).f1) < ((rd_L6 x6_2 ((rd_T53 l1 x33_2).f0)).length : Int)) = true := decide_eq_true c24
             clear c24
             obtain ⟨ji25, hji25⟩ : ∃ j_ : Int, (mn (rd (rd_L6 x6_2 ((rd_T53 l1 x33_2).f0)) ((rd_T53 l1 x33_2).f1)) ((rd_T53 l1 x33_2).f2)) = j_ := ⟨_, rfl⟩
             replace H : (impl_tightest.l1 k2 (x6_2.set (((rd_T53 l1 x33_2).f0) : Int).toNat ((rd_L6 x6_2 ((rd_T53 l1 x33_2).f0)).set (((rd_T53 l1 x33_2).f1) : Int).toNat (ji25))) l1 (l1.length : Int) (wrap64 (x33_2 + 1))) = some (r1, r2) := by first | (rw [hji25] at H; exact H) | (simp only [hji25] at H ⊢; exact H)
             have hji25_ : (if ((rd_T53 l1 x33_2).f2) < (rd (rd_L6 x6_2 ((rd_T53 l1 x33_2).f0)) ((rd_T53 l1 x33_2).f1)) then ((rd_T53 l1 x33_2).f2) else (rd (rd_L6 x6_2 ((rd_T53 l1 x33_2).f0)) ((rd_T53 l1 x33_2).f1))) = ji25 := hji25
             obtain ⟨y305, hy305⟩ : ∃ y_ : List Int, y_ = ((rd_L6 x6_2 ((rd_T53 l1 x33_2).f0)).set (((rd_T53 l1 x33_2).f1) : Int).toNat (ji25)) := ⟨_, rfl⟩
             replace H : (impl_tightest.l1 k2 (x6_2.set (((rd_T53 l1 x33_2).f0) : Int).toNat y305) l1 (l1.length : Int) (wrap64 (x33_2 + 1))) = some (r1, r2) := by first | (rw [hy305]; with_reducible exact H) | (have H2_ := (Option.bind_some _ _).symm.trans H; rw [hy305]; with_reducible exact H2_) | (have H2_ := (Option.bind_some _ _).symm.trans H; with_reducible exact H2_) | with_reducible exact H | (rw [hy305]; exact H) | exact H
             have Ny305 := Aside0.mk hy305
             clear hy305
             obtain ⟨y307, hy307⟩ : ∃ y_ : List (List Int), y_ = (x6_2.set (((rd_T53 l1 x33_2).f0) : Int).toNat y305) := ⟨_, rfl⟩
             replace H : (impl_tightest.l1 k2 y307 l1 (l1.length : Int) (wrap64 (x33_2 + 1))) = some (r1, r2) := by first | (rw [hy307]; with_reducible exact H) | (have H2_ := (Option.bind_some _ _).symm.trans H; rw [hy307]; with_reducible exact H2_) | (have H2_ := (Option.bind_some _ _).symm.trans H; with_reducible exact H2_) | with_reducible exact H | (rw [hy307]; exact H) | exact H
             have Ny307 := Aside0.mk hy307
             clear hy307
             have H' := Aside0.mk H
             clear H
             have p300 : 0 ≤ (x33_2 : Int) := of_decide_eq_true (by with_reducible assumption)
             have q300 : x33_2 < (l1.length : Int) := of_decide_eq_true (by with_reducible assumption)
             obtain ⟨ad300, e300, hx300_0, hx300_1, hx300_2⟩ := at_T53 HR1.out x33_2 p300 q300
             cases e300
             replace hx300_0 := (HB.out.cell (World.block_lt_of_cell? w _ hx300_0)).trans hx300_0
             replace hx300_1 := (HB.out.cell (World.block_lt_of_cell? w _ hx300_1)).trans hx300_1
             replace hx300_2 := (HB.out.cell (World.block_lt_of_cell? w _ hx300_2)).trans hx300_2
             replace p300 := eq_true p300
             replace q300 := eq_true q300
             try go_wp2_with (first | ((with_reducible refine gate_dst (N := 10) rfl ?_); refine box_event ?hg (N := 10) ?hd (cs := #[.int .i64 0, .int .i64 0, .int .i64 0]) (t := 53) ?hr ?_; (case hd => rfl); (case hg => rfl); (case hr => first | (go_simp; done) | (go_simp; rfl)); intro gb301 hg w27 hbox hb; have n0_ := Aside0.mk (Kd.S_below (by (with_reducible repeat (first | apply Kd.S_alloc | apply Kd.S_drewN | apply Kd.S_drew)); exact HO_6.out) hb); have n1_ := Aside0.mk (below_step (by repeat (first | (with_reducible first | exact HB.out | apply below_alloc | apply pw_below_drewN | apply below_drew1) | exact HB.out)) hb); have n2_ := Aside0.mk (hbox); have n3_ := Aside0.mk ((by rw [hg]; exact (below_size (by repeat (first | (with_reducible first | exact HB.out | apply below_alloc | apply pw_below_drewN | apply below_drew1) | exact HB.out))) : w.heap.size ≤ gb301)); have n4_ := Aside0.mk ((by rw [hg]; exact (below_size (by repeat (first | (with_reducible first | exact HB.out | apply below_alloc | apply pw_below_drewN | apply below_drew1) | exact HB.out))) : w.heap.size ≤ gb301)); clear HO_6; clear HB; have HO_6 := n0_; have HB := n1_; have BK301 := n2_; have GW301 := n3_; have GE301 := n4_; clear n0_ n1_ n2_ n3_ n4_; clear hb hbox hg; have hcz28_0 : w27.cell? ⟨gb301, 0, none⟩ = some (.int .i64 0) := (blk_cell BK301.out 0).trans rfl; have hcz28_1 : w27.cell? ⟨gb301, 1, none⟩ = some (.int .i64 0) := (blk_cell BK301.out 1).trans rfl; have hcz28_2 : w27.cell? ⟨gb301, 2, none⟩ = some (.int .i64 0) := (blk_cell BK301.out 2).trans rfl; have hfz28_0 := blk_frozen BK301.out 0; have hfz28_1 := blk_frozen BK301.out 1; have hfz28_2 := blk_frozen BK301.out 2))
             have n0_ : Aside0 (Kd.S (Kd.slice 2 (Kd.int .i64)) 26 (((w27.setCell ⟨gb301, 0, none⟩ (.int .i64 ((rd_T53 l1 x33_2).f0))).setCell ⟨gb301, 1, none⟩ (.int .i64 ((rd_T53 l1 x33_2).f1))).setCell ⟨gb301, 2, none⟩ (.int .i64 ((rd_T53 l1 x33_2).f2))) w.heap.size (fun _ => True) u6 x6_2) := ⟨by (with_reducible repeat (first | apply Kd.S_alloc | apply Kd.S_drewN | apply Kd.S_drew)); exact Kd.S_mono (Kd.S_far (p := ⟨gb301, 2, none⟩) (Kd.S_far (p := ⟨gb301, 1, none⟩) (Kd.S_far (p := ⟨gb301, 0, none⟩) (Kd.S_types HO_6.out BK301.out (by decide)) (fun _ hk => hk.2) (.int .i64 ((rd_T53 l1 x33_2).f0))) (fun _ hk => hk.2) (.int .i64 ((rd_T53 l1 x33_2).f1))) (fun _ hk => hk.2) (.int .i64 ((rd_T53 l1 x33_2).f2))) (fun _ hk => trivial)⟩
             have n1_ : Aside0 ((((w27.setCell ⟨gb301, 0, none⟩ (.int .i64 ((rd_T53 l1 x33_2).f0))).setCell ⟨gb301, 1, none⟩ (.int .i64 ((rd_T53 l1 x33_2).f1))).setCell ⟨gb301, 2, none⟩ (.int .i64 ((rd_T53 l1 x33_2).f2))).heap[gb301]? = some (.cells #[.int .i64 ((rd_T53 l1 x33_2).f0), .int .i64 ((rd_T53 l1 x33_2).f1), .int .i64 ((rd_T53 l1 x33_2).f2)] 53 (0, 0))) := ⟨by (with_reducible repeat (first | refine blk_drewN ?_ _ | refine blk_drew ?_ | refine blk_alloc ?_ _)); refine blk_put (cs := #[.int .i64 ((rd_T53 l1 x33_2).f0), .int .i64 ((rd_T53 l1 x33_2).f1), .int .i64 0]) ?_ 2 _ rfl; (with_reducible repeat (first | refine blk_drewN ?_ _ | refine blk_drew ?_ | refine blk_alloc ?_ _)); refine blk_put (cs := #[.int .i64 ((rd_T53 l1 x33_2).f0), .int .i64 0, .int .i64 0]) ?_ 1 _ rfl; (with_reducible repeat (first | refine blk_drewN ?_ _ | refine blk_drew ?_ | refine blk_alloc ?_ _)); refine blk_put (cs := #[.int .i64 0, .int .i64 0, .int .i64 0]) ?_ 0 _ rfl; (with_reducible repeat (first | refine blk_drewN ?_ _ | refine blk_drew ?_ | refine blk_alloc ?_ _)); exact BK301.out⟩
             have n2_ : Aside0 (Below w.heap.size w (((w27.setCell ⟨gb301, 0, none⟩ (.int .i64 ((rd_T53 l1 x33_2).f0))).setCell ⟨gb301, 1, none⟩ (.int .i64 ((rd_T53 l1 x33_2).f1))).setCell ⟨gb301, 2, none⟩ (.int .i64 ((rd_T53 l1 x33_2).f2)))) := ⟨by repeat (first | (with_reducible first | exact HB.out | apply below_alloc | apply pw_below_drewN | apply below_drew1 | refine below_set ?_ GE301.out) | exact HB.out)⟩
             (try clear HO_6)
             (try clear BK301)
             (try clear HB)
             generalize (((w27.setCell ⟨gb301, 0, none⟩ (.int .i64 ((rd_T53 l1 x33_2).f0))).setCell ⟨gb301, 1, none⟩ (.int .i64 ((rd_T53 l1 x33_2).f1))).setCell ⟨gb301, 2, none⟩ (.int .i64 ((rd_T53 l1 x33_2).f2))) = w29 at n0_ n1_ n2_ ⊢
             have HO_6 := n0_
             have BK301 := n1_
             have HB := n2_
             clear n0_ n1_ n2_
             have n0_ := Aside0.mk (Kd.S_drew HO_6.out)
             have n1_ := Aside0.mk (blk_drew BK301.out)
             have n2_ := Aside0.mk (below_drew1 HB.out)
             clear HO_6
             clear BK301
             clear HB
             have HO_6 := n0_
             have BK301 := n1_
             have HB := n2_
             clear n0_ n1_ n2_
             obtain ⟨Ao31, co31, eo31⟩ := Kd.S_slice HO_6.out
             (first | subst eo31 | (injection eo31 with f1_ f2_ f3_; have f4_ := f1_.symm; have f5_ := f3_.symm; clear f1_ f2_ f3_; subst f4_; subst f5_))
             have p302 : 0 ≤ (((rd_T53 l1 x33_2).f0) : Int) := of_decide_eq_true (by with_reducible assumption)
             have q302 : ((rd_T53 l1 x33_2).f0) < (x6_2.length : Int) := of_decide_eq_true (by with_reducible assumption)
             obtain ⟨ad302, A302_0, c302_0, e302, hx302_0, hl302_0, hi302_0⟩ := at_L6 (Kd.S_reads' HO_6.out).2.2 ((rd_T53 l1 x33_2).f0) p302 q302
             cases e302
             obtain ⟨ce302, hce302, hMe302, hcc302⟩ := Kd.S_get HO_6.out [] ((rd_T53 l1 x33_2).f0) p302 (by first | exact q302 | exact of_decide_eq_true (by with_reducible assumption) | (have e_ := (Kd.S_reads' HO_6.out).1; omega))
             obtain ⟨ve302_0, rfl, ge302_0⟩ := hMe302
             have hv302_0 := hcc302 0 _ rfl
             rw [Nat.add_zero, show ((Kd.slice 2 (Kd.int .i64))).sz = 1 from rfl, Nat.mul_one] at hv302_0
             replace hv302_0 := Option.some.inj (hv302_0.symm.trans hx302_0)
             rw [hv302_0] at ge302_0
             have HL302_0 := Aside0.mk (show Kd.R (Kd.int .i64) 2 _ _ _ _ (rd_L6 x6_2 ((rd_T53 l1 x33_2).f0)) from ge302_0)
             clear hv302_0 ge302_0
             have HX302_0 := Aside0.mk hx302_0
             clear hcc302 hce302
             have HR302_0 := Aside0.mk hi302_0
             have HC302_0 := Aside0.mk hl302_0
             clear hi302_0 hl302_0
             replace p302 := eq_true p302
             replace q302 := eq_true q302
             have p303 : 0 ≤ (((rd_T53 l1 x33_2).f0) : Int) := of_decide_eq_true (by with_reducible assumption)
             have q303 : ((rd_T53 l1 x33_2).f0) < (x6_2.length : Int) := of_decide_eq_true (by with_reducible assumption)
             obtain ⟨ad303, A303_0, c303_0, e303, hx303_0, hl303_0, hi303_0⟩ := at_L6 (Kd.S_reads' HO_6.out).2.2 ((rd_T53 l1 x33_2).f0) p303 q303
             obtain rfl : ad302 = ad303 := (by injection e303)
             obtain ⟨ce303, hce303, hMe303, hcc303⟩ := Kd.S_get HO_6.out [] ((rd_T53 l1 x33_2).f0) p303 (by first | exact q303 | exact of_decide_eq_true (by with_reducible assumption) | (have e_ := (Kd.S_reads' HO_6.out).1; omega))
             obtain ⟨ve303_0, rfl, ge303_0⟩ := hMe303
             have hv303_0 := hcc303 0 _ rfl
             rw [Nat.add_zero, show ((Kd.slice 2 (Kd.int .i64))).sz = 1 from rfl, Nat.mul_one] at hv303_0
             replace hv303_0 := Option.some.inj (hv303_0.symm.trans hx303_0)
             rw [hv303_0] at ge303_0
             have HL303_0 := Aside0.mk (show Kd.R (Kd.int .i64) 2 _ _ _ _ (rd_L6 x6_2 ((rd_T53 l1 x33_2).f0)) from ge303_0)
             clear hv303_0 ge303_0
             have HX303_0 := Aside0.mk hx303_0
             clear hcc303 hce303
             have HR303_0 := Aside0.mk hi303_0
             have HC303_0 := Aside0.mk hl303_0
             clear hi303_0 hl303_0
             replace p303 := eq_true p303
             replace q303 := eq_true q303
             have ea_ := Option.some.inj (hx302_0.symm.trans hx303_0)
             injection ea_ with ea_ en_ ec_
             subst ea_
             subst ec_
             clear en_
             have p304 : 0 ≤ (((rd_T53 l1 x33_2).f1) : Int) := of_decide_eq_true (by with_reducible assumption)
             have q304 : ((rd_T53 l1 x33_2).f1) < ((rd_L6 x6_2 ((rd_T53 l1 x33_2).f0)).length : Int) := of_decide_eq_true (by with_reducible assumption)
             obtain ⟨ad304, e304, hx304_0⟩ := Kd.at_int (by repeat (first | (with_reducible exact HR303_0.out) | (with_reducible refine Kd.C_alloc ?_ _) | (with_reducible refine Kd.C_drewN ?_ _) | (with_reducible refine Kd.C_drew ?_) | exact HR303_0.out)) ((rd_T53 l1 x33_2).f1) p304 q304
             cases e304
             replace p304 := eq_true p304
             replace q304 := eq_true q304
             have p26 : 0 ≤ (((rd_T53 l1 x33_2).f1) : Int) := of_decide_eq_true (by with_reducible assumption)
             have q26 : (((rd_T53 l1 x33_2).f1) : Int) < (((rd_L6 x6_2 ((rd_T53 l1 x33_2).f0)).length : Int) : Int) := of_decide_eq_true (by with_reducible assumption)
             obtain ⟨go26, co26, eo26, gb26, gl26, cl26, HG26⟩ := Kd.R_form HL302_0.out (by omega)
             (first | cases eo26 | (injection eo26 with ea_ en_ ec_; (first | subst ea_ | (injection ea_ with ea_; subst ea_)); subst ec_; clear en_))
             have GB26 := Aside0.mk gb26
             have GG26 := Aside0.mk HG26
             clear gb26 gl26 HG26
             (first | simp only [add_plain] at hx304_0 | skip)
             obtain ⟨hx26_0, hf26_0⟩ := Kd.R_celln 0 HL302_0.out (((rd_T53 l1 x33_2).f1) : Int) p26 q26
             replace p26 := eq_true p26
             replace q26 := eq_true q26
             have hq32 : (((rd_T53 l1 x33_2).f0) : Int) < (x6_2.length : Int) := (by have h_ : (((rd_T53 l1 x33_2).f0) : Int) < ((x6_2.length : Int) : Int) := of_decide_eq_true (by with_reducible assumption); first | exact h_ | (have e_ := (Kd.S_reads' HO_6.out).1; omega) | simpa only [List.length_set, List.length_set] using h_)
             obtain ⟨oki32, ce32, hcl32, hM32, hcc32, hok32, hbk32⟩ := Kd.S_borrow HO_6.out [] (((rd_T53 l1 x33_2).f0) : Int) (of_decide_eq_true (by with_reducible assumption)) hq32
             obtain ⟨ve32_0, rfl, ge32_0⟩ := hM32
             have hv32 := hcc32 0 _ rfl
             rw [Nat.add_zero, show ((Kd.slice 2 (Kd.int .i64))).sz = 1 from rfl, Nat.mul_one] at hv32
             replace hv32 := Option.some.inj (hv32.symm.trans HX302_0.out)
             subst hv32
             clear hcc32 hcl32
             replace ge32_0 := (show Kd.R (Kd.int .i64) 2 _ _ _ _ (rd_L6 x6_2 ((rd_T53 l1 x33_2).f0)) from ge32_0)
             have HP32 := Kd.R_putg ge32_0 (((rd_T53 l1 x33_2).f1) : Int) ji25
             rw [← Ny305.out] at HP32
             have HS32 := hbk32 HP32.2 (fun k_ e_ => by injection e_ with e_; subst e_; exact ge32_0.1 _ rfl) (x' := y305) (Kd.M_row HP32.1)
             rw [← Ny307.out] at HS32
             have HQ32 := Aside0.mk HS32
             clear HP32 HS32 hbk32 hok32
             refine start_ (n := 21) (S := fun w' => w'.cell? ⟨gb301, 0, none⟩ = some (.int .i64 ((rd_T53 l1 x33_2).f0)) ∧ w'.cell? ⟨gb301, 1, none⟩ = some (.int .i64 ((rd_T53 l1 x33_2).f1)) ∧ w'.cell? ⟨gb301, 2, none⟩ = some (.int .i64 ((rd_T53 l1 x33_2).f2)) ∧ w'.cell? (ad302.add (((rd_T53 l1 x33_2).f0)).toNat) = some (.slice (some (⟨go26, 0, none⟩ : Addr)) (rd_L6 x6_2 ((rd_T53 l1 x33_2).f0)).length c302_0) ∧ w'.cell? (ad302.add (((rd_T53 l1 x33_2).f0)).toNat) = some (.slice (some (⟨go26, 0, none⟩ : Addr)) (rd_L6 x6_2 ((rd_T53 l1 x33_2).f0)).length c302_0) ∧ w'.cell? ((⟨go26, (((rd_T53 l1 x33_2).f1)).toNat, none⟩ : Addr)) = some (.int .i64 (rd (rd_L6 x6_2 ((rd_T53 l1 x33_2).f0)) ((rd_T53 l1 x33_2).f1)))) (ds := [20]) #[false, false, false, false, false, false, false, false, false, false, false, false, false, false, false, false, false, false, false, false, false] (by kernel_rfl) rfl rfl ⟨(blk_cell BK301.out 0).trans rfl, (blk_cell BK301.out 1).trans rfl, (blk_cell BK301.out 2).trans rfl, hx302_0, hx303_0, hx304_0⟩ (fun hHeld => ?_); refine with_tabW impl_tightest.tab12 impl_tightest.bits12 (fun HT_ HW_ => ?_)
             generalize w29.drew = w30 at HO_6 BK301 HB GG26 HL302_0 HL303_0 HQ32 HR302_0 HR303_0 HX302_0 HX303_0 hf26_0 hx26_0 hx302_0 hx303_0 hx304_0 hHeld ⊢
             refine pure_ (i := 0) (N := some 37) (v := ?_) (a' := ?_) #[true, false, false, false, false, false, false, false, false, false, false, false, false, false, false, false, false, false, false, false, false] rfl rfl (any_of HT_.out (by kernel_rfl)) (fun _ _ _ h => h) (Or.inl ⟨by rfl, ?_⟩) ?_ ?_
             rotate_left
             ·intro w'
              go_simp
              with_reducible rfl
             rotate_left
             ·simp only [Act.put, List.setIfInBounds_toArray, List.set_cons_zero, List.set_cons_succ, i64_w, i32_w]
              rfl
             refine pure_ (i := 1) (N := some 38) (v := ?_) (a' := ?_) #[true, true, false, false, false, false, false, false, false, false, false, false, false, false, false, false, false, false, false, false, false] rfl rfl (any_of HT_.out (by kernel_rfl)) (fun _ _ _ h => h) (Or.inl ⟨by rfl, ?_⟩) ?_ ?_
             rotate_left
             ·intro w'
              go_simp
              with_reducible rfl
             rotate_left
             ·simp only [Act.put, List.setIfInBounds_toArray, List.set_cons_zero, List.set_cons_succ, i64_w, i32_w]
              rfl
             refine pure_ (i := 5) (N := some 42) (v := ?_) (a' := ?_) #[true, true, false, false, false, true, false, false, false, false, false, false, false, false, false, false, false, false, false, false, false] rfl rfl (any_of HT_.out (by kernel_rfl)) (fun _ _ _ h => h) (Or.inl ⟨by rfl, ?_⟩) ?_ ?_
             rotate_left
             ·intro w'
              go_simp
              with_reducible rfl
             rotate_left
             ·simp only [Act.put, List.setIfInBounds_toArray, List.set_cons_zero, List.set_cons_succ, i64_w, i32_w]
              rfl
             refine pure_ (i := 7) (N := some 44) (v := ?_) (a' := ?_) #[true, true, false, false, false, true, false, true, false, false, false, false, false, false, false, false, false, false, false, false, false] rfl rfl (any_of HT_.out (by kernel_rfl)) (fun _ _ _ h => h) (Or.inl ⟨by rfl, ?_⟩) ?_ ?_
             rotate_left
             ·intro w'
              go_simp
              with_reducible rfl
             rotate_left
             ·simp only [Act.put, List.setIfInBounds_toArray, List.set_cons_zero, List.set_cons_succ, i64_w, i32_w]
              rfl
             refine pure_ (i := 8) (N := some 45) (v := ?_) (a' := ?_) #[true, true, false, false, false, true, false, true, true, false, false, false, false, false, false, false, false, false, false, false, false] rfl rfl (any_of HT_.out (by kernel_rfl)) (fun _ _ _ h => h) (Or.inl ⟨by rfl, ?_⟩) ?_ ?_
             rotate_left
             ·intro w'
              go_simp
              with_reducible rfl
             rotate_left
             ·simp only [Act.put, List.setIfInBounds_toArray, List.set_cons_zero, List.set_cons_succ, i64_w, i32_w]
              rfl
             refine pure_ (i := 12) (N := some 49) (v := ?_) (a' := ?_) #[true, true, false, false, false, true, false, true, true, false, false, false, true, false, false, false, false, false, false, false, false] rfl rfl (any_of HT_.out (by kernel_rfl)) (fun _ _ _ h => h) (Or.inl ⟨by rfl, ?_⟩) ?_ ?_
             rotate_left
             ·intro w'
              go_simp
              with_reducible rfl
             rotate_left
             ·simp only [Act.put, List.setIfInBounds_toArray, List.set_cons_zero, List.set_cons_succ, i64_w, i32_w]
              rfl
             refine pure_ (i := 16) (N := some 53) (v := ?_) (a' := ?_) #[true, true, false, false, false, true, false, true, true, false, false, false, true, false, false, false, true, false, false, false, false] rfl rfl (any_of HT_.out (by kernel_rfl)) (fun _ _ _ h => h) (Or.inl ⟨by rfl, ?_⟩) ?_ ?_
             rotate_left
             ·intro w'
              go_simp
              with_reducible rfl
             rotate_left
             ·simp only [Act.put, List.setIfInBounds_toArray, List.set_cons_zero, List.set_cons_succ, i64_w, i32_w]
              rfl
             refine take_ (i := 2) (N := some 39) (v := ?_) (a' := ?_) #[true, true, true, false, false, true, false, true, true, false, false, false, true, false, false, false, true, false, false, false, false] rfl rfl (take_ofW HT_.out HW_.out (by kernel_rfl)) (fun _ _ _ h => h) (Or.inl ⟨by rfl, ?_⟩) hHeld ?_ ?_
             rotate_left
             ·rintro w' ⟨s0, s1, s2, s3, s4, s5⟩
              go_simp
              with_reducible rfl
             rotate_left
             ·simp only [Act.put, List.setIfInBounds_toArray, List.set_cons_zero, List.set_cons_succ, i64_w, i32_w]
              rfl
             refine pure_ (i := 3) (N := some 40) (v := ?_) (a' := ?_) #[true, true, true, true, false, true, false, true, true, false, false, false, true, false, false, false, true, false, false, false, false] rfl rfl (any_of HT_.out (by kernel_rfl)) (fun _ _ _ h => h) (Or.inl ⟨by rfl, ?_⟩) ?_ ?_
             rotate_left
             ·intro w'
              go_simp
              with_reducible rfl
             rotate_left
             ·simp only [Act.put, List.setIfInBounds_toArray, List.set_cons_zero, List.set_cons_succ, i64_w, i32_w]
              rfl
             refine take_ (i := 4) (N := some 41) (v := ?_) (a' := ?_) #[true, true, true, true, true, true, false, true, true, false, false, false, true, false, false, false, true, false, false, false, false] rfl rfl (take_ofW HT_.out HW_.out (by kernel_rfl)) (fun _ _ _ h => h) (Or.inl ⟨by rfl, ?_⟩) hHeld ?_ ?_
             rotate_left
             ·rintro w' ⟨s0, s1, s2, s3, s4, s5⟩
              go_simp
              with_reducible rfl
             rotate_left
             ·simp only [Act.put, List.setIfInBounds_toArray, List.set_cons_zero, List.set_cons_succ, i64_w, i32_w]
              rfl
             refine take_ (i := 6) (N := some 43) (v := ?_) (a' := ?_) #[true, true, true, true, true, true, true, true, true, false, false, false, true, false, false, false, true, false, false, false, false] rfl rfl (take_ofW HT_.out HW_.out (by kernel_rfl)) (fun _ _ _ h => h) (Or.inl ⟨by rfl, ?_⟩) hHeld ?_ ?_
             rotate_left
             ·rintro w' ⟨s0, s1, s2, s3, s4, s5⟩
              go_simp
              with_reducible rfl
             rotate_left
             ·simp only [Act.put, List.setIfInBounds_toArray, List.set_cons_zero, List.set_cons_succ, i64_w, i32_w]
              rfl
             refine take_ (i := 9) (N := some 46) (v := ?_) (a' := ?_) #[true, true, true, true, true, true, true, true, true, true, false, false, true, false, false, false, true, false, false, false, false] rfl rfl (take_ofW HT_.out HW_.out (by kernel_rfl)) (fun _ _ _ h => h) (Or.inl ⟨by rfl, ?_⟩) hHeld ?_ ?_
             rotate_left
             ·rintro w' ⟨s0, s1, s2, s3, s4, s5⟩
              go_simp
              with_reducible rfl
             rotate_left
             ·simp only [Act.put, List.setIfInBounds_toArray, List.set_cons_zero, List.set_cons_succ, i64_w, i32_w]
              rfl
             refine pure_ (i := 10) (N := some 47) (v := ?_) (a' := ?_) #[true, true, true, true, true, true, true, true, true, true, true, false, true, false, false, false, true, false, false, false, false] rfl rfl (any_of HT_.out (by kernel_rfl)) (fun _ _ _ h => h) (Or.inl ⟨by rfl, ?_⟩) ?_ ?_
             rotate_left
             ·intro w'
              go_simp
              with_reducible rfl
             rotate_left
             ·simp only [Act.put, List.setIfInBounds_toArray, List.set_cons_zero, List.set_cons_succ, i64_w, i32_w]
              rfl
             refine take_ (i := 11) (N := some 48) (v := ?_) (a' := ?_) #[true, true, true, true, true, true, true, true, true, true, true, true, true, false, false, false, true, false, false, false, false] rfl rfl (take_ofW HT_.out HW_.out (by kernel_rfl)) (fun _ _ _ h => h) (Or.inl ⟨by rfl, ?_⟩) hHeld ?_ ?_
             rotate_left
             ·rintro w' ⟨s0, s1, s2, s3, s4, s5⟩
              go_simp
              with_reducible rfl
             rotate_left
             ·simp only [Act.put, List.setIfInBounds_toArray, List.set_cons_zero, List.set_cons_succ, i64_w, i32_w]
              rfl
             refine take_ (i := 13) (N := some 50) (v := ?_) (a' := ?_) #[true, true, true, true, true, true, true, true, true, true, true, true, true, true, false, false, true, false, false, false, false] rfl rfl (take_ofW HT_.out HW_.out (by kernel_rfl)) (fun _ _ _ h => h) (Or.inl ⟨by rfl, ?_⟩) hHeld ?_ ?_
             rotate_left
             ·rintro w' ⟨s0, s1, s2, s3, s4, s5⟩
              go_simp
              with_reducible rfl
             rotate_left
             ·simp only [Act.put, List.setIfInBounds_toArray, List.set_cons_zero, List.set_cons_succ, i64_w, i32_w]
              rfl
             refine pure_ (i := 14) (N := some 51) (v := ?_) (a' := ?_) #[true, true, true, true, true, true, true, true, true, true, true, true, true, true, true, false, true, false, false, false, false] rfl rfl (any_of HT_.out (by kernel_rfl)) (fun _ _ _ h => h) (Or.inl ⟨by rfl, ?_⟩) ?_ ?_
             rotate_left
             ·intro w'
              go_simp
              with_reducible rfl
             rotate_left
             ·simp only [Act.put, List.setIfInBounds_toArray, List.set_cons_zero, List.set_cons_succ, i64_w, i32_w]
              rfl
             refine take_ (i := 15) (N := some 52) (v := ?_) (a' := ?_) #[true, true, true, true, true, true, true, true, true, true, true, true, true, true, true, true, true, false, false, false, false] rfl rfl (take_ofW HT_.out HW_.out (by kernel_rfl)) (fun _ _ _ h => h) (Or.inl ⟨by rfl, ?_⟩) hHeld ?_ ?_
             rotate_left
             ·rintro w' ⟨s0, s1, s2, s3, s4, s5⟩
              go_simp
              with_reducible rfl
             rotate_left
             ·simp only [Act.put, List.setIfInBounds_toArray, List.set_cons_zero, List.set_cons_succ, i64_w, i32_w]
              rfl
             refine take_ (i := 17) (N := some 54) (v := ?_) (a' := ?_) #[true, true, true, true, true, true, true, true, true, true, true, true, true, true, true, true, true, true, false, false, false] rfl rfl (take_ofW HT_.out HW_.out (by kernel_rfl)) (fun _ _ _ h => h) (Or.inl ⟨by rfl, ?_⟩) hHeld ?_ ?_
             rotate_left
             ·rintro w' ⟨s0, s1, s2, s3, s4, s5⟩
              go_simp
              with_reducible rfl
             rotate_left
             ·simp only [Act.put, List.setIfInBounds_toArray, List.set_cons_zero, List.set_cons_succ, i64_w, i32_w]
              rfl
             refine pure_ (i := 18) (N := some 55) (v := ?_) (a' := ?_) #[true, true, true, true, true, true, true, true, true, true, true, true, true, true, true, true, true, true, true, false, false] rfl rfl (any_of HT_.out (by kernel_rfl)) (fun _ _ _ h => h) (Or.inl ⟨by rfl, ?_⟩) ?_ ?_
             rotate_left
             ·intro w'
              go_simp
              with_reducible rfl
             rotate_left
             ·simp only [Act.put, List.setIfInBounds_toArray, List.set_cons_zero, List.set_cons_succ, i64_w, i32_w]
              rfl
             refine pure_ (i := 19) (N := some 56) (v := ?_) (a' := ?_) #[true, true, true, true, true, true, true, true, true, true, true, true, true, true, true, true, true, true, true, true, false] rfl rfl (any_of HT_.out (by kernel_rfl)) (fun _ _ _ h => h) (Or.inl ⟨by rfl, ?_⟩) ?_ ?_
             rotate_left
             ·intro w'
              go_simp
              with_reducible rfl
             rotate_left
             ·simp only [Act.put, List.setIfInBounds_toArray, List.set_cons_zero, List.set_cons_succ, i64_w, i32_w]
              rfl
             refine last_ (i := 20) (N := none) #[true, true, true, true, true, true, true, true, true, true, true, true, true, true, true, true, true, true, true, true, true] rfl rfl (one_of HT_.out (by kernel_rfl)) (by decide) (fun K hK => ?_)
             refine skip_ (w1 := ?_) (by rfl) rfl ?_ ?_
             rotate_left
             ·go_simp
              rfl
             refine hK.out _ _ ?_
             clear hK K
             refine done_ (done_of HT_.out (by kernel_rfl)) ?_
             try go_wp2
             go_roundg k2
             case measure => have := HK1.out; have := HK2.out; omega
             case rel => exact ⟨(y307), (wrap64 (x33_2 + 1)), (by first | rfl | (simp; done) | (simp [*]; done)), H', ⟨by have := HK1.out; have := HK2.out; omega⟩, ⟨by (with_reducible repeat (first | apply Kd.S_alloc | apply Kd.S_drewN | apply Kd.S_drew)); exact HQ32.out⟩, ⟨by repeat (first | (with_reducible first | exact HB.out | apply below_alloc | apply pw_below_drewN | apply below_drew1 | refine below_set ?_ GB26.out | refine below_set ?_ GE301.out) | exact HB.out)⟩⟩
            ·rw [if_neg c24] at H
             exact absurd H (by simp)
           ·rw [if_neg c23] at H
            exact absurd H (by simp)
          ·rw [if_neg c22] at H
           exact absurd H (by simp)
         ·rw [if_neg c21] at H
          exact absurd H (by simp)
        ·rw [if_neg c20] at H
         exact absurd H (by simp)
       ·rw [if_neg c19] at H
        exact absurd H (by simp)
      ·rw [if_neg c18] at H
       have c18b0 : decide (x33_2 < (l1.length : Int)) = false := decide_eq_false c18
       clear c18
       have H' := Aside0.mk H
       clear H
       obtain ⟨Ao34, co34, eo34⟩ := Kd.S_slice HO_6.out
       subst eo34
       go_wp2
       go_loopg [60] k2 (fun kq v60 w' => ∃ (x6_3 : List (List Int)) (x60_3 : Int), v60 = .int .i64 x60_3 ∧ Aside0 (impl_tightest.l2 kq x6_3 (x6_2.length : Int) x60_3 = some (r1, r2)) ∧ Aside0 (kq ≤ k2) ∧ Aside0 (Kd.S (Kd.slice 2 (Kd.int .i64)) 26 w' w.heap.size (fun _ => True) (.slice Ao34 x6_2.length co34) x6_3) ∧ Aside0 (Below w.heap.size w w'))
       case atStart => exact ⟨(x6_2), (0), (by first | rfl | (simp; done) | (simp [*]; done)), H', ⟨Nat.le_refl _⟩, ⟨by (with_reducible repeat (first | apply Kd.S_alloc | apply Kd.S_drewN | apply Kd.S_drew)); exact HO_6.out⟩, ⟨by repeat (first | (with_reducible first | exact HB.out | apply below_alloc | apply pw_below_drewN | apply below_drew1) | exact HB.out)⟩⟩
       case round =>
        clear H'
        try clear c1
        try clear c2
        try clear p2
        try clear q2
        try clear hx2
        try clear hf2
        try clear c3
        try clear p3
        try clear q3
        try clear hx3
        try clear c4
        try clear c5
        try clear c5b0
        try clear p6
        try clear c7
        try clear c7b0
        try clear c8
        try clear c8b0
        try clear p9
        try clear q9
        try clear hx9
        try clear hf9
        try clear c10
        try clear c18
        try clear c18b0
        try clear c19
        try clear c19b0
        try clear c20
        try clear c20b0
        try clear c21
        try clear c21b0
        try clear c22
        try clear c22b0
        try clear c23
        try clear c23b0
        try clear c24
        try clear c24b0
        try clear p26
        try clear q26
        try clear hx26
        try clear hf26
        try clear c30
        try clear p30
        try clear q30
        try clear hx30
        try clear c32
        try clear q32
        try clear hcz28_0
        try clear hcz28_1
        try clear hcz28_2
        try clear hfz28_0
        try clear hfz28_1
        try clear hfz28_2
        try clear hx26_0
        try clear hx300_0
        try clear hx300_1
        try clear hx300_2
        try clear hx302_0
        try clear hx303_0
        try clear hx304_0
        try clear hx9_0
        try clear p2
        try clear p26
        try clear p300
        try clear p302
        try clear p303
        try clear p304
        try clear p6
        try clear p9
        try clear q26
        try clear q300
        try clear q302
        try clear q303
        try clear q304
        try clear q9
        obtain ⟨x6_3, x60_3, rfl, HA, HK3, HO_6, HB⟩ := hrel
        have hl6_3 := (Kd.S_reads' HO_6.out).1
        rw [hl6_3] at HO_6
        (try simp only [hl6_3])
        cases gk with
        | zero => exact absurd HA.out (by simp [impl_tightest.l2])
        | succ k3 =>
         have H := HA.out
         clear HA
         simp only [impl_tightest.l2] at H
         by_cases c35 : x60_3 < (x6_2.length : Int)
         ·rw [if_pos c35] at H
          have c35b0 : decide (x60_3 < (x6_2.length : Int)) = true := decide_eq_true c35
          have c35b0l := c35b0; (try simp only [hl6_3] at c35b0l)
          clear c35
          have H' := Aside0.mk H
          clear H
          go_wp2
          go_loopg [65] k3 (fun kq v65 w' => ∃ (x6_4 : List (List Int)) (x65_4 : Int), v65 = .int .i64 x65_4 ∧ Aside0 (impl_tightest.l3 kq x6_4 x60_3 (x6_2.length : Int) x60_3 (x6_3.length : Int) x65_4 = some (r1, r2)) ∧ Aside0 (kq ≤ k3) ∧ Aside0 (Kd.S (Kd.slice 2 (Kd.int .i64)) 26 w' w.heap.size (fun _ => True) (.slice Ao34 x6_3.length co34) x6_4) ∧ Aside0 (Below w.heap.size w w'))
          case atStart => exact ⟨(x6_3), (0), (by first | rfl | (simp; done) | (simp [*]; done)), H', ⟨Nat.le_refl _⟩, ⟨by (try simp only [hl6_3]); (with_reducible repeat (first | apply Kd.S_alloc | apply Kd.S_drewN | apply Kd.S_drew)); exact HO_6.out⟩, ⟨by repeat (first | (with_reducible first | exact HB.out | apply below_alloc | apply pw_below_drewN | apply below_drew1) | exact HB.out)⟩⟩
          case round =>
           clear H'
           try clear c1
           try clear c2
           try clear p2
           try clear q2
           try clear hx2
           try clear hf2
           try clear c3
           try clear p3
           try clear q3
           try clear hx3
           try clear c4
           try clear c5
           try clear c5b0
           try clear p6
           try clear c7
           try clear c7b0
           try clear c8
           try clear c8b0
           try clear p9
           try clear q9
           try clear hx9
           try clear hf9
           try clear c10
           try clear c18
           try clear c18b0
           try clear c19
           try clear c19b0
           try clear c20
           try clear c20b0
           try clear c21
           try clear c21b0
           try clear c22
           try clear c22b0
           try clear c23
           try clear c23b0
           try clear c24
           try clear c24b0
           try clear p26
           try clear q26
           try clear hx26
           try clear hf26
           try clear c30
           try clear p30
           try clear q30
           try clear hx30
           try clear c32
           try clear q32
           try clear c35
           try clear c35b0
           try clear hcz28_0
           try clear hcz28_1
           try clear hcz28_2
           try clear hfz28_0
           try clear hfz28_1
           try clear hfz28_2
           try clear hx26_0
           try clear hx300_0
           try clear hx300_1
           try clear hx300_2
           try clear hx302_0
           try clear hx303_0
           try clear hx304_0
           try clear hx9_0
           try clear p2
           try clear p26
           try clear p3
           try clear p30
           try clear p300
           try clear p302
           try clear p303
           try clear p304
           try clear p6
           try clear p9
           try clear q2
           try clear q26
           try clear q3
           try clear q30
           try clear q300
           try clear q302
           try clear q303
           try clear q304
           try clear q32
           try clear q9
           obtain ⟨x6_4, x65_4, rfl, HA, HK4, HO_6, HB⟩ := hrel
           have hl6_4 := (Kd.S_reads' HO_6.out).1
           rw [hl6_4] at HO_6
           (try simp only [hl6_4])
           cases gk with
           | zero => exact absurd HA.out (by simp [impl_tightest.l3])
           | succ k4 =>
            have H := HA.out
            clear HA
            simp only [impl_tightest.l3] at H
            by_cases c36 : x65_4 < (x6_3.length : Int)
            ·rw [if_pos c36] at H
             have c36b0 : decide (x65_4 < (x6_3.length : Int)) = true := decide_eq_true c36
             have c36b0l := c36b0; (try simp only [hl6_4] at c36b0l)
             clear c36
             have H' := Aside0.mk H
             clear H
             go_wp2
             go_loopg [70] k4 (fun kq v70 w' => ∃ (x6_5 : List (List Int)) (x70_5 : Int), v70 = .int .i64 x70_5 ∧ Aside0 (impl_tightest.l4 kq x6_5 x60_3 x65_4 (x6_2.length : Int) x60_3 (x6_3.length : Int) x65_4 (x6_4.length : Int) x70_5 = some (r1, r2)) ∧ Aside0 (kq ≤ k4) ∧ Aside0 (Kd.S (Kd.slice 2 (Kd.int .i64)) 26 w' w.heap.size (fun _ => True) (.slice Ao34 x6_4.length co34) x6_5) ∧ Aside0 (Below w.heap.size w w'))
             case atStart => exact ⟨(x6_4), (0), (by first | rfl | (simp; done) | (simp [*]; done)), H', ⟨Nat.le_refl _⟩, ⟨by (try simp only [hl6_3]); (try simp only [hl6_4]); (with_reducible repeat (first | apply Kd.S_alloc | apply Kd.S_drewN | apply Kd.S_drew)); exact HO_6.out⟩, ⟨by repeat (first | (with_reducible first | exact HB.out | apply below_alloc | apply pw_below_drewN | apply below_drew1) | exact HB.out)⟩⟩
             case round =>
              clear H'
              try clear c1
              try clear c2
              try clear p2
              try clear q2
              try clear hx2
              try clear hf2
              try clear c3
              try clear p3
              try clear q3
              try clear hx3
              try clear c4
              try clear c5
              try clear c5b0
              try clear p6
              try clear c7
              try clear c7b0
              try clear c8
              try clear c8b0
              try clear p9
              try clear q9
              try clear hx9
              try clear hf9
              try clear c10
              try clear c18
              try clear c18b0
              try clear c19
              try clear c19b0
              try clear c20
              try clear c20b0
              try clear c21
              try clear c21b0
              try clear c22
              try clear c22b0
              try clear c23
              try clear c23b0
              try clear c24
              try clear c24b0
              try clear p26
              try clear q26
              try clear hx26
              try clear hf26
              try clear c30
              try clear p30
              try clear q30
              try clear hx30
              try clear c32
              try clear q32
              try clear c35
              try clear c35b0
              try clear c36
              try clear c36b0
              try clear hcz28_0
              try clear hcz28_1
              try clear hcz28_2
              try clear hfz28_0
              try clear hfz28_1
              try clear hfz28_2
              try clear hx26_0
              try clear hx300_0
              try clear hx300_1
              try clear hx300_2
              try clear hx302_0
              try clear hx303_0
              try clear hx304_0
              try clear hx9_0
              try clear p2
              try clear p26
              try clear p3
              try clear p30
              try clear p300
              try clear p302
              try clear p303
              try clear p304
              try clear p6
              try clear p9
              try clear q2
              try clear q26
              try clear q3
              try clear q30
              try clear q300
              try clear q302
              try clear q303
              try clear q304
              try clear q32
              try clear q9
              obtain ⟨x6_5, x70_5, rfl, HA, HK5, HO_6, HB⟩ := hrel
              have hl6_5 := (Kd.S_reads' HO_6.out).1
              rw [hl6_5] at HO_6
              (try simp only [hl6_5])
              cases gk with
              | zero => exact absurd HA.out (by simp [impl_tightest.l4])
              | succ k5 =>
               have H := HA.out
               clear HA
               simp only [impl_tightest.l4] at H
               by_cases c37 : x70_5 < (x6_4.length : Int)
               ·rw [if_pos c37] at H
                have c37b0 : decide (x70_5 < (x6_4.length : Int)) = true := decide_eq_true c37
                have c37b0l := c37b0; (try simp only [hl6_5] at c37b0l)
                clear c37
                by_cases c38 : 0 ≤ x65_4
                ·rw [if_pos c38] at H
                 have c38b0 : decide (0 ≤ x65_4) = true := decide_eq_true c38
                 clear c38
                 by_cases c39 : x65_4 < (x6_5.length : Int)
                 ·rw [if_pos c39] at H
                  have c39b0 : decide (x65_4 < (x6_5.length : Int)) = true := decide_eq_true c39
                  clear c39
                  by_cases c40 : 0 ≤ x60_3
                  ·rw [if_pos c40] at H
                   have c40b0 : decide (0 ≤ x60_3) = true := decide_eq_true c40
                   clear c40
                   by_cases c41 : x60_3 < ((rd_L6 x6_5 x65_4).length : Int)
                   ·rw [if_pos c41] at H
                    have c41b0 : decide (x60_3 < ((rd_L6 x6_5 x65_4).length : Int)) = true := decide_eq_true c41
                    clear c41
                    by_cases c42 : (rd (rd_L6 x6_5 x65_4) x60_3) < 1000000
                    ·rw [if_pos c42] at H
                     have c42b0 : decide ((rd (rd_L6 x6_5 x65_4) x60_3) < 1000000) = true := decide_eq_true c42
                     clear c42
                     by_cases c43 : x60_3 < (x6_5.length : Int)
                     ·rw [if_pos c43] at H
                      have c43b0 : decide (x60_3 < (x6_5.length : Int)) = true := decide_eq_true c43
                      clear c43
                      by_cases c44 : 0 ≤ x70_5
                      ·rw [if_pos c44] at H
                       have c44b0 : decide (0 ≤ x70_5) = true := decide_eq_true c44
                       clear c44
                       by_cases c45 : x70_5 < ((rd_L6 x6_5 x60_3).length : Int)
                       ·rw [if_pos c45] at H
                        have c45b0 : decide (x70_5 < ((rd_L6 x6_5 x60_3).length : Int)) = true := decide_eq_true c45
                        clear c45
                        by_cases c46 : (rd (rd_L6 x6_5 x60_3) x70_5) < 1000000
                        ·rw [if_pos c46] at H
                         have c46b0 : decide ((rd (rd_L6 x6_5 x60_3) x70_5) < 1000000) = true := decide_eq_true c46
                         clear c46
                         by_cases c47 : x70_5 < ((rd_L6 x6_5 x65_4).length : Int)
                         ·rw [if_pos c47] at H
                          have c47b0 : decide (x70_5 < ((rd_L6 x6_5 x65_4).length : Int)) = true := decide_eq_true c47
                          clear c47
                          obtain ⟨ji48, hji48⟩ : ∃ j_ : Int, (mn (rd (rd_L6 x6_5 x65_4) x70_5) (wrap64 ((rd (rd_L6 x6_5 x65_4) x60_3) + (rd (rd_L6 x6_5 x60_3) x70_5)))) = j_ := ⟨_, rfl⟩
                          replace H : (impl_tightest.l4 k5 (x6_5.set (x65_4 : Int).toNat ((rd_L6 x6_5 x65_4).set (x70_5 : Int).toNat (ji48))) x60_3 x65_4 (x6_2.length : Int) x60_3 (x6_3.length : Int) x65_4 (x6_4.length : Int) (wrap64 (x70_5 + 1))) = some (r1, r2) := by first | (rw [hji48] at H; exact H) | (simp only [hji48] at H ⊢; exact H)
                          have hji48_ : (if (wrap64 ((rd (rd_L6 x6_5 x65_4) x60_3) + (rd (rd_L6 x6_5 x60_3) x70_5))) < (rd (rd_L6 x6_5 x65_4) x70_5) then (wrap64 ((rd (rd_L6 x6_5 x65_4) x60_3) + (rd (rd_L6 x6_5 x60_3) x70_5))) else (rd (rd_L6 x6_5 x65_4) x70_5)) = ji48 := hji48
                          obtain ⟨y319, hy319⟩ : ∃ y_ : List Int, y_ = ((rd_L6 x6_5 x65_4).set (x70_5 : Int).toNat (ji48)) := ⟨_, rfl⟩
                          replace H : (impl_tightest.l4 k5 (x6_5.set (x65_4 : Int).toNat y319) x60_3 x65_4 (x6_2.length : Int) x60_3 (x6_3.length : Int) x65_4 (x6_4.length : Int) (wrap64 (x70_5 + 1))) = some (r1, r2) := by first | (rw [hy319]; with_reducible exact H) | (have H2_ := (Option.bind_some _ _).symm.trans H; rw [hy319]; with_reducible exact H2_) | (have H2_ := (Option.bind_some _ _).symm.trans H; with_reducible exact H2_) | with_reducible exact H | (rw [hy319]; exact H) | exact H
                          have Ny319 := Aside0.mk hy319
                          clear hy319
                          obtain ⟨y321, hy321⟩ : ∃ y_ : List (List Int), y_ = (x6_5.set (x65_4 : Int).toNat y319) := ⟨_, rfl⟩
                          replace H : (impl_tightest.l4 k5 y321 x60_3 x65_4 (x6_2.length : Int) x60_3 (x6_3.length : Int) x65_4 (x6_4.length : Int) (wrap64 (x70_5 + 1))) = some (r1, r2) := by first | (rw [hy321]; with_reducible exact H) | (have H2_ := (Option.bind_some _ _).symm.trans H; rw [hy321]; with_reducible exact H2_) | (have H2_ := (Option.bind_some _ _).symm.trans H; with_reducible exact H2_) | with_reducible exact H | (rw [hy321]; exact H) | exact H
                          have Ny321 := Aside0.mk hy321
                          clear hy321
                          have H' := Aside0.mk H
                          clear H
                          have p308 : 0 ≤ (x65_4 : Int) := of_decide_eq_true (by with_reducible assumption)
                          have q308 : x65_4 < (x6_5.length : Int) := of_decide_eq_true (by with_reducible assumption)
                          obtain ⟨ad308, A308_0, c308_0, e308, hx308_0, hl308_0, hi308_0⟩ := at_L6 (Kd.S_reads' HO_6.out).2.2 x65_4 p308 q308
                          cases e308
                          obtain ⟨ce308, hce308, hMe308, hcc308⟩ := Kd.S_get HO_6.out [] x65_4 p308 (by first | exact q308 | exact of_decide_eq_true (by with_reducible assumption) | (have e_ := (Kd.S_reads' HO_6.out).1; omega))
                          obtain ⟨ve308_0, rfl, ge308_0⟩ := hMe308
                          have hv308_0 := hcc308 0 _ rfl
                          rw [Nat.add_zero, show ((Kd.slice 2 (Kd.int .i64))).sz = 1 from rfl, Nat.mul_one] at hv308_0
                          replace hv308_0 := Option.some.inj (hv308_0.symm.trans hx308_0)
                          rw [hv308_0] at ge308_0
                          have HL308_0 := Aside0.mk (show Kd.R (Kd.int .i64) 2 _ _ _ _ (rd_L6 x6_5 x65_4) from ge308_0)
                          clear hv308_0 ge308_0
                          have HX308_0 := Aside0.mk hx308_0
                          clear hcc308 hce308
                          have HR308_0 := Aside0.mk hi308_0
                          have HC308_0 := Aside0.mk hl308_0
                          clear hi308_0 hl308_0
                          replace p308 := eq_true p308
                          replace q308 := eq_true q308
                          have p309 : 0 ≤ (x60_3 : Int) := of_decide_eq_true (by with_reducible assumption)
                          have q309 : x60_3 < ((rd_L6 x6_5 x65_4).length : Int) := of_decide_eq_true (by with_reducible assumption)
                          obtain ⟨ad309, e309, hx309_0⟩ := Kd.at_int (by repeat (first | (with_reducible exact HR308_0.out) | (with_reducible refine Kd.C_alloc ?_ _) | (with_reducible refine Kd.C_drewN ?_ _) | (with_reducible refine Kd.C_drew ?_) | exact HR308_0.out)) x60_3 p309 q309
                          cases e309
                          replace p309 := eq_true p309
                          replace q309 := eq_true q309
                          have p310 : 0 ≤ (x60_3 : Int) := of_decide_eq_true (by with_reducible assumption)
                          have q310 : x60_3 < (x6_5.length : Int) := of_decide_eq_true (by with_reducible assumption)
                          obtain ⟨ad310, A310_0, c310_0, e310, hx310_0, hl310_0, hi310_0⟩ := at_L6 (Kd.S_reads' HO_6.out).2.2 x60_3 p310 q310
                          obtain rfl : ad308 = ad310 := (by injection e310)
                          obtain ⟨ce310, hce310, hMe310, hcc310⟩ := Kd.S_get HO_6.out [] x60_3 p310 (by first | exact q310 | exact of_decide_eq_true (by with_reducible assumption) | (have e_ := (Kd.S_reads' HO_6.out).1; omega))
                          obtain ⟨ve310_0, rfl, ge310_0⟩ := hMe310
                          have hv310_0 := hcc310 0 _ rfl
                          rw [Nat.add_zero, show ((Kd.slice 2 (Kd.int .i64))).sz = 1 from rfl, Nat.mul_one] at hv310_0
                          replace hv310_0 := Option.some.inj (hv310_0.symm.trans hx310_0)
                          rw [hv310_0] at ge310_0
                          have HL310_0 := Aside0.mk (show Kd.R (Kd.int .i64) 2 _ _ _ _ (rd_L6 x6_5 x60_3) from ge310_0)
                          clear hv310_0 ge310_0
                          have HX310_0 := Aside0.mk hx310_0
                          clear hcc310 hce310
                          have HR310_0 := Aside0.mk hi310_0
                          have HC310_0 := Aside0.mk hl310_0
                          clear hi310_0 hl310_0
                          replace p310 := eq_true p310
                          replace q310 := eq_true q310
                          have p311 : 0 ≤ (x70_5 : Int) := of_decide_eq_true (by with_reducible assumption)
                          have q311 : x70_5 < ((rd_L6 x6_5 x60_3).length : Int) := of_decide_eq_true (by with_reducible assumption)
                          obtain ⟨ad311, e311, hx311_0⟩ := Kd.at_int (by repeat (first | (with_reducible exact HR310_0.out) | (with_reducible refine Kd.C_alloc ?_ _) | (with_reducible refine Kd.C_drewN ?_ _) | (with_reducible refine Kd.C_drew ?_) | exact HR310_0.out)) x70_5 p311 q311
                          cases e311
                          replace p311 := eq_true p311
                          replace q311 := eq_true q311
                          try go_wp2
                          have n0_ := Aside0.mk (Kd.S_drew HO_6.out)
                          have n1_ := Aside0.mk (Kd.R_drew HL308_0.out)
                          have n2_ := Aside0.mk (Kd.R_drew HL310_0.out)
                          have n3_ := Aside0.mk (Kd.C_drew HR308_0.out)
                          have n4_ := Aside0.mk (Kd.C_drew HR310_0.out)
                          have n5_ := Aside0.mk (below_drew1 HB.out)
                          clear HO_6
                          clear HL308_0
                          clear HL310_0
                          clear HR308_0
                          clear HR310_0
                          clear HB
                          have HO_6 := n0_
                          have HL308_0 := n1_
                          have HL310_0 := n2_
                          have HR308_0 := n3_
                          have HR310_0 := n4_
                          have HB := n5_
                          clear n0_ n1_ n2_ n3_ n4_ n5_
                          have p312 : 0 ≤ (x65_4 : Int) := of_decide_eq_true (by with_reducible assumption)
                          have q312 : x65_4 < (x6_5.length : Int) := of_decide_eq_true (by with_reducible assumption)
                          obtain ⟨ad312, A312_0, c312_0, e312, hx312_0, hl312_0, hi312_0⟩ := at_L6 (Kd.S_reads' HO_6.out).2.2 x65_4 p312 q312
                          obtain rfl : ad308 = ad312 := (by injection e312)
                          obtain ⟨ce312, hce312, hMe312, hcc312⟩ := Kd.S_get HO_6.out [] x65_4 p312 (by first | exact q312 | exact of_decide_eq_true (by with_reducible assumption) | (have e_ := (Kd.S_reads' HO_6.out).1; omega))
                          obtain ⟨ve312_0, rfl, ge312_0⟩ := hMe312
                          have hv312_0 := hcc312 0 _ rfl
                          rw [Nat.add_zero, show ((Kd.slice 2 (Kd.int .i64))).sz = 1 from rfl, Nat.mul_one] at hv312_0
                          replace hv312_0 := Option.some.inj (hv312_0.symm.trans hx312_0)
                          rw [hv312_0] at ge312_0
                          have HL312_0 := Aside0.mk (show Kd.R (Kd.int .i64) 2 _ _ _ _ (rd_L6 x6_5 x65_4) from ge312_0)
                          clear hv312_0 ge312_0
                          have HX312_0 := Aside0.mk hx312_0
                          clear hcc312 hce312
                          have HR312_0 := Aside0.mk hi312_0
                          have HC312_0 := Aside0.mk hl312_0
                          clear hi312_0 hl312_0
                          replace p312 := eq_true p312
                          replace q312 := eq_true q312
                          have p313 : 0 ≤ (x65_4 : Int) := of_decide_eq_true (by with_reducible assumption)
                          have q313 : x65_4 < (x6_5.length : Int) := of_decide_eq_true (by with_reducible assumption)
                          obtain ⟨ad313, A313_0, c313_0, e313, hx313_0, hl313_0, hi313_0⟩ := at_L6 (Kd.S_reads' HO_6.out).2.2 x65_4 p313 q313
                          obtain rfl : ad308 = ad313 := (by injection e313)
                          obtain ⟨ce313, hce313, hMe313, hcc313⟩ := Kd.S_get HO_6.out [] x65_4 p313 (by first | exact q313 | exact of_decide_eq_true (by with_reducible assumption) | (have e_ := (Kd.S_reads' HO_6.out).1; omega))
                          obtain ⟨ve313_0, rfl, ge313_0⟩ := hMe313
                          have hv313_0 := hcc313 0 _ rfl
                          rw [Nat.add_zero, show ((Kd.slice 2 (Kd.int .i64))).sz = 1 from rfl, Nat.mul_one] at hv313_0
                          replace hv313_0 := Option.some.inj (hv313_0.symm.trans hx313_0)
                          rw [hv313_0] at ge313_0
                          have HL313_0 := Aside0.mk (show Kd.R (Kd.int .i64) 2 _ _ _ _ (rd_L6 x6_5 x65_4) from ge313_0)
                          clear hv313_0 ge313_0
                          have HX313_0 := Aside0.mk hx313_0
                          clear hcc313 hce313
                          have HR313_0 := Aside0.mk hi313_0
                          have HC313_0 := Aside0.mk hl313_0
                          clear hi313_0 hl313_0
                          replace p313 := eq_true p313
                          replace q313 := eq_true q313
                          have ea_ := Option.some.inj (hx312_0.symm.trans hx313_0)
                          injection ea_ with ea_ en_ ec_
                          subst ea_
                          subst ec_
                          clear en_
                          have p314 : 0 ≤ (x70_5 : Int) := of_decide_eq_true (by with_reducible assumption)
                          have q314 : x70_5 < ((rd_L6 x6_5 x65_4).length : Int) := of_decide_eq_true (by with_reducible assumption)
                          obtain ⟨ad314, e314, hx314_0⟩ := Kd.at_int (by repeat (first | (with_reducible exact HR313_0.out) | (with_reducible refine Kd.C_alloc ?_ _) | (with_reducible refine Kd.C_drewN ?_ _) | (with_reducible refine Kd.C_drew ?_) | exact HR313_0.out)) x70_5 p314 q314
                          cases e314
                          replace p314 := eq_true p314
                          replace q314 := eq_true q314
                          have p315 : 0 ≤ (x65_4 : Int) := of_decide_eq_true (by with_reducible assumption)
                          have q315 : x65_4 < (x6_5.length : Int) := of_decide_eq_true (by with_reducible assumption)
                          obtain ⟨ad315, A315_0, c315_0, e315, hx315_0, hl315_0, hi315_0⟩ := at_L6 (Kd.S_reads' HO_6.out).2.2 x65_4 p315 q315
                          obtain rfl : ad308 = ad315 := (by injection e315)
                          obtain ⟨ce315, hce315, hMe315, hcc315⟩ := Kd.S_get HO_6.out [] x65_4 p315 (by first | exact q315 | exact of_decide_eq_true (by with_reducible assumption) | (have e_ := (Kd.S_reads' HO_6.out).1; omega))
                          obtain ⟨ve315_0, rfl, ge315_0⟩ := hMe315
                          have hv315_0 := hcc315 0 _ rfl
                          rw [Nat.add_zero, show ((Kd.slice 2 (Kd.int .i64))).sz = 1 from rfl, Nat.mul_one] at hv315_0
                          replace hv315_0 := Option.some.inj (hv315_0.symm.trans hx315_0)
                          rw [hv315_0] at ge315_0
                          have HL315_0 := Aside0.mk (show Kd.R (Kd.int .i64) 2 _ _ _ _ (rd_L6 x6_5 x65_4) from ge315_0)
                          clear hv315_0 ge315_0
                          have HX315_0 := Aside0.mk hx315_0
                          clear hcc315 hce315
                          have HR315_0 := Aside0.mk hi315_0
                          have HC315_0 := Aside0.mk hl315_0
                          clear hi315_0 hl315_0
                          replace p315 := eq_true p315
                          replace q315 := eq_true q315
                          have ea_ := Option.some.inj (hx312_0.symm.trans hx315_0)
                          injection ea_ with ea_ en_ ec_
                          subst ea_
                          subst ec_
                          clear en_
                          have p316 : 0 ≤ (x60_3 : Int) := of_decide_eq_true (by with_reducible assumption)
                          have q316 : x60_3 < ((rd_L6 x6_5 x65_4).length : Int) := of_decide_eq_true (by with_reducible assumption)
                          obtain ⟨ad316, e316, hx316_0⟩ := Kd.at_int (by repeat (first | (with_reducible exact HR315_0.out) | (with_reducible refine Kd.C_alloc ?_ _) | (with_reducible refine Kd.C_drewN ?_ _) | (with_reducible refine Kd.C_drew ?_) | exact HR315_0.out)) x60_3 p316 q316
                          cases e316
                          replace p316 := eq_true p316
                          replace q316 := eq_true q316
                          have p317 : 0 ≤ (x60_3 : Int) := of_decide_eq_true (by with_reducible assumption)
                          have q317 : x60_3 < (x6_5.length : Int) := of_decide_eq_true (by with_reducible assumption)
                          obtain ⟨ad317, A317_0, c317_0, e317, hx317_0, hl317_0, hi317_0⟩ := at_L6 (Kd.S_reads' HO_6.out).2.2 x60_3 p317 q317
                          obtain rfl : ad308 = ad317 := (by injection e317)
                          obtain ⟨ce317, hce317, hMe317, hcc317⟩ := Kd.S_get HO_6.out [] x60_3 p317 (by first | exact q317 | exact of_decide_eq_true (by with_reducible assumption) | (have e_ := (Kd.S_reads' HO_6.out).1; omega))
                          obtain ⟨ve317_0, rfl, ge317_0⟩ := hMe317
                          have hv317_0 := hcc317 0 _ rfl
                          rw [Nat.add_zero, show ((Kd.slice 2 (Kd.int .i64))).sz = 1 from rfl, Nat.mul_one] at hv317_0
                          replace hv317_0 := Option.some.inj (hv317_0.symm.trans hx317_0)
                          rw [hv317_0] at ge317_0
                          have HL317_0 := Aside0.mk (show Kd.R (Kd.int .i64) 2 _ _ _ _ (rd_L6 x6_5 x60_3) from ge317_0)
                          clear hv317_0 ge317_0
                          have HX317_0 := Aside0.mk hx317_0
                          clear hcc317 hce317
                          have HR317_0 := Aside0.mk hi317_0
                          have HC317_0 := Aside0.mk hl317_0
                          clear hi317_0 hl317_0
                          replace p317 := eq_true p317
                          replace q317 := eq_true q317
                          have p318 : 0 ≤ (x70_5 : Int) := of_decide_eq_true (by with_reducible assumption)
                          have q318 : x70_5 < ((rd_L6 x6_5 x60_3).length : Int) := of_decide_eq_true (by with_reducible assumption)
                          obtain ⟨ad318, e318, hx318_0⟩ := Kd.at_int (by repeat (first | (with_reducible exact HR317_0.out) | (with_reducible refine Kd.C_alloc ?_ _) | (with_reducible refine Kd.C_drewN ?_ _) | (with_reducible refine Kd.C_drew ?_) | exact HR317_0.out)) x70_5 p318 q318
                          cases e318
                          replace p318 := eq_true p318
                          replace q318 := eq_true q318
                          have p49 : 0 ≤ (x70_5 : Int) := of_decide_eq_true (by with_reducible assumption)
                          have q49 : (x70_5 : Int) < (((rd_L6 x6_5 x65_4).length : Int) : Int) := of_decide_eq_true (by with_reducible assumption)
                          obtain ⟨go49, co49, eo49, gb49, gl49, cl49, HG49⟩ := Kd.R_form HL312_0.out (by omega)
                          (first | cases eo49 | (injection eo49 with ea_ en_ ec_; (first | subst ea_ | (injection ea_ with ea_; subst ea_)); subst ec_; clear en_))
                          have GB49 := Aside0.mk gb49
                          have GG49 := Aside0.mk HG49
                          clear gb49 gl49 HG49
                          (first | simp only [add_plain] at hx316_0 | skip)
                          (first | simp only [add_plain] at hx314_0 | skip)
                          obtain ⟨hx49_0, hf49_0⟩ := Kd.R_celln 0 HL312_0.out (x70_5 : Int) p49 q49
                          replace p49 := eq_true p49
                          replace q49 := eq_true q49
                          have hq51 : (x65_4 : Int) < (x6_5.length : Int) := (by have h_ : (x65_4 : Int) < ((x6_5.length : Int) : Int) := of_decide_eq_true (by with_reducible assumption); first | exact h_ | (have e_ := (Kd.S_reads' HO_6.out).1; omega) | simpa only [List.length_set, List.length_set] using h_)
                          obtain ⟨oki51, ce51, hcl51, hM51, hcc51, hok51, hbk51⟩ := Kd.S_borrow HO_6.out [] (x65_4 : Int) (of_decide_eq_true (by with_reducible assumption)) hq51
                          obtain ⟨ve51_0, rfl, ge51_0⟩ := hM51
                          have hv51 := hcc51 0 _ rfl
                          rw [Nat.add_zero, show ((Kd.slice 2 (Kd.int .i64))).sz = 1 from rfl, Nat.mul_one] at hv51
                          replace hv51 := Option.some.inj (hv51.symm.trans HX312_0.out)
                          subst hv51
                          clear hcc51 hcl51
                          replace ge51_0 := (show Kd.R (Kd.int .i64) 2 _ _ _ _ (rd_L6 x6_5 x65_4) from ge51_0)
                          have HP51 := Kd.R_putg ge51_0 (x70_5 : Int) ji48
                          rw [← Ny319.out] at HP51
                          have HS51 := hbk51 HP51.2 (fun k_ e_ => by injection e_ with e_; subst e_; exact ge51_0.1 _ rfl) (x' := y319) (Kd.M_row HP51.1)
                          rw [← Ny321.out] at HS51
                          have HQ51 := Aside0.mk HS51
                          clear HP51 HS51 hbk51 hok51
                          refine start_ (n := 30) (S := fun w' => w'.cell? (ad308.add (x65_4).toNat) = some (.slice (some (⟨go49, 0, none⟩ : Addr)) (rd_L6 x6_5 x65_4).length c312_0) ∧ w'.cell? (ad308.add (x65_4).toNat) = some (.slice (some (⟨go49, 0, none⟩ : Addr)) (rd_L6 x6_5 x65_4).length c312_0) ∧ w'.cell? ((⟨go49, (x70_5).toNat, none⟩ : Addr)) = some (.int .i64 (rd (rd_L6 x6_5 x65_4) x70_5)) ∧ w'.cell? (ad308.add (x65_4).toNat) = some (.slice (some (⟨go49, 0, none⟩ : Addr)) (rd_L6 x6_5 x65_4).length c312_0) ∧ w'.cell? ⟨go49, (x60_3).toNat, none⟩ = some (.int .i64 (rd (rd_L6 x6_5 x65_4) x60_3)) ∧ w'.cell? (ad308.add (x60_3).toNat) = some (.slice (some ad318) (rd_L6 x6_5 x60_3).length c317_0) ∧ w'.cell? (ad318.add (x70_5).toNat) = some (.int .i64 (rd (rd_L6 x6_5 x60_3) x70_5))) (ds := [29]) #[false, false, false, false, false, false, false, false, false, false, false, false, false, false, false, false, false, false, false, false, false, false, false, false, false, false, false, false, false, false] (by kernel_rfl) rfl rfl ⟨hx312_0, hx313_0, hx314_0, hx315_0, hx316_0, hx317_0, hx318_0⟩ (fun hHeld => ?_); refine with_tabW impl_tightest.tab24 impl_tightest.bits24 (fun HT_ HW_ => ?_)
                          generalize wr.drew = w50 at HO_6 HL308_0 HL310_0 HR308_0 HR310_0 HB GG49 HL312_0 HL313_0 HL315_0 HL317_0 HQ51 HR312_0 HR313_0 HR315_0 HR317_0 HX312_0 HX313_0 HX315_0 HX317_0 hf49_0 hx312_0 hx313_0 hx314_0 hx315_0 hx316_0 hx317_0 hx318_0 hx49_0 hHeld ⊢
                          refine pure_ (i := 0) (N := some 91) (v := ?_) (a' := ?_) #[true, false, false, false, false, false, false, false, false, false, false, false, false, false, false, false, false, false, false, false, false, false, false, false, false, false, false, false, false, false] rfl rfl (any_of HT_.out (by kernel_rfl)) (fun _ _ _ h => h) (Or.inl ⟨by rfl, ?_⟩) ?_ ?_
                          rotate_left
                          ·intro w'
                           go_simp
                           with_reducible rfl
                          rotate_left
                          ·simp only [Act.put, List.setIfInBounds_toArray, List.set_cons_zero, List.set_cons_succ, i64_w, i32_w]
                           rfl
                          refine pure_ (i := 1) (N := some 92) (v := ?_) (a' := ?_) #[true, true, false, false, false, false, false, false, false, false, false, false, false, false, false, false, false, false, false, false, false, false, false, false, false, false, false, false, false, false] rfl rfl (any_of HT_.out (by kernel_rfl)) (fun _ _ _ h => h) (Or.inl ⟨by rfl, ?_⟩) ?_ ?_
                          rotate_left
                          ·intro w'
                           go_simp
                           with_reducible rfl
                          rotate_left
                          ·simp only [Act.put, List.setIfInBounds_toArray, List.set_cons_zero, List.set_cons_succ, i64_w, i32_w]
                           rfl
                          refine pure_ (i := 2) (N := some 93) (v := ?_) (a' := ?_) #[true, true, true, false, false, false, false, false, false, false, false, false, false, false, false, false, false, false, false, false, false, false, false, false, false, false, false, false, false, false] rfl rfl (any_of HT_.out (by kernel_rfl)) (fun _ _ _ h => h) (Or.inl ⟨by rfl, ?_⟩) ?_ ?_
                          rotate_left
                          ·intro w'
                           go_simp
                           with_reducible rfl
                          rotate_left
                          ·simp only [Act.put, List.setIfInBounds_toArray, List.set_cons_zero, List.set_cons_succ, i64_w, i32_w]
                           rfl
                          refine pure_ (i := 4) (N := some 95) (v := ?_) (a' := ?_) #[true, true, true, false, true, false, false, false, false, false, false, false, false, false, false, false, false, false, false, false, false, false, false, false, false, false, false, false, false, false] rfl rfl (any_of HT_.out (by kernel_rfl)) (fun _ _ _ h => h) (Or.inl ⟨by rfl, ?_⟩) ?_ ?_
                          rotate_left
                          ·intro w'
                           go_simp
                           with_reducible rfl
                          rotate_left
                          ·simp only [Act.put, List.setIfInBounds_toArray, List.set_cons_zero, List.set_cons_succ, i64_w, i32_w]
                           rfl
                          refine pure_ (i := 5) (N := some 96) (v := ?_) (a' := ?_) #[true, true, true, false, true, true, false, false, false, false, false, false, false, false, false, false, false, false, false, false, false, false, false, false, false, false, false, false, false, false] rfl rfl (any_of HT_.out (by kernel_rfl)) (fun _ _ _ h => h) (Or.inl ⟨by rfl, ?_⟩) ?_ ?_
                          rotate_left
                          ·intro w'
                           go_simp
                           with_reducible rfl
                          rotate_left
                          ·simp only [Act.put, List.setIfInBounds_toArray, List.set_cons_zero, List.set_cons_succ, i64_w, i32_w]
                           rfl
                          refine pure_ (i := 6) (N := some 97) (v := ?_) (a' := ?_) #[true, true, true, false, true, true, true, false, false, false, false, false, false, false, false, false, false, false, false, false, false, false, false, false, false, false, false, false, false, false] rfl rfl (any_of HT_.out (by kernel_rfl)) (fun _ _ _ h => h) (Or.inl ⟨by rfl, ?_⟩) ?_ ?_
                          rotate_left
                          ·intro w'
                           go_simp
                           with_reducible rfl
                          rotate_left
                          ·simp only [Act.put, List.setIfInBounds_toArray, List.set_cons_zero, List.set_cons_succ, i64_w, i32_w]
                           rfl
                          refine pure_ (i := 7) (N := some 98) (v := ?_) (a' := ?_) #[true, true, true, false, true, true, true, true, false, false, false, false, false, false, false, false, false, false, false, false, false, false, false, false, false, false, false, false, false, false] rfl rfl (any_of HT_.out (by kernel_rfl)) (fun _ _ _ h => h) (Or.inl ⟨by rfl, ?_⟩) ?_ ?_
                          rotate_left
                          ·intro w'
                           go_simp
                           with_reducible rfl
                          rotate_left
                          ·simp only [Act.put, List.setIfInBounds_toArray, List.set_cons_zero, List.set_cons_succ, i64_w, i32_w]
                           rfl
                          refine pure_ (i := 9) (N := some 100) (v := ?_) (a' := ?_) #[true, true, true, false, true, true, true, true, false, true, false, false, false, false, false, false, false, false, false, false, false, false, false, false, false, false, false, false, false, false] rfl rfl (any_of HT_.out (by kernel_rfl)) (fun _ _ _ h => h) (Or.inl ⟨by rfl, ?_⟩) ?_ ?_
                          rotate_left
                          ·intro w'
                           go_simp
                           with_reducible rfl
                          rotate_left
                          ·simp only [Act.put, List.setIfInBounds_toArray, List.set_cons_zero, List.set_cons_succ, i64_w, i32_w]
                           rfl
                          refine pure_ (i := 12) (N := some 103) (v := ?_) (a' := ?_) #[true, true, true, false, true, true, true, true, false, true, false, false, true, false, false, false, false, false, false, false, false, false, false, false, false, false, false, false, false, false] rfl rfl (any_of HT_.out (by kernel_rfl)) (fun _ _ _ h => h) (Or.inl ⟨by rfl, ?_⟩) ?_ ?_
                          rotate_left
                          ·intro w'
                           go_simp
                           with_reducible rfl
                          rotate_left
                          ·simp only [Act.put, List.setIfInBounds_toArray, List.set_cons_zero, List.set_cons_succ, i64_w, i32_w]
                           rfl
                          refine pure_ (i := 13) (N := some 104) (v := ?_) (a' := ?_) #[true, true, true, false, true, true, true, true, false, true, false, false, true, true, false, false, false, false, false, false, false, false, false, false, false, false, false, false, false, false] rfl rfl (any_of HT_.out (by kernel_rfl)) (fun _ _ _ h => h) (Or.inl ⟨by rfl, ?_⟩) ?_ ?_
                          rotate_left
                          ·intro w'
                           go_simp
                           with_reducible rfl
                          rotate_left
                          ·simp only [Act.put, List.setIfInBounds_toArray, List.set_cons_zero, List.set_cons_succ, i64_w, i32_w]
                           rfl
                          refine pure_ (i := 14) (N := some 105) (v := ?_) (a' := ?_) #[true, true, true, false, true, true, true, true, false, true, false, false, true, true, true, false, false, false, false, false, false, false, false, false, false, false, false, false, false, false] rfl rfl (any_of HT_.out (by kernel_rfl)) (fun _ _ _ h => h) (Or.inl ⟨by rfl, ?_⟩) ?_ ?_
                          rotate_left
                          ·intro w'
                           go_simp
                           with_reducible rfl
                          rotate_left
                          ·simp only [Act.put, List.setIfInBounds_toArray, List.set_cons_zero, List.set_cons_succ, i64_w, i32_w]
                           rfl
                          refine pure_ (i := 16) (N := some 107) (v := ?_) (a' := ?_) #[true, true, true, false, true, true, true, true, false, true, false, false, true, true, true, false, true, false, false, false, false, false, false, false, false, false, false, false, false, false] rfl rfl (any_of HT_.out (by kernel_rfl)) (fun _ _ _ h => h) (Or.inl ⟨by rfl, ?_⟩) ?_ ?_
                          rotate_left
                          ·intro w'
                           go_simp
                           with_reducible rfl
                          rotate_left
                          ·simp only [Act.put, List.setIfInBounds_toArray, List.set_cons_zero, List.set_cons_succ, i64_w, i32_w]
                           rfl
                          refine pure_ (i := 19) (N := some 110) (v := ?_) (a' := ?_) #[true, true, true, false, true, true, true, true, false, true, false, false, true, true, true, false, true, false, false, true, false, false, false, false, false, false, false, false, false, false] rfl rfl (any_of HT_.out (by kernel_rfl)) (fun _ _ _ h => h) (Or.inl ⟨by rfl, ?_⟩) ?_ ?_
                          rotate_left
                          ·intro w'
                           go_simp
                           with_reducible rfl
                          rotate_left
                          ·simp only [Act.put, List.setIfInBounds_toArray, List.set_cons_zero, List.set_cons_succ, i64_w, i32_w]
                           rfl
                          refine pure_ (i := 20) (N := some 111) (v := ?_) (a' := ?_) #[true, true, true, false, true, true, true, true, false, true, false, false, true, true, true, false, true, false, false, true, true, false, false, false, false, false, false, false, false, false] rfl rfl (any_of HT_.out (by kernel_rfl)) (fun _ _ _ h => h) (Or.inl ⟨by rfl, ?_⟩) ?_ ?_
                          rotate_left
                          ·intro w'
                           go_simp
                           with_reducible rfl
                          rotate_left
                          ·simp only [Act.put, List.setIfInBounds_toArray, List.set_cons_zero, List.set_cons_succ, i64_w, i32_w]
                           rfl
                          refine pure_ (i := 21) (N := some 112) (v := ?_) (a' := ?_) #[true, true, true, false, true, true, true, true, false, true, false, false, true, true, true, false, true, false, false, true, true, true, false, false, false, false, false, false, false, false] rfl rfl (any_of HT_.out (by kernel_rfl)) (fun _ _ _ h => h) (Or.inl ⟨by rfl, ?_⟩) ?_ ?_
                          rotate_left
                          ·intro w'
                           go_simp
                           with_reducible rfl
                          rotate_left
                          ·simp only [Act.put, List.setIfInBounds_toArray, List.set_cons_zero, List.set_cons_succ, i64_w, i32_w]
                           rfl
                          refine pure_ (i := 23) (N := some 114) (v := ?_) (a' := ?_) #[true, true, true, false, true, true, true, true, false, true, false, false, true, true, true, false, true, false, false, true, true, true, false, true, false, false, false, false, false, false] rfl rfl (any_of HT_.out (by kernel_rfl)) (fun _ _ _ h => h) (Or.inl ⟨by rfl, ?_⟩) ?_ ?_
                          rotate_left
                          ·intro w'
                           go_simp
                           with_reducible rfl
                          rotate_left
                          ·simp only [Act.put, List.setIfInBounds_toArray, List.set_cons_zero, List.set_cons_succ, i64_w, i32_w]
                           rfl
                          refine take_ (i := 3) (N := some 94) (v := ?_) (a' := ?_) #[true, true, true, true, true, true, true, true, false, true, false, false, true, true, true, false, true, false, false, true, true, true, false, true, false, false, false, false, false, false] rfl rfl (take_ofW HT_.out HW_.out (by kernel_rfl)) (fun _ _ _ h => h) (Or.inl ⟨by rfl, ?_⟩) hHeld ?_ ?_
                          rotate_left
                          ·rintro w' ⟨s0, s1, s2, s3, s4, s5, s6⟩
                           go_simp
                           with_reducible rfl
                          rotate_left
                          ·simp only [Act.put, List.setIfInBounds_toArray, List.set_cons_zero, List.set_cons_succ, i64_w, i32_w]
                           rfl
                          refine take_ (i := 8) (N := some 99) (v := ?_) (a' := ?_) #[true, true, true, true, true, true, true, true, true, true, false, false, true, true, true, false, true, false, false, true, true, true, false, true, false, false, false, false, false, false] rfl rfl (take_ofW HT_.out HW_.out (by kernel_rfl)) (fun _ _ _ h => h) (Or.inl ⟨by rfl, ?_⟩) hHeld ?_ ?_
                          rotate_left
                          ·rintro w' ⟨s0, s1, s2, s3, s4, s5, s6⟩
                           go_simp
                           with_reducible rfl
                          rotate_left
                          ·simp only [Act.put, List.setIfInBounds_toArray, List.set_cons_zero, List.set_cons_succ, i64_w, i32_w]
                           rfl
                          refine pure_ (i := 10) (N := some 101) (v := ?_) (a' := ?_) #[true, true, true, true, true, true, true, true, true, true, true, false, true, true, true, false, true, false, false, true, true, true, false, true, false, false, false, false, false, false] rfl rfl (any_of HT_.out (by kernel_rfl)) (fun _ _ _ h => h) (Or.inl ⟨by rfl, ?_⟩) ?_ ?_
                          rotate_left
                          ·intro w'
                           go_simp
                           with_reducible rfl
                          rotate_left
                          ·simp only [Act.put, List.setIfInBounds_toArray, List.set_cons_zero, List.set_cons_succ, i64_w, i32_w]
                           rfl
                          refine take_ (i := 11) (N := some 102) (v := ?_) (a' := ?_) #[true, true, true, true, true, true, true, true, true, true, true, true, true, true, true, false, true, false, false, true, true, true, false, true, false, false, false, false, false, false] rfl rfl (take_ofW HT_.out HW_.out (by kernel_rfl)) (fun _ _ _ h => h) (Or.inl ⟨by rfl, ?_⟩) hHeld ?_ ?_
                          rotate_left
                          ·rintro w' ⟨s0, s1, s2, s3, s4, s5, s6⟩
                           go_simp
                           with_reducible rfl
                          rotate_left
                          ·simp only [Act.put, List.setIfInBounds_toArray, List.set_cons_zero, List.set_cons_succ, i64_w, i32_w]
                           rfl
                          refine take_ (i := 15) (N := some 106) (v := ?_) (a' := ?_) #[true, true, true, true, true, true, true, true, true, true, true, true, true, true, true, true, true, false, false, true, true, true, false, true, false, false, false, false, false, false] rfl rfl (take_ofW HT_.out HW_.out (by kernel_rfl)) (fun _ _ _ h => h) (Or.inl ⟨by rfl, ?_⟩) hHeld ?_ ?_
                          rotate_left
                          ·rintro w' ⟨s0, s1, s2, s3, s4, s5, s6⟩
                           go_simp
                           with_reducible rfl
                          rotate_left
                          ·simp only [Act.put, List.setIfInBounds_toArray, List.set_cons_zero, List.set_cons_succ, i64_w, i32_w]
                           rfl
                          refine pure_ (i := 17) (N := some 108) (v := ?_) (a' := ?_) #[true, true, true, true, true, true, true, true, true, true, true, true, true, true, true, true, true, true, false, true, true, true, false, true, false, false, false, false, false, false] rfl rfl (any_of HT_.out (by kernel_rfl)) (fun _ _ _ h => h) (Or.inl ⟨by rfl, ?_⟩) ?_ ?_
                          rotate_left
                          ·intro w'
                           go_simp
                           with_reducible rfl
                          rotate_left
                          ·simp only [Act.put, List.setIfInBounds_toArray, List.set_cons_zero, List.set_cons_succ, i64_w, i32_w]
                           rfl
                          refine take_ (i := 18) (N := some 109) (v := ?_) (a' := ?_) #[true, true, true, true, true, true, true, true, true, true, true, true, true, true, true, true, true, true, true, true, true, true, false, true, false, false, false, false, false, false] rfl rfl (take_ofW HT_.out HW_.out (by kernel_rfl)) (fun _ _ _ h => h) (Or.inl ⟨by rfl, ?_⟩) hHeld ?_ ?_
                          rotate_left
                          ·rintro w' ⟨s0, s1, s2, s3, s4, s5, s6⟩
                           go_simp
                           with_reducible rfl
                          rotate_left
                          ·simp only [Act.put, List.setIfInBounds_toArray, List.set_cons_zero, List.set_cons_succ, i64_w, i32_w]
                           rfl
                          refine take_ (i := 22) (N := some 113) (v := ?_) (a' := ?_) #[true, true, true, true, true, true, true, true, true, true, true, true, true, true, true, true, true, true, true, true, true, true, true, true, false, false, false, false, false, false] rfl rfl (take_ofW HT_.out HW_.out (by kernel_rfl)) (fun _ _ _ h => h) (Or.inl ⟨by rfl, ?_⟩) hHeld ?_ ?_
                          rotate_left
                          ·rintro w' ⟨s0, s1, s2, s3, s4, s5, s6⟩
                           go_simp
                           with_reducible rfl
                          rotate_left
                          ·simp only [Act.put, List.setIfInBounds_toArray, List.set_cons_zero, List.set_cons_succ, i64_w, i32_w]
                           rfl
                          refine pure_ (i := 24) (N := some 115) (v := ?_) (a' := ?_) #[true, true, true, true, true, true, true, true, true, true, true, true, true, true, true, true, true, true, true, true, true, true, true, true, true, false, false, false, false, false] rfl rfl (any_of HT_.out (by kernel_rfl)) (fun _ _ _ h => h) (Or.inl ⟨by rfl, ?_⟩) ?_ ?_
                          rotate_left
                          ·intro w'
                           go_simp
                           with_reducible rfl
                          rotate_left
                          ·simp only [Act.put, List.setIfInBounds_toArray, List.set_cons_zero, List.set_cons_succ, i64_w, i32_w]
                           rfl
                          refine take_ (i := 25) (N := some 116) (v := ?_) (a' := ?_) #[true, true, true, true, true, true, true, true, true, true, true, true, true, true, true, true, true, true, true, true, true, true, true, true, true, true, false, false, false, false] rfl rfl (take_ofW HT_.out HW_.out (by kernel_rfl)) (fun _ _ _ h => h) (Or.inl ⟨by rfl, ?_⟩) hHeld ?_ ?_
                          rotate_left
                          ·rintro w' ⟨s0, s1, s2, s3, s4, s5, s6⟩
                           go_simp
                           with_reducible rfl
                          rotate_left
                          ·simp only [Act.put, List.setIfInBounds_toArray, List.set_cons_zero, List.set_cons_succ, i64_w, i32_w]
                           rfl
                          refine pure_ (i := 26) (N := some 117) (v := ?_) (a' := ?_) #[true, true, true, true, true, true, true, true, true, true, true, true, true, true, true, true, true, true, true, true, true, true, true, true, true, true, true, false, false, false] rfl rfl (any_of HT_.out (by kernel_rfl)) (fun _ _ _ h => h) (Or.inl ⟨by rfl, ?_⟩) ?_ ?_
                          rotate_left
                          ·intro w'
                           go_simp
                           with_reducible rfl
                          rotate_left
                          ·simp only [Act.put, List.setIfInBounds_toArray, List.set_cons_zero, List.set_cons_succ, i64_w, i32_w]
                           rfl
                          refine pure_ (i := 27) (N := some 118) (v := ?_) (a' := ?_) #[true, true, true, true, true, true, true, true, true, true, true, true, true, true, true, true, true, true, true, true, true, true, true, true, true, true, true, true, false, false] rfl rfl (any_of HT_.out (by kernel_rfl)) (fun _ _ _ h => h) (Or.inl ⟨by rfl, ?_⟩) ?_ ?_
                          rotate_left
                          ·intro w'
                           go_simp
                           with_reducible rfl
                          rotate_left
                          ·simp only [Act.put, List.setIfInBounds_toArray, List.set_cons_zero, List.set_cons_succ, i64_w, i32_w]
                           rfl
                          refine pure_ (i := 28) (N := some 119) (v := ?_) (a' := ?_) #[true, true, true, true, true, true, true, true, true, true, true, true, true, true, true, true, true, true, true, true, true, true, true, true, true, true, true, true, true, false] rfl rfl (any_of HT_.out (by kernel_rfl)) (fun _ _ _ h => h) (Or.inl ⟨by rfl, ?_⟩) ?_ ?_
                          rotate_left
                          ·intro w'
                           go_simp
                           with_reducible rfl
                          rotate_left
                          ·simp only [Act.put, List.setIfInBounds_toArray, List.set_cons_zero, List.set_cons_succ, i64_w, i32_w]
                           rfl
                          refine last_ (i := 29) (N := none) #[true, true, true, true, true, true, true, true, true, true, true, true, true, true, true, true, true, true, true, true, true, true, true, true, true, true, true, true, true, true] rfl rfl (one_of HT_.out (by kernel_rfl)) (by decide) (fun K hK => ?_)
                          refine skip_ (w1 := ?_) (by rfl) rfl ?_ ?_
                          rotate_left
                          ·go_simp
                           rfl
                          refine hK.out _ _ ?_
                          clear hK K
                          refine done_ (done_of HT_.out (by kernel_rfl)) ?_
                          try go_wp2
                          (try simp only [← hl6_5])
                          go_roundg k5
                          case measure => have := HK1.out; have := HK2.out; have := HK3.out; have := HK4.out; have := HK5.out; omega
                          case rel => exact ⟨(y321), (wrap64 (x70_5 + 1)), (by first | rfl | (simp; done) | (simp [*]; done)), H', ⟨by have := HK1.out; have := HK2.out; have := HK3.out; have := HK4.out; have := HK5.out; omega⟩, ⟨by (try simp only [hl6_3]); (try simp only [hl6_4]); (try simp only [hl6_5]); (with_reducible repeat (first | apply Kd.S_alloc | apply Kd.S_drewN | apply Kd.S_drew)); exact HQ51.out⟩, ⟨by repeat (first | (with_reducible first | exact HB.out | apply below_alloc | apply pw_below_drewN | apply below_drew1 | refine below_set ?_ GB49.out) | exact HB.out)⟩⟩
                         ·rw [if_neg c47] at H
                          exact absurd H (by simp)
                        ·rw [if_neg c46] at H
                         have c46b0 : decide ((rd (rd_L6 x6_5 x60_3) x70_5) < 1000000) = false := decide_eq_false c46
                         clear c46
                         have H' := Aside0.mk H
                         clear H
                         have p308 : 0 ≤ (x65_4 : Int) := of_decide_eq_true (by with_reducible assumption)
                         have q308 : x65_4 < (x6_5.length : Int) := of_decide_eq_true (by with_reducible assumption)
                         obtain ⟨ad308, A308_0, c308_0, e308, hx308_0, hl308_0, hi308_0⟩ := at_L6 (Kd.S_reads' HO_6.out).2.2 x65_4 p308 q308
                         cases e308
                         obtain ⟨ce308, hce308, hMe308, hcc308⟩ := Kd.S_get HO_6.out [] x65_4 p308 (by first | exact q308 | exact of_decide_eq_true (by with_reducible assumption) | (have e_ := (Kd.S_reads' HO_6.out).1; omega))
                         obtain ⟨ve308_0, rfl, ge308_0⟩ := hMe308
                         have hv308_0 := hcc308 0 _ rfl
                         rw [Nat.add_zero, show ((Kd.slice 2 (Kd.int .i64))).sz = 1 from rfl, Nat.mul_one] at hv308_0
                         replace hv308_0 := Option.some.inj (hv308_0.symm.trans hx308_0)
                         rw [hv308_0] at ge308_0
                         have HL308_0 := Aside0.mk (show Kd.R (Kd.int .i64) 2 _ _ _ _ (rd_L6 x6_5 x65_4) from ge308_0)
                         clear hv308_0 ge308_0
                         have HX308_0 := Aside0.mk hx308_0
                         clear hcc308 hce308
                         have HR308_0 := Aside0.mk hi308_0
                         have HC308_0 := Aside0.mk hl308_0
                         clear hi308_0 hl308_0
                         replace p308 := eq_true p308
                         replace q308 := eq_true q308
                         have p309 : 0 ≤ (x60_3 : Int) := of_decide_eq_true (by with_reducible assumption)
                         have q309 : x60_3 < ((rd_L6 x6_5 x65_4).length : Int) := of_decide_eq_true (by with_reducible assumption)
                         obtain ⟨ad309, e309, hx309_0⟩ := Kd.at_int (by repeat (first | (with_reducible exact HR308_0.out) | (with_reducible refine Kd.C_alloc ?_ _) | (with_reducible refine Kd.C_drewN ?_ _) | (with_reducible refine Kd.C_drew ?_) | exact HR308_0.out)) x60_3 p309 q309
                         cases e309
                         replace p309 := eq_true p309
                         replace q309 := eq_true q309
                         have p310 : 0 ≤ (x60_3 : Int) := of_decide_eq_true (by with_reducible assumption)
                         have q310 : x60_3 < (x6_5.length : Int) := of_decide_eq_true (by with_reducible assumption)
                         obtain ⟨ad310, A310_0, c310_0, e310, hx310_0, hl310_0, hi310_0⟩ := at_L6 (Kd.S_reads' HO_6.out).2.2 x60_3 p310 q310
                         obtain rfl : ad308 = ad310 := (by injection e310)
                         obtain ⟨ce310, hce310, hMe310, hcc310⟩ := Kd.S_get HO_6.out [] x60_3 p310 (by first | exact q310 | exact of_decide_eq_true (by with_reducible assumption) | (have e_ := (Kd.S_reads' HO_6.out).1; omega))
                         obtain ⟨ve310_0, rfl, ge310_0⟩ := hMe310
                         have hv310_0 := hcc310 0 _ rfl
                         rw [Nat.add_zero, show ((Kd.slice 2 (Kd.int .i64))).sz = 1 from rfl, Nat.mul_one] at hv310_0
                         replace hv310_0 := Option.some.inj (hv310_0.symm.trans hx310_0)
                         rw [hv310_0] at ge310_0
                         have HL310_0 := Aside0.mk (show Kd.R (Kd.int .i64) 2 _ _ _ _ (rd_L6 x6_5 x60_3) from ge310_0)
                         clear hv310_0 ge310_0
                         have HX310_0 := Aside0.mk hx310_0
                         clear hcc310 hce310
                         have HR310_0 := Aside0.mk hi310_0
                         have HC310_0 := Aside0.mk hl310_0
                         clear hi310_0 hl310_0
                         replace p310 := eq_true p310
                         replace q310 := eq_true q310
                         have p311 : 0 ≤ (x70_5 : Int) := of_decide_eq_true (by with_reducible assumption)
                         have q311 : x70_5 < ((rd_L6 x6_5 x60_3).length : Int) := of_decide_eq_true (by with_reducible assumption)
                         obtain ⟨ad311, e311, hx311_0⟩ := Kd.at_int (by repeat (first | (with_reducible exact HR310_0.out) | (with_reducible refine Kd.C_alloc ?_ _) | (with_reducible refine Kd.C_drewN ?_ _) | (with_reducible refine Kd.C_drew ?_) | exact HR310_0.out)) x70_5 p311 q311
                         cases e311
                         replace p311 := eq_true p311
                         replace q311 := eq_true q311
                         go_wp2
                         (try simp only [← hl6_5])
                         go_roundg k5
                         case measure => have := HK1.out; have := HK2.out; have := HK3.out; have := HK4.out; have := HK5.out; omega
                         case rel => exact ⟨(x6_5), (wrap64 (x70_5 + 1)), (by first | rfl | (simp; done) | (simp [*]; done)), H', ⟨by have := HK1.out; have := HK2.out; have := HK3.out; have := HK4.out; have := HK5.out; omega⟩, ⟨by (try simp only [hl6_3]); (try simp only [hl6_4]); (try simp only [hl6_5]); (with_reducible repeat (first | apply Kd.S_alloc | apply Kd.S_drewN | apply Kd.S_drew)); exact HO_6.out⟩, ⟨by repeat (first | (with_reducible first | exact HB.out | apply below_alloc | apply pw_below_drewN | apply below_drew1) | exact HB.out)⟩⟩
                       ·rw [if_neg c45] at H
                        exact absurd H (by simp)
                      ·rw [if_neg c44] at H
                       exact absurd H (by simp)
                     ·rw [if_neg c43] at H
                      exact absurd H (by simp)
                    ·rw [if_neg c42] at H
                     have c42b0 : decide ((rd (rd_L6 x6_5 x65_4) x60_3) < 1000000) = false := decide_eq_false c42
                     clear c42
                     have H' := Aside0.mk H
                     clear H
                     have p308 : 0 ≤ (x65_4 : Int) := of_decide_eq_true (by with_reducible assumption)
                     have q308 : x65_4 < (x6_5.length : Int) := of_decide_eq_true (by with_reducible assumption)
                     obtain ⟨ad308, A308_0, c308_0, e308, hx308_0, hl308_0, hi308_0⟩ := at_L6 (Kd.S_reads' HO_6.out).2.2 x65_4 p308 q308
                     cases e308
                     obtain ⟨ce308, hce308, hMe308, hcc308⟩ := Kd.S_get HO_6.out [] x65_4 p308 (by first | exact q308 | exact of_decide_eq_true (by with_reducible assumption) | (have e_ := (Kd.S_reads' HO_6.out).1; omega))
                     obtain ⟨ve308_0, rfl, ge308_0⟩ := hMe308
                     have hv308_0 := hcc308 0 _ rfl
                     rw [Nat.add_zero, show ((Kd.slice 2 (Kd.int .i64))).sz = 1 from rfl, Nat.mul_one] at hv308_0
                     replace hv308_0 := Option.some.inj (hv308_0.symm.trans hx308_0)
                     rw [hv308_0] at ge308_0
                     have HL308_0 := Aside0.mk (show Kd.R (Kd.int .i64) 2 _ _ _ _ (rd_L6 x6_5 x65_4) from ge308_0)
                     clear hv308_0 ge308_0
                     have HX308_0 := Aside0.mk hx308_0
                     clear hcc308 hce308
                     have HR308_0 := Aside0.mk hi308_0
                     have HC308_0 := Aside0.mk hl308_0
                     clear hi308_0 hl308_0
                     replace p308 := eq_true p308
                     replace q308 := eq_true q308
                     have p309 : 0 ≤ (x60_3 : Int) := of_decide_eq_true (by with_reducible assumption)
                     have q309 : x60_3 < ((rd_L6 x6_5 x65_4).length : Int) := of_decide_eq_true (by with_reducible assumption)
                     obtain ⟨ad309, e309, hx309_0⟩ := Kd.at_int (by repeat (first | (with_reducible exact HR308_0.out) | (with_reducible refine Kd.C_alloc ?_ _) | (with_reducible refine Kd.C_drewN ?_ _) | (with_reducible refine Kd.C_drew ?_) | exact HR308_0.out)) x60_3 p309 q309
                     cases e309
                     replace p309 := eq_true p309
                     replace q309 := eq_true q309
                     go_wp2
                     (try simp only [← hl6_5])
                     go_roundg k5
                     case measure => have := HK1.out; have := HK2.out; have := HK3.out; have := HK4.out; have := HK5.out; omega
                     case rel => exact ⟨(x6_5), (wrap64 (x70_5 + 1)), (by first | rfl | (simp; done) | (simp [*]; done)), H', ⟨by have := HK1.out; have := HK2.out; have := HK3.out; have := HK4.out; have := HK5.out; omega⟩, ⟨by (try simp only [hl6_3]); (try simp only [hl6_4]); (try simp only [hl6_5]); (with_reducible repeat (first | apply Kd.S_alloc | apply Kd.S_drewN | apply Kd.S_drew)); exact HO_6.out⟩, ⟨by repeat (first | (with_reducible first | exact HB.out | apply below_alloc | apply pw_below_drewN | apply below_drew1) | exact HB.out)⟩⟩
                   ·rw [if_neg c41] at H
                    exact absurd H (by simp)
                  ·rw [if_neg c40] at H
                   exact absurd H (by simp)
                 ·rw [if_neg c39] at H
                  exact absurd H (by simp)
                ·rw [if_neg c38] at H
                 exact absurd H (by simp)
               ·rw [if_neg c37] at H
                have c37b0 : decide (x70_5 < (x6_4.length : Int)) = false := decide_eq_false c37
                have c37b0l := c37b0; (try simp only [hl6_5] at c37b0l)
                clear c37
                have H' := Aside0.mk H
                clear H
                go_wp2
                (try simp only [← hl6_4, ← hl6_5])
                go_roundg k5
                case measure => have := HK1.out; have := HK2.out; have := HK3.out; have := HK4.out; have := HK5.out; omega
                case rel => exact ⟨(x6_5), (wrap64 (x65_4 + 1)), (by first | rfl | (simp; done) | (simp [*]; done)), H', ⟨by have := HK1.out; have := HK2.out; have := HK3.out; have := HK4.out; have := HK5.out; omega⟩, ⟨by (try simp only [hl6_3]); (try simp only [hl6_4]); (try simp only [hl6_5]); (with_reducible repeat (first | apply Kd.S_alloc | apply Kd.S_drewN | apply Kd.S_drew)); exact HO_6.out⟩, ⟨by repeat (first | (with_reducible first | exact HB.out | apply below_alloc | apply pw_below_drewN | apply below_drew1) | exact HB.out)⟩⟩
            ·rw [if_neg c36] at H
             have c36b0 : decide (x65_4 < (x6_3.length : Int)) = false := decide_eq_false c36
             have c36b0l := c36b0; (try simp only [hl6_4] at c36b0l)
             clear c36
             have H' := Aside0.mk H
             clear H
             go_wp2
             (try simp only [← hl6_3, ← hl6_4])
             go_roundg k4
             case measure => have := HK1.out; have := HK2.out; have := HK3.out; have := HK4.out; omega
             case rel => exact ⟨(x6_4), (wrap64 (x60_3 + 1)), (by first | rfl | (simp; done) | (simp [*]; done)), H', ⟨by have := HK1.out; have := HK2.out; have := HK3.out; have := HK4.out; omega⟩, ⟨by (try simp only [hl6_3]); (try simp only [hl6_4]); (with_reducible repeat (first | apply Kd.S_alloc | apply Kd.S_drewN | apply Kd.S_drew)); exact HO_6.out⟩, ⟨by repeat (first | (with_reducible first | exact HB.out | apply below_alloc | apply pw_below_drewN | apply below_drew1) | exact HB.out)⟩⟩
         ·rw [if_neg c35] at H
          have c35b0 : decide (x60_3 < (x6_2.length : Int)) = false := decide_eq_false c35
          have c35b0l := c35b0; (try simp only [hl6_3] at c35b0l)
          clear c35
          have H' := Aside0.mk H
          clear H
          go_wp2
          go_loopg [125] k3 (fun kq v125 w' => ∃ (x125_4 : Int), v125 = .int .i64 x125_4 ∧ Aside0 (impl_tightest.l5 kq x6_3 (x6_3.length : Int) x125_4 = some (r1, r2)) ∧ Aside0 (kq ≤ k3) ∧ Aside0 (Kd.S (Kd.slice 2 (Kd.int .i64)) 26 w' w.heap.size (fun _ => True) (.slice Ao34 x6_3.length co34) x6_3) ∧ Aside0 (Below w.heap.size w w'))
          case atStart => exact ⟨(0), (by first | rfl | (simp; done) | (simp [*]; done)), H', ⟨Nat.le_refl _⟩, ⟨by (try simp only [hl6_3]); (with_reducible repeat (first | apply Kd.S_alloc | apply Kd.S_drewN | apply Kd.S_drew)); exact HO_6.out⟩, ⟨by repeat (first | (with_reducible first | exact HB.out | apply below_alloc | apply pw_below_drewN | apply below_drew1) | exact HB.out)⟩⟩
          case round =>
           clear H'
           try clear p2
           try clear c3
           try clear p3
           try clear q3
           try clear hx3
           try clear c4
           try clear p4
           try clear q4
           try clear hx4
           try clear hf4
           try clear c5
           try clear q5
           try clear p6
           try clear c30
           try clear p30
           try clear q30
           try clear hx30
           try clear c31
           try clear p31
           try clear q31
           try clear hx31
           try clear c35
           try clear c35b0
           try clear c36
           try clear c36b0
           try clear c37
           try clear c37b0
           try clear c38
           try clear c39
           try clear c40
           try clear c41
           try clear c42
           try clear c42b0
           try clear c43
           try clear c44
           try clear c45
           try clear c46
           try clear c46b0
           try clear c47
           try clear p49
           try clear q49
           try clear hx49
           try clear hf49
           try clear c51
           try clear q51
           try clear hx308_0
           try clear hx309_0
           try clear hx310_0
           try clear hx311_0
           try clear hx312_0
           try clear hx313_0
           try clear hx314_0
           try clear hx315_0
           try clear hx316_0
           try clear hx317_0
           try clear hx318_0
           try clear hx49_0
           try clear p308
           try clear p309
           try clear p310
           try clear p311
           try clear p312
           try clear p313
           try clear p314
           try clear p315
           try clear p316
           try clear p317
           try clear p318
           try clear p49
           try clear q308
           try clear q309
           try clear q310
           try clear q311
           try clear q312
           try clear q313
           try clear q314
           try clear q315
           try clear q316
           try clear q317
           try clear q318
           try clear q49
           obtain ⟨x125_4, rfl, HA, HK4, HO_6, HB⟩ := hrel
           cases gk with
           | zero => exact absurd HA.out (by simp [impl_tightest.l5])
           | succ k4 =>
            have H := HA.out
            clear HA
            simp only [impl_tightest.l5] at H
            by_cases c53 : x125_4 < (x6_3.length : Int)
            ·rw [if_pos c53] at H
             have c53b0 : decide (x125_4 < (x6_3.length : Int)) = true := decide_eq_true c53
             clear c53
             by_cases c54 : 0 ≤ x125_4
             ·rw [if_pos c54] at H
              have c54b0 : decide (0 ≤ x125_4) = true := decide_eq_true c54
              clear c54
              by_cases c55 : x125_4 < (x6_3.length : Int)
              ·rw [if_pos c55] at H
               have c55b0 : decide (x125_4 < (x6_3.length : Int)) = true := decide_eq_true c55
               clear c55
               by_cases c56 : x125_4 < ((rd_L6 x6_3 x125_4).length : Int)
               ·rw [if_pos c56] at H
                have c56b0 : decide (x125_4 < ((rd_L6 x6_3 x125_4).length : Int)) = true := decide_eq_true c56
                clear c56
                by_cases c57 : (rd (rd_L6 x6_3 x125_4) x125_4) < 0
                ·rw [if_pos c57] at H
                 have c57b0 : decide ((rd (rd_L6 x6_3 x125_4) x125_4) < 0) = true := decide_eq_true c57
                 clear c57
                 simp only [Option.some.injEq, Prod.mk.injEq] at H
                 obtain ⟨rfl, rfl⟩ := H
                 have p322 : 0 ≤ (x125_4 : Int) := of_decide_eq_true (by with_reducible assumption)
                 have q322 : x125_4 < (x6_3.length : Int) := of_decide_eq_true (by with_reducible assumption)
                 obtain ⟨ad322, A322_0, c322_0, e322, hx322_0, hl322_0, hi322_0⟩ := at_L6 (Kd.S_reads' HO_6.out).2.2 x125_4 p322 q322
                 cases e322
                 obtain ⟨ce322, hce322, hMe322, hcc322⟩ := Kd.S_get HO_6.out [] x125_4 p322 (by first | exact q322 | exact of_decide_eq_true (by with_reducible assumption) | (have e_ := (Kd.S_reads' HO_6.out).1; omega))
                 obtain ⟨ve322_0, rfl, ge322_0⟩ := hMe322
                 have hv322_0 := hcc322 0 _ rfl
                 rw [Nat.add_zero, show ((Kd.slice 2 (Kd.int .i64))).sz = 1 from rfl, Nat.mul_one] at hv322_0
                 replace hv322_0 := Option.some.inj (hv322_0.symm.trans hx322_0)
                 rw [hv322_0] at ge322_0
                 have HL322_0 := Aside0.mk (show Kd.R (Kd.int .i64) 2 _ _ _ _ (rd_L6 x6_3 x125_4) from ge322_0)
                 clear hv322_0 ge322_0
                 have HX322_0 := Aside0.mk hx322_0
                 clear hcc322 hce322
                 have HR322_0 := Aside0.mk hi322_0
                 have HC322_0 := Aside0.mk hl322_0
                 clear hi322_0 hl322_0
                 replace p322 := eq_true p322
                 replace q322 := eq_true q322
                 have p323 : 0 ≤ (x125_4 : Int) := of_decide_eq_true (by with_reducible assumption)
                 have q323 : x125_4 < ((rd_L6 x6_3 x125_4).length : Int) := of_decide_eq_true (by with_reducible assumption)
                 obtain ⟨ad323, e323, hx323_0⟩ := Kd.at_int (by repeat (first | (with_reducible exact HR322_0.out) | (with_reducible refine Kd.C_alloc ?_ _) | (with_reducible refine Kd.C_drewN ?_ _) | (with_reducible refine Kd.C_drew ?_) | exact HR322_0.out)) x125_4 p323 q323
                 cases e323
                 replace p323 := eq_true p323
                 replace q323 := eq_true q323
                 go_wp2
                 go_ret2
                 exact ⟨_, by first | rfl | (simp [errW_none, errW_some] <;> rfl) | (simp [*, errW_none, errW_some] <;> rfl), by first | exact Kd.S_nil _ _ _ _ _ | exact Kd.N_nil _ _ _ _ _ | exact Kd.V_nil _ _ _ _ _ | exact Kd.Q_nil _ _ _ _ _ | exact Kd.R_nil _ _ _ _ _, by repeat (first | (with_reducible first | exact HB.out | apply below_alloc | apply pw_below_drewN | apply below_drew1) | exact HB.out)⟩
                ·rw [if_neg c57] at H
                 have c57b0 : decide ((rd (rd_L6 x6_3 x125_4) x125_4) < 0) = false := decide_eq_false c57
                 clear c57
                 have H' := Aside0.mk H
                 clear H
                 have p322 : 0 ≤ (x125_4 : Int) := of_decide_eq_true (by with_reducible assumption)
                 have q322 : x125_4 < (x6_3.length : Int) := of_decide_eq_true (by with_reducible assumption)
                 obtain ⟨ad322, A322_0, c322_0, e322, hx322_0, hl322_0, hi322_0⟩ := at_L6 (Kd.S_reads' HO_6.out).2.2 x125_4 p322 q322
                 cases e322
                 obtain ⟨ce322, hce322, hMe322, hcc322⟩ := Kd.S_get HO_6.out [] x125_4 p322 (by first | exact q322 | exact of_decide_eq_true (by with_reducible assumption) | (have e_ := (Kd.S_reads' HO_6.out).1; omega))
                 obtain ⟨ve322_0, rfl, ge322_0⟩ := hMe322
                 have hv322_0 := hcc322 0 _ rfl
                 rw [Nat.add_zero, show ((Kd.slice 2 (Kd.int .i64))).sz = 1 from rfl, Nat.mul_one] at hv322_0
                 replace hv322_0 := Option.some.inj (hv322_0.symm.trans hx322_0)
                 rw [hv322_0] at ge322_0
                 have HL322_0 := Aside0.mk (show Kd.R (Kd.int .i64) 2 _ _ _ _ (rd_L6 x6_3 x125_4) from ge322_0)
                 clear hv322_0 ge322_0
                 have HX322_0 := Aside0.mk hx322_0
                 clear hcc322 hce322
                 have HR322_0 := Aside0.mk hi322_0
                 have HC322_0 := Aside0.mk hl322_0
                 clear hi322_0 hl322_0
                 replace p322 := eq_true p322
                 replace q322 := eq_true q322
                 have p323 : 0 ≤ (x125_4 : Int) := of_decide_eq_true (by with_reducible assumption)
                 have q323 : x125_4 < ((rd_L6 x6_3 x125_4).length : Int) := of_decide_eq_true (by with_reducible assumption)
                 obtain ⟨ad323, e323, hx323_0⟩ := Kd.at_int (by repeat (first | (with_reducible exact HR322_0.out) | (with_reducible refine Kd.C_alloc ?_ _) | (with_reducible refine Kd.C_drewN ?_ _) | (with_reducible refine Kd.C_drew ?_) | exact HR322_0.out)) x125_4 p323 q323
                 cases e323
                 replace p323 := eq_true p323
                 replace q323 := eq_true q323
                 go_wp2
                 go_roundg k4
                 case measure => have := HK1.out; have := HK2.out; have := HK3.out; have := HK4.out; omega
                 case rel => exact ⟨(wrap64 (x125_4 + 1)), (by first | rfl | (simp; done) | (simp [*]; done)), H', ⟨by have := HK1.out; have := HK2.out; have := HK3.out; have := HK4.out; omega⟩, ⟨by (try simp only [hl6_3]); (with_reducible repeat (first | apply Kd.S_alloc | apply Kd.S_drewN | apply Kd.S_drew)); exact HO_6.out⟩, ⟨by repeat (first | (with_reducible first | exact HB.out | apply below_alloc | apply pw_below_drewN | apply below_drew1) | exact HB.out)⟩⟩
               ·rw [if_neg c56] at H
                exact absurd H (by simp)
              ·rw [if_neg c55] at H
               exact absurd H (by simp)
             ·rw [if_neg c54] at H
              exact absurd H (by simp)
            ·rw [if_neg c53] at H
             have c53b0 : decide (x125_4 < (x6_3.length : Int)) = false := decide_eq_false c53
             clear c53
             simp only [Option.some.injEq, Prod.mk.injEq] at H
             obtain ⟨rfl, rfl⟩ := H
             go_wp2
             go_ret2
             exact ⟨_, by first | rfl | (simp [errW_none, errW_some] <;> rfl) | (simp [*, errW_none, errW_some] <;> rfl), by (with_reducible repeat (first | apply Kd.S_alloc | apply Kd.S_drewN | apply Kd.S_drew)); exact HO_6.out, by repeat (first | (with_reducible first | exact HB.out | apply below_alloc | apply pw_below_drewN | apply below_drew1) | exact HB.out)⟩

end Go.Proofs.Ytkdijegkoajdgaa.Pa

namespace Go.Proofs.Ytkdijegkoajdgaa.Pa
open Go.RowKit Go.Proofs.YtkdijegkoajdgaaW.PrintWords Go.Proofs.YtkdijegkoajdgaaW.PrintLast Go.Proofs.YtkdijegkoajdgaaW.PrintMore
attribute [local go_sem] max2_int min2_int max_two min_two max_three min_three max_four min_four   -- for this text's walks alone
set_option linter.unusedVariables false
set_option linter.unusedSimpArgs false

/-! ### spec_l00In: function 30 -/
def spec_l00In.f (a0 : Int) (a1 : Int) (a2 : Int) : Option (Bool) := if a0 ≥ a1 then (some (decide (a0 ≤ a2))) else (some false)
set_option maxHeartbeats 8000000 in
set_option maxRecDepth 100000 in
theorem spec_l00In.calls (a0 : Int) (a1 : Int) (a2 : Int) (r : Bool) (w : World) (h : spec_l00In.f a0 a1 a2 = some r) :
  Calls Try.prog 30 #[.int .i64 a0, .int .i64 a1, .int .i64 a2] w fun e w' => e = .returned (.bool r) ∧ Drawn0 w w' := by
 have H : (if a0 ≥ a1 then (some (decide (a0 ≤ a2))) else (some false)) = some r := h
 clear h
 by_cases c4 : a0 ≥ a1
 ·rw [if_pos c4] at H
  have c4b0 : decide (a1 ≤ a0) = true := decide_eq_true c4
  clear c4
  obtain rfl := Option.some.inj H
  go_enter Try.func30, Try.ntmps30
  go_wp2
  go_ret
  exact ⟨by first | rfl | (simp; done) | (simp [*]; done), by repeat (first | exact Drawn0.refl _ | apply Drawn0.step)⟩
 ·rw [if_neg c4] at H
  have c4b0 : decide (a1 ≤ a0) = false := decide_eq_false c4
  clear c4
  obtain rfl := Option.some.inj H
  go_enter Try.func30, Try.ntmps30
  go_wp2
  go_ret
  exact ⟨by first | rfl | (simp; done) | (simp [*]; done), by repeat (first | exact Drawn0.refl _ | apply Drawn0.step)⟩

end Go.Proofs.Ytkdijegkoajdgaa.Pa

namespace Go.Proofs.Ytkdijegkoajdgaa.Pa
open Go.RowKit Go.Proofs.YtkdijegkoajdgaaW.PrintWords Go.Proofs.YtkdijegkoajdgaaW.PrintLast Go.Proofs.YtkdijegkoajdgaaW.PrintMore
attribute [local go_sem] max2_int min2_int max_two min_two max_three min_three max_four min_four   -- for this text's walks alone
set_option linter.unusedVariables false
set_option linter.unusedSimpArgs false

/-! ### spec_l04Bound: function 31 -/
def spec_l04Bound.f (a0 : Int) (a1_0 : Int) (a1_1 : Int) (a1_2 : Int) : Option (Bool) := (spec_l00In.f a1_0 0 (wrap64 (a0 - 1))).bind fun t104 => (if t104 = true then ((spec_l00In.f a1_1 0 (wrap64 (a0 - 1))).bind fun t105 => (if t105 = true then (if a1_0 = a1_1 then (some false) else ((spec_l00In.f a1_2 (-1000) 1000).bind fun t106 => (some t106))) else (some false))) else (some false))
set_option maxHeartbeats 8000000 in
set_option maxRecDepth 100000 in
theorem spec_l04Bound.calls (a0 : Int) (a1_0 : Int) (a1_1 : Int) (a1_2 : Int) (r : Bool) (w : World) (h : spec_l04Bound.f a0 a1_0 a1_1 a1_2 = some r) :
  Calls Try.prog 31 #[.int .i64 a0, .agg #[.int .i64 a1_0, .int .i64 a1_1, .int .i64 a1_2]] w fun e w' => e = .returned (.bool r) ∧ Below w.heap.size w w' := by
 have hu53 := Try.underlying53
 have HB := Aside0.mk (Below.refl w.heap.size w)
 have H : ((spec_l00In.f a1_0 0 (wrap64 (a0 - 1))).bind fun t104 => (if t104 = true then ((spec_l00In.f a1_1 0 (wrap64 (a0 - 1))).bind fun t105 => (if t105 = true then (if a1_0 = a1_1 then (some false) else ((spec_l00In.f a1_2 (-1000) 1000).bind fun t106 => (some t106))) else (some false))) else (some false))) = some r := h
 clear h
 replace H := Option.bind_eq_some_iff.mp H
 obtain ⟨t104, A30, H⟩ := H
 replace H : (if t104 = true then ((spec_l00In.f a1_1 0 (wrap64 (a0 - 1))).bind fun t105 => (if t105 = true then (if a1_0 = a1_1 then (some false) else ((spec_l00In.f a1_2 (-1000) 1000).bind fun t106 => (some t106))) else (some false))) else (some false)) = some r := H
 have A3 := Aside0.mk A30
 clear A30
 by_cases c4 : t104 = true
 ·subst c4
  have H1 : ((spec_l00In.f a1_1 0 (wrap64 (a0 - 1))).bind fun t105 => (if t105 = true then (if a1_0 = a1_1 then (some false) else ((spec_l00In.f a1_2 (-1000) 1000).bind fun t106 => (some t106))) else (some false))) = some r := by rw [if_pos rfl] at H; exact H
  clear H
  have H := H1
  clear H1
  replace H := Option.bind_eq_some_iff.mp H
  obtain ⟨t105, A50, H⟩ := H
  replace H : (if t105 = true then (if a1_0 = a1_1 then (some false) else ((spec_l00In.f a1_2 (-1000) 1000).bind fun t106 => (some t106))) else (some false)) = some r := H
  have A5 := Aside0.mk A50
  clear A50
  by_cases c6 : t105 = true
  ·subst c6
   have H1 : (if a1_0 = a1_1 then (some false) else ((spec_l00In.f a1_2 (-1000) 1000).bind fun t106 => (some t106))) = some r := by rw [if_pos rfl] at H; exact H
   clear H
   have H := H1
   clear H1
   by_cases c7 : a1_0 = a1_1
   ·rw [if_pos c7] at H
    have c7b0 : (a1_0 == a1_1) = true := beq_iff_eq.mpr c7
    have c7b1 : (a1_0 != a1_1) = false := bne_eq_false_iff_eq.mpr c7
    clear c7
    obtain rfl := Option.some.inj H
    go_enter Try.func31, Try.ntmps31
    go_wp2_with (first | ((with_reducible refine gate_dst (N := 3) rfl ?_); refine box_event ?hg (N := 3) ?hd (cs := #[.int .i64 a1_0, .int .i64 a1_1, .int .i64 a1_2]) (t := 53) ?hr ?_; (case hd => rfl); (case hg => rfl); (case hr => first | (go_simp; done) | (go_simp; rfl)); intro gb103 hg w8 hbox hb; have n0_ := Aside0.mk (below_step (by repeat (first | (with_reducible first | exact HB.out | apply below_alloc | apply pw_below_drewN | apply below_drew1) | exact HB.out)) hb); have n1_ := Aside0.mk (hbox); have n2_ := Aside0.mk ((by rw [hg]; exact (below_size (by repeat (first | (with_reducible first | exact HB.out | apply below_alloc | apply pw_below_drewN | apply below_drew1) | exact HB.out))) : w.heap.size ≤ gb103)); have n3_ := Aside0.mk ((by rw [hg]; exact (below_size (by repeat (first | (with_reducible first | exact HB.out | apply below_alloc | apply pw_below_drewN | apply below_drew1) | exact HB.out))) : w.heap.size ≤ gb103)); clear HB; have HB := n0_; have BK103 := n1_; have GW103 := n2_; have GE103 := n3_; clear n0_ n1_ n2_ n3_; clear hb hbox hg; have hcz9_0 : w8.cell? ⟨gb103, 0, none⟩ = some (.int .i64 a1_0) := (blk_cell BK103.out 0).trans rfl; have hcz9_1 : w8.cell? ⟨gb103, 1, none⟩ = some (.int .i64 a1_1) := (blk_cell BK103.out 1).trans rfl; have hcz9_2 : w8.cell? ⟨gb103, 2, none⟩ = some (.int .i64 a1_2) := (blk_cell BK103.out 2).trans rfl; have hfz9_0 := blk_frozen BK103.out 0; have hfz9_1 := blk_frozen BK103.out 1; have hfz9_2 := blk_frozen BK103.out 2) | ((with_reducible refine gate_callee (f := 30) rfl ?_); refine goesL_ (some 9) rfl rfl Try.func30 (by kernel_rfl) rfl #[.int .i64 a1_0, .int .i64 0, .int .i64 (wrap64 (a0 - 1))] rfl (by (try simp only [List.map_toArray, List.map_cons, List.map_nil]); first | done | rfl | (simp only [List.length_drop, List.length_take]; rfl)) ?_; (with_reducible refine (spec_l00In.calls a1_0 0 (wrap64 (a0 - 1)) true _ A3.out).mono ?_); rintro e w' ⟨rfl, ⟨nd, rfl⟩⟩; refine ⟨_, rfl, ?_⟩) | (go_at_call 30; (with_reducible refine (spec_l00In.calls a1_1 0 (wrap64 (a0 - 1)) true _ A5.out).mono ?_); rintro e w' ⟨rfl, ⟨nd, rfl⟩⟩))
    go_ret
    exact ⟨by first | rfl | (simp [errW_none, errW_some] <;> rfl) | (simp [*, errW_none, errW_some] <;> rfl), by repeat (first | (with_reducible first | exact HB.out | apply below_alloc | apply pw_below_drewN | apply below_drew1 | refine below_set ?_ GE103.out) | exact HB.out)⟩
   ·rw [if_neg c7] at H
    have c7b0 : (a1_0 == a1_1) = false := beq_eq_false_iff_ne.mpr c7
    have c7b1 : (a1_0 != a1_1) = true := bne_iff_ne.mpr c7
    replace H := Option.bind_eq_some_iff.mp H
    obtain ⟨t106, A100, H⟩ := H
    replace H : (some t106) = some r := H
    have A10 := Aside0.mk A100
    clear A100
    obtain rfl := Option.some.inj H
    go_enter Try.func31, Try.ntmps31
    go_wp2_with (first | ((with_reducible refine gate_dst (N := 3) rfl ?_); refine box_event ?hg (N := 3) ?hd (cs := #[.int .i64 a1_0, .int .i64 a1_1, .int .i64 a1_2]) (t := 53) ?hr ?_; (case hd => rfl); (case hg => rfl); (case hr => first | (go_simp; done) | (go_simp; rfl)); intro gb103 hg w11 hbox hb; have n0_ := Aside0.mk (below_step (by repeat (first | (with_reducible first | exact HB.out | apply below_alloc | apply pw_below_drewN | apply below_drew1) | exact HB.out)) hb); have n1_ := Aside0.mk (hbox); have n2_ := Aside0.mk ((by rw [hg]; exact (below_size (by repeat (first | (with_reducible first | exact HB.out | apply below_alloc | apply pw_below_drewN | apply below_drew1) | exact HB.out))) : w.heap.size ≤ gb103)); have n3_ := Aside0.mk ((by rw [hg]; exact (below_size (by repeat (first | (with_reducible first | exact HB.out | apply below_alloc | apply pw_below_drewN | apply below_drew1) | exact HB.out))) : w.heap.size ≤ gb103)); clear HB; have HB := n0_; have BK103 := n1_; have GW103 := n2_; have GE103 := n3_; clear n0_ n1_ n2_ n3_; clear hb hbox hg; have hcz12_0 : w11.cell? ⟨gb103, 0, none⟩ = some (.int .i64 a1_0) := (blk_cell BK103.out 0).trans rfl; have hcz12_1 : w11.cell? ⟨gb103, 1, none⟩ = some (.int .i64 a1_1) := (blk_cell BK103.out 1).trans rfl; have hcz12_2 : w11.cell? ⟨gb103, 2, none⟩ = some (.int .i64 a1_2) := (blk_cell BK103.out 2).trans rfl; have hfz12_0 := blk_frozen BK103.out 0; have hfz12_1 := blk_frozen BK103.out 1; have hfz12_2 := blk_frozen BK103.out 2) | ((with_reducible refine gate_callee (f := 30) rfl ?_); refine goesL_ (some 9) rfl rfl Try.func30 (by kernel_rfl) rfl #[.int .i64 a1_0, .int .i64 0, .int .i64 (wrap64 (a0 - 1))] rfl (by (try simp only [List.map_toArray, List.map_cons, List.map_nil]); first | done | rfl | (simp only [List.length_drop, List.length_take]; rfl)) ?_; (with_reducible refine (spec_l00In.calls a1_0 0 (wrap64 (a0 - 1)) true _ A3.out).mono ?_); rintro e w' ⟨rfl, ⟨nd, rfl⟩⟩; refine ⟨_, rfl, ?_⟩) | (go_at_call 30; (with_reducible refine (spec_l00In.calls a1_1 0 (wrap64 (a0 - 1)) true _ A5.out).mono ?_); rintro e w' ⟨rfl, ⟨nd, rfl⟩⟩) | (go_at_call 30; (with_reducible refine (spec_l00In.calls a1_2 (-1000) 1000 t106 _ A10.out).mono ?_); rintro e w' ⟨rfl, ⟨nd, rfl⟩⟩))
    go_ret
    exact ⟨by first | rfl | (simp [errW_none, errW_some] <;> rfl) | (simp [*, errW_none, errW_some] <;> rfl), by repeat (first | (with_reducible first | exact HB.out | apply below_alloc | apply pw_below_drewN | apply below_drew1 | refine below_set ?_ GE103.out) | exact HB.out)⟩
  ·replace c6 := Bool.eq_false_iff.mpr c6
   subst c6
   have H1 : (some false) = some r := by rw [if_neg (show ¬ (false = true) by decide)] at H; exact H
   clear H
   have H := H1
   clear H1
   obtain rfl := Option.some.inj H
   go_enter Try.func31, Try.ntmps31
   go_wp2_with (first | ((with_reducible refine gate_dst (N := 3) rfl ?_); refine box_event ?hg (N := 3) ?hd (cs := #[.int .i64 a1_0, .int .i64 a1_1, .int .i64 a1_2]) (t := 53) ?hr ?_; (case hd => rfl); (case hg => rfl); (case hr => first | (go_simp; done) | (go_simp; rfl)); intro gb103 hg w13 hbox hb; have n0_ := Aside0.mk (below_step (by repeat (first | (with_reducible first | exact HB.out | apply below_alloc | apply pw_below_drewN | apply below_drew1) | exact HB.out)) hb); have n1_ := Aside0.mk (hbox); have n2_ := Aside0.mk ((by rw [hg]; exact (below_size (by repeat (first | (with_reducible first | exact HB.out | apply below_alloc | apply pw_below_drewN | apply below_drew1) | exact HB.out))) : w.heap.size ≤ gb103)); have n3_ := Aside0.mk ((by rw [hg]; exact (below_size (by repeat (first | (with_reducible first | exact HB.out | apply below_alloc | apply pw_below_drewN | apply below_drew1) | exact HB.out))) : w.heap.size ≤ gb103)); clear HB; have HB := n0_; have BK103 := n1_; have GW103 := n2_; have GE103 := n3_; clear n0_ n1_ n2_ n3_; clear hb hbox hg; have hcz14_0 : w13.cell? ⟨gb103, 0, none⟩ = some (.int .i64 a1_0) := (blk_cell BK103.out 0).trans rfl; have hcz14_1 : w13.cell? ⟨gb103, 1, none⟩ = some (.int .i64 a1_1) := (blk_cell BK103.out 1).trans rfl; have hcz14_2 : w13.cell? ⟨gb103, 2, none⟩ = some (.int .i64 a1_2) := (blk_cell BK103.out 2).trans rfl; have hfz14_0 := blk_frozen BK103.out 0; have hfz14_1 := blk_frozen BK103.out 1; have hfz14_2 := blk_frozen BK103.out 2) | ((with_reducible refine gate_callee (f := 30) rfl ?_); refine goesL_ (some 9) rfl rfl Try.func30 (by kernel_rfl) rfl #[.int .i64 a1_0, .int .i64 0, .int .i64 (wrap64 (a0 - 1))] rfl (by (try simp only [List.map_toArray, List.map_cons, List.map_nil]); first | done | rfl | (simp only [List.length_drop, List.length_take]; rfl)) ?_; (with_reducible refine (spec_l00In.calls a1_0 0 (wrap64 (a0 - 1)) true _ A3.out).mono ?_); rintro e w' ⟨rfl, ⟨nd, rfl⟩⟩; refine ⟨_, rfl, ?_⟩) | (go_at_call 30; (with_reducible refine (spec_l00In.calls a1_1 0 (wrap64 (a0 - 1)) false _ A5.out).mono ?_); rintro e w' ⟨rfl, ⟨nd, rfl⟩⟩))
   go_ret
   exact ⟨by first | rfl | (simp [errW_none, errW_some] <;> rfl) | (simp [*, errW_none, errW_some] <;> rfl), by repeat (first | (with_reducible first | exact HB.out | apply below_alloc | apply pw_below_drewN | apply below_drew1 | refine below_set ?_ GE103.out) | exact HB.out)⟩
 ·replace c4 := Bool.eq_false_iff.mpr c4
  subst c4
  have H1 : (some false) = some r := by rw [if_neg (show ¬ (false = true) by decide)] at H; exact H
  clear H
  have H := H1
  clear H1
  obtain rfl := Option.some.inj H
  go_enter Try.func31, Try.ntmps31
  go_wp2_with (first | ((with_reducible refine gate_dst (N := 3) rfl ?_); refine box_event ?hg (N := 3) ?hd (cs := #[.int .i64 a1_0, .int .i64 a1_1, .int .i64 a1_2]) (t := 53) ?hr ?_; (case hd => rfl); (case hg => rfl); (case hr => first | (go_simp; done) | (go_simp; rfl)); intro gb103 hg w15 hbox hb; have n0_ := Aside0.mk (below_step (by repeat (first | (with_reducible first | exact HB.out | apply below_alloc | apply pw_below_drewN | apply below_drew1) | exact HB.out)) hb); have n1_ := Aside0.mk (hbox); have n2_ := Aside0.mk ((by rw [hg]; exact (below_size (by repeat (first | (with_reducible first | exact HB.out | apply below_alloc | apply pw_below_drewN | apply below_drew1) | exact HB.out))) : w.heap.size ≤ gb103)); have n3_ := Aside0.mk ((by rw [hg]; exact (below_size (by repeat (first | (with_reducible first | exact HB.out | apply below_alloc | apply pw_below_drewN | apply below_drew1) | exact HB.out))) : w.heap.size ≤ gb103)); clear HB; have HB := n0_; have BK103 := n1_; have GW103 := n2_; have GE103 := n3_; clear n0_ n1_ n2_ n3_; clear hb hbox hg; have hcz16_0 : w15.cell? ⟨gb103, 0, none⟩ = some (.int .i64 a1_0) := (blk_cell BK103.out 0).trans rfl; have hcz16_1 : w15.cell? ⟨gb103, 1, none⟩ = some (.int .i64 a1_1) := (blk_cell BK103.out 1).trans rfl; have hcz16_2 : w15.cell? ⟨gb103, 2, none⟩ = some (.int .i64 a1_2) := (blk_cell BK103.out 2).trans rfl; have hfz16_0 := blk_frozen BK103.out 0; have hfz16_1 := blk_frozen BK103.out 1; have hfz16_2 := blk_frozen BK103.out 2) | ((with_reducible refine gate_callee (f := 30) rfl ?_); refine goesL_ (some 9) rfl rfl Try.func30 (by kernel_rfl) rfl #[.int .i64 a1_0, .int .i64 0, .int .i64 (wrap64 (a0 - 1))] rfl (by (try simp only [List.map_toArray, List.map_cons, List.map_nil]); first | done | rfl | (simp only [List.length_drop, List.length_take]; rfl)) ?_; (with_reducible refine (spec_l00In.calls a1_0 0 (wrap64 (a0 - 1)) false _ A3.out).mono ?_); rintro e w' ⟨rfl, ⟨nd, rfl⟩⟩; refine ⟨_, rfl, ?_⟩))
  go_ret
  exact ⟨by first | rfl | (simp [errW_none, errW_some] <;> rfl) | (simp [*, errW_none, errW_some] <;> rfl), by repeat (first | (with_reducible first | exact HB.out | apply below_alloc | apply pw_below_drewN | apply below_drew1 | refine below_set ?_ GE103.out) | exact HB.out)⟩

end Go.Proofs.Ytkdijegkoajdgaa.Pa

