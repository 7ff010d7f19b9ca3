-- Written for this claim by a program of this session.
import Derived.Test.YtbkofbcmhddbfaaPPax0
import Derived.Test.YtbkofbcmhddbfaaPCoreP1
import Derived.Test.YtbkofbcmhddbfaaPCoreP5
import Derived.Test.YtbkofbcmhddbfaaPCoreP3
import Derived.RangeFuncNested
import Derived.RangeFuncBound
import Derived.RangeFuncCalls
import Derived.RangeFuncLeaves
import Derived.RangeFuncBox
import Derived.Shelf.Abstract
import Derived.Shelf.RegionOpen
import Derived.WalkKit
import Derived.OwnWalkIn
import Derived.TacticsInMore
import Derived.LoopNIn
import Derived.LoopIn
namespace Go.Proofs.Ytbkofbcmhddbfaa.Pa
open Go.RowKit Go.Proofs.YtbkofbcmhddbfaaW.PrintWords Go.Proofs.YtbkofbcmhddbfaaW.PrintLast Go.Proofs.YtbkofbcmhddbfaaW.PrintMore
attribute [local go_sem] max2_int min2_int max_two min_two max_three min_three max_four min_four   -- for this text's walks alone
set_option linter.unusedVariables false
set_option linter.unusedSimpArgs false

/-! ### impl_LongestPath: function 9 -/
def impl_LongestPath.T4 : Bool × List (List Nat × List Nat) := (true, [([], []), ([], []), ([1], [1]), ([0, 2, 2], [0, 2]), ([], []), ([4], [4]), ([], []), ([5, 6], [5, 6]), ([7], [7]), ([], []), ([], []), ([9, 3, 3, 0, 1, 2, 3, 9, 10], [3, 9]), ([10, 8, 11, 0, 1, 2, 3, 4, 5, 6, 7, 8, 9, 10, 11], [8, 10])])
def impl_LongestPath.B4 : List Nat := [0, 0, 2, 7, 0, 16, 0, 112, 240, 0, 0, 1551, 4095]
theorem impl_LongestPath.tab4 : rtab .any (opsOf Try.f9 4) = impl_LongestPath.T4 := by kernel_rfl
theorem impl_LongestPath.bits4 : waitsOk impl_LongestPath.T4.2 impl_LongestPath.B4 = true := by kernel_rfl
def impl_LongestPath.T14 : Bool × List (List Nat × List Nat) := (true, [([], []), ([], []), ([], []), ([], []), ([2, 3], [2, 3]), ([4], [4]), ([], []), ([], []), ([6, 7], [6, 7]), ([8], [8]), ([], []), ([10], [10]), ([9, 11], [9, 11]), ([5, 12], [5, 12]), ([0, 1, 0, 1, 2, 3, 4, 5, 6, 7, 8, 9, 10, 11, 12, 13], [0, 1]), ([14, 13, 0, 1, 2, 3, 4, 5, 6, 7, 8, 9, 10, 11, 12, 13], [13, 14])])
def impl_LongestPath.B14 : List Nat := [0, 0, 0, 0, 12, 28, 0, 0, 192, 448, 0, 1024, 4032, 8188, 16383, 32767]
theorem impl_LongestPath.tab14 : rtab .any (opsOf Try.f9 14) = impl_LongestPath.T14 := by kernel_rfl
theorem impl_LongestPath.bits14 : waitsOk impl_LongestPath.T14.2 impl_LongestPath.B14 = true := by kernel_rfl
def impl_LongestPath.T23 : Bool × List (List Nat × List Nat) := (true, [([], []), ([0], [0]), ([], []), ([1, 2], [1, 2]), ([3, 3], [3]), ([4], [4]), ([4], [4]), ([5, 6, 4], [4, 5, 6]), ([7, 4], [4, 7]), ([8, 4], [4, 8]), ([4, 9], [4, 9]), ([10, 4], [10]), ([11], [11]), ([11], [11]), ([12, 13, 11], [11, 12, 13]), ([14, 11], [11, 14]), ([11], [11]), ([11], [11]), ([16, 17, 11], [11, 16, 17]), ([18, 11], [11, 18]), ([11], [11]), ([20, 11], [11, 20]), ([19, 21, 11], [11, 19, 21]), ([15, 22, 11], [11, 15, 22]), ([11, 23], [11, 23])])
def impl_LongestPath.B23 : List Nat := [0, 1, 0, 7, 15, 31, 31, 127, 255, 511, 1023, 2047, 4095, 4095, 16383, 32767, 4095, 4095, 200703, 462847, 4095, 1052671, 4132863, 8388607, 16777215]
theorem impl_LongestPath.tab23 : rtab .any (opsOf Try.f9 23) = impl_LongestPath.T23 := by kernel_rfl
theorem impl_LongestPath.bits23 : waitsOk impl_LongestPath.T23.2 impl_LongestPath.B23 = true := by kernel_rfl
def impl_LongestPath.f (k : Nat) (a0_0 : Int) (l0_1 : List (S36)) (l0_2 : List Int) (a0_3 : Int) (a0_4 : Int) (a0_5 : Int) (a0_6 : Int) (a1 : Int) (a2 : Int) : Option (List Int × Bool) :=
 (impl_PathDelays.f k a0_0 l0_1 l0_2 a0_3 a0_4 a0_5 a0_6 a1 a2).bind fun p => match p.2.2 with
  | true => if longC a0_0 l0_1 l0_2 a1 a2 = true then (pathL a0_0 (rd l0_2 a2) l0_1 (restP a0_0 (rd l0_2 a2) l0_1) 40 a1 [a1]).bind fun x => some (x, true) else none
  | false => some ([], false)
theorem lp_index (l : List Int) (hl : l.length ≤ 9223372036854775807) (x : Int) (d : Nat) : ∀ (k i : Nat), i + d = l.length → d < k → ∃ v, slices_Index_int64_int64.l0 k l x (l.length : Int) (i : Int) = some v ∧ decide (v ≥ 0) = (l.drop i).contains x := by
 induction d with
 | zero =>
  intro k i hi hk
  obtain ⟨k, rfl⟩ : ∃ q, k = q + 1 := ⟨k - 1, by omega⟩
  simp only [slices_Index_int64_int64.l0]
  rw [if_neg (by omega), List.drop_of_length_le (by omega)]
  exact ⟨_, rfl, rfl⟩
 | succ d ih =>
  intro k i hi hk
  obtain ⟨k, rfl⟩ : ∃ q, k = q + 1 := ⟨k - 1, by omega⟩
  have hlt : i < l.length := by omega
  obtain ⟨v, hv, hv2⟩ := ih k (i + 1) (by omega) (by omega)
  simp only [slices_Index_int64_int64.l0]
  rw [if_pos (by omega), if_pos (by omega), if_pos (by omega), j_wrap hlt hl, hv, drop_rd l i hlt, List.contains_cons]
  by_cases e : x = rd l (i : Int)
  ·rw [if_pos e]
   refine ⟨_, rfl, ?_⟩
   have : (x == rd l (i : Int)) = true := by simpa using e
   rw [this, Bool.true_or]
   simp
  ·rw [if_neg e]
   refine ⟨_, rfl, ?_⟩
   have : (x == rd l (i : Int)) = false := by simpa using e
   rw [this, Bool.false_or, hv2]
theorem lp_contains (l : List Int) (hl : l.length ≤ 9223372036854775807) (x : Int) : ∃ k, slices_Contains_int64_int64.f k l x = some (decide (x ∈ l)) := by
 obtain ⟨v, hv, hv2⟩ := lp_index l hl x l.length (l.length + 1) 0 (by omega) (by omega)
 refine ⟨l.length + 1, ?_⟩
 rw [show ((0 : Nat) : Int) = 0 from rfl] at hv
 unfold slices_Contains_int64_int64.f slices_Index_int64_int64.f
 rw [hv]
 simp only [Option.bind_some, hv2, List.drop_zero, List.contains_eq_mem]
attribute [local go_sem] Oper.semAt_some
set_option maxHeartbeats 16000000 in
set_option maxRecDepth 100000 in
theorem impl_LongestPath.calls (k : Nat) (a0_0 : Int) (A0_1 : Option Addr) (c0_1 : Nat) (l0_1 : List (S36)) (A0_2 : Option Addr) (c0_2 : Nat) (l0_2 : List Int) (a0_3 : Int) (a0_4 : Int) (a0_5 : Int) (a0_6 : Int) (a1 : Int) (a2 : Int) (r1 : List Int) (r2 : Bool) (w : World) (hr0_1 : Kd.C k36 w A0_1 l0_1.length l0_1) (hc0_1 : l0_1.length ≤ c0_1) (hr0_2 : Kd.C (Kd.int .i64) w A0_2 l0_2.length l0_2) (hc0_2 : l0_2.length ≤ c0_2) (h : impl_LongestPath.f k a0_0 l0_1 l0_2 a0_3 a0_4 a0_5 a0_6 a1 a2 = some (r1, r2)) :
  Calls Try.prog 9 #[.agg #[.int .i64 a0_0, .slice A0_1 l0_1.length c0_1, .slice A0_2 l0_2.length c0_2, .int .i64 a0_3, .int .i64 a0_4, .int .i64 a0_5, .int .i64 a0_6], .int .i64 a1, .int .i64 a2] w fun e w' => ∃ v0_ : Value, e = .returned (.tuple #[v0_, .bool r2]) ∧ Kd.R (Kd.int .i64) 2 w' w.heap.size (fun _ => True) v0_ r1 ∧ Below w.heap.size w w' := by
 have hu := Try.underlying27
 have hu2 := Try.underlying36
 have hu3 := Try.underlying25
 obtain ⟨⟨d1, d2, ok⟩, hp, h⟩ := Option.bind_eq_some_iff.mp h
 dsimp only at h
 have HR1 := Aside0.mk hr0_1
 have HC1 := Aside0.mk hc0_1
 have HR2 := Aside0.mk hr0_2
 have HC2 := Aside0.mk hc0_2
 have HP := Aside0.mk hp
 clear hr0_1 hc0_1 hr0_2 hc0_2 hp
 cases ok with
 | false =>
  injection h with h
  injection h with e1 e2
  subst e1
  subst e2
  go_enter Try.func9, Try.ntmps9
  go_wp2_with (first | ((with_reducible refine gate_dst (N := 3) rfl ?_); refine box_event ?hg (N := 3) ?hd (cs := #[.int .i64 a0_0, .slice A0_1 l0_1.length c0_1, .slice A0_2 l0_2.length c0_2, .int .i64 a0_3, .int .i64 a0_4, .int .i64 a0_5, .int .i64 a0_6]) (t := 27) ?hr ?_; (case hd => rfl); (case hg => rfl); (case hr => first | (go_simp; done) | (go_simp; rfl)); intro gb hg_ w1 hbox_ hb_; have HX_gb := Aside0.mk hbox_; have HB_w1 := Aside0.mk hb_; have HG_gb := Aside0.mk hg_; clear hbox_ hb_ hg_; have b0 := blk_cell HX_gb.out 0; have b1 := blk_cell HX_gb.out 1; have b2 := blk_cell HX_gb.out 2; have b3 := blk_cell HX_gb.out 3; have b4 := blk_cell HX_gb.out 4; have b5 := blk_cell HX_gb.out 5; have b6 := blk_cell HX_gb.out 6) | (go_at_call 8; refine (impl_PathDelays.calls (hr0_1 := Kd.C_below HR1.out HB_w1.out) (hc0_1 := HC1.out) (hr0_2 := Kd.C_below HR2.out HB_w1.out) (hc0_2 := HC2.out) (h := HP.out)).mono ?_; rintro e w2 ⟨rfl, hb⟩; have HB := Aside0.mk (below_step HB_w1.out hb); have HCB := Aside0.mk (blk_below HX_gb.out hb); clear hb; clear b0; clear b1; clear b2; clear b3; clear b4; clear b5; clear b6))
  go_ret2
  exact ⟨_, rfl, Kd.R_nil _ _ _ _ _, HB.out⟩
 | true =>
  dsimp only at h
  by_cases hl : longC a0_0 l0_1 l0_2 a1 a2 = true
  case neg => rw [if_neg hl] at h; exact absurd h (by simp)
  rw [if_pos hl] at h
  obtain ⟨xs, hx, h⟩ := Option.bind_eq_some_iff.mp h
  injection h with h
  injection h with e1 e2
  subst e1
  subst e2
  have HX := Aside0.mk hx
  clear hx
  have HL := Aside0.mk (longC_tells hl)
  clear hl
  obtain ⟨N, hN⟩ : ∃ N : Nat, N = a0_0.toNat + l0_1.length := ⟨_, rfl⟩
  have hNN := HL.out
  have HN : Aside0 (impl_Circuit_nodes.f a0_0 l0_1 l0_2 a0_3 a0_4 a0_5 a0_6 = some (N : Int)) := ⟨by unfold impl_Circuit_nodes.f; congr 1; unfold wrap64; omega⟩
  have HREP : Aside0 (slices_Repeat_int64_int64.f [-1] (N : Int) = some (List.replicate N (-1))) := ⟨by unfold slices_Repeat_int64_int64.f; rw [if_pos (by refine ⟨rfl, ?_, ?_⟩ <;> omega)]; rfl⟩
  have HNP : Aside0 (0 < N ∧ N ≤ 16 ∧ (N : Int) = a0_0 + (l0_1.length : Int)) := ⟨by omega⟩
  have HNE := Aside0.mk hN
  obtain ⟨ad2, e2, hd2⟩ := Kd.at_int HR2.out a2 hNN.2.2.2.2.2.1 hNN.2.2.2.2.2.2.1
  subst e2
  have p1 := eq_true hNN.2.2.2.2.2.1
  have p2 := eq_true hNN.2.2.2.2.2.2.1
  have p3 : decide (0 ≤ a2) = true := decide_eq_true hNN.2.2.2.2.2.1
  have p4 : decide (a2 < (l0_2.length : Int)) = true := decide_eq_true hNN.2.2.2.2.2.2.1
  obtain ⟨gl, hgl⟩ : ∃ gl, rd l0_2 a2 = gl := ⟨_, rfl⟩
  rw [hgl] at hd2 hNN
  have HX0 := HX.out
  rw [hgl] at HX0
  have HX := Aside0.mk HX0
  have HDA := Aside0.mk hd2
  have HGL : Aside0 (0 ≤ gl ∧ gl < (N : Int) ∧ gl ≠ -1) := ⟨by omega⟩
  have HGA : Aside0 (l0_1.length ≤ 10 ∧ ∀ i : Nat, i < l0_1.length → ∀ x ∈ (rd_T36 l0_1 (i : Int)).f2, 0 ≤ x ∧ x < a0_0 + (i : Int)) := ⟨hNN.2.2.1, hNN.2.2.2.2.2.2.2.2.2⟩
  have HA : Aside0 (1 ≤ a0_0 ∧ a0_0 ≤ 6 ∧ 0 ≤ a1 ∧ a1 < a0_0) := ⟨by omega⟩
  clear hd2 hNN hN hgl HX0 HL
  refine (callsIn_wide (n := 20)).1 (callsIn_of_wp_marks (F := Fence.wide) Try.func9 rfl trivial ?_ rfl)
  refine wpIn_wide.2 (wp_mono (Q := retOnly _) ?_ (fun e a w h => retOnly_to h))
  simp only [Try.ntmps9, List.size_toArray, List.length_cons, List.length_nil, Nat.reduceAdd, Nat.reduceSub, Array.replicate_succ, Array.replicate_zero, List.push_toArray, List.append_toArray, List.nil_append, List.cons_append]
  go_wp2_with (first | ((with_reducible refine gate_dst (N := 3) rfl ?_); refine box_event ?hg (N := 3) ?hd (cs := #[.int .i64 a0_0, .slice A0_1 l0_1.length c0_1, .slice (some ad2) l0_2.length c0_2, .int .i64 a0_3, .int .i64 a0_4, .int .i64 a0_5, .int .i64 a0_6]) (t := 27) ?hr ?_; (case hd => rfl); (case hg => rfl); (case hr => first | (go_simp; done) | (go_simp; rfl)); intro gb hg_ w1 hbox_ hb_; have HX_gb := Aside0.mk hbox_; have HB_w1 := Aside0.mk hb_; have HG_gb := Aside0.mk hg_; clear hbox_ hb_ hg_; have b0 := blk_cell HX_gb.out 0; have b1 := blk_cell HX_gb.out 1; have b2 := blk_cell HX_gb.out 2; have b3 := blk_cell HX_gb.out 3; have b4 := blk_cell HX_gb.out 4; have b5 := blk_cell HX_gb.out 5; have b6 := blk_cell HX_gb.out 6) | (go_at_call 8; refine (impl_PathDelays.calls (hr0_1 := Kd.C_below HR1.out HB_w1.out) (hc0_1 := HC1.out) (hr0_2 := Kd.C_below HR2.out HB_w1.out) (hc0_2 := HC2.out) (h := HP.out)).mono ?_; rintro e w2 ⟨rfl, hb⟩; have HB := Aside0.mk (below_step HB_w1.out hb); have HCB := Aside0.mk (blk_below HX_gb.out hb); clear hb; clear b0; clear b1; clear b2; clear b3; clear b4; clear b5; clear b6))
  refine start_ (n := 13) (S := fun w' => True) (ds := []) #[false, false, false, false, false, false, false, false, false, false, false, false, false] (by kernel_rfl) rfl rfl trivial (fun hHeld => ?_)
  refine with_tabW impl_LongestPath.tab4 impl_LongestPath.bits4 (fun HT_ HW_ => ?_)
  replace HB := Aside0.mk (below_drew1 HB.out)
  replace HCB := Aside0.mk (blk_drew HCB.out)
  generalize w2.drew = w3 at HB HCB hHeld ⊢
  refine pure_ (i := 4) (N := some 37) (v := ?_) (a' := ?_) #[false, false, false, false, true, false, false, false, false, false, false, false, false] rfl rfl (any_of HT_.out (by kernel_rfl)) (fun _ _ _ h => h) (Or.inl ⟨by rfl, ?_⟩) ?_ ?_
  rotate_left
  ·intro w'
   go_simp
   with_reducible rfl
  rotate_left
  ·simp only [Act.put, List.setIfInBounds_toArray, List.set_cons_zero, List.set_cons_succ, i64_w, i32_w]
   rfl
  refine pure_ (i := 6) (N := some 39) (v := ?_) (a' := ?_) #[false, false, false, false, true, false, true, false, false, false, false, false, false] rfl rfl (any_of HT_.out (by kernel_rfl)) (fun _ _ _ h => h) (Or.inl ⟨by rfl, ?_⟩) ?_ ?_
  rotate_left
  ·intro w'
   go_simp
   with_reducible rfl
  rotate_left
  ·simp only [Act.put, List.setIfInBounds_toArray, List.set_cons_zero, List.set_cons_succ, i64_w, i32_w]
   rfl
  refine inv_at [0, 1, 2, 3, 5, 7, 8, 9, 10, 11, 12] (fun a0_ b a w' => ∃ (A33 : Option Addr) (c33 : Nat) (g : Nat) (c36 : Nat) (g11 : Nat) (g12 : Nat) (m0_ : Value) (m3_ : Value) (m9_ : Value) (m10_ : Value), a = putSel a0_ b [(0, 33, m0_), (1, 34, .agg #[.int .i64 a0_0, .slice A0_1 l0_1.length c0_1, .slice (some ad2) l0_2.length c0_2, .int .i64 a0_3, .int .i64 a0_4, .int .i64 a0_5, .int .i64 a0_6]), (2, 35, .int .i64 (N : Int)), (3, 36, m3_), (5, 38, .slice (some ad2) l0_2.length c0_2), (7, 40, .pointer (some (ad2.add a2.toNat))), (8, 41, .int .i64 (gl)), (9, 11, m9_), (10, 12, m10_)] ∧ (Below w.heap.size w w') ∧ (w'.heap[gb]? = some (.cells #[.int .i64 a0_0, .slice A0_1 l0_1.length c0_1, .slice (some ad2) l0_2.length c0_2, .int .i64 a0_3, .int .i64 a0_4, .int .i64 a0_5, .int .i64 a0_6] 27 (0, 0))) ∧ (b 0 = true → b 3 = false → Kd.R (Kd.int .i64) 2 w' w.heap.size (fun _ => True) (.slice A33 1 c33) [-1]) ∧ (b 3 = true → Kd.R (Kd.int .i64) 2 w' w.heap.size (fun _ => True) (.slice (some ⟨g, 0, none⟩) N c36) (List.replicate N (-1))) ∧ (b 3 = true → w.heap.size ≤ g) ∧ (b 9 = true → b 11 = false → w'.heap[g11]? = some (.cells #[.slice none 0 0] 25 (0, 0))) ∧ (b 11 = true → w'.heap[g11]? = some (.cells #[.slice (some ⟨g, 0, none⟩) N c36] 25 (0, 0))) ∧ (b 10 = true → b 12 = false → w'.heap[g12]? = some (.cells #[.int .i64 0] 2 (0, 0))) ∧ (b 12 = true → w'.heap[g12]? = some (.cells #[.int .i64 (gl)] 2 (0, 0))) ∧ (b 9 = true → w.heap.size ≤ g11) ∧ (b 10 = true → w.heap.size ≤ g12) ∧ (b 0 = true → (m0_ : Value) = .slice A33 1 c33) ∧ (b 3 = true → (m3_ : Value) = .slice (some ⟨g, 0, none⟩) N c36) ∧ (b 9 = true → (m9_ : Value) = .pointer (some ⟨g11, 0, none⟩)) ∧ (b 10 = true → (m10_ : Value) = .pointer (some ⟨g12, 0, none⟩))) HT_.out HW_.out (by kernel_rfl) (by kernel_rfl) ?_ ?_ ?_
  ·exact ⟨none, 0, 0, 0, 0, 0, .bool false, .bool false, .bool false, .bool false, by simp only [putSel, Bool.false_eq_true, if_false], HB.out, HCB.out, fun h_ => absurd h_ (by decide), fun h_ => absurd h_ (by decide), fun h_ => absurd h_ (by decide), fun h_ => absurd h_ (by decide), fun h_ => absurd h_ (by decide), fun h_ => absurd h_ (by decide), fun h_ => absurd h_ (by decide), fun h_ => absurd h_ (by decide), fun h_ => absurd h_ (by decide), fun h_ => absurd h_ (by decide), fun h_ => absurd h_ (by decide), fun h_ => absurd h_ (by decide), fun h_ => absurd h_ (by decide)⟩
  ·skip
   clear HB HCB
   refine steps_cons ?_ ?_
   ·rintro b a w' ⟨A33, c33, g, c36, g11, g12, m0_, m3_, m9_, m10_, ha, Q_HB, Q_HCB, Q_F33, Q_F36, Q_GG, Q_K11a, Q_K11b, Q_K12a, Q_K12b, Q_G11, Q_G12, Q_X0_, Q_X3_, Q_X9_, Q_X10_⟩ hb_ hon hoff
    refine ⟨_, rfl, fun K hK => ?_⟩
    replace ha := Aside0.mk ha
    have HB := Aside0.mk Q_HB
    have HCB := Aside0.mk Q_HCB
    refine Kd.R_lit_step (Kd.int .i64) _ 2 (by rfl) (N := 33) rfl (xs := ([-1] : List Int)) (inner := [.int .i64 (-1)]) (ok := fun _ => True) (okp := fun _ => True) ?hr ?hp (fun _ hk => hk) trivial (Below.refl _ _) (Nat.le_refl _) (by simp) ?_
    case hr => first | (go_simp; done) | (go_simp; rfl)
    case hp => exact (Reps.one (show Kd.M (Kd.int .i64) _ _ _ (-1) [.int .i64 (-1)] from rfl) (Reps.none _ _))
    intro vm w5 ho hb hg_ hnew_
    clear hg_ hnew_
    obtain ⟨Am', cm', rfl⟩ := Kd.R_slice ho
    refine hK.out _ _ ⟨Am', cm', g, c36, g11, g12, (.slice Am' 1 cm'), m3_, m9_, m10_, (by rw [ha.out]; exact putSel_upk 0 hb_ rfl rfl rfl), below_step HB.out hb, blk_below HCB.out hb, fun _ _ => Kd.R_lower ho (below_size HB.out), fun h0_ => absurd ((hoff 3 (by kernel_rfl)).symm.trans h0_) (by decide), fun h0_ => absurd ((hoff 3 (by kernel_rfl)).symm.trans h0_) (by decide), fun h0_ h1_ => blk_below (Q_K11a h0_ h1_) hb, fun h0_ => absurd ((hoff 11 (by kernel_rfl)).symm.trans h0_) (by decide), fun h0_ h1_ => blk_below (Q_K12a h0_ h1_) hb, fun h0_ => absurd ((hoff 12 (by kernel_rfl)).symm.trans h0_) (by decide), Q_G11, Q_G12, fun _ => rfl, fun h0_ => absurd ((hoff 3 (by kernel_rfl)).symm.trans h0_) (by decide), Q_X9_, Q_X10_⟩
   refine steps_cons ?_ ?_
   ·rintro b a w' ⟨A33, c33, g, c36, g11, g12, m0_, m3_, m9_, m10_, ha, Q_HB, Q_HCB, Q_F33, Q_F36, Q_GG, Q_K11a, Q_K11b, Q_K12a, Q_K12b, Q_G11, Q_G12, Q_X0_, Q_X3_, Q_X9_, Q_X10_⟩ hb_ hon hoff
    refine ⟨_, rfl, fun K hK => ?_⟩
    have e3 : a.tmps[3]? = some (.pointer (some ⟨gb, 0, none⟩)) := by rw [ha]; exact (putSel_off rfl).trans rfl
    replace ha := Aside0.mk ha
    have HB := Aside0.mk Q_HB
    have HCB := Aside0.mk Q_HCB
    have hc0_ : w'.cell? ⟨gb, 0, none⟩ = some (.int .i64 a0_0) := (blk_cell HCB.out 0).trans rfl
    have hc1_ : w'.cell? ⟨gb, 1, none⟩ = some (.slice A0_1 l0_1.length c0_1) := (blk_cell HCB.out 1).trans rfl
    have hc2_ : w'.cell? ⟨gb, 2, none⟩ = some (.slice (some ad2) l0_2.length c0_2) := (blk_cell HCB.out 2).trans rfl
    have hc3_ : w'.cell? ⟨gb, 3, none⟩ = some (.int .i64 a0_3) := (blk_cell HCB.out 3).trans rfl
    have hc4_ : w'.cell? ⟨gb, 4, none⟩ = some (.int .i64 a0_4) := (blk_cell HCB.out 4).trans rfl
    have hc5_ : w'.cell? ⟨gb, 5, none⟩ = some (.int .i64 a0_5) := (blk_cell HCB.out 5).trans rfl
    have hc6_ : w'.cell? ⟨gb, 6, none⟩ = some (.int .i64 a0_6) := (blk_cell HCB.out 6).trans rfl
    refine value_ (w1 := w') (v := .agg #[.int .i64 a0_0, .slice A0_1 l0_1.length c0_1, .slice (some ad2) l0_2.length c0_2, .int .i64 a0_3, .int .i64 a0_4, .int .i64 a0_5, .int .i64 a0_6]) (by rfl) rfl ?_ ?_
    ·go_simp
     (try simp only [i64_w])
     try rfl
    refine hK.out _ _ ⟨A33, c33, g, c36, g11, g12, m0_, m3_, m9_, m10_, (by rw [ha.out]; exact putSel_upk 1 hb_ rfl rfl rfl), Q_HB, Q_HCB, Q_F33, fun h0_ => absurd ((hoff 3 (by kernel_rfl)).symm.trans h0_) (by decide), fun h0_ => absurd ((hoff 3 (by kernel_rfl)).symm.trans h0_) (by decide), Q_K11a, fun h0_ => absurd ((hoff 11 (by kernel_rfl)).symm.trans h0_) (by decide), Q_K12a, fun h0_ => absurd ((hoff 12 (by kernel_rfl)).symm.trans h0_) (by decide), Q_G11, Q_G12, Q_X0_, fun h0_ => absurd ((hoff 3 (by kernel_rfl)).symm.trans h0_) (by decide), Q_X9_, Q_X10_⟩
   refine steps_cons ?_ ?_
   ·rintro b a w' ⟨A33, c33, g, c36, g11, g12, m0_, m3_, m9_, m10_, ha, Q_HB, Q_HCB, Q_F33, Q_F36, Q_GG, Q_K11a, Q_K11b, Q_K12a, Q_K12b, Q_G11, Q_G12, Q_X0_, Q_X3_, Q_X9_, Q_X10_⟩ hb_ hon hoff
    refine ⟨_, rfl, fun K hK => ?_⟩
    have e34 : a.tmps[34]? = some (.agg #[.int .i64 a0_0, .slice A0_1 l0_1.length c0_1, .slice (some ad2) l0_2.length c0_2, .int .i64 a0_3, .int .i64 a0_4, .int .i64 a0_5, .int .i64 a0_6]) := by rw [ha]; exact putSel_on (e := (1, 34, .agg #[.int .i64 a0_0, .slice A0_1 l0_1.length c0_1, .slice (some ad2) l0_2.length c0_2, .int .i64 a0_3, .int .i64 a0_4, .int .i64 a0_5, .int .i64 a0_6])) 1 rfl rfl (hon 1 (by kernel_rfl)) rfl
    replace ha := Aside0.mk ha
    have HB := Aside0.mk Q_HB
    have HCB := Aside0.mk Q_HCB
    refine goes_ Try.func24 (by kernel_rfl) rfl #[.agg #[.int .i64 a0_0, .slice A0_1 l0_1.length c0_1, .slice (some ad2) l0_2.length c0_2, .int .i64 a0_3, .int .i64 a0_4, .int .i64 a0_5, .int .i64 a0_6]] (by rfl) rfl rfl (by first | (simp only [List.map_toArray, List.map_cons, List.map_nil, Act.eval, Array.getD_eq_getD_getElem?, Option.getD_some, e34]; done) | (simp only [List.map_toArray, List.map_cons, List.map_nil, Act.eval, Array.getD_eq_getD_getElem?, Option.getD_some, e34]; rfl)) ?_
    refine (impl_Circuit_nodes.calls (hr0_1 := Kd.C_below HR1.out HB.out) (hc0_1 := HC1.out) (hr0_2 := Kd.C_below HR2.out HB.out) (hc0_2 := HC2.out) (h := HN.out)).mono ?_
    rintro e w5 ⟨rfl, hb⟩
    refine ⟨_, rfl, ?_⟩
    refine hK.out _ _ ⟨A33, c33, g, c36, g11, g12, m0_, m3_, m9_, m10_, (by rw [ha.out]; exact putSel_upk 2 hb_ rfl rfl rfl), below_step HB.out hb, blk_below HCB.out hb, fun h0_ h1_ => Kd.R_below (Q_F33 h0_ h1_) hb, fun h0_ => absurd ((hoff 3 (by kernel_rfl)).symm.trans h0_) (by decide), fun h0_ => absurd ((hoff 3 (by kernel_rfl)).symm.trans h0_) (by decide), fun h0_ h1_ => blk_below (Q_K11a h0_ h1_) hb, fun h0_ => absurd ((hoff 11 (by kernel_rfl)).symm.trans h0_) (by decide), fun h0_ h1_ => blk_below (Q_K12a h0_ h1_) hb, fun h0_ => absurd ((hoff 12 (by kernel_rfl)).symm.trans h0_) (by decide), Q_G11, Q_G12, Q_X0_, fun h0_ => absurd ((hoff 3 (by kernel_rfl)).symm.trans h0_) (by decide), Q_X9_, Q_X10_⟩
   refine steps_cons ?_ ?_
   ·rintro b a w' ⟨A33, c33, g, c36, g11, g12, m0_, m3_, m9_, m10_, ha, Q_HB, Q_HCB, Q_F33, Q_F36, Q_GG, Q_K11a, Q_K11b, Q_K12a, Q_K12b, Q_G11, Q_G12, Q_X0_, Q_X3_, Q_X9_, Q_X10_⟩ hb_ hon hoff
    refine ⟨_, rfl, fun K hK => ?_⟩
    have e33 : a.tmps[33]? = some (m0_) := by rw [ha]; exact putSel_on (e := (0, 33, m0_)) 0 rfl rfl (hon 0 (by kernel_rfl)) rfl
    rw [Q_X0_ (hon 0 (by kernel_rfl))] at e33
    have e35 : a.tmps[35]? = some (.int .i64 (N : Int)) := by rw [ha]; exact putSel_on (e := (2, 35, .int .i64 (N : Int))) 2 rfl rfl (hon 2 (by kernel_rfl)) rfl
    replace ha := Aside0.mk ha
    have HB := Aside0.mk Q_HB
    have HCB := Aside0.mk Q_HCB
    have F33 := Aside0.mk (Q_F33 (hon 0 (by kernel_rfl)) hb_)
    refine goes_ Try.func23 (by kernel_rfl) rfl #[.slice A33 1 c33, .int .i64 (N : Int)] (by rfl) rfl rfl (by first | (simp only [List.map_toArray, List.map_cons, List.map_nil, Act.eval, Array.getD_eq_getD_getElem?, Option.getD_some, e33, e35]; done) | (simp only [List.map_toArray, List.map_cons, List.map_nil, Act.eval, Array.getD_eq_getD_getElem?, Option.getD_some, e33, e35]; rfl)) ?_
    refine (slices_Repeat_int64_int64.calls _ _ [-1] _ _ _ (Kd.R_reads' F33.out).2.2 (Kd.R_reads' F33.out).2.1 HREP.out).mono ?_
    rintro e w5 ⟨vr, rfl, ho, hb⟩
    refine ⟨_, rfl, ?_⟩
    obtain ⟨Am', cm', hsl⟩ := Kd.R_slice ho
    rw [List.length_replicate] at hsl
    subst hsl
    obtain ⟨gm, rfl, hgm⟩ := row_addr HNP.out.1 ho
    refine hK.out _ _ ⟨A33, c33, gm, cm', g11, g12, m0_, (.slice (some ⟨gm, 0, none⟩) N cm'), m9_, m10_, (by rw [ha.out]; exact putSel_upk 3 hb_ rfl rfl rfl), below_step HB.out hb, blk_below HCB.out hb, fun _ h1_ => absurd ((up_self b 3).symm.trans h1_) (by decide), fun _ => Kd.R_lower ho (below_size HB.out), fun _ => Nat.le_trans (below_size HB.out) hgm, fun h0_ h1_ => blk_below (Q_K11a h0_ h1_) hb, fun h0_ => absurd ((hoff 11 (by kernel_rfl)).symm.trans h0_) (by decide), fun h0_ h1_ => blk_below (Q_K12a h0_ h1_) hb, fun h0_ => absurd ((hoff 12 (by kernel_rfl)).symm.trans h0_) (by decide), Q_G11, Q_G12, Q_X0_, fun _ => rfl, Q_X9_, Q_X10_⟩
   refine steps_cons ?_ ?_
   ·rintro b a w' ⟨A33, c33, g, c36, g11, g12, m0_, m3_, m9_, m10_, ha, Q_HB, Q_HCB, Q_F33, Q_F36, Q_GG, Q_K11a, Q_K11b, Q_K12a, Q_K12b, Q_G11, Q_G12, Q_X0_, Q_X3_, Q_X9_, Q_X10_⟩ hb_ hon hoff
    refine ⟨_, rfl, fun K hK => ?_⟩
    have e37 : a.tmps[37]? = some (.pointer (some ⟨gb, 2, none⟩)) := by rw [ha]; exact (putSel_off rfl).trans rfl
    replace ha := Aside0.mk ha
    have HB := Aside0.mk Q_HB
    have HCB := Aside0.mk Q_HCB
    have hc2_ : w'.cell? ⟨gb, 2, none⟩ = some (.slice (some ad2) l0_2.length c0_2) := (blk_cell HCB.out 2).trans rfl
    refine value_ (w1 := w') (v := .slice (some ad2) l0_2.length c0_2) (by rfl) rfl ?_ ?_
    ·go_simp
     (try simp only [i64_w])
     try rfl
    refine hK.out _ _ ⟨A33, c33, g, c36, g11, g12, m0_, m3_, m9_, m10_, (by rw [ha.out]; exact putSel_upk 4 hb_ rfl rfl rfl), Q_HB, Q_HCB, Q_F33, Q_F36, Q_GG, Q_K11a, Q_K11b, Q_K12a, fun h0_ => absurd ((hoff 12 (by kernel_rfl)).symm.trans h0_) (by decide), Q_G11, Q_G12, Q_X0_, Q_X3_, Q_X9_, Q_X10_⟩
   refine steps_cons ?_ ?_
   ·rintro b a w' ⟨A33, c33, g, c36, g11, g12, m0_, m3_, m9_, m10_, ha, Q_HB, Q_HCB, Q_F33, Q_F36, Q_GG, Q_K11a, Q_K11b, Q_K12a, Q_K12b, Q_G11, Q_G12, Q_X0_, Q_X3_, Q_X9_, Q_X10_⟩ hb_ hon hoff
    refine ⟨_, rfl, fun K hK => ?_⟩
    have e38 : a.tmps[38]? = some (.slice (some ad2) l0_2.length c0_2) := by rw [ha]; exact putSel_on (e := (5, 38, .slice (some ad2) l0_2.length c0_2)) 4 rfl rfl (hon 5 (by kernel_rfl)) rfl
    have e39 : a.tmps[39]? = some (.int .i64 a2) := by rw [ha]; exact (putSel_off rfl).trans rfl
    replace ha := Aside0.mk ha
    have HB := Aside0.mk Q_HB
    have HCB := Aside0.mk Q_HCB
    refine value_ (w1 := w') (v := .pointer (some (ad2.add a2.toNat))) (by rfl) rfl ?_ ?_
    ·go_simp
     (try simp only [i64_w])
     try rfl
    refine hK.out _ _ ⟨A33, c33, g, c36, g11, g12, m0_, m3_, m9_, m10_, (by rw [ha.out]; exact putSel_upk 5 hb_ rfl rfl rfl), Q_HB, Q_HCB, Q_F33, Q_F36, Q_GG, Q_K11a, Q_K11b, Q_K12a, fun h0_ => absurd ((hoff 12 (by kernel_rfl)).symm.trans h0_) (by decide), Q_G11, Q_G12, Q_X0_, Q_X3_, Q_X9_, Q_X10_⟩
   refine steps_cons ?_ ?_
   ·rintro b a w' ⟨A33, c33, g, c36, g11, g12, m0_, m3_, m9_, m10_, ha, Q_HB, Q_HCB, Q_F33, Q_F36, Q_GG, Q_K11a, Q_K11b, Q_K12a, Q_K12b, Q_G11, Q_G12, Q_X0_, Q_X3_, Q_X9_, Q_X10_⟩ hb_ hon hoff
    refine ⟨_, rfl, fun K hK => ?_⟩
    have e40 : a.tmps[40]? = some (.pointer (some (ad2.add a2.toNat))) := by rw [ha]; exact putSel_on (e := (7, 40, .pointer (some (ad2.add a2.toNat)))) 5 rfl rfl (hon 7 (by kernel_rfl)) rfl
    replace ha := Aside0.mk ha
    have HB := Aside0.mk Q_HB
    have HCB := Aside0.mk Q_HCB
    have hc_ := pw_cell_below HB.out HDA.out
    refine value_ (w1 := w') (v := .int .i64 (gl)) (by rfl) rfl ?_ ?_
    ·go_simp
     (try simp only [i64_w])
     try rfl
    refine hK.out _ _ ⟨A33, c33, g, c36, g11, g12, m0_, m3_, m9_, m10_, (by rw [ha.out]; exact putSel_upk 6 hb_ rfl rfl rfl), Q_HB, Q_HCB, Q_F33, Q_F36, Q_GG, Q_K11a, Q_K11b, Q_K12a, fun h0_ => absurd ((hoff 12 (by kernel_rfl)).symm.trans h0_) (by decide), Q_G11, Q_G12, Q_X0_, Q_X3_, Q_X9_, Q_X10_⟩
   refine steps_cons ?_ ?_
   ·rintro b a w' ⟨A33, c33, g, c36, g11, g12, m0_, m3_, m9_, m10_, ha, Q_HB, Q_HCB, Q_F33, Q_F36, Q_GG, Q_K11a, Q_K11b, Q_K12a, Q_K12b, Q_G11, Q_G12, Q_X0_, Q_X3_, Q_X9_, Q_X10_⟩ hb_ hon hoff
    refine ⟨_, rfl, fun K hK => ?_⟩
    replace ha := Aside0.mk ha
    have HB := Aside0.mk Q_HB
    have HCB := Aside0.mk Q_HCB
    refine box_step (by rfl) (N := 11) rfl (cs := #[.slice none 0 0]) (t := 25) ?_ ?_
    ·first | (go_simp; done) | (go_simp; rfl)
    intro gn hgn w5 hbox hb
    refine hK.out _ _ ⟨A33, c33, g, c36, gn, g12, m0_, m3_, (.pointer (some ⟨gn, 0, none⟩)), m10_, (by rw [ha.out]; exact putSel_upk 7 hb_ rfl rfl rfl), below_step HB.out hb, blk_below HCB.out hb, fun h0_ h1_ => Kd.R_below (Q_F33 h0_ h1_) hb, fun h0_ => Kd.R_below (Q_F36 h0_) hb, Q_GG, fun _ _ => hbox, fun h0_ => absurd ((hoff 11 (by kernel_rfl)).symm.trans h0_) (by decide), fun h0_ h1_ => blk_below (Q_K12a h0_ h1_) hb, fun h0_ => absurd ((hoff 12 (by kernel_rfl)).symm.trans h0_) (by decide), fun _ => by rw [hgn]; exact below_size HB.out, Q_G12, Q_X0_, Q_X3_, fun _ => rfl, Q_X10_⟩
   refine steps_cons ?_ ?_
   ·rintro b a w' ⟨A33, c33, g, c36, g11, g12, m0_, m3_, m9_, m10_, ha, Q_HB, Q_HCB, Q_F33, Q_F36, Q_GG, Q_K11a, Q_K11b, Q_K12a, Q_K12b, Q_G11, Q_G12, Q_X0_, Q_X3_, Q_X9_, Q_X10_⟩ hb_ hon hoff
    refine ⟨_, rfl, fun K hK => ?_⟩
    replace ha := Aside0.mk ha
    have HB := Aside0.mk Q_HB
    have HCB := Aside0.mk Q_HCB
    refine box_step (by rfl) (N := 12) rfl (cs := #[.int .i64 0]) (t := 2) ?_ ?_
    ·first | (go_simp; done) | (go_simp; rfl)
    intro gn hgn w5 hbox hb
    refine hK.out _ _ ⟨A33, c33, g, c36, g11, gn, m0_, m3_, m9_, (.pointer (some ⟨gn, 0, none⟩)), (by rw [ha.out]; exact putSel_upk 8 hb_ rfl rfl rfl), below_step HB.out hb, blk_below HCB.out hb, fun h0_ h1_ => Kd.R_below (Q_F33 h0_ h1_) hb, fun h0_ => Kd.R_below (Q_F36 h0_) hb, Q_GG, fun h0_ h1_ => blk_below (Q_K11a h0_ h1_) hb, fun h0_ => absurd ((hoff 11 (by kernel_rfl)).symm.trans h0_) (by decide), fun _ _ => hbox, fun h0_ => absurd ((hoff 12 (by kernel_rfl)).symm.trans h0_) (by decide), Q_G11, fun _ => by rw [hgn]; exact below_size HB.out, Q_X0_, Q_X3_, Q_X9_, fun _ => rfl⟩
   refine steps_cons ?_ ?_
   ·rintro b a w' ⟨A33, c33, g, c36, g11, g12, m0_, m3_, m9_, m10_, ha, Q_HB, Q_HCB, Q_F33, Q_F36, Q_GG, Q_K11a, Q_K11b, Q_K12a, Q_K12b, Q_G11, Q_G12, Q_X0_, Q_X3_, Q_X9_, Q_X10_⟩ hb_ hon hoff
    refine ⟨_, rfl, fun K hK => ?_⟩
    have e11 : a.tmps[11]? = some (m9_) := by rw [ha]; exact putSel_on (e := (9, 11, m9_)) 7 rfl rfl (hon 9 (by kernel_rfl)) rfl
    rw [Q_X9_ (hon 9 (by kernel_rfl))] at e11
    have e36 : a.tmps[36]? = some (m3_) := by rw [ha]; exact putSel_on (e := (3, 36, m3_)) 3 rfl rfl (hon 3 (by kernel_rfl)) rfl
    rw [Q_X3_ (hon 3 (by kernel_rfl))] at e36
    replace ha := Aside0.mk ha
    have HB := Aside0.mk Q_HB
    have HCB := Aside0.mk Q_HCB
    have F36 := Aside0.mk (Q_F36 (hon 3 (by kernel_rfl)))
    have GG := Aside0.mk (Q_GG (hon 3 (by kernel_rfl)))
    have K11a := Aside0.mk (Q_K11a (hon 9 (by kernel_rfl)) hb_)
    have K12a := Aside0.mk (Q_K12a (hon 10 (by kernel_rfl)) (hoff 12 (by kernel_rfl)))
    have G11 := Aside0.mk (Q_G11 (hon 9 (by kernel_rfl)))
    have G12 := Aside0.mk (Q_G12 (hon 10 (by kernel_rfl)))
    have hz_ := blk_cell K11a.out 0
    have hf_ := blk_frozen K11a.out 0
    refine skip_ (w1 := w'.setCell ⟨g11, 0, none⟩ (.slice (some ⟨g, 0, none⟩) N c36)) (by rfl) rfl ?_ ?_
    ·go_simp
    refine hK.out _ _ ⟨A33, c33, g, c36, g11, g12, m0_, m3_, m9_, m10_, (by rw [ha.out]; exact putSel_none (v := undef) rfl), below_set HB.out G11.out, blk_far HCB.out (p := ⟨g11, 0, none⟩) (blk_ne HCB.out K11a.out (by decide)) _, fun _ h1_ => absurd ((hon 3 (by kernel_rfl)).symm.trans h1_) (by decide), fun _ => Kd.R_set F36.out K11a.out (by intro q hq; have hq : q ∈ [2] := hq; simp at hq; omega) 0 (.slice (some ⟨g, 0, none⟩) N c36), Q_GG, fun _ h1_ => absurd ((up_self b 11).symm.trans h1_) (by decide), fun _ => blk_put K11a.out 0 (.slice (some ⟨g, 0, none⟩) N c36) rfl, fun _ _ => blk_far K12a.out (p := ⟨g11, 0, none⟩) (blk_ne K12a.out K11a.out (by decide)) _, fun h0_ => absurd ((hoff 12 (by kernel_rfl)).symm.trans h0_) (by decide), Q_G11, Q_G12, Q_X0_, Q_X3_, Q_X9_, Q_X10_⟩
   refine steps_cons ?_ ?_
   ·rintro b a w' ⟨A33, c33, g, c36, g11, g12, m0_, m3_, m9_, m10_, ha, Q_HB, Q_HCB, Q_F33, Q_F36, Q_GG, Q_K11a, Q_K11b, Q_K12a, Q_K12b, Q_G11, Q_G12, Q_X0_, Q_X3_, Q_X9_, Q_X10_⟩ hb_ hon hoff
    refine ⟨_, rfl, fun K hK => ?_⟩
    have e12 : a.tmps[12]? = some (m10_) := by rw [ha]; exact putSel_on (e := (10, 12, m10_)) 8 rfl rfl (hon 10 (by kernel_rfl)) rfl
    rw [Q_X10_ (hon 10 (by kernel_rfl))] at e12
    have e41 : a.tmps[41]? = some (.int .i64 (gl)) := by rw [ha]; exact putSel_on (e := (8, 41, .int .i64 (gl))) 6 rfl rfl (hon 8 (by kernel_rfl)) rfl
    replace ha := Aside0.mk ha
    have HB := Aside0.mk Q_HB
    have HCB := Aside0.mk Q_HCB
    have F36 := Aside0.mk (Q_F36 (hon 3 (by kernel_rfl)))
    have GG := Aside0.mk (Q_GG (hon 3 (by kernel_rfl)))
    have K11b := Aside0.mk (Q_K11b (hon 11 (by kernel_rfl)))
    have K12a := Aside0.mk (Q_K12a (hon 10 (by kernel_rfl)) hb_)
    have G11 := Aside0.mk (Q_G11 (hon 9 (by kernel_rfl)))
    have G12 := Aside0.mk (Q_G12 (hon 10 (by kernel_rfl)))
    have hz_ := blk_cell K12a.out 0
    have hf_ := blk_frozen K12a.out 0
    have hne_ := row_apart HNP.out.1 F36.out K12a.out (by decide)
    refine skip_ (w1 := w'.setCell ⟨g12, 0, none⟩ (.int .i64 (gl))) (by rfl) rfl ?_ ?_
    ·go_simp
    refine hK.out _ _ ⟨A33, c33, g, c36, g11, g12, m0_, m3_, m9_, m10_, (by rw [ha.out]; exact putSel_none (v := undef) rfl), below_set HB.out G12.out, blk_far HCB.out (p := ⟨g12, 0, none⟩) (blk_ne HCB.out K12a.out (by decide)) _, fun _ h1_ => absurd ((hon 3 (by kernel_rfl)).symm.trans h1_) (by decide), fun _ => row_far F36.out hne_ _, Q_GG, fun _ h1_ => absurd ((hon 11 (by kernel_rfl)).symm.trans h1_) (by decide), fun _ => blk_far K11b.out (p := ⟨g12, 0, none⟩) (blk_ne K11b.out K12a.out (by decide)) _, fun _ h1_ => absurd ((up_self b 12).symm.trans h1_) (by decide), fun _ => blk_put K12a.out 0 _ rfl, Q_G11, Q_G12, Q_X0_, Q_X3_, Q_X9_, Q_X10_⟩
   exact steps_nil
  rintro b a w4 hall ⟨A33, c33, g, c36, g11, g12, m0_, m3_, m9_, m10_, ha, Q_HB, Q_HCB, Q_F33, Q_F36, Q_GG, Q_K11a, Q_K11b, Q_K12a, Q_K12b, Q_G11, Q_G12, Q_X0_, Q_X3_, Q_X9_, Q_X10_⟩
  clear HB HCB
  have hb0_ := hall 0 (by kernel_rfl)
  have hb1_ := hall 1 (by kernel_rfl)
  have hb2_ := hall 2 (by kernel_rfl)
  have hb3_ := hall 3 (by kernel_rfl)
  have hb5_ := hall 5 (by kernel_rfl)
  have hb7_ := hall 7 (by kernel_rfl)
  have hb8_ := hall 8 (by kernel_rfl)
  have hb9_ := hall 9 (by kernel_rfl)
  have hb10_ := hall 10 (by kernel_rfl)
  have hb11_ := hall 11 (by kernel_rfl)
  have hb12_ := hall 12 (by kernel_rfl)
  subst ha
  obtain rfl := Q_X0_ hb0_
  obtain rfl := Q_X3_ hb3_
  obtain rfl := Q_X9_ hb9_
  obtain rfl := Q_X10_ hb10_
  simp only [putSel, hb0_, hb1_, hb2_, hb3_, hb5_, hb7_, hb8_, hb9_, hb10_, hb11_, hb12_, if_true, Act.put, List.setIfInBounds_toArray, List.set_cons_zero, List.set_cons_succ]
  have HB := Aside0.mk Q_HB
  clear Q_HB
  have HCB := Aside0.mk Q_HCB
  clear Q_HCB
  clear Q_F33
  have F36 := Aside0.mk (Q_F36 hb3_)
  clear Q_F36
  have GG := Aside0.mk (Q_GG hb3_)
  clear Q_GG
  clear Q_K11a
  have K11b := Aside0.mk (Q_K11b hb11_)
  clear Q_K11b
  clear Q_K12a
  have K12b := Aside0.mk (Q_K12b hb12_)
  clear Q_K12b
  have G11 := Aside0.mk (Q_G11 hb9_)
  clear Q_G11
  have G12 := Aside0.mk (Q_G12 hb10_)
  clear Q_G12
  clear hall hb0_ hb1_ hb2_ hb3_ hb5_ hb7_ hb8_ hb9_ hb10_ hb11_ hb12_
  clear Q_X0_ Q_X3_ Q_X9_ Q_X10_ HDA HT_ HW_ p1 p2 p3 p4
  have GN := Aside0.mk (row_apart HNP.out.1 F36.out K12b.out HGL.out.2.2)
  have q11 : w4.cell? ⟨g11, 0, none⟩ = some (.slice (some ⟨g, 0, none⟩) N c36) := blk_cell K11b.out 0
  have q12 : w4.cell? ⟨g12, 0, none⟩ = some (.int .i64 gl) := blk_cell K12b.out 0
  have qf := (Kd.R_celln (0 : Int) F36.out gl HGL.out.1 HGL.out.2.1).2
  have qc := (Kd.R_celln (0 : Int) F36.out gl HGL.out.1 HGL.out.2.1).1
  have g0 := HGL.out.1
  have g1 := HGL.out.2.1
  have gt0 := eq_true g0
  have gt1 := eq_true g1
  have gd0 : decide (0 ≤ gl) = true := decide_eq_true g0
  have gd1 : decide (gl < (N : Int)) = true := decide_eq_true g1
  have gcb : (w4.setCell ⟨g, gl.toNat, none⟩ (.int .i64 0)).cell? ⟨gb, 1, none⟩ = some (.slice A0_1 l0_1.length c0_1) := (blk_cell (blk_far HCB.out (p := ⟨g, gl.toNat, none⟩) (Ne.symm (rowblk_ne HNP.out.1 F36.out HCB.out (by decide))) _) 1).trans rfl
  go_wp2_with (first | (go_at_call 25; refine (callsIn_wide.1 (backward_in Fence.wide 0 trivial rfl _ _ _ _)).mono ?_; rintro e w6 ⟨rfl, hw6⟩))
  clear q11 q12 qf qc g0 g1 gt0 gt1 gd0 gd1 gcb
  have hGB := rowblk_ne HNP.out.1 F36.out HCB.out (by decide)
  have hG1 := rowblk_ne HNP.out.1 F36.out K11b.out (by decide)
  have HNG : Aside0 (gb ≠ g ∧ g11 ≠ g ∧ g12 ≠ g) := ⟨Ne.symm hGB, Ne.symm hG1, Ne.symm GN.out⟩
  have LG4 : Lg gb g11 g12 g N c36 gl #[.int .i64 a0_0, .slice A0_1 l0_1.length c0_1, .slice (some ad2) l0_2.length c0_2, .int .i64 a0_3, .int .i64 a0_4, .int .i64 a0_5, .int .i64 a0_6] w.heap.size (List.replicate N (-1)) w4 := ⟨HCB.out, K11b.out, K12b.out, F36.out⟩
  have LG5 := LG4.put HNG.out.1 HNG.out.2.1 HNG.out.2.2 gl 0
  have LG6 := Aside0.mk (LG5.below (below_alloc (Below.refl _ _) (.cells #[.slice A0_1 l0_1.length c0_1] 24)))
  have HB6 : Aside0 (Below w.heap.size w w6) := ⟨by rw [hw6]; exact below_alloc (below_set HB.out GG.out) _⟩
  have HS6 : Aside0 (w6.heap.size = w4.heap.size + 1) := ⟨by rw [hw6]; simp⟩
  have HC6 : Aside0 (w6.cell? ⟨w4.heap.size, 0, none⟩ = some (.slice A0_1 l0_1.length c0_1)) := ⟨by rw [hw6]; exact lg_box _ _ _ _⟩
  have HG4 : Aside0 (g < w4.heap.size) := ⟨own_lt (Kd.own_of_R F36.out) g (by simp [Value.ownBlock])⟩
  have HG6 : Aside0 (g < w6.heap.size) := ⟨by have := own_lt (Kd.own_of_R F36.out) g (by simp [Value.ownBlock]); have := HS6.out; omega⟩
  rw [← hw6] at LG6 ⊢
  clear hw6 LG4 LG5 hGB hG1 GN F36 K11b K12b HCB HB
  obtain ⟨R0, hR0⟩ : ∃ R0, R0 = (List.replicate N (-1)).set gl.toNat 0 := ⟨_, rfl⟩
  have HR0 := Aside0.mk hR0
  rw [← hR0] at LG6
  clear hR0
  obtain ⟨gs, hgs⟩ := gates_at HR1.out
  have HGS := Aside0.mk hgs
  clear hgs
  refine (wpIn_wide (n := 20)).1 (wpIn_rangeFunc_ownH (F := Fence.wide) rfl (by decide) (gf := 45) (lb := #[.pointer (some ⟨w4.heap.size, 0, none⟩)]) rfl trivial (enters_of Try.func45 (by kernel_rfl) rfl)
   (backward_stops Fence.wide 19 trivial rfl (by omega) w4.heap.size w.heap.size l0_1.length c0_1 A0_1 (fun x => .int .i64 (rd_T36 l0_1 (x : Int)).f0) (fun x => .int .i64 (rd_T36 l0_1 (x : Int)).f1) gs (by have := HGA.out.1; omega) w6 (by have := HS6.out; omega) HB6.out.size HC6.out (HGS.out.1 w6 HB6.out))
   KeepB.trans (KeepB.b HB6.out.size) (Below.refl _ _) (fun _ => rfl)
   (fun pre W => Lg gb g11 g12 g N c36 gl #[.int .i64 a0_0, .slice A0_1 l0_1.length c0_1, .slice (some ad2) l0_2.length c0_2, .int .i64 a0_3, .int .i64 a0_4, .int .i64 a0_5, .int .i64 a0_6] w.heap.size (pre.foldl (gateR a0_0 gl l0_1) R0) W ∧ Below w.heap.size w W ∧ KeepsFrom w6.heap.size w6 W)
   (fun _ _ _ => False)
   (OwnFrom.and (lg_ownFrom _ _ _ _ _ _ _ _ _ _ (fun pre => pre.foldl (gateR a0_0 gl l0_1) R0)) (OwnFrom.and (ownFrom_below (Nat.le_refl _) HB6.out.size) (ownFrom_keepsFrom (Nat.le_refl _))))
   (fun _ _ _ _ _ hs _ _ => hs)
   ⟨LG6.out, HB6.out, KeepsFrom.refl _ _⟩
   (fun x a' W => ∃ Bx, w6.heap.size ≤ Bx ∧ W.heap[Bx]? = some (.cells #[.int .i64 (rd_T36 l0_1 (x : Int)).f0, .int .i64 (rd_T36 l0_1 (x : Int)).f1, gs x] 36 (0, 0)) ∧ a' = { tmps := #[.agg #[.int .i64 a0_0, .slice A0_1 l0_1.length c0_1, .slice (some ad2) l0_2.length c0_2, .int .i64 a0_3, .int .i64 a0_4, .int .i64 a0_5, .int .i64 a0_6], .int .i64 a1, .int .i64 a2, .pointer (some ⟨gb, 0, none⟩), undef, undef, .slice none 0 0, .bool false, .int .i64 d1, .int .i64 d2, .bool true, .pointer (some ⟨g11, 0, none⟩), .pointer (some ⟨g12, 0, none⟩), .int .i64 (x : Int), .pointer (some ⟨Bx, 0, none⟩), undef, undef, undef, undef, undef, undef, undef, undef, .tuple #[.int .i64 d1, .int .i64 d2, .bool true], .agg #[.int .i64 a0_0, .slice A0_1 l0_1.length c0_1, .slice (some ad2) l0_2.length c0_2, .int .i64 a0_3, .int .i64 a0_4, .int .i64 a0_5, .int .i64 a0_6], .int .i64 a1, .int .i64 a2, .tuple #[.int .i64 d1, .int .i64 d2, .bool true], .int .i64 d1, .int .i64 d2, .bool true, .bool true, .bool false, .slice A33 1 c33, .agg #[.int .i64 a0_0, .slice A0_1 l0_1.length c0_1, .slice (some ad2) l0_2.length c0_2, .int .i64 a0_3, .int .i64 a0_4, .int .i64 a0_5, .int .i64 a0_6], .int .i64 (N : Int), .slice (some ⟨g, 0, none⟩) N c36, .pointer (some ⟨gb, 2, none⟩), .slice (some ad2) l0_2.length c0_2, .int .i64 a2, .pointer (some (ad2.add a2.toNat)), .int .i64 gl, .slice (some ⟨g, 0, none⟩) N c36, .int .i64 gl, .pointer (some ⟨g, gl.toNat, none⟩), .pointer (some ⟨gb, 1, none⟩), .slice A0_1 l0_1.length c0_1, .func (.func 45) #[] #[.pointer (some ⟨w4.heap.size, 0, none⟩)], .int .i64 (x : Int), .agg #[.int .i64 (rd_T36 l0_1 (x : Int)).f0, .int .i64 (rd_T36 l0_1 (x : Int)).f1, gs x], undef, undef, undef, undef, undef, undef, undef, undef, undef, undef, undef, undef, undef, undef, undef, undef, undef, undef, undef, undef, undef, undef, undef, undef, undef, undef, undef, undef, undef, undef, undef, undef, undef, undef, undef, undef, undef, undef, undef, undef, undef, undef, undef, undef, undef, undef, undef, undef, undef, undef, undef, undef, undef, undef, undef, undef, undef, undef, undef, undef, undef, undef, undef, undef, undef, undef, undef, undef, undef, undef, undef, undef, undef, undef, undef, undef, undef, undef, undef, undef, undef, undef, undef, undef, undef, undef, undef], defers := [] })
   (fun x a' _ X Y row hs hg hr => by obtain ⟨Bx, h1, h2, h3⟩ := hs; exact ⟨Bx, h1, blk_own h2 hg (fun r e => (hr r e).2), h3⟩)
   ?assign ?body ?done ?stop)
  case assign =>
   rintro l pre x W K hi hK
   obtain ⟨A2, c2, hg2, hl2, hc2⟩ := HGS.out.2 x
   have HI := Aside0.mk hi
   dsimp only at hK ⊢
   rw [hg2] at hK ⊢
   gi_wp2
   refine hK _ _ ((KeepsOthers.alloc _ _).from _) ⟨(Below.refl _ W).alloc HI.out.2.1.size _, fun v hv => cell_laid hv _⟩ ⟨HI.out.1.below (below_alloc (Below.refl _ _) _), below_alloc HI.out.2.1 _, HI.out.2.2.trans ((KeepsOthers.alloc _ _).from _)⟩ ⟨W.heap.size, HI.out.2.2.1, blk_new W _, rfl⟩
  case body =>
   rintro l pre x a' W hl ⟨r, hr⟩ ⟨hLg, hBW, hKF⟩ ⟨Bx, hBx, hX, rfl⟩ hlt
   have LGW := Aside0.mk hLg; have HBW := Aside0.mk hBW; have HKF := Aside0.mk hKF; have HBX := Aside0.mk hBx; have HLE := Aside0.mk hl
   clear hLg hBW hKF hBx hlt hl hr r
   obtain ⟨A2, c2, hg2, hl2, hc2⟩ := HGS.out.2 x
   rw [hg2] at hX ⊢
   have HXB := Aside0.mk hX; have HC2' := Aside0.mk hc2; have HL2 := Aside0.mk hl2
   obtain ⟨gt, hgt⟩ : ∃ gt, rd_T36 l0_1 (x : Int) = gt := ⟨_, rfl⟩
   have HBND : Aside0 (∀ y ∈ gt.f2, x < l0_1.length ∧ 0 ≤ y ∧ y < a0_0 + (x : Int)) := ⟨by
    intro y hy
    rw [← hgt] at hy
    by_cases hx : x < l0_1.length
    ·exact ⟨hx, HGA.out.2 x hx y hy⟩
    ·unfold rd_T36 at hy
     rw [List.getD_eq_getElem?_getD, List.getElem?_eq_none (by simp; omega)] at hy
     exact absurd hy (by simp [z36])⟩
   have HGT : Aside0 (gateR a0_0 gl l0_1 (pre.foldl (gateR a0_0 gl l0_1) R0) x = restJ gl (a0_0 + (x : Int)) gt.f1 (pre.foldl (gateR a0_0 gl l0_1) R0) gt.f2) := ⟨by unfold gateR; rw [hgt]⟩
   have HFO : Aside0 ((pre.foldl (gateR a0_0 gl l0_1) R0).length = N) := ⟨by rw [fold_len, HR0.out]; simp⟩
   rw [hgt] at HXB HC2' HL2 ⊢
   clear hX hc2 hl2 hg2 hgt
   obtain ⟨Rp, hRp⟩ : ∃ Rp, pre.foldl (gateR a0_0 gl l0_1) R0 = Rp := ⟨_, rfl⟩
   rw [hRp] at LGW HGT HFO
   have HRp := Aside0.mk hRp
   clear hRp
   have hb0 : W.cell? ⟨gb, 0, none⟩ = some (.int .i64 a0_0) := (blk_cell LGW.out.1 0).trans rfl
   have hx2 : W.cell? ⟨Bx, 2, none⟩ = some (.slice A2 gt.f2.length c2) := (blk_cell HXB.out 2).trans rfl
   obtain ⟨m, hm⟩ : ∃ m, gt.f2.length = m := ⟨_, rfl⟩
   have HM := Aside0.mk hm
   rw [hm] at hx2 HXB HC2' HL2 ⊢
   clear hm
   gi_wp2
   obtain ⟨nd, hnd⟩ : ∃ nd, wrap64 (a0_0 + (x : Int)) = nd := ⟨_, rfl⟩
   have HND := Aside0.mk hnd
   first | rw [hnd] | (rw [i64_w, hnd]) | simp only [i64_w, hnd]
   clear hnd hb0 hx2
   gi_loopw [57] (fun i wr => ∃ (j : Nat) (R : List Int), i = .int .i64 (j : Int) ∧ Aside0 (j ≤ m ∧ R.length = N) ∧ Aside0 (Lg gb g11 g12 g N c36 gl #[.int .i64 a0_0, .slice A0_1 l0_1.length c0_1, .slice (some ad2) l0_2.length c0_2, .int .i64 a0_3, .int .i64 a0_4, .int .i64 a0_5, .int .i64 a0_6] w.heap.size R wr) ∧ Aside0 (Below w.heap.size w wr) ∧ Aside0 (KeepsFrom w6.heap.size W wr) ∧ Aside0 (KeepB w.heap.size w4.heap.size W wr) ∧ Aside0 (wr.heap[Bx]? = some (.cells #[.int .i64 gt.f0, .int .i64 gt.f1, .slice A2 m c2] 36 (0, 0))) ∧ Aside0 (restJ gl (a0_0 + (x : Int)) gt.f1 R (gt.f2.drop j) = restJ gl (a0_0 + (x : Int)) gt.f1 Rp gt.f2))
    (fun i _ => m - (intOf i).toNat)
   case atStart => exact ⟨0, Rp, rfl, ⟨Nat.zero_le _, HFO.out⟩, LGW, HBW, ⟨KeepsFrom.refl _ _⟩, ⟨KeepB.refl _ _ _⟩, HXB, ⟨rfl⟩⟩
   case round =>
    obtain ⟨j, R, rfl, HJ, LGR, HBR, HKR, HKB, HXR, HRJ⟩ := hrel
    clear LGW HBW HXB
    by_cases hj : j < m
    ·obtain ⟨y, hy⟩ : ∃ y, rd gt.f2 (j : Int) = y := ⟨_, rfl⟩
     have hmem : y ∈ gt.f2 := by rw [← hy]; exact rd_mem _ _ (by have := HM.out; omega)
     obtain ⟨hxl, hy0, hy1⟩ := HBND.out y hmem
     have hnp := HNP.out
     have hga := HGA.out.1
     have haa := HA.out
     have hndx : nd = a0_0 + (x : Int) := by rw [← HND.out]; unfold wrap64; omega
     subst hndx
     have hn0 : 0 ≤ a0_0 + (x : Int) := by omega
     have hn1 : a0_0 + (x : Int) < (N : Int) := by omega
     have hy2 : y < (N : Int) := by omega
     obtain ⟨ad, ea, hcy⟩ := Kd.at_int (Kd.C_below HC2'.out HBR.out) (j : Int) (by omega) (by omega)
     rw [Int.toNat_natCast, hy] at hcy
     subst ea
     have hcn := (Kd.R_celln (0 : Int) LGR.out.2.2.2 (a0_0 + (x : Int)) hn0 hn1).1
     have hcx := (Kd.R_celln (0 : Int) LGR.out.2.2.2 y hy0 hy2).1
     have hfx := (Kd.R_celln (0 : Int) LGR.out.2.2.2 y hy0 hy2).2
     have hc11 : wr.cell? ⟨g11, 0, none⟩ = some (.slice (some ⟨g, 0, none⟩) N c36) := blk_cell LGR.out.2.1 0
     have hc12 : wr.cell? ⟨g12, 0, none⟩ = some (.int .i64 gl) := blk_cell LGR.out.2.2.1 0
     have hcb1 : wr.cell? ⟨Bx, 1, none⟩ = some (.int .i64 gt.f1) := (blk_cell HXR.out 1).trans rfl
     change wr.cell? ⟨g, _, none⟩ = some (.int .i64 (rd R (a0_0 + (x : Int)))) at hcn
     change wr.cell? ⟨g, _, none⟩ = some (.int .i64 (rd R y)) at hcx
     have HRJ2 : Aside0 (restJ gl (a0_0 + (x : Int)) gt.f1 (if 0 ≤ rd R (a0_0 + (x : Int)) ∧ y ≠ gl then R.set y.toNat (if rd R y < wrap64 (rd R (a0_0 + (x : Int)) + gt.f1) then wrap64 (rd R (a0_0 + (x : Int)) + gt.f1) else rd R y) else R) (gt.f2.drop (j + 1)) = restJ gl (a0_0 + (x : Int)) gt.f1 Rp gt.f2) := ⟨by
      rw [← HRJ.out, drop_rd gt.f2 j (by have := HM.out; omega), hy]
      rfl⟩
     have HYY : Aside0 (0 ≤ y ∧ y < (N : Int)) := ⟨hy0, hy2⟩
     have HNN : Aside0 (0 ≤ a0_0 + (x : Int) ∧ a0_0 + (x : Int) < (N : Int)) := ⟨hn0, hn1⟩
     generalize a0_0 + (x : Int) = nd at *
     clear HRJ hmem hy hnp hga haa hxl hy1
     have HJW := Aside0.mk (j_wrap hj (Kd.C_max HC2'.out))
     have t1 := eq_true hn0
     have t2 := eq_true hn1
     have t3 : decide (0 ≤ nd) = true := decide_eq_true hn0
     have t4 : decide (nd < (N : Int)) = true := decide_eq_true hn1
     by_cases k1 : 0 ≤ rd R nd
     ·have s1 : decide (0 ≤ rd R nd) = true := decide_eq_true k1
      have s2 : decide (rd R nd ≥ 0) = true := s1
      by_cases k2 : y = gl
      ·have HRJ3 := HRJ2.out
       rw [if_neg (fun h => h.2 k2)] at HRJ3
       have HRJ4 := Aside0.mk HRJ3
       have q1 : (y == gl) = true := by rw [k2]; simp
       have q2 : (y != gl) = false := by rw [k2]; simp
       clear HRJ2 HRJ3
       gi_wp2
       go_roundw
       case rel => exact ⟨j + 1, R, by rw [HJW.out], ⟨by omega, HJ.out.2⟩, LGR, HBR, HKR, HKB, HXR, HRJ4⟩
       case measure => rw [HJW.out]; simp only [intOf, Int.toNat_natCast]; omega
      ·have HRJ3 := HRJ2.out
       rw [if_pos ⟨k1, k2⟩] at HRJ3
       have HRJ4 := Aside0.mk HRJ3
       have q1 : (y == gl) = false := beq_eq_false_iff_ne.mpr k2
       have q2 : (y != gl) = true := bne_iff_ne.mpr k2
       clear HRJ2 HRJ3
       gi_wp2
       refine startIn_ (by simp) (fun h => by obtain ⟨_, _, h⟩ := h; exact h) (n := 16) (S := fun w' => True) (ds := []) #[false, false, false, false, false, false, false, false, false, false, false, false, false, false, false, false] (by kernel_rfl) rfl rfl trivial (fun hHeld => ?_)
       refine with_tabW impl_LongestPath.tab14 impl_LongestPath.bits14 (fun HT_ HW_ => ?_)
       have Z11 : Aside0 (wr.drew.cell? ⟨g11, 0, none⟩ = some (.slice (some ⟨g, 0, none⟩) N c36)) := ⟨hc11⟩
       have ZY : Aside0 (wr.drew.cell? ⟨g, y.toNat, none⟩ = some (.int .i64 (rd R y))) := ⟨hcx⟩
       have ZF : Aside0 (wr.drew.frozen? ⟨g, y.toNat, none⟩ = false) := ⟨hfx⟩
       have ZN : Aside0 (wr.drew.cell? ⟨g, nd.toNat, none⟩ = some (.int .i64 (rd R nd))) := ⟨hcn⟩
       have ZB : Aside0 (wr.drew.cell? ⟨Bx, 1, none⟩ = some (.int .i64 gt.f1)) := ⟨hcb1⟩
       have ZL : Aside0 (Lg gb g11 g12 g N c36 gl #[.int .i64 a0_0, .slice A0_1 l0_1.length c0_1, .slice (some ad2) l0_2.length c0_2, .int .i64 a0_3, .int .i64 a0_4, .int .i64 a0_5, .int .i64 a0_6] w.heap.size R wr.drew) := ⟨LGR.out.below (below_drew1 (Below.refl _ _))⟩
       have ZBR : Aside0 (Below w.heap.size w wr.drew) := ⟨below_drew1 HBR.out⟩
       have ZK : Aside0 (KeepsFrom w6.heap.size W wr.drew) := ⟨HKR.out.trans ((KeepsOthers.drew _).from _)⟩
       have ZKB : Aside0 (KeepB w.heap.size w4.heap.size W wr.drew) := ⟨HKB.out.1.drew, HKB.out.2⟩
       have ZX : Aside0 (wr.drew.heap[Bx]? = some (.cells #[.int .i64 gt.f0, .int .i64 gt.f1, .slice (some ad) m c2] 36 (0, 0))) := ⟨HXR.out⟩
       clear hc11 hc12 hcx hcn hcb1 hfx hcy LGR HBR HKR HKB HXR
       generalize wr.drew = wk at Z11 ZY ZF ZN ZB ZL ZBR ZK ZKB ZX hHeld ⊢
       have WE := trivial
       refine pure_ (i := 1) (N := some 72) (v := ?_) (a' := ?_) #[false, true, false, false, false, false, false, false, false, false, false, false, false, false, false, false] rfl rfl (any_of HT_.out (by kernel_rfl)) (fun _ _ _ h => h) (Or.inl ⟨by rfl, ?_⟩) ?_ ?_
       rotate_left
       ·intro w'
        go_simp
        with_reducible rfl
       rotate_left
       ·simp only [Act.put, List.setIfInBounds_toArray, List.set_cons_zero, List.set_cons_succ, i64_w, i32_w]
        rfl
       refine pure_ (i := 3) (N := some 74) (v := ?_) (a' := ?_) #[false, true, false, true, false, false, false, false, false, false, false, false, false, false, false, false] rfl rfl (any_of HT_.out (by kernel_rfl)) (fun _ _ _ h => h) (Or.inl ⟨by rfl, ?_⟩) ?_ ?_
       rotate_left
       ·intro w'
        go_simp
        with_reducible rfl
       rotate_left
       ·simp only [Act.put, List.setIfInBounds_toArray, List.set_cons_zero, List.set_cons_succ, i64_w, i32_w]
        rfl
       refine pure_ (i := 7) (N := some 78) (v := ?_) (a' := ?_) #[false, true, false, true, false, false, false, true, false, false, false, false, false, false, false, false] rfl rfl (any_of HT_.out (by kernel_rfl)) (fun _ _ _ h => h) (Or.inl ⟨by rfl, ?_⟩) ?_ ?_
       rotate_left
       ·intro w'
        go_simp
        with_reducible rfl
       rotate_left
       ·simp only [Act.put, List.setIfInBounds_toArray, List.set_cons_zero, List.set_cons_succ, i64_w, i32_w]
        rfl
       refine pure_ (i := 10) (N := some 81) (v := ?_) (a' := ?_) #[false, true, false, true, false, false, false, true, false, false, true, false, false, false, false, false] rfl rfl (any_of HT_.out (by kernel_rfl)) (fun _ _ _ h => h) (Or.inl ⟨by rfl, ?_⟩) ?_ ?_
       rotate_left
       ·intro w'
        go_simp
        with_reducible rfl
       rotate_left
       ·simp only [Act.put, List.setIfInBounds_toArray, List.set_cons_zero, List.set_cons_succ, i64_w, i32_w]
        rfl
       refine inv_at [0, 2, 4, 5, 6, 8, 9, 11, 12, 13, 14, 15] (fun a0_ b a w' => a = putSel a0_ b [(0, 71, .slice (some ⟨g, 0, none⟩) N c36), (2, 73, .slice (some ⟨g, 0, none⟩) N c36), (4, 75, .pointer (some ⟨g, y.toNat, none⟩)), (5, 76, .int .i64 (rd R y)), (6, 77, .slice (some ⟨g, 0, none⟩) N c36), (8, 79, .pointer (some ⟨g, nd.toNat, none⟩)), (9, 80, .int .i64 (rd R nd)), (11, 82, .int .i64 gt.f1), (12, 83, .int .i64 (wrap64 (rd R nd + gt.f1))), (13, 84, .int .i64 (if rd R y < wrap64 (rd R nd + gt.f1) then wrap64 (rd R nd + gt.f1) else rd R y)), (14, 85, .pointer (some ⟨g, y.toNat, none⟩))] ∧ (b 15 = false → w' = wk) ∧ (b 15 = true → w' = wk.setCell ⟨g, y.toNat, none⟩ (.int .i64 (if rd R y < wrap64 (rd R nd + gt.f1) then wrap64 (rd R nd + gt.f1) else rd R y)))) HT_.out HW_.out (by kernel_rfl) (by kernel_rfl) ?_ ?_ ?_
       ·exact ⟨by simp only [putSel, Bool.false_eq_true, if_false], fun _ => rfl, fun h_ => absurd h_ (by decide)⟩
       ·skip
        clear WE
        refine steps_cons ?_ ?_
        ·rintro b a w' ⟨ha, Q_WE, Q_W2⟩ hb_ hon hoff
         refine ⟨_, rfl, fun K hK => ?_⟩
         have e11 : a.tmps[11]? = some (.pointer (some ⟨g11, 0, none⟩)) := by rw [ha]; exact (putSel_off rfl).trans rfl
         replace ha := Aside0.mk ha
         have WE := Aside0.mk (Q_WE (hoff 15 (by kernel_rfl)))
         have hw_ := WE.out
         subst hw_
         have hc_ := Z11.out
         refine value_ (w1 := w') (v := .slice (some ⟨g, 0, none⟩) N c36) (by rfl) rfl ?_ ?_
         ·go_simp
          (try simp only [i64_w])
          try rfl
         refine hK.out _ _ ⟨(by rw [ha.out]; exact putSel_upk 0 hb_ rfl rfl rfl), Q_WE, fun h0_ => absurd ((hoff 15 (by kernel_rfl)).symm.trans h0_) (by decide)⟩
        refine steps_cons ?_ ?_
        ·rintro b a w' ⟨ha, Q_WE, Q_W2⟩ hb_ hon hoff
         refine ⟨_, rfl, fun K hK => ?_⟩
         have e11 : a.tmps[11]? = some (.pointer (some ⟨g11, 0, none⟩)) := by rw [ha]; exact (putSel_off rfl).trans rfl
         replace ha := Aside0.mk ha
         have WE := Aside0.mk (Q_WE (hoff 15 (by kernel_rfl)))
         have hw_ := WE.out
         subst hw_
         have hc_ := Z11.out
         refine value_ (w1 := w') (v := .slice (some ⟨g, 0, none⟩) N c36) (by rfl) rfl ?_ ?_
         ·go_simp
          (try simp only [i64_w])
          try rfl
         refine hK.out _ _ ⟨(by rw [ha.out]; exact putSel_upk 1 hb_ rfl rfl rfl), Q_WE, fun h0_ => absurd ((hoff 15 (by kernel_rfl)).symm.trans h0_) (by decide)⟩
        refine steps_cons ?_ ?_
        ·rintro b a w' ⟨ha, Q_WE, Q_W2⟩ hb_ hon hoff
         refine ⟨_, rfl, fun K hK => ?_⟩
         have e73 : a.tmps[73]? = some (.slice (some ⟨g, 0, none⟩) N c36) := by rw [ha]; exact putSel_on (e := (2, 73, .slice (some ⟨g, 0, none⟩) N c36)) 1 rfl rfl (hon 2 (by kernel_rfl)) rfl
         have e74 : a.tmps[74]? = some (.int .i64 y) := by rw [ha]; exact (putSel_off rfl).trans rfl
         replace ha := Aside0.mk ha
         have WE := Aside0.mk (Q_WE (hoff 15 (by kernel_rfl)))
         have hw_ := WE.out
         subst hw_
         refine value_ (w1 := w') (v := .pointer (some ⟨g, y.toNat, none⟩)) (by rfl) rfl ?_ ?_
         ·go_simp
          (try simp only [i64_w])
          try rfl
         refine hK.out _ _ ⟨(by rw [ha.out]; exact putSel_upk 2 hb_ rfl rfl rfl), Q_WE, fun h0_ => absurd ((hoff 15 (by kernel_rfl)).symm.trans h0_) (by decide)⟩
        refine steps_cons ?_ ?_
        ·rintro b a w' ⟨ha, Q_WE, Q_W2⟩ hb_ hon hoff
         refine ⟨_, rfl, fun K hK => ?_⟩
         have e75 : a.tmps[75]? = some (.pointer (some ⟨g, y.toNat, none⟩)) := by rw [ha]; exact putSel_on (e := (4, 75, .pointer (some ⟨g, y.toNat, none⟩))) 2 rfl rfl (hon 4 (by kernel_rfl)) rfl
         replace ha := Aside0.mk ha
         have WE := Aside0.mk (Q_WE (hoff 15 (by kernel_rfl)))
         have hw_ := WE.out
         subst hw_
         have hc_ := ZY.out
         refine value_ (w1 := w') (v := .int .i64 (rd R y)) (by rfl) rfl ?_ ?_
         ·go_simp
          (try simp only [i64_w])
          try rfl
         refine hK.out _ _ ⟨(by rw [ha.out]; exact putSel_upk 3 hb_ rfl rfl rfl), Q_WE, fun h0_ => absurd ((hoff 15 (by kernel_rfl)).symm.trans h0_) (by decide)⟩
        refine steps_cons ?_ ?_
        ·rintro b a w' ⟨ha, Q_WE, Q_W2⟩ hb_ hon hoff
         refine ⟨_, rfl, fun K hK => ?_⟩
         have e11 : a.tmps[11]? = some (.pointer (some ⟨g11, 0, none⟩)) := by rw [ha]; exact (putSel_off rfl).trans rfl
         replace ha := Aside0.mk ha
         have WE := Aside0.mk (Q_WE (hoff 15 (by kernel_rfl)))
         have hw_ := WE.out
         subst hw_
         have hc_ := Z11.out
         refine value_ (w1 := w') (v := .slice (some ⟨g, 0, none⟩) N c36) (by rfl) rfl ?_ ?_
         ·go_simp
          (try simp only [i64_w])
          try rfl
         refine hK.out _ _ ⟨(by rw [ha.out]; exact putSel_upk 4 hb_ rfl rfl rfl), Q_WE, fun h0_ => absurd ((hoff 15 (by kernel_rfl)).symm.trans h0_) (by decide)⟩
        refine steps_cons ?_ ?_
        ·rintro b a w' ⟨ha, Q_WE, Q_W2⟩ hb_ hon hoff
         refine ⟨_, rfl, fun K hK => ?_⟩
         have e77 : a.tmps[77]? = some (.slice (some ⟨g, 0, none⟩) N c36) := by rw [ha]; exact putSel_on (e := (6, 77, .slice (some ⟨g, 0, none⟩) N c36)) 4 rfl rfl (hon 6 (by kernel_rfl)) rfl
         have e78 : a.tmps[78]? = some (.int .i64 nd) := by rw [ha]; exact (putSel_off rfl).trans rfl
         replace ha := Aside0.mk ha
         have WE := Aside0.mk (Q_WE (hoff 15 (by kernel_rfl)))
         have hw_ := WE.out
         subst hw_
         refine value_ (w1 := w') (v := .pointer (some ⟨g, nd.toNat, none⟩)) (by rfl) rfl ?_ ?_
         ·go_simp
          (try simp only [i64_w])
          try rfl
         refine hK.out _ _ ⟨(by rw [ha.out]; exact putSel_upk 5 hb_ rfl rfl rfl), Q_WE, fun h0_ => absurd ((hoff 15 (by kernel_rfl)).symm.trans h0_) (by decide)⟩
        refine steps_cons ?_ ?_
        ·rintro b a w' ⟨ha, Q_WE, Q_W2⟩ hb_ hon hoff
         refine ⟨_, rfl, fun K hK => ?_⟩
         have e79 : a.tmps[79]? = some (.pointer (some ⟨g, nd.toNat, none⟩)) := by rw [ha]; exact putSel_on (e := (8, 79, .pointer (some ⟨g, nd.toNat, none⟩))) 5 rfl rfl (hon 8 (by kernel_rfl)) rfl
         replace ha := Aside0.mk ha
         have WE := Aside0.mk (Q_WE (hoff 15 (by kernel_rfl)))
         have hw_ := WE.out
         subst hw_
         have hc_ := ZN.out
         refine value_ (w1 := w') (v := .int .i64 (rd R nd)) (by rfl) rfl ?_ ?_
         ·go_simp
          (try simp only [i64_w])
          try rfl
         refine hK.out _ _ ⟨(by rw [ha.out]; exact putSel_upk 6 hb_ rfl rfl rfl), Q_WE, fun h0_ => absurd ((hoff 15 (by kernel_rfl)).symm.trans h0_) (by decide)⟩
        refine steps_cons ?_ ?_
        ·rintro b a w' ⟨ha, Q_WE, Q_W2⟩ hb_ hon hoff
         refine ⟨_, rfl, fun K hK => ?_⟩
         have e81 : a.tmps[81]? = some (.pointer (some ⟨Bx, 1, none⟩)) := by rw [ha]; exact (putSel_off rfl).trans rfl
         replace ha := Aside0.mk ha
         have WE := Aside0.mk (Q_WE (hoff 15 (by kernel_rfl)))
         have hw_ := WE.out
         subst hw_
         have hc_ := ZB.out
         refine value_ (w1 := w') (v := .int .i64 gt.f1) (by rfl) rfl ?_ ?_
         ·go_simp
          (try simp only [i64_w])
          try rfl
         refine hK.out _ _ ⟨(by rw [ha.out]; exact putSel_upk 7 hb_ rfl rfl rfl), Q_WE, fun h0_ => absurd ((hoff 15 (by kernel_rfl)).symm.trans h0_) (by decide)⟩
        refine steps_cons ?_ ?_
        ·rintro b a w' ⟨ha, Q_WE, Q_W2⟩ hb_ hon hoff
         refine ⟨_, rfl, fun K hK => ?_⟩
         have e80 : a.tmps[80]? = some (.int .i64 (rd R nd)) := by rw [ha]; exact putSel_on (e := (9, 80, .int .i64 (rd R nd))) 6 rfl rfl (hon 9 (by kernel_rfl)) rfl
         have e82 : a.tmps[82]? = some (.int .i64 gt.f1) := by rw [ha]; exact putSel_on (e := (11, 82, .int .i64 gt.f1)) 7 rfl rfl (hon 11 (by kernel_rfl)) rfl
         replace ha := Aside0.mk ha
         have WE := Aside0.mk (Q_WE (hoff 15 (by kernel_rfl)))
         have hw_ := WE.out
         subst hw_
         refine value_ (w1 := w') (v := .int .i64 (wrap64 (rd R nd + gt.f1))) (by rfl) rfl ?_ ?_
         ·go_simp
          (try simp only [i64_w])
          try rfl
         refine hK.out _ _ ⟨(by rw [ha.out]; exact putSel_upk 8 hb_ rfl rfl rfl), Q_WE, fun h0_ => absurd ((hoff 15 (by kernel_rfl)).symm.trans h0_) (by decide)⟩
        refine steps_cons ?_ ?_
        ·rintro b a w' ⟨ha, Q_WE, Q_W2⟩ hb_ hon hoff
         refine ⟨_, rfl, fun K hK => ?_⟩
         have e76 : a.tmps[76]? = some (.int .i64 (rd R y)) := by rw [ha]; exact putSel_on (e := (5, 76, .int .i64 (rd R y))) 3 rfl rfl (hon 5 (by kernel_rfl)) rfl
         have e83 : a.tmps[83]? = some (.int .i64 (wrap64 (rd R nd + gt.f1))) := by rw [ha]; exact putSel_on (e := (12, 83, .int .i64 (wrap64 (rd R nd + gt.f1)))) 8 rfl rfl (hon 12 (by kernel_rfl)) rfl
         replace ha := Aside0.mk ha
         have WE := Aside0.mk (Q_WE (hoff 15 (by kernel_rfl)))
         have hw_ := WE.out
         subst hw_
         refine value_ (w1 := w') (v := .int .i64 (if rd R y < wrap64 (rd R nd + gt.f1) then wrap64 (rd R nd + gt.f1) else rd R y)) (by rfl) rfl ?_ ?_
         ·go_simp
          (try simp only [i64_w])
          try rfl
         refine hK.out _ _ ⟨(by rw [ha.out]; exact putSel_upk 9 hb_ rfl rfl rfl), Q_WE, fun h0_ => absurd ((hoff 15 (by kernel_rfl)).symm.trans h0_) (by decide)⟩
        refine steps_cons ?_ ?_
        ·rintro b a w' ⟨ha, Q_WE, Q_W2⟩ hb_ hon hoff
         refine ⟨_, rfl, fun K hK => ?_⟩
         have e71 : a.tmps[71]? = some (.slice (some ⟨g, 0, none⟩) N c36) := by rw [ha]; exact putSel_on (e := (0, 71, .slice (some ⟨g, 0, none⟩) N c36)) 0 rfl rfl (hon 0 (by kernel_rfl)) rfl
         have e72 : a.tmps[72]? = some (.int .i64 y) := by rw [ha]; exact (putSel_off rfl).trans rfl
         replace ha := Aside0.mk ha
         have WE := Aside0.mk (Q_WE (hoff 15 (by kernel_rfl)))
         have hw_ := WE.out
         subst hw_
         refine value_ (w1 := w') (v := .pointer (some ⟨g, y.toNat, none⟩)) (by rfl) rfl ?_ ?_
         ·go_simp
          (try simp only [i64_w])
          try rfl
         refine hK.out _ _ ⟨(by rw [ha.out]; exact putSel_upk 10 hb_ rfl rfl rfl), Q_WE, fun h0_ => absurd ((hoff 15 (by kernel_rfl)).symm.trans h0_) (by decide)⟩
        refine steps_cons ?_ ?_
        ·rintro b a w' ⟨ha, Q_WE, Q_W2⟩ hb_ hon hoff
         refine ⟨_, rfl, fun K hK => ?_⟩
         have e85 : a.tmps[85]? = some (.pointer (some ⟨g, y.toNat, none⟩)) := by rw [ha]; exact putSel_on (e := (14, 85, .pointer (some ⟨g, y.toNat, none⟩))) 10 rfl rfl (hon 14 (by kernel_rfl)) rfl
         have e84 : a.tmps[84]? = some (.int .i64 (if rd R y < wrap64 (rd R nd + gt.f1) then wrap64 (rd R nd + gt.f1) else rd R y)) := by rw [ha]; exact putSel_on (e := (13, 84, .int .i64 (if rd R y < wrap64 (rd R nd + gt.f1) then wrap64 (rd R nd + gt.f1) else rd R y))) 9 rfl rfl (hon 13 (by kernel_rfl)) rfl
         replace ha := Aside0.mk ha
         have WE := Aside0.mk (Q_WE hb_)
         have hw_ := WE.out
         subst hw_
         have hf_ := ZF.out
         have hz_ := ZY.out
         refine skip_ (w1 := w'.setCell ⟨g, y.toNat, none⟩ (.int .i64 (if rd R y < wrap64 (rd R nd + gt.f1) then wrap64 (rd R nd + gt.f1) else rd R y))) (by rfl) rfl ?_ ?_
         ·go_simp
         refine hK.out _ _ ⟨(by rw [ha.out]; exact putSel_none (v := undef) rfl), fun h0_ => absurd ((up_self b 15).symm.trans h0_) (by decide), fun _ => rfl⟩
        exact steps_nil
       rintro b a wz hall ⟨ha, Q_WE, Q_W2⟩
       clear WE
       have hb0_ := hall 0 (by kernel_rfl)
       have hb2_ := hall 2 (by kernel_rfl)
       have hb4_ := hall 4 (by kernel_rfl)
       have hb5_ := hall 5 (by kernel_rfl)
       have hb6_ := hall 6 (by kernel_rfl)
       have hb8_ := hall 8 (by kernel_rfl)
       have hb9_ := hall 9 (by kernel_rfl)
       have hb11_ := hall 11 (by kernel_rfl)
       have hb12_ := hall 12 (by kernel_rfl)
       have hb13_ := hall 13 (by kernel_rfl)
       have hb14_ := hall 14 (by kernel_rfl)
       have hb15_ := hall 15 (by kernel_rfl)
       subst ha
       simp only [putSel, hb0_, hb2_, hb4_, hb5_, hb6_, hb8_, hb9_, hb11_, hb12_, hb13_, hb14_, hb15_, if_true, Act.put, List.setIfInBounds_toArray, List.set_cons_zero, List.set_cons_succ]
       clear Q_WE
       have W2 := Aside0.mk (Q_W2 hb15_)
       clear Q_W2
       clear hall hb0_ hb2_ hb4_ hb5_ hb6_ hb8_ hb9_ hb11_ hb12_ hb13_ hb14_ hb15_
       obtain ⟨u, hu_⟩ : ∃ u, (if rd R y < wrap64 (rd R nd + gt.f1) then wrap64 (rd R nd + gt.f1) else rd R y) = u := ⟨_, rfl⟩
       rw [hu_] at W2 HRJ4 ⊢
       have hW2 := W2.out
       have Y1 : Aside0 (Lg gb g11 g12 g N c36 gl #[.int .i64 a0_0, .slice A0_1 l0_1.length c0_1, .slice (some ad2) l0_2.length c0_2, .int .i64 a0_3, .int .i64 a0_4, .int .i64 a0_5, .int .i64 a0_6] w.heap.size (R.set y.toNat u) wz) := ⟨by rw [hW2]; exact ZL.out.put HNG.out.1 HNG.out.2.1 HNG.out.2.2 y u⟩
       have Y2 : Aside0 (Below w.heap.size w wz) := ⟨by rw [hW2]; exact below_set ZBR.out GG.out⟩
       have Y3 : Aside0 (KeepsFrom w6.heap.size W wz) := ⟨by rw [hW2]; exact ZK.out.trans ((KeepsOthers.setCell _ _ _).from _)⟩
       have Y4 : Aside0 (KeepB w.heap.size w4.heap.size W wz) := ⟨by rw [hW2]; exact ⟨ZKB.out.1.setCell (p := ⟨g, y.toNat, none⟩) GG.out _, fun v hv => cell_afar (ZKB.out.2 v hv) (p := ⟨g, y.toNat, none⟩) (by have := HG4.out; show w4.heap.size ≠ g; omega) _⟩⟩
       have Y5 : Aside0 (wz.heap[Bx]? = some (.cells #[.int .i64 gt.f0, .int .i64 gt.f1, .slice (some ad) m c2] 36 (0, 0))) := ⟨by rw [hW2]; exact blk_far ZX.out (p := ⟨g, y.toNat, none⟩) (by have := HG6.out; have := HBX.out; show Bx ≠ g; omega) _⟩
       clear W2 hW2 ZL ZBR ZK ZKB ZX hu_
       gi_wp2
       go_roundw
       case rel => exact ⟨j + 1, R.set y.toNat u, by rw [HJW.out], ⟨by omega, by rw [List.length_set]; exact HJ.out.2⟩, Y1, Y2, Y3, Y4, Y5, HRJ4⟩
       case measure => rw [HJW.out]; simp only [intOf, Int.toNat_natCast]; omega
     ·have s1 : decide (0 ≤ rd R nd) = false := decide_eq_false k1
      have s2 : decide (rd R nd ≥ 0) = false := s1
      have HRJ3 := HRJ2.out
      rw [if_neg (fun h => k1 h.1)] at HRJ3
      have HRJ4 := Aside0.mk HRJ3
      clear HRJ2 HRJ3
      gi_wp2
      go_roundw
      case rel => exact ⟨j + 1, R, by rw [HJW.out], ⟨by omega, HJ.out.2⟩, LGR, HBR, HKR, HKB, HXR, HRJ4⟩
      case measure => rw [HJW.out]; simp only [intOf, Int.toNat_natCast]; omega
    ·obtain rfl : j = m := by have := HJ.out; omega
     gi_wp2
     refine ⟨HKR.out, HKB.out, ?_, HBR.out, HKF.out.trans HKR.out⟩
     have h1 := HRJ.out
     rw [List.drop_eq_nil_of_le (by have := HM.out; omega)] at h1
     rw [List.foldl_append, HRp.out]
     show Lg gb g11 g12 g N c36 gl _ w.heap.size (gateR a0_0 gl l0_1 Rp x) wr
     rw [HGT.out, ← h1]
     exact LGR.out
  case done =>
   rintro D ys W hD rfl ⟨hLg, hBW, hKF⟩ hK
   rw [longP_is HNE.out HR0.out] at hLg
   have HX0 := HX.out
   generalize restP a0_0 gl l0_1 = R at hLg HX0
   have HX := Aside0.mk HX0
   have HLT : Aside0 (gb < W.heap.size ∧ g11 < W.heap.size ∧ g12 < W.heap.size ∧ g < W.heap.size ∧ D < W.heap.size) := ⟨hLg.lt.1, hLg.lt.2.1, hLg.lt.2.2.1, hLg.lt.2.2.2, (Array.getElem?_eq_some_iff.1 hK).1⟩
   obtain ⟨S0, hS0⟩ : ∃ S0, S0 = W.heap.size := ⟨_, rfl⟩
   have LZ : Aside0 (Lz gb g11 g12 g N c36 gl #[.int .i64 a0_0, .slice A0_1 l0_1.length c0_1, .slice (some ad2) l0_2.length c0_2, .int .i64 a0_3, .int .i64 a0_4, .int .i64 a0_5, .int .i64 a0_6] w D S0 R W) := ⟨hLg, hBW, hK, Nat.le_of_eq hS0⟩
   rw [← hS0] at HLT
   have HDD : Aside0 (w.heap.size ≤ D) := ⟨Nat.le_trans HB6.out.size hD⟩
   clear HX0 hLg hBW hKF hK hS0 hD HR0 HG4 HG6 HS6 HC6 LG6 HB6 HGS HREP HN HP G11 G12
   clear gs
   go_wp2_with (first | ((with_reducible refine gate_dst (N := 88) rfl ?_); refine Kd.R_lit (Kd.int .i64) _ 2 ?hg (N := 88) ?hd (xs := ([a1] : List Int)) (inner := [.int .i64 a1]) (ok := fun k_ => S0 ≤ k_) (okp := fun _ => False) ?hr ?hp (fun _ hk => hk.elim) ?hf (Below.refl _ _) (Nat.le_refl _) (by simp) ?_; (case hd => rfl); (case hg => rfl); (case hr => first | (go_simp; done) | (go_simp; rfl)); (case hp => exact (Reps.one (show Kd.M (Kd.int .i64) _ _ _ a1 [.int .i64 a1] from rfl) (Reps.none _ _))); (case hf => exact LZ.out.2.2.2); intro v18 w7 ho hb hg_ hnew_; have LZ7 := Aside0.mk (LZ.out.below hb); have HV := Aside0.mk (Kd.R_lower ho LZ.out.2.1.size); clear ho hb hg_ hnew_))
   clear LZ
   go_loopg [18, 19] 40 (fun kq v18 v19 w' => ∃ (path : List Int) (at_ : Int), v19 = .int .i64 at_ ∧ Aside0 (0 ≤ at_ ∧ at_ < (N : Int)) ∧ Aside0 (pathL a0_0 gl l0_1 R kq at_ path = some xs) ∧ Aside0 (path.length + kq ≤ 41) ∧ Aside0 (Lz gb g11 g12 g N c36 gl #[.int .i64 a0_0, .slice A0_1 l0_1.length c0_1, .slice (some ad2) l0_2.length c0_2, .int .i64 a0_3, .int .i64 a0_4, .int .i64 a0_5, .int .i64 a0_6] w D S0 R w') ∧ Aside0 (Kd.R (Kd.int .i64) 2 w' w.heap.size (fun k_ => S0 ≤ k_) v18 path))
   case atStart => exact ⟨[a1], a1, rfl, ⟨by have := HA.out; have := HNP.out; omega⟩, HX, ⟨by simp⟩, LZ7, HV⟩
   case round =>
    obtain ⟨path, at_, rfl, HAT, HPA, HPL, LZ, HV⟩ := hrel
    clear LZ7 HX
    have hpa := HPA.out
    cases gk with
    | zero => exact absurd hpa (by simp [pathL])
    | succ kq =>
     unfold pathL at hpa
     have q12 : wr.cell? ⟨g12, 0, none⟩ = some (.int .i64 gl) := blk_cell LZ.out.1.2.2.1 0
     by_cases e1 : at_ = gl
     ·rw [if_pos e1] at hpa
      obtain rfl := Option.some.inj hpa
      have e2 : (at_ == gl) = true := by rw [e1]; simp
      have e3 : (at_ != gl) = false := by rw [e1]; simp
      clear hpa HPA
      go_wp2
      refine ⟨by simp, .inl ⟨_, _, rfl, run_takeDeferred LZ.out.2.2.1, ?_⟩⟩
      exact ⟨_, results_tmp2 rfl _ _ _, _, rfl, Kd.R_of_own (ownsRow_putObj (Kd.own_of_R HV.out) _ LZ.out.2.2.1 rfl) (fun _ _ => trivial), LZ.out.2.1.trans (belowK_b (w := w) (Nat.le_refl _) wr D _ _ HDD.out LZ.out.2.2.1 rfl rfl)⟩
     ·rw [if_neg e1] at hpa
      obtain ⟨i, hi, hpa⟩ := Option.bind_eq_some_iff.mp hpa
      have HI := Aside0.mk hi
      have HPB := Aside0.mk hpa
      have e2 : (at_ == gl) = false := beq_eq_false_iff_ne.mpr e1
      have e3 : (at_ != gl) = true := bne_iff_ne.mpr e1
      have qb1 : wr.cell? ⟨gb, 1, none⟩ = some (.slice A0_1 l0_1.length c0_1) := (blk_cell LZ.out.1.1 1).trans rfl
      clear hi hpa HPA
      go_wp2
      clear q12 qb1 e2 e3
      go_loopg [19, 96] l0_1.length (fun kj v19 v96 w' => ∃ (j : Nat), v19 = .int .i64 at_ ∧ v96 = .int .i64 (j : Int) ∧ Aside0 (j + kj = l0_1.length) ∧ Aside0 (nextF a0_0 l0_1 R at_ kj j = some i) ∧ Aside0 (Lz gb g11 g12 g N c36 gl #[.int .i64 a0_0, .slice A0_1 l0_1.length c0_1, .slice (some ad2) l0_2.length c0_2, .int .i64 a0_3, .int .i64 a0_4, .int .i64 a0_5, .int .i64 a0_6] w D S0 R w') ∧ Aside0 (Kd.R (Kd.int .i64) 2 w' w.heap.size (fun k_ => S0 ≤ k_) u18 path))
      case atStart => exact ⟨0, rfl, rfl, ⟨by omega⟩, HI, LZ, HV⟩
      case round =>
       obtain ⟨j, rfl, rfl, HJ, HNX, LZ', HV'⟩ := hrel
       clear LZ HV HI
       have LZ := LZ'
       have HV := HV'
       clear LZ' HV'
       have hnx := HNX.out
       cases gk with
       | zero => exact absurd hnx (by simp [nextF])
       | succ d =>
        have hj : j < l0_1.length := by have := HJ.out; omega
        unfold nextF at hnx
        obtain ⟨ad1, A2, c2, ea, hx0, hx1, hx2, hl2, hc2⟩ := at_T36 HR1.out (j : Int) (by omega) (by omega)
        rw [Int.toNat_natCast] at hx0 hx1 hx2
        subst ea
        obtain ⟨gt, hgt⟩ : ∃ gt, rd_T36 l0_1 (j : Int) = gt := ⟨_, rfl⟩
        rw [hgt] at hx0 hx1 hx2 hl2 hc2 hnx
        have HGT := Aside0.mk hgt
        replace hx0 := (LZ.out.2.1.cell (World.block_lt_of_cell? w _ hx0)).trans hx0
        replace hx1 := (LZ.out.2.1.cell (World.block_lt_of_cell? w _ hx1)).trans hx1
        replace hx2 := (LZ.out.2.1.cell (World.block_lt_of_cell? w _ hx2)).trans hx2
        have HC2' := Aside0.mk hc2
        have HLC := Aside0.mk hl2
        obtain ⟨kc, hkc⟩ := lp_contains gt.f2 (Kd.C_max hc2) at_
        have hnp := HNP.out
        have haa := HA.out
        have hga := HGA.out.1
        have hw1 : wrap64 (a0_0 + (j : Int)) = a0_0 + (j : Int) := by unfold wrap64; omega
        obtain ⟨nd, hnd⟩ : ∃ nd, a0_0 + (j : Int) = nd := ⟨_, rfl⟩
        rw [hnd] at hnx
        have HW1 : Aside0 (wrap64 (a0_0 + (j : Int)) = nd) := ⟨hw1.trans hnd⟩
        clear hw1
        have HND := Aside0.mk hnd
        have HNN : Aside0 (0 ≤ nd ∧ nd < (N : Int)) := ⟨by omega⟩
        have HJL := Aside0.mk hj
        have t1 := eq_true HNN.out.1
        have t2 := eq_true HNN.out.2
        have t3 : decide (0 ≤ nd) = true := decide_eq_true HNN.out.1
        have t4 : decide (nd < (N : Int)) = true := decide_eq_true HNN.out.2
        have t5 := eq_true HAT.out.1
        have t6 := eq_true HAT.out.2
        have t7 : decide (0 ≤ at_) = true := decide_eq_true HAT.out.1
        have t8 : decide (at_ < (N : Int)) = true := decide_eq_true HAT.out.2
        have qb0 : wr.cell? ⟨gb, 0, none⟩ = some (.int .i64 a0_0) := (blk_cell LZ.out.1.1 0).trans rfl
        have HJW : Aside0 (wrap64 ((j : Int) + 1) = ((j + 1 : Nat) : Int)) := ⟨j_wrap hj (by omega)⟩
        clear hgt hl2 hc2 hnp haa hga hnd HNX
        have qb1 := cell_laid qb0 (.cells #[.int .i64 gt.f0, .int .i64 gt.f1, .slice A2 gt.f2.length c2] 36)
        by_cases hm : at_ ∈ gt.f2
        ·have HCO : Aside0 (slices_Contains_int64_int64.f kc gt.f2 at_ = some true) := ⟨by rw [hkc, decide_eq_true hm]⟩
         by_cases hg : 0 ≤ rd R nd
         ·have s1 : decide (0 ≤ rd R nd) = true := decide_eq_true hg
          have s2 : decide (rd R nd ≥ 0) = true := s1
          by_cases he : rd R at_ = wrap64 (rd R nd + gt.f1)
          ·rw [if_pos ⟨hm, hg, he⟩] at hnx
           obtain rfl := Option.some.inj hnx
           have y1 : (rd R at_ == wrap64 (rd R nd + gt.f1)) = true := beq_iff_eq.mpr he
           have y2 : (wrap64 (rd R nd + gt.f1) == rd R at_) = true := beq_iff_eq.mpr he.symm
           have y3 : decide (rd R at_ = wrap64 (rd R nd + gt.f1)) = true := decide_eq_true he
           clear hm he hnx hkc hg
           go_wp2
           rw [HW1.out]
           refine start_ (n := 25) (S := fun w' => True) (ds := []) #[false, false, false, false, false, false, false, false, false, false, false, false, false, false, false, false, false, false, false, false, false, false, false, false, false] (by kernel_rfl) rfl rfl trivial (fun hHeld => ?_)
           refine with_tabW impl_LongestPath.tab23 impl_LongestPath.bits23 (fun HT_ HW_ => ?_)
           have ZZ : Aside0 (Lz gb g11 g12 g N c36 gl #[.int .i64 a0_0, .slice (some ad1) l0_1.length c0_1, .slice (some ad2) l0_2.length c0_2, .int .i64 a0_3, .int .i64 a0_4, .int .i64 a0_5, .int .i64 a0_6] w D S0 R (wr.alloc (.cells #[.int .i64 gt.f0, .int .i64 gt.f1, .slice A2 gt.f2.length c2] 36)).drew) := ⟨LZ.out.below (below_drew1 (below_alloc (Below.refl _ _) _))⟩
           have ZV : Aside0 (Kd.R (Kd.int .i64) 2 (wr.alloc (.cells #[.int .i64 gt.f0, .int .i64 gt.f1, .slice A2 gt.f2.length c2] 36)).drew w.heap.size (fun k_ => S0 ≤ k_) u18 path) := ⟨Kd.R_below HV.out (below_drew1 (below_alloc (Below.refl _ _) _))⟩
           have ZX : Aside0 ((wr.alloc (.cells #[.int .i64 gt.f0, .int .i64 gt.f1, .slice A2 gt.f2.length c2] 36)).drew.heap[wr.heap.size]? = some (.cells #[.int .i64 gt.f0, .int .i64 gt.f1, .slice A2 gt.f2.length c2] 36 (0, 0))) := ⟨blk_drew (blk_new wr _)⟩
           have ZC : Aside0 ((Kd.int .i64).C (wr.alloc (.cells #[.int .i64 gt.f0, .int .i64 gt.f1, .slice A2 gt.f2.length c2] 36)).drew A2 gt.f2.length gt.f2) := ⟨Kd.C_below (Kd.C_below HC2'.out LZ.out.2.1) (below_drew1 (below_alloc (Below.refl _ _) _))⟩
           clear LZ HV
           generalize (wr.alloc (.cells #[.int .i64 gt.f0, .int .i64 gt.f1, .slice A2 gt.f2.length c2] 36)).drew = wk at ZZ ZV ZX ZC hHeld ⊢
           have Z11 : Aside0 (wk.cell? ⟨g11, 0, none⟩ = some (.slice (some ⟨g, 0, none⟩) N c36)) := ⟨blk_cell ZZ.out.1.2.1 0⟩
           have ZN : Aside0 (wk.cell? ⟨g, nd.toNat, none⟩ = some (.int .i64 (rd R nd))) := ⟨(Kd.R_celln (0 : Int) ZZ.out.1.2.2.2 nd HNN.out.1 HNN.out.2).1⟩
           have ZA : Aside0 (wk.cell? ⟨g, at_.toNat, none⟩ = some (.int .i64 (rd R at_))) := ⟨(Kd.R_celln (0 : Int) ZZ.out.1.2.2.2 at_ HAT.out.1 HAT.out.2).1⟩
           have ZB1 : Aside0 (wk.cell? ⟨wr.heap.size, 1, none⟩ = some (.int .i64 gt.f1)) := ⟨(blk_cell ZX.out 1).trans rfl⟩
           have ZB2 : Aside0 (wk.cell? ⟨wr.heap.size, 2, none⟩ = some (.slice A2 gt.f2.length c2)) := ⟨(blk_cell ZX.out 2).trans rfl⟩
           have HBK := trivial
           refine pure_ (i := 0) (N := some 105) (v := ?_) (a' := ?_) #[true, false, false, false, false, false, false, false, false, false, false, false, false, false, false, false, false, false, false, false, false, false, false, false, false] rfl rfl (any_of HT_.out (by kernel_rfl)) (fun _ _ _ h => h) (Or.inl ⟨by rfl, ?_⟩) ?_ ?_
           rotate_left
           ·intro w'
            go_simp
            with_reducible rfl
           rotate_left
           ·simp only [Act.put, List.setIfInBounds_toArray, List.set_cons_zero, List.set_cons_succ, i64_w, i32_w]
            rfl
           refine pure_ (i := 2) (N := some 107) (v := ?_) (a' := ?_) #[true, false, true, false, false, false, false, false, false, false, false, false, false, false, false, false, false, false, false, false, false, false, false, false, false] rfl rfl (any_of HT_.out (by kernel_rfl)) (fun _ _ _ h => h) (Or.inl ⟨by rfl, ?_⟩) ?_ ?_
           rotate_left
           ·intro w'
            go_simp
            with_reducible rfl
           rotate_left
           ·simp only [Act.put, List.setIfInBounds_toArray, List.set_cons_zero, List.set_cons_succ, i64_w, i32_w]
            rfl
           refine inv_at [1, 3, 4, 5, 6, 7, 8, 9, 10, 11, 12, 13, 14, 15, 16, 17, 18, 19, 20, 21, 22, 23, 24] (fun a0_ b a w' => a = putSel a0_ b [(1, 106, .slice A2 gt.f2.length c2), (3, 108, .bool true), (4, 109, .bool true), (5, 110, .slice (some ⟨g, 0, none⟩) N c36), (6, 111, .int .i64 nd), (7, 112, .pointer (some ⟨g, nd.toNat, none⟩)), (8, 113, .int .i64 (rd R nd)), (9, 114, .bool true), (10, 115, .bool true), (11, 116, .bool true), (12, 117, .slice (some ⟨g, 0, none⟩) N c36), (13, 118, .int .i64 at_), (14, 119, .pointer (some ⟨g, at_.toNat, none⟩)), (15, 120, .int .i64 (rd R at_)), (16, 121, .slice (some ⟨g, 0, none⟩) N c36), (17, 122, .int .i64 nd), (18, 123, .pointer (some ⟨g, nd.toNat, none⟩)), (19, 124, .int .i64 (rd R nd)), (20, 125, .pointer (some ⟨wr.heap.size, 1, none⟩)), (21, 126, .int .i64 gt.f1), (22, 127, .int .i64 (wrap64 (rd R nd + gt.f1))), (23, 128, .bool true), (24, 129, .bool true)] ∧ (Below wk.heap.size wk w')) HT_.out HW_.out (by kernel_rfl) (by kernel_rfl) ?_ ?_ ?_
           ·exact ⟨by simp only [putSel, Bool.false_eq_true, if_false], Below.refl _ _⟩
           ·skip
            clear HBK
            refine steps_cons ?_ ?_
            ·rintro b a w' ⟨ha, Q_HBK⟩ hb_ hon hoff
             refine ⟨_, rfl, fun K hK => ?_⟩
             have e105 : a.tmps[105]? = some (.pointer (some ⟨wr.heap.size, 2, none⟩)) := by rw [ha]; exact (putSel_off rfl).trans rfl
             replace ha := Aside0.mk ha
             have HBK := Aside0.mk Q_HBK
             have hc_ := pw_cell_below HBK.out ZB2.out
             refine value_ (w1 := w') (v := .slice A2 gt.f2.length c2) (by rfl) rfl ?_ ?_
             ·go_simp
              (try simp only [i64_w])
              try rfl
             refine hK.out _ _ ⟨(by rw [ha.out]; exact putSel_upk 0 hb_ rfl rfl rfl), Q_HBK⟩
            refine steps_cons ?_ ?_
            ·rintro b a w' ⟨ha, Q_HBK⟩ hb_ hon hoff
             refine ⟨_, rfl, fun K hK => ?_⟩
             have e106 : a.tmps[106]? = some (.slice A2 gt.f2.length c2) := by rw [ha]; exact putSel_on (e := (1, 106, .slice A2 gt.f2.length c2)) 0 rfl rfl (hon 1 (by kernel_rfl)) rfl
             have e107 : a.tmps[107]? = some (.int .i64 at_) := by rw [ha]; exact (putSel_off rfl).trans rfl
             replace ha := Aside0.mk ha
             have HBK := Aside0.mk Q_HBK
             refine goes_ Try.func26 (by kernel_rfl) rfl #[.slice A2 gt.f2.length c2, .int .i64 at_] (by rfl) rfl rfl (by first | (simp only [List.map_toArray, List.map_cons, List.map_nil, Act.eval, Array.getD_eq_getD_getElem?, Option.getD_some, e106, e107]; done) | (simp only [List.map_toArray, List.map_cons, List.map_nil, Act.eval, Array.getD_eq_getD_getElem?, Option.getD_some, e106, e107]; rfl)) ?_
             refine (slices_Contains_int64_int64.calls (hr0 := Kd.C_below ZC.out HBK.out) (hc0 := HLC.out) (h := HCO.out)).mono ?_
             rintro e w5 ⟨rfl, hd⟩
             refine ⟨_, rfl, ?_⟩
             refine hK.out _ _ ⟨(by rw [ha.out]; exact putSel_upk 1 hb_ rfl rfl rfl), below_step HBK.out hd.below⟩
            refine steps_cons ?_ ?_
            ·rintro b a w' ⟨ha, Q_HBK⟩ hb_ hon hoff
             refine ⟨_, rfl, fun K hK => ?_⟩
             have e108 : a.tmps[108]? = some (.bool true) := by rw [ha]; exact putSel_on (e := (3, 108, .bool true)) 1 rfl rfl (hon 3 (by kernel_rfl)) rfl
             replace ha := Aside0.mk ha
             have HBK := Aside0.mk Q_HBK
             refine value_ (w1 := w') (v := .bool true) (by rfl) rfl ?_ ?_
             ·go_simp
              (try simp only [i64_w])
              try rfl
             refine hK.out _ _ ⟨(by rw [ha.out]; exact putSel_upk 2 hb_ rfl rfl rfl), Q_HBK⟩
            refine steps_cons ?_ ?_
            ·rintro b a w' ⟨ha, Q_HBK⟩ hb_ hon hoff
             refine ⟨_, rfl, fun K hK => ?_⟩
             have e11 : a.tmps[11]? = some (.pointer (some ⟨g11, 0, none⟩)) := by rw [ha]; exact (putSel_off rfl).trans rfl
             have e109 : a.tmps[109]? = some (.bool true) := by rw [ha]; exact putSel_on (e := (4, 109, .bool true)) 2 rfl rfl (hon 4 (by kernel_rfl)) rfl
             replace ha := Aside0.mk ha
             have HBK := Aside0.mk Q_HBK
             have hc_ := pw_cell_below HBK.out Z11.out
             refine value_ (w1 := w') (v := .slice (some ⟨g, 0, none⟩) N c36) (wanted_on rfl rfl rfl (e109.trans (by first | rfl | (simp [*]; done)))) rfl ?_ ?_
             ·go_simp
              (try simp only [i64_w])
              try rfl
             refine hK.out _ _ ⟨(by rw [ha.out]; exact putSel_upk 3 hb_ rfl rfl rfl), Q_HBK⟩
            refine steps_cons ?_ ?_
            ·rintro b a w' ⟨ha, Q_HBK⟩ hb_ hon hoff
             refine ⟨_, rfl, fun K hK => ?_⟩
             have e22 : a.tmps[22]? = some (.int .i64 nd) := by rw [ha]; exact (putSel_off rfl).trans rfl
             have e109 : a.tmps[109]? = some (.bool true) := by rw [ha]; exact putSel_on (e := (4, 109, .bool true)) 2 rfl rfl (hon 4 (by kernel_rfl)) rfl
             replace ha := Aside0.mk ha
             have HBK := Aside0.mk Q_HBK
             refine value_ (w1 := w') (v := .int .i64 nd) (wanted_on rfl rfl rfl (e109.trans (by first | rfl | (simp [*]; done)))) rfl ?_ ?_
             ·go_simp
              (try simp only [i64_w])
              try rfl
             refine hK.out _ _ ⟨(by rw [ha.out]; exact putSel_upk 4 hb_ rfl rfl rfl), Q_HBK⟩
            refine steps_cons ?_ ?_
            ·rintro b a w' ⟨ha, Q_HBK⟩ hb_ hon hoff
             refine ⟨_, rfl, fun K hK => ?_⟩
             have e110 : a.tmps[110]? = some (.slice (some ⟨g, 0, none⟩) N c36) := by rw [ha]; exact putSel_on (e := (5, 110, .slice (some ⟨g, 0, none⟩) N c36)) 3 rfl rfl (hon 5 (by kernel_rfl)) rfl
             have e111 : a.tmps[111]? = some (.int .i64 nd) := by rw [ha]; exact putSel_on (e := (6, 111, .int .i64 nd)) 4 rfl rfl (hon 6 (by kernel_rfl)) rfl
             have e109 : a.tmps[109]? = some (.bool true) := by rw [ha]; exact putSel_on (e := (4, 109, .bool true)) 2 rfl rfl (hon 4 (by kernel_rfl)) rfl
             replace ha := Aside0.mk ha
             have HBK := Aside0.mk Q_HBK
             refine value_ (w1 := w') (v := .pointer (some ⟨g, nd.toNat, none⟩)) (wanted_on rfl rfl rfl (e109.trans (by first | rfl | (simp [*]; done)))) rfl ?_ ?_
             ·go_simp
              (try simp only [i64_w])
              try rfl
             refine hK.out _ _ ⟨(by rw [ha.out]; exact putSel_upk 5 hb_ rfl rfl rfl), Q_HBK⟩
            refine steps_cons ?_ ?_
            ·rintro b a w' ⟨ha, Q_HBK⟩ hb_ hon hoff
             refine ⟨_, rfl, fun K hK => ?_⟩
             have e112 : a.tmps[112]? = some (.pointer (some ⟨g, nd.toNat, none⟩)) := by rw [ha]; exact putSel_on (e := (7, 112, .pointer (some ⟨g, nd.toNat, none⟩))) 5 rfl rfl (hon 7 (by kernel_rfl)) rfl
             have e109 : a.tmps[109]? = some (.bool true) := by rw [ha]; exact putSel_on (e := (4, 109, .bool true)) 2 rfl rfl (hon 4 (by kernel_rfl)) rfl
             replace ha := Aside0.mk ha
             have HBK := Aside0.mk Q_HBK
             have hc_ := pw_cell_below HBK.out ZN.out
             refine value_ (w1 := w') (v := .int .i64 (rd R nd)) (wanted_on rfl rfl rfl (e109.trans (by first | rfl | (simp [*]; done)))) rfl ?_ ?_
             ·go_simp
              (try simp only [i64_w])
              try rfl
             refine hK.out _ _ ⟨(by rw [ha.out]; exact putSel_upk 6 hb_ rfl rfl rfl), Q_HBK⟩
            refine steps_cons ?_ ?_
            ·rintro b a w' ⟨ha, Q_HBK⟩ hb_ hon hoff
             refine ⟨_, rfl, fun K hK => ?_⟩
             have e113 : a.tmps[113]? = some (.int .i64 (rd R nd)) := by rw [ha]; exact putSel_on (e := (8, 113, .int .i64 (rd R nd))) 6 rfl rfl (hon 8 (by kernel_rfl)) rfl
             have e109 : a.tmps[109]? = some (.bool true) := by rw [ha]; exact putSel_on (e := (4, 109, .bool true)) 2 rfl rfl (hon 4 (by kernel_rfl)) rfl
             replace ha := Aside0.mk ha
             have HBK := Aside0.mk Q_HBK
             refine value_ (w1 := w') (v := .bool true) (wanted_on rfl rfl rfl (e109.trans (by first | rfl | (simp [*]; done)))) rfl ?_ ?_
             ·go_simp
              (try simp only [i64_w])
              try rfl
             refine hK.out _ _ ⟨(by rw [ha.out]; exact putSel_upk 7 hb_ rfl rfl rfl), Q_HBK⟩
            refine steps_cons ?_ ?_
            ·rintro b a w' ⟨ha, Q_HBK⟩ hb_ hon hoff
             refine ⟨_, rfl, fun K hK => ?_⟩
             have e109 : a.tmps[109]? = some (.bool true) := by rw [ha]; exact putSel_on (e := (4, 109, .bool true)) 2 rfl rfl (hon 4 (by kernel_rfl)) rfl
             have e114 : a.tmps[114]? = some (.bool true) := by rw [ha]; exact putSel_on (e := (9, 114, .bool true)) 7 rfl rfl (hon 9 (by kernel_rfl)) rfl
             replace ha := Aside0.mk ha
             have HBK := Aside0.mk Q_HBK
             refine value_ (w1 := w') (v := .bool true) (by rfl) rfl ?_ ?_
             ·go_simp
              (try simp only [i64_w])
              try rfl
             refine hK.out _ _ ⟨(by rw [ha.out]; exact putSel_upk 8 hb_ rfl rfl rfl), Q_HBK⟩
            refine steps_cons ?_ ?_
            ·rintro b a w' ⟨ha, Q_HBK⟩ hb_ hon hoff
             refine ⟨_, rfl, fun K hK => ?_⟩
             have e115 : a.tmps[115]? = some (.bool true) := by rw [ha]; exact putSel_on (e := (10, 115, .bool true)) 8 rfl rfl (hon 10 (by kernel_rfl)) rfl
             replace ha := Aside0.mk ha
             have HBK := Aside0.mk Q_HBK
             refine value_ (w1 := w') (v := .bool true) (by rfl) rfl ?_ ?_
             ·go_simp
              (try simp only [i64_w])
              try rfl
             refine hK.out _ _ ⟨(by rw [ha.out]; exact putSel_upk 9 hb_ rfl rfl rfl), Q_HBK⟩
            refine steps_cons ?_ ?_
            ·rintro b a w' ⟨ha, Q_HBK⟩ hb_ hon hoff
             refine ⟨_, rfl, fun K hK => ?_⟩
             have e11 : a.tmps[11]? = some (.pointer (some ⟨g11, 0, none⟩)) := by rw [ha]; exact (putSel_off rfl).trans rfl
             have e116 : a.tmps[116]? = some (.bool true) := by rw [ha]; exact putSel_on (e := (11, 116, .bool true)) 9 rfl rfl (hon 11 (by kernel_rfl)) rfl
             replace ha := Aside0.mk ha
             have HBK := Aside0.mk Q_HBK
             have hc_ := pw_cell_below HBK.out Z11.out
             refine value_ (w1 := w') (v := .slice (some ⟨g, 0, none⟩) N c36) (wanted_on rfl rfl rfl (e116.trans (by first | rfl | (simp [*]; done)))) rfl ?_ ?_
             ·go_simp
              (try simp only [i64_w])
              try rfl
             refine hK.out _ _ ⟨(by rw [ha.out]; exact putSel_upk 10 hb_ rfl rfl rfl), Q_HBK⟩
            refine steps_cons ?_ ?_
            ·rintro b a w' ⟨ha, Q_HBK⟩ hb_ hon hoff
             refine ⟨_, rfl, fun K hK => ?_⟩
             have e19 : a.tmps[19]? = some (.int .i64 at_) := by rw [ha]; exact (putSel_off rfl).trans rfl
             have e116 : a.tmps[116]? = some (.bool true) := by rw [ha]; exact putSel_on (e := (11, 116, .bool true)) 9 rfl rfl (hon 11 (by kernel_rfl)) rfl
             replace ha := Aside0.mk ha
             have HBK := Aside0.mk Q_HBK
             refine value_ (w1 := w') (v := .int .i64 at_) (wanted_on rfl rfl rfl (e116.trans (by first | rfl | (simp [*]; done)))) rfl ?_ ?_
             ·go_simp
              (try simp only [i64_w])
              try rfl
             refine hK.out _ _ ⟨(by rw [ha.out]; exact putSel_upk 11 hb_ rfl rfl rfl), Q_HBK⟩
            refine steps_cons ?_ ?_
            ·rintro b a w' ⟨ha, Q_HBK⟩ hb_ hon hoff
             refine ⟨_, rfl, fun K hK => ?_⟩
             have e117 : a.tmps[117]? = some (.slice (some ⟨g, 0, none⟩) N c36) := by rw [ha]; exact putSel_on (e := (12, 117, .slice (some ⟨g, 0, none⟩) N c36)) 10 rfl rfl (hon 12 (by kernel_rfl)) rfl
             have e118 : a.tmps[118]? = some (.int .i64 at_) := by rw [ha]; exact putSel_on (e := (13, 118, .int .i64 at_)) 11 rfl rfl (hon 13 (by kernel_rfl)) rfl
             have e116 : a.tmps[116]? = some (.bool true) := by rw [ha]; exact putSel_on (e := (11, 116, .bool true)) 9 rfl rfl (hon 11 (by kernel_rfl)) rfl
             replace ha := Aside0.mk ha
             have HBK := Aside0.mk Q_HBK
             refine value_ (w1 := w') (v := .pointer (some ⟨g, at_.toNat, none⟩)) (wanted_on rfl rfl rfl (e116.trans (by first | rfl | (simp [*]; done)))) rfl ?_ ?_
             ·go_simp
              (try simp only [i64_w])
              try rfl
             refine hK.out _ _ ⟨(by rw [ha.out]; exact putSel_upk 12 hb_ rfl rfl rfl), Q_HBK⟩
            refine steps_cons ?_ ?_
            ·rintro b a w' ⟨ha, Q_HBK⟩ hb_ hon hoff
             refine ⟨_, rfl, fun K hK => ?_⟩
             have e119 : a.tmps[119]? = some (.pointer (some ⟨g, at_.toNat, none⟩)) := by rw [ha]; exact putSel_on (e := (14, 119, .pointer (some ⟨g, at_.toNat, none⟩))) 12 rfl rfl (hon 14 (by kernel_rfl)) rfl
             have e116 : a.tmps[116]? = some (.bool true) := by rw [ha]; exact putSel_on (e := (11, 116, .bool true)) 9 rfl rfl (hon 11 (by kernel_rfl)) rfl
             replace ha := Aside0.mk ha
             have HBK := Aside0.mk Q_HBK
             have hc_ := pw_cell_below HBK.out ZA.out
             refine value_ (w1 := w') (v := .int .i64 (rd R at_)) (wanted_on rfl rfl rfl (e116.trans (by first | rfl | (simp [*]; done)))) rfl ?_ ?_
             ·go_simp
              (try simp only [i64_w])
              try rfl
             refine hK.out _ _ ⟨(by rw [ha.out]; exact putSel_upk 13 hb_ rfl rfl rfl), Q_HBK⟩
            refine steps_cons ?_ ?_
            ·rintro b a w' ⟨ha, Q_HBK⟩ hb_ hon hoff
             refine ⟨_, rfl, fun K hK => ?_⟩
             have e11 : a.tmps[11]? = some (.pointer (some ⟨g11, 0, none⟩)) := by rw [ha]; exact (putSel_off rfl).trans rfl
             have e116 : a.tmps[116]? = some (.bool true) := by rw [ha]; exact putSel_on (e := (11, 116, .bool true)) 9 rfl rfl (hon 11 (by kernel_rfl)) rfl
             replace ha := Aside0.mk ha
             have HBK := Aside0.mk Q_HBK
             have hc_ := pw_cell_below HBK.out Z11.out
             refine value_ (w1 := w') (v := .slice (some ⟨g, 0, none⟩) N c36) (wanted_on rfl rfl rfl (e116.trans (by first | rfl | (simp [*]; done)))) rfl ?_ ?_
             ·go_simp
              (try simp only [i64_w])
              try rfl
             refine hK.out _ _ ⟨(by rw [ha.out]; exact putSel_upk 14 hb_ rfl rfl rfl), Q_HBK⟩
            refine steps_cons ?_ ?_
            ·rintro b a w' ⟨ha, Q_HBK⟩ hb_ hon hoff
             refine ⟨_, rfl, fun K hK => ?_⟩
             have e22 : a.tmps[22]? = some (.int .i64 nd) := by rw [ha]; exact (putSel_off rfl).trans rfl
             have e116 : a.tmps[116]? = some (.bool true) := by rw [ha]; exact putSel_on (e := (11, 116, .bool true)) 9 rfl rfl (hon 11 (by kernel_rfl)) rfl
             replace ha := Aside0.mk ha
             have HBK := Aside0.mk Q_HBK
             refine value_ (w1 := w') (v := .int .i64 nd) (wanted_on rfl rfl rfl (e116.trans (by first | rfl | (simp [*]; done)))) rfl ?_ ?_
             ·go_simp
              (try simp only [i64_w])
              try rfl
             refine hK.out _ _ ⟨(by rw [ha.out]; exact putSel_upk 15 hb_ rfl rfl rfl), Q_HBK⟩
            refine steps_cons ?_ ?_
            ·rintro b a w' ⟨ha, Q_HBK⟩ hb_ hon hoff
             refine ⟨_, rfl, fun K hK => ?_⟩
             have e121 : a.tmps[121]? = some (.slice (some ⟨g, 0, none⟩) N c36) := by rw [ha]; exact putSel_on (e := (16, 121, .slice (some ⟨g, 0, none⟩) N c36)) 14 rfl rfl (hon 16 (by kernel_rfl)) rfl
             have e122 : a.tmps[122]? = some (.int .i64 nd) := by rw [ha]; exact putSel_on (e := (17, 122, .int .i64 nd)) 15 rfl rfl (hon 17 (by kernel_rfl)) rfl
             have e116 : a.tmps[116]? = some (.bool true) := by rw [ha]; exact putSel_on (e := (11, 116, .bool true)) 9 rfl rfl (hon 11 (by kernel_rfl)) rfl
             replace ha := Aside0.mk ha
             have HBK := Aside0.mk Q_HBK
             refine value_ (w1 := w') (v := .pointer (some ⟨g, nd.toNat, none⟩)) (wanted_on rfl rfl rfl (e116.trans (by first | rfl | (simp [*]; done)))) rfl ?_ ?_
             ·go_simp
              (try simp only [i64_w])
              try rfl
             refine hK.out _ _ ⟨(by rw [ha.out]; exact putSel_upk 16 hb_ rfl rfl rfl), Q_HBK⟩
            refine steps_cons ?_ ?_
            ·rintro b a w' ⟨ha, Q_HBK⟩ hb_ hon hoff
             refine ⟨_, rfl, fun K hK => ?_⟩
             have e123 : a.tmps[123]? = some (.pointer (some ⟨g, nd.toNat, none⟩)) := by rw [ha]; exact putSel_on (e := (18, 123, .pointer (some ⟨g, nd.toNat, none⟩))) 16 rfl rfl (hon 18 (by kernel_rfl)) rfl
             have e116 : a.tmps[116]? = some (.bool true) := by rw [ha]; exact putSel_on (e := (11, 116, .bool true)) 9 rfl rfl (hon 11 (by kernel_rfl)) rfl
             replace ha := Aside0.mk ha
             have HBK := Aside0.mk Q_HBK
             have hc_ := pw_cell_below HBK.out ZN.out
             refine value_ (w1 := w') (v := .int .i64 (rd R nd)) (wanted_on rfl rfl rfl (e116.trans (by first | rfl | (simp [*]; done)))) rfl ?_ ?_
             ·go_simp
              (try simp only [i64_w])
              try rfl
             refine hK.out _ _ ⟨(by rw [ha.out]; exact putSel_upk 17 hb_ rfl rfl rfl), Q_HBK⟩
            refine steps_cons ?_ ?_
            ·rintro b a w' ⟨ha, Q_HBK⟩ hb_ hon hoff
             refine ⟨_, rfl, fun K hK => ?_⟩
             have e21 : a.tmps[21]? = some (.pointer (some ⟨wr.heap.size, 0, none⟩)) := by rw [ha]; exact (putSel_off rfl).trans rfl
             have e116 : a.tmps[116]? = some (.bool true) := by rw [ha]; exact putSel_on (e := (11, 116, .bool true)) 9 rfl rfl (hon 11 (by kernel_rfl)) rfl
             replace ha := Aside0.mk ha
             have HBK := Aside0.mk Q_HBK
             refine value_ (w1 := w') (v := .pointer (some ⟨wr.heap.size, 1, none⟩)) (wanted_on rfl rfl rfl (e116.trans (by first | rfl | (simp [*]; done)))) rfl ?_ ?_
             ·go_simp
              (try simp only [i64_w])
              try rfl
             refine hK.out _ _ ⟨(by rw [ha.out]; exact putSel_upk 18 hb_ rfl rfl rfl), Q_HBK⟩
            refine steps_cons ?_ ?_
            ·rintro b a w' ⟨ha, Q_HBK⟩ hb_ hon hoff
             refine ⟨_, rfl, fun K hK => ?_⟩
             have e125 : a.tmps[125]? = some (.pointer (some ⟨wr.heap.size, 1, none⟩)) := by rw [ha]; exact putSel_on (e := (20, 125, .pointer (some ⟨wr.heap.size, 1, none⟩))) 18 rfl rfl (hon 20 (by kernel_rfl)) rfl
             have e116 : a.tmps[116]? = some (.bool true) := by rw [ha]; exact putSel_on (e := (11, 116, .bool true)) 9 rfl rfl (hon 11 (by kernel_rfl)) rfl
             replace ha := Aside0.mk ha
             have HBK := Aside0.mk Q_HBK
             have hc_ := pw_cell_below HBK.out ZB1.out
             refine value_ (w1 := w') (v := .int .i64 gt.f1) (wanted_on rfl rfl rfl (e116.trans (by first | rfl | (simp [*]; done)))) rfl ?_ ?_
             ·go_simp
              (try simp only [i64_w])
              try rfl
             refine hK.out _ _ ⟨(by rw [ha.out]; exact putSel_upk 19 hb_ rfl rfl rfl), Q_HBK⟩
            refine steps_cons ?_ ?_
            ·rintro b a w' ⟨ha, Q_HBK⟩ hb_ hon hoff
             refine ⟨_, rfl, fun K hK => ?_⟩
             have e124 : a.tmps[124]? = some (.int .i64 (rd R nd)) := by rw [ha]; exact putSel_on (e := (19, 124, .int .i64 (rd R nd))) 17 rfl rfl (hon 19 (by kernel_rfl)) rfl
             have e126 : a.tmps[126]? = some (.int .i64 gt.f1) := by rw [ha]; exact putSel_on (e := (21, 126, .int .i64 gt.f1)) 19 rfl rfl (hon 21 (by kernel_rfl)) rfl
             have e116 : a.tmps[116]? = some (.bool true) := by rw [ha]; exact putSel_on (e := (11, 116, .bool true)) 9 rfl rfl (hon 11 (by kernel_rfl)) rfl
             replace ha := Aside0.mk ha
             have HBK := Aside0.mk Q_HBK
             refine value_ (w1 := w') (v := .int .i64 (wrap64 (rd R nd + gt.f1))) (wanted_on rfl rfl rfl (e116.trans (by first | rfl | (simp [*]; done)))) rfl ?_ ?_
             ·go_simp
              (try simp only [i64_w])
              try rfl
             refine hK.out _ _ ⟨(by rw [ha.out]; exact putSel_upk 20 hb_ rfl rfl rfl), Q_HBK⟩
            refine steps_cons ?_ ?_
            ·rintro b a w' ⟨ha, Q_HBK⟩ hb_ hon hoff
             refine ⟨_, rfl, fun K hK => ?_⟩
             have e120 : a.tmps[120]? = some (.int .i64 (rd R at_)) := by rw [ha]; exact putSel_on (e := (15, 120, .int .i64 (rd R at_))) 13 rfl rfl (hon 15 (by kernel_rfl)) rfl
             have e127 : a.tmps[127]? = some (.int .i64 (wrap64 (rd R nd + gt.f1))) := by rw [ha]; exact putSel_on (e := (22, 127, .int .i64 (wrap64 (rd R nd + gt.f1)))) 20 rfl rfl (hon 22 (by kernel_rfl)) rfl
             have e116 : a.tmps[116]? = some (.bool true) := by rw [ha]; exact putSel_on (e := (11, 116, .bool true)) 9 rfl rfl (hon 11 (by kernel_rfl)) rfl
             replace ha := Aside0.mk ha
             have HBK := Aside0.mk Q_HBK
             refine value_ (w1 := w') (v := .bool true) (wanted_on rfl rfl rfl (e116.trans (by first | rfl | (simp [*]; done)))) rfl ?_ ?_
             ·go_simp
              (try simp only [i64_w])
              try rfl
             refine hK.out _ _ ⟨(by rw [ha.out]; exact putSel_upk 21 hb_ rfl rfl rfl), Q_HBK⟩
            refine steps_cons ?_ ?_
            ·rintro b a w' ⟨ha, Q_HBK⟩ hb_ hon hoff
             refine ⟨_, rfl, fun K hK => ?_⟩
             have e116 : a.tmps[116]? = some (.bool true) := by rw [ha]; exact putSel_on (e := (11, 116, .bool true)) 9 rfl rfl (hon 11 (by kernel_rfl)) rfl
             have e128 : a.tmps[128]? = some (.bool true) := by rw [ha]; exact putSel_on (e := (23, 128, .bool true)) 21 rfl rfl (hon 23 (by kernel_rfl)) rfl
             replace ha := Aside0.mk ha
             have HBK := Aside0.mk Q_HBK
             refine value_ (w1 := w') (v := .bool true) (by rfl) rfl ?_ ?_
             ·go_simp
              (try simp only [i64_w])
              try rfl
             refine hK.out _ _ ⟨(by rw [ha.out]; exact putSel_upk 22 hb_ rfl rfl rfl), Q_HBK⟩
            exact steps_nil
           rintro b a wz hall ⟨ha, Q_HBK⟩
           clear HBK
           have hb1_ := hall 1 (by kernel_rfl)
           have hb3_ := hall 3 (by kernel_rfl)
           have hb4_ := hall 4 (by kernel_rfl)
           have hb5_ := hall 5 (by kernel_rfl)
           have hb6_ := hall 6 (by kernel_rfl)
           have hb7_ := hall 7 (by kernel_rfl)
           have hb8_ := hall 8 (by kernel_rfl)
           have hb9_ := hall 9 (by kernel_rfl)
           have hb10_ := hall 10 (by kernel_rfl)
           have hb11_ := hall 11 (by kernel_rfl)
           have hb12_ := hall 12 (by kernel_rfl)
           have hb13_ := hall 13 (by kernel_rfl)
           have hb14_ := hall 14 (by kernel_rfl)
           have hb15_ := hall 15 (by kernel_rfl)
           have hb16_ := hall 16 (by kernel_rfl)
           have hb17_ := hall 17 (by kernel_rfl)
           have hb18_ := hall 18 (by kernel_rfl)
           have hb19_ := hall 19 (by kernel_rfl)
           have hb20_ := hall 20 (by kernel_rfl)
           have hb21_ := hall 21 (by kernel_rfl)
           have hb22_ := hall 22 (by kernel_rfl)
           have hb23_ := hall 23 (by kernel_rfl)
           have hb24_ := hall 24 (by kernel_rfl)
           subst ha
           simp only [putSel, hb1_, hb3_, hb4_, hb5_, hb6_, hb7_, hb8_, hb9_, hb10_, hb11_, hb12_, hb13_, hb14_, hb15_, hb16_, hb17_, hb18_, hb19_, hb20_, hb21_, hb22_, hb23_, hb24_, if_true, Act.put, List.setIfInBounds_toArray, List.set_cons_zero, List.set_cons_succ]
           have HBK := Aside0.mk Q_HBK
           clear Q_HBK
           clear hall hb1_ hb3_ hb4_ hb5_ hb6_ hb7_ hb8_ hb9_ hb10_ hb11_ hb12_ hb13_ hb14_ hb15_ hb16_ hb17_ hb18_ hb19_ hb20_ hb21_ hb22_ hb23_ hb24_
           clear y1 y2 y3 s1 s2
           have LY : Aside0 (Lz gb g11 g12 g N c36 gl #[.int .i64 a0_0, .slice (some ad1) l0_1.length c0_1, .slice (some ad2) l0_2.length c0_2, .int .i64 a0_3, .int .i64 a0_4, .int .i64 a0_5, .int .i64 a0_6] w D S0 R wz) := ⟨ZZ.out.below HBK.out⟩
           have VY : Aside0 (Kd.R (Kd.int .i64) 2 wz w.heap.size (fun k_ => S0 ≤ k_) u18 path) := ⟨Kd.R_below ZV.out HBK.out⟩
           clear ZZ ZV ZX ZC Z11 ZN ZA ZB1 ZB2 HBK HT_ HW_ HCO
           go_wp2_with (first | ((with_reducible refine gate_builtin (b := .append) (xs := #[.tmp 132, .tmp 134]) rfl ?_); at_builtin; refine Kd.R_append (Kd.int .i64) (w0 := w) w.heap.size rfl (.tmp 132) (.tmp 134) 25 2 (.int .i64 0) 8 rfl Try.underlying25 info2 rfl (by decide) (by omega) u18 path nd [.int .i64 nd] (fun k_ => S0 ≤ k_) (fun _ => False) rfl rfl ?aP (fun _ hk => hk.elim) ?aF ?aO ?aB ?aS ?aL ?_; (case aP => exact rfl); (case aB => exact (by first | exact LY.out.2.1 | exact below_alloc LY.out.2.1 _)); (case aF => exact (fun k_ hk => Nat.le_trans LY.out.2.2.2 hk)); (case aO => exact (by first | exact VY.out | exact Kd.R_alloc VY.out _)); (case aS => exact LY.out.2.1.size); (case aL => have := HPL.out; omega); intro v18' wq ho hb hg hat; have LY2 := Aside0.mk (Lz.grown LY.out HLT.out hg (fun r e => VY.out.1 r e) hb); have VY2 := Aside0.mk ho; clear ho hb hg hat))
           go_roundg kq
           case measure => omega
           case rel => exact ⟨path ++ [nd], nd, rfl, HNN, ⟨by rw [← HND.out]; exact HPB.out⟩, ⟨by have := HPL.out; simp; omega⟩, LY2, VY2⟩
          ·rw [if_neg (fun h => he h.2.2)] at hnx
           have HNX := Aside0.mk hnx
           have y1 : (rd R at_ == wrap64 (rd R nd + gt.f1)) = false := beq_eq_false_iff_ne.mpr he
           have y2 : (wrap64 (rd R nd + gt.f1) == rd R at_) = false := beq_eq_false_iff_ne.mpr (Ne.symm he)
           have y3 : decide (rd R at_ = wrap64 (rd R nd + gt.f1)) = false := decide_eq_false he
           clear hm he hnx hkc hg
           go_wp2
           rw [HW1.out]
           refine start_ (n := 25) (S := fun w' => True) (ds := []) #[false, false, false, false, false, false, false, false, false, false, false, false, false, false, false, false, false, false, false, false, false, false, false, false, false] (by kernel_rfl) rfl rfl trivial (fun hHeld => ?_)
           refine with_tabW impl_LongestPath.tab23 impl_LongestPath.bits23 (fun HT_ HW_ => ?_)
           have ZZ : Aside0 (Lz gb g11 g12 g N c36 gl #[.int .i64 a0_0, .slice (some ad1) l0_1.length c0_1, .slice (some ad2) l0_2.length c0_2, .int .i64 a0_3, .int .i64 a0_4, .int .i64 a0_5, .int .i64 a0_6] w D S0 R (wr.alloc (.cells #[.int .i64 gt.f0, .int .i64 gt.f1, .slice A2 gt.f2.length c2] 36)).drew) := ⟨LZ.out.below (below_drew1 (below_alloc (Below.refl _ _) _))⟩
           have ZV : Aside0 (Kd.R (Kd.int .i64) 2 (wr.alloc (.cells #[.int .i64 gt.f0, .int .i64 gt.f1, .slice A2 gt.f2.length c2] 36)).drew w.heap.size (fun k_ => S0 ≤ k_) u18 path) := ⟨Kd.R_below HV.out (below_drew1 (below_alloc (Below.refl _ _) _))⟩
           have ZX : Aside0 ((wr.alloc (.cells #[.int .i64 gt.f0, .int .i64 gt.f1, .slice A2 gt.f2.length c2] 36)).drew.heap[wr.heap.size]? = some (.cells #[.int .i64 gt.f0, .int .i64 gt.f1, .slice A2 gt.f2.length c2] 36 (0, 0))) := ⟨blk_drew (blk_new wr _)⟩
           have ZC : Aside0 ((Kd.int .i64).C (wr.alloc (.cells #[.int .i64 gt.f0, .int .i64 gt.f1, .slice A2 gt.f2.length c2] 36)).drew A2 gt.f2.length gt.f2) := ⟨Kd.C_below (Kd.C_below HC2'.out LZ.out.2.1) (below_drew1 (below_alloc (Below.refl _ _) _))⟩
           clear LZ HV
           generalize (wr.alloc (.cells #[.int .i64 gt.f0, .int .i64 gt.f1, .slice A2 gt.f2.length c2] 36)).drew = wk at ZZ ZV ZX ZC hHeld ⊢
           have Z11 : Aside0 (wk.cell? ⟨g11, 0, none⟩ = some (.slice (some ⟨g, 0, none⟩) N c36)) := ⟨blk_cell ZZ.out.1.2.1 0⟩
           have ZN : Aside0 (wk.cell? ⟨g, nd.toNat, none⟩ = some (.int .i64 (rd R nd))) := ⟨(Kd.R_celln (0 : Int) ZZ.out.1.2.2.2 nd HNN.out.1 HNN.out.2).1⟩
           have ZA : Aside0 (wk.cell? ⟨g, at_.toNat, none⟩ = some (.int .i64 (rd R at_))) := ⟨(Kd.R_celln (0 : Int) ZZ.out.1.2.2.2 at_ HAT.out.1 HAT.out.2).1⟩
           have ZB1 : Aside0 (wk.cell? ⟨wr.heap.size, 1, none⟩ = some (.int .i64 gt.f1)) := ⟨(blk_cell ZX.out 1).trans rfl⟩
           have ZB2 : Aside0 (wk.cell? ⟨wr.heap.size, 2, none⟩ = some (.slice A2 gt.f2.length c2)) := ⟨(blk_cell ZX.out 2).trans rfl⟩
           have HBK := trivial
           refine pure_ (i := 0) (N := some 105) (v := ?_) (a' := ?_) #[true, false, false, false, false, false, false, false, false, false, false, false, false, false, false, false, false, false, false, false, false, false, false, false, false] rfl rfl (any_of HT_.out (by kernel_rfl)) (fun _ _ _ h => h) (Or.inl ⟨by rfl, ?_⟩) ?_ ?_
           rotate_left
           ·intro w'
            go_simp
            with_reducible rfl
           rotate_left
           ·simp only [Act.put, List.setIfInBounds_toArray, List.set_cons_zero, List.set_cons_succ, i64_w, i32_w]
            rfl
           refine pure_ (i := 2) (N := some 107) (v := ?_) (a' := ?_) #[true, false, true, false, false, false, false, false, false, false, false, false, false, false, false, false, false, false, false, false, false, false, false, false, false] rfl rfl (any_of HT_.out (by kernel_rfl)) (fun _ _ _ h => h) (Or.inl ⟨by rfl, ?_⟩) ?_ ?_
           rotate_left
           ·intro w'
            go_simp
            with_reducible rfl
           rotate_left
           ·simp only [Act.put, List.setIfInBounds_toArray, List.set_cons_zero, List.set_cons_succ, i64_w, i32_w]
            rfl
           refine inv_at [1, 3, 4, 5, 6, 7, 8, 9, 10, 11, 12, 13, 14, 15, 16, 17, 18, 19, 20, 21, 22, 23, 24] (fun a0_ b a w' => a = putSel a0_ b [(1, 106, .slice A2 gt.f2.length c2), (3, 108, .bool true), (4, 109, .bool true), (5, 110, .slice (some ⟨g, 0, none⟩) N c36), (6, 111, .int .i64 nd), (7, 112, .pointer (some ⟨g, nd.toNat, none⟩)), (8, 113, .int .i64 (rd R nd)), (9, 114, .bool true), (10, 115, .bool true), (11, 116, .bool true), (12, 117, .slice (some ⟨g, 0, none⟩) N c36), (13, 118, .int .i64 at_), (14, 119, .pointer (some ⟨g, at_.toNat, none⟩)), (15, 120, .int .i64 (rd R at_)), (16, 121, .slice (some ⟨g, 0, none⟩) N c36), (17, 122, .int .i64 nd), (18, 123, .pointer (some ⟨g, nd.toNat, none⟩)), (19, 124, .int .i64 (rd R nd)), (20, 125, .pointer (some ⟨wr.heap.size, 1, none⟩)), (21, 126, .int .i64 gt.f1), (22, 127, .int .i64 (wrap64 (rd R nd + gt.f1))), (23, 128, .bool false), (24, 129, .bool false)] ∧ (Below wk.heap.size wk w')) HT_.out HW_.out (by kernel_rfl) (by kernel_rfl) ?_ ?_ ?_
           ·exact ⟨by simp only [putSel, Bool.false_eq_true, if_false], Below.refl _ _⟩
           ·skip
            clear HBK
            refine steps_cons ?_ ?_
            ·rintro b a w' ⟨ha, Q_HBK⟩ hb_ hon hoff
             refine ⟨_, rfl, fun K hK => ?_⟩
             have e105 : a.tmps[105]? = some (.pointer (some ⟨wr.heap.size, 2, none⟩)) := by rw [ha]; exact (putSel_off rfl).trans rfl
             replace ha := Aside0.mk ha
             have HBK := Aside0.mk Q_HBK
             have hc_ := pw_cell_below HBK.out ZB2.out
             refine value_ (w1 := w') (v := .slice A2 gt.f2.length c2) (by rfl) rfl ?_ ?_
             ·go_simp
              (try simp only [i64_w])
              try rfl
             refine hK.out _ _ ⟨(by rw [ha.out]; exact putSel_upk 0 hb_ rfl rfl rfl), Q_HBK⟩
            refine steps_cons ?_ ?_
            ·rintro b a w' ⟨ha, Q_HBK⟩ hb_ hon hoff
             refine ⟨_, rfl, fun K hK => ?_⟩
             have e106 : a.tmps[106]? = some (.slice A2 gt.f2.length c2) := by rw [ha]; exact putSel_on (e := (1, 106, .slice A2 gt.f2.length c2)) 0 rfl rfl (hon 1 (by kernel_rfl)) rfl
             have e107 : a.tmps[107]? = some (.int .i64 at_) := by rw [ha]; exact (putSel_off rfl).trans rfl
             replace ha := Aside0.mk ha
             have HBK := Aside0.mk Q_HBK
             refine goes_ Try.func26 (by kernel_rfl) rfl #[.slice A2 gt.f2.length c2, .int .i64 at_] (by rfl) rfl rfl (by first | (simp only [List.map_toArray, List.map_cons, List.map_nil, Act.eval, Array.getD_eq_getD_getElem?, Option.getD_some, e106, e107]; done) | (simp only [List.map_toArray, List.map_cons, List.map_nil, Act.eval, Array.getD_eq_getD_getElem?, Option.getD_some, e106, e107]; rfl)) ?_
             refine (slices_Contains_int64_int64.calls (hr0 := Kd.C_below ZC.out HBK.out) (hc0 := HLC.out) (h := HCO.out)).mono ?_
             rintro e w5 ⟨rfl, hd⟩
             refine ⟨_, rfl, ?_⟩
             refine hK.out _ _ ⟨(by rw [ha.out]; exact putSel_upk 1 hb_ rfl rfl rfl), below_step HBK.out hd.below⟩
            refine steps_cons ?_ ?_
            ·rintro b a w' ⟨ha, Q_HBK⟩ hb_ hon hoff
             refine ⟨_, rfl, fun K hK => ?_⟩
             have e108 : a.tmps[108]? = some (.bool true) := by rw [ha]; exact putSel_on (e := (3, 108, .bool true)) 1 rfl rfl (hon 3 (by kernel_rfl)) rfl
             replace ha := Aside0.mk ha
             have HBK := Aside0.mk Q_HBK
             refine value_ (w1 := w') (v := .bool true) (by rfl) rfl ?_ ?_
             ·go_simp
              (try simp only [i64_w])
              try rfl
             refine hK.out _ _ ⟨(by rw [ha.out]; exact putSel_upk 2 hb_ rfl rfl rfl), Q_HBK⟩
            refine steps_cons ?_ ?_
            ·rintro b a w' ⟨ha, Q_HBK⟩ hb_ hon hoff
             refine ⟨_, rfl, fun K hK => ?_⟩
             have e11 : a.tmps[11]? = some (.pointer (some ⟨g11, 0, none⟩)) := by rw [ha]; exact (putSel_off rfl).trans rfl
             have e109 : a.tmps[109]? = some (.bool true) := by rw [ha]; exact putSel_on (e := (4, 109, .bool true)) 2 rfl rfl (hon 4 (by kernel_rfl)) rfl
             replace ha := Aside0.mk ha
             have HBK := Aside0.mk Q_HBK
             have hc_ := pw_cell_below HBK.out Z11.out
             refine value_ (w1 := w') (v := .slice (some ⟨g, 0, none⟩) N c36) (wanted_on rfl rfl rfl (e109.trans (by first | rfl | (simp [*]; done)))) rfl ?_ ?_
             ·go_simp
              (try simp only [i64_w])
              try rfl
             refine hK.out _ _ ⟨(by rw [ha.out]; exact putSel_upk 3 hb_ rfl rfl rfl), Q_HBK⟩
            refine steps_cons ?_ ?_
            ·rintro b a w' ⟨ha, Q_HBK⟩ hb_ hon hoff
             refine ⟨_, rfl, fun K hK => ?_⟩
             have e22 : a.tmps[22]? = some (.int .i64 nd) := by rw [ha]; exact (putSel_off rfl).trans rfl
             have e109 : a.tmps[109]? = some (.bool true) := by rw [ha]; exact putSel_on (e := (4, 109, .bool true)) 2 rfl rfl (hon 4 (by kernel_rfl)) rfl
             replace ha := Aside0.mk ha
             have HBK := Aside0.mk Q_HBK
             refine value_ (w1 := w') (v := .int .i64 nd) (wanted_on rfl rfl rfl (e109.trans (by first | rfl | (simp [*]; done)))) rfl ?_ ?_
             ·go_simp
              (try simp only [i64_w])
              try rfl
             refine hK.out _ _ ⟨(by rw [ha.out]; exact putSel_upk 4 hb_ rfl rfl rfl), Q_HBK⟩
            refine steps_cons ?_ ?_
            ·rintro b a w' ⟨ha, Q_HBK⟩ hb_ hon hoff
             refine ⟨_, rfl, fun K hK => ?_⟩
             have e110 : a.tmps[110]? = some (.slice (some ⟨g, 0, none⟩) N c36) := by rw [ha]; exact putSel_on (e := (5, 110, .slice (some ⟨g, 0, none⟩) N c36)) 3 rfl rfl (hon 5 (by kernel_rfl)) rfl
             have e111 : a.tmps[111]? = some (.int .i64 nd) := by rw [ha]; exact putSel_on (e := (6, 111, .int .i64 nd)) 4 rfl rfl (hon 6 (by kernel_rfl)) rfl
             have e109 : a.tmps[109]? = some (.bool true) := by rw [ha]; exact putSel_on (e := (4, 109, .bool true)) 2 rfl rfl (hon 4 (by kernel_rfl)) rfl
             replace ha := Aside0.mk ha
             have HBK := Aside0.mk Q_HBK
             refine value_ (w1 := w') (v := .pointer (some ⟨g, nd.toNat, none⟩)) (wanted_on rfl rfl rfl (e109.trans (by first | rfl | (simp [*]; done)))) rfl ?_ ?_
             ·go_simp
              (try simp only [i64_w])
              try rfl
             refine hK.out _ _ ⟨(by rw [ha.out]; exact putSel_upk 5 hb_ rfl rfl rfl), Q_HBK⟩
            refine steps_cons ?_ ?_
            ·rintro b a w' ⟨ha, Q_HBK⟩ hb_ hon hoff
             refine ⟨_, rfl, fun K hK => ?_⟩
             have e112 : a.tmps[112]? = some (.pointer (some ⟨g, nd.toNat, none⟩)) := by rw [ha]; exact putSel_on (e := (7, 112, .pointer (some ⟨g, nd.toNat, none⟩))) 5 rfl rfl (hon 7 (by kernel_rfl)) rfl
             have e109 : a.tmps[109]? = some (.bool true) := by rw [ha]; exact putSel_on (e := (4, 109, .bool true)) 2 rfl rfl (hon 4 (by kernel_rfl)) rfl
             replace ha := Aside0.mk ha
             have HBK := Aside0.mk Q_HBK
             have hc_ := pw_cell_below HBK.out ZN.out
             refine value_ (w1 := w') (v := .int .i64 (rd R nd)) (wanted_on rfl rfl rfl (e109.trans (by first | rfl | (simp [*]; done)))) rfl ?_ ?_
             ·go_simp
              (try simp only [i64_w])
              try rfl
             refine hK.out _ _ ⟨(by rw [ha.out]; exact putSel_upk 6 hb_ rfl rfl rfl), Q_HBK⟩
            refine steps_cons ?_ ?_
            ·rintro b a w' ⟨ha, Q_HBK⟩ hb_ hon hoff
             refine ⟨_, rfl, fun K hK => ?_⟩
             have e113 : a.tmps[113]? = some (.int .i64 (rd R nd)) := by rw [ha]; exact putSel_on (e := (8, 113, .int .i64 (rd R nd))) 6 rfl rfl (hon 8 (by kernel_rfl)) rfl
             have e109 : a.tmps[109]? = some (.bool true) := by rw [ha]; exact putSel_on (e := (4, 109, .bool true)) 2 rfl rfl (hon 4 (by kernel_rfl)) rfl
             replace ha := Aside0.mk ha
             have HBK := Aside0.mk Q_HBK
             refine value_ (w1 := w') (v := .bool true) (wanted_on rfl rfl rfl (e109.trans (by first | rfl | (simp [*]; done)))) rfl ?_ ?_
             ·go_simp
              (try simp only [i64_w])
              try rfl
             refine hK.out _ _ ⟨(by rw [ha.out]; exact putSel_upk 7 hb_ rfl rfl rfl), Q_HBK⟩
            refine steps_cons ?_ ?_
            ·rintro b a w' ⟨ha, Q_HBK⟩ hb_ hon hoff
             refine ⟨_, rfl, fun K hK => ?_⟩
             have e109 : a.tmps[109]? = some (.bool true) := by rw [ha]; exact putSel_on (e := (4, 109, .bool true)) 2 rfl rfl (hon 4 (by kernel_rfl)) rfl
             have e114 : a.tmps[114]? = some (.bool true) := by rw [ha]; exact putSel_on (e := (9, 114, .bool true)) 7 rfl rfl (hon 9 (by kernel_rfl)) rfl
             replace ha := Aside0.mk ha
             have HBK := Aside0.mk Q_HBK
             refine value_ (w1 := w') (v := .bool true) (by rfl) rfl ?_ ?_
             ·go_simp
              (try simp only [i64_w])
              try rfl
             refine hK.out _ _ ⟨(by rw [ha.out]; exact putSel_upk 8 hb_ rfl rfl rfl), Q_HBK⟩
            refine steps_cons ?_ ?_
            ·rintro b a w' ⟨ha, Q_HBK⟩ hb_ hon hoff
             refine ⟨_, rfl, fun K hK => ?_⟩
             have e115 : a.tmps[115]? = some (.bool true) := by rw [ha]; exact putSel_on (e := (10, 115, .bool true)) 8 rfl rfl (hon 10 (by kernel_rfl)) rfl
             replace ha := Aside0.mk ha
             have HBK := Aside0.mk Q_HBK
             refine value_ (w1 := w') (v := .bool true) (by rfl) rfl ?_ ?_
             ·go_simp
              (try simp only [i64_w])
              try rfl
             refine hK.out _ _ ⟨(by rw [ha.out]; exact putSel_upk 9 hb_ rfl rfl rfl), Q_HBK⟩
            refine steps_cons ?_ ?_
            ·rintro b a w' ⟨ha, Q_HBK⟩ hb_ hon hoff
             refine ⟨_, rfl, fun K hK => ?_⟩
             have e11 : a.tmps[11]? = some (.pointer (some ⟨g11, 0, none⟩)) := by rw [ha]; exact (putSel_off rfl).trans rfl
             have e116 : a.tmps[116]? = some (.bool true) := by rw [ha]; exact putSel_on (e := (11, 116, .bool true)) 9 rfl rfl (hon 11 (by kernel_rfl)) rfl
             replace ha := Aside0.mk ha
             have HBK := Aside0.mk Q_HBK
             have hc_ := pw_cell_below HBK.out Z11.out
             refine value_ (w1 := w') (v := .slice (some ⟨g, 0, none⟩) N c36) (wanted_on rfl rfl rfl (e116.trans (by first | rfl | (simp [*]; done)))) rfl ?_ ?_
             ·go_simp
              (try simp only [i64_w])
              try rfl
             refine hK.out _ _ ⟨(by rw [ha.out]; exact putSel_upk 10 hb_ rfl rfl rfl), Q_HBK⟩
            refine steps_cons ?_ ?_
            ·rintro b a w' ⟨ha, Q_HBK⟩ hb_ hon hoff
             refine ⟨_, rfl, fun K hK => ?_⟩
             have e19 : a.tmps[19]? = some (.int .i64 at_) := by rw [ha]; exact (putSel_off rfl).trans rfl
             have e116 : a.tmps[116]? = some (.bool true) := by rw [ha]; exact putSel_on (e := (11, 116, .bool true)) 9 rfl rfl (hon 11 (by kernel_rfl)) rfl
             replace ha := Aside0.mk ha
             have HBK := Aside0.mk Q_HBK
             refine value_ (w1 := w') (v := .int .i64 at_) (wanted_on rfl rfl rfl (e116.trans (by first | rfl | (simp [*]; done)))) rfl ?_ ?_
             ·go_simp
              (try simp only [i64_w])
              try rfl
             refine hK.out _ _ ⟨(by rw [ha.out]; exact putSel_upk 11 hb_ rfl rfl rfl), Q_HBK⟩
            refine steps_cons ?_ ?_
            ·rintro b a w' ⟨ha, Q_HBK⟩ hb_ hon hoff
             refine ⟨_, rfl, fun K hK => ?_⟩
             have e117 : a.tmps[117]? = some (.slice (some ⟨g, 0, none⟩) N c36) := by rw [ha]; exact putSel_on (e := (12, 117, .slice (some ⟨g, 0, none⟩) N c36)) 10 rfl rfl (hon 12 (by kernel_rfl)) rfl
             have e118 : a.tmps[118]? = some (.int .i64 at_) := by rw [ha]; exact putSel_on (e := (13, 118, .int .i64 at_)) 11 rfl rfl (hon 13 (by kernel_rfl)) rfl
             have e116 : a.tmps[116]? = some (.bool true) := by rw [ha]; exact putSel_on (e := (11, 116, .bool true)) 9 rfl rfl (hon 11 (by kernel_rfl)) rfl
             replace ha := Aside0.mk ha
             have HBK := Aside0.mk Q_HBK
             refine value_ (w1 := w') (v := .pointer (some ⟨g, at_.toNat, none⟩)) (wanted_on rfl rfl rfl (e116.trans (by first | rfl | (simp [*]; done)))) rfl ?_ ?_
             ·go_simp
              (try simp only [i64_w])
              try rfl
             refine hK.out _ _ ⟨(by rw [ha.out]; exact putSel_upk 12 hb_ rfl rfl rfl), Q_HBK⟩
            refine steps_cons ?_ ?_
            ·rintro b a w' ⟨ha, Q_HBK⟩ hb_ hon hoff
             refine ⟨_, rfl, fun K hK => ?_⟩
             have e119 : a.tmps[119]? = some (.pointer (some ⟨g, at_.toNat, none⟩)) := by rw [ha]; exact putSel_on (e := (14, 119, .pointer (some ⟨g, at_.toNat, none⟩))) 12 rfl rfl (hon 14 (by kernel_rfl)) rfl
             have e116 : a.tmps[116]? = some (.bool true) := by rw [ha]; exact putSel_on (e := (11, 116, .bool true)) 9 rfl rfl (hon 11 (by kernel_rfl)) rfl
             replace ha := Aside0.mk ha
             have HBK := Aside0.mk Q_HBK
             have hc_ := pw_cell_below HBK.out ZA.out
             refine value_ (w1 := w') (v := .int .i64 (rd R at_)) (wanted_on rfl rfl rfl (e116.trans (by first | rfl | (simp [*]; done)))) rfl ?_ ?_
             ·go_simp
              (try simp only [i64_w])
              try rfl
             refine hK.out _ _ ⟨(by rw [ha.out]; exact putSel_upk 13 hb_ rfl rfl rfl), Q_HBK⟩
            refine steps_cons ?_ ?_
            ·rintro b a w' ⟨ha, Q_HBK⟩ hb_ hon hoff
             refine ⟨_, rfl, fun K hK => ?_⟩
             have e11 : a.tmps[11]? = some (.pointer (some ⟨g11, 0, none⟩)) := by rw [ha]; exact (putSel_off rfl).trans rfl
             have e116 : a.tmps[116]? = some (.bool true) := by rw [ha]; exact putSel_on (e := (11, 116, .bool true)) 9 rfl rfl (hon 11 (by kernel_rfl)) rfl
             replace ha := Aside0.mk ha
             have HBK := Aside0.mk Q_HBK
             have hc_ := pw_cell_below HBK.out Z11.out
             refine value_ (w1 := w') (v := .slice (some ⟨g, 0, none⟩) N c36) (wanted_on rfl rfl rfl (e116.trans (by first | rfl | (simp [*]; done)))) rfl ?_ ?_
             ·go_simp
              (try simp only [i64_w])
              try rfl
             refine hK.out _ _ ⟨(by rw [ha.out]; exact putSel_upk 14 hb_ rfl rfl rfl), Q_HBK⟩
            refine steps_cons ?_ ?_
            ·rintro b a w' ⟨ha, Q_HBK⟩ hb_ hon hoff
             refine ⟨_, rfl, fun K hK => ?_⟩
             have e22 : a.tmps[22]? = some (.int .i64 nd) := by rw [ha]; exact (putSel_off rfl).trans rfl
             have e116 : a.tmps[116]? = some (.bool true) := by rw [ha]; exact putSel_on (e := (11, 116, .bool true)) 9 rfl rfl (hon 11 (by kernel_rfl)) rfl
             replace ha := Aside0.mk ha
             have HBK := Aside0.mk Q_HBK
             refine value_ (w1 := w') (v := .int .i64 nd) (wanted_on rfl rfl rfl (e116.trans (by first | rfl | (simp [*]; done)))) rfl ?_ ?_
             ·go_simp
              (try simp only [i64_w])
              try rfl
             refine hK.out _ _ ⟨(by rw [ha.out]; exact putSel_upk 15 hb_ rfl rfl rfl), Q_HBK⟩
            refine steps_cons ?_ ?_
            ·rintro b a w' ⟨ha, Q_HBK⟩ hb_ hon hoff
             refine ⟨_, rfl, fun K hK => ?_⟩
             have e121 : a.tmps[121]? = some (.slice (some ⟨g, 0, none⟩) N c36) := by rw [ha]; exact putSel_on (e := (16, 121, .slice (some ⟨g, 0, none⟩) N c36)) 14 rfl rfl (hon 16 (by kernel_rfl)) rfl
             have e122 : a.tmps[122]? = some (.int .i64 nd) := by rw [ha]; exact putSel_on (e := (17, 122, .int .i64 nd)) 15 rfl rfl (hon 17 (by kernel_rfl)) rfl
             have e116 : a.tmps[116]? = some (.bool true) := by rw [ha]; exact putSel_on (e := (11, 116, .bool true)) 9 rfl rfl (hon 11 (by kernel_rfl)) rfl
             replace ha := Aside0.mk ha
             have HBK := Aside0.mk Q_HBK
             refine value_ (w1 := w') (v := .pointer (some ⟨g, nd.toNat, none⟩)) (wanted_on rfl rfl rfl (e116.trans (by first | rfl | (simp [*]; done)))) rfl ?_ ?_
             ·go_simp
              (try simp only [i64_w])
              try rfl
             refine hK.out _ _ ⟨(by rw [ha.out]; exact putSel_upk 16 hb_ rfl rfl rfl), Q_HBK⟩
            refine steps_cons ?_ ?_
            ·rintro b a w' ⟨ha, Q_HBK⟩ hb_ hon hoff
             refine ⟨_, rfl, fun K hK => ?_⟩
             have e123 : a.tmps[123]? = some (.pointer (some ⟨g, nd.toNat, none⟩)) := by rw [ha]; exact putSel_on (e := (18, 123, .pointer (some ⟨g, nd.toNat, none⟩))) 16 rfl rfl (hon 18 (by kernel_rfl)) rfl
             have e116 : a.tmps[116]? = some (.bool true) := by rw [ha]; exact putSel_on (e := (11, 116, .bool true)) 9 rfl rfl (hon 11 (by kernel_rfl)) rfl
             replace ha := Aside0.mk ha
             have HBK := Aside0.mk Q_HBK
             have hc_ := pw_cell_below HBK.out ZN.out
             refine value_ (w1 := w') (v := .int .i64 (rd R nd)) (wanted_on rfl rfl rfl (e116.trans (by first | rfl | (simp [*]; done)))) rfl ?_ ?_
             ·go_simp
              (try simp only [i64_w])
              try rfl
             refine hK.out _ _ ⟨(by rw [ha.out]; exact putSel_upk 17 hb_ rfl rfl rfl), Q_HBK⟩
            refine steps_cons ?_ ?_
            ·rintro b a w' ⟨ha, Q_HBK⟩ hb_ hon hoff
             refine ⟨_, rfl, fun K hK => ?_⟩
             have e21 : a.tmps[21]? = some (.pointer (some ⟨wr.heap.size, 0, none⟩)) := by rw [ha]; exact (putSel_off rfl).trans rfl
             have e116 : a.tmps[116]? = some (.bool true) := by rw [ha]; exact putSel_on (e := (11, 116, .bool true)) 9 rfl rfl (hon 11 (by kernel_rfl)) rfl
             replace ha := Aside0.mk ha
             have HBK := Aside0.mk Q_HBK
             refine value_ (w1 := w') (v := .pointer (some ⟨wr.heap.size, 1, none⟩)) (wanted_on rfl rfl rfl (e116.trans (by first | rfl | (simp [*]; done)))) rfl ?_ ?_
             ·go_simp
              (try simp only [i64_w])
              try rfl
             refine hK.out _ _ ⟨(by rw [ha.out]; exact putSel_upk 18 hb_ rfl rfl rfl), Q_HBK⟩
            refine steps_cons ?_ ?_
            ·rintro b a w' ⟨ha, Q_HBK⟩ hb_ hon hoff
             refine ⟨_, rfl, fun K hK => ?_⟩
             have e125 : a.tmps[125]? = some (.pointer (some ⟨wr.heap.size, 1, none⟩)) := by rw [ha]; exact putSel_on (e := (20, 125, .pointer (some ⟨wr.heap.size, 1, none⟩))) 18 rfl rfl (hon 20 (by kernel_rfl)) rfl
             have e116 : a.tmps[116]? = some (.bool true) := by rw [ha]; exact putSel_on (e := (11, 116, .bool true)) 9 rfl rfl (hon 11 (by kernel_rfl)) rfl
             replace ha := Aside0.mk ha
             have HBK := Aside0.mk Q_HBK
             have hc_ := pw_cell_below HBK.out ZB1.out
             refine value_ (w1 := w') (v := .int .i64 gt.f1) (wanted_on rfl rfl rfl (e116.trans (by first | rfl | (simp [*]; done)))) rfl ?_ ?_
             ·go_simp
              (try simp only [i64_w])
              try rfl
             refine hK.out _ _ ⟨(by rw [ha.out]; exact putSel_upk 19 hb_ rfl rfl rfl), Q_HBK⟩
            refine steps_cons ?_ ?_
            ·rintro b a w' ⟨ha, Q_HBK⟩ hb_ hon hoff
             refine ⟨_, rfl, fun K hK => ?_⟩
             have e124 : a.tmps[124]? = some (.int .i64 (rd R nd)) := by rw [ha]; exact putSel_on (e := (19, 124, .int .i64 (rd R nd))) 17 rfl rfl (hon 19 (by kernel_rfl)) rfl
             have e126 : a.tmps[126]? = some (.int .i64 gt.f1) := by rw [ha]; exact putSel_on (e := (21, 126, .int .i64 gt.f1)) 19 rfl rfl (hon 21 (by kernel_rfl)) rfl
             have e116 : a.tmps[116]? = some (.bool true) := by rw [ha]; exact putSel_on (e := (11, 116, .bool true)) 9 rfl rfl (hon 11 (by kernel_rfl)) rfl
             replace ha := Aside0.mk ha
             have HBK := Aside0.mk Q_HBK
             refine value_ (w1 := w') (v := .int .i64 (wrap64 (rd R nd + gt.f1))) (wanted_on rfl rfl rfl (e116.trans (by first | rfl | (simp [*]; done)))) rfl ?_ ?_
             ·go_simp
              (try simp only [i64_w])
              try rfl
             refine hK.out _ _ ⟨(by rw [ha.out]; exact putSel_upk 20 hb_ rfl rfl rfl), Q_HBK⟩
            refine steps_cons ?_ ?_
            ·rintro b a w' ⟨ha, Q_HBK⟩ hb_ hon hoff
             refine ⟨_, rfl, fun K hK => ?_⟩
             have e120 : a.tmps[120]? = some (.int .i64 (rd R at_)) := by rw [ha]; exact putSel_on (e := (15, 120, .int .i64 (rd R at_))) 13 rfl rfl (hon 15 (by kernel_rfl)) rfl
             have e127 : a.tmps[127]? = some (.int .i64 (wrap64 (rd R nd + gt.f1))) := by rw [ha]; exact putSel_on (e := (22, 127, .int .i64 (wrap64 (rd R nd + gt.f1)))) 20 rfl rfl (hon 22 (by kernel_rfl)) rfl
             have e116 : a.tmps[116]? = some (.bool true) := by rw [ha]; exact putSel_on (e := (11, 116, .bool true)) 9 rfl rfl (hon 11 (by kernel_rfl)) rfl
             replace ha := Aside0.mk ha
             have HBK := Aside0.mk Q_HBK
             refine value_ (w1 := w') (v := .bool false) (wanted_on rfl rfl rfl (e116.trans (by first | rfl | (simp [*]; done)))) rfl ?_ ?_
             ·go_simp
              (try simp only [i64_w])
              try rfl
             refine hK.out _ _ ⟨(by rw [ha.out]; exact putSel_upk 21 hb_ rfl rfl rfl), Q_HBK⟩
            refine steps_cons ?_ ?_
            ·rintro b a w' ⟨ha, Q_HBK⟩ hb_ hon hoff
             refine ⟨_, rfl, fun K hK => ?_⟩
             have e116 : a.tmps[116]? = some (.bool true) := by rw [ha]; exact putSel_on (e := (11, 116, .bool true)) 9 rfl rfl (hon 11 (by kernel_rfl)) rfl
             have e128 : a.tmps[128]? = some (.bool false) := by rw [ha]; exact putSel_on (e := (23, 128, .bool false)) 21 rfl rfl (hon 23 (by kernel_rfl)) rfl
             replace ha := Aside0.mk ha
             have HBK := Aside0.mk Q_HBK
             refine value_ (w1 := w') (v := .bool false) (by rfl) rfl ?_ ?_
             ·go_simp
              (try simp only [i64_w])
              try rfl
             refine hK.out _ _ ⟨(by rw [ha.out]; exact putSel_upk 22 hb_ rfl rfl rfl), Q_HBK⟩
            exact steps_nil
           rintro b a wz hall ⟨ha, Q_HBK⟩
           clear HBK
           have hb1_ := hall 1 (by kernel_rfl)
           have hb3_ := hall 3 (by kernel_rfl)
           have hb4_ := hall 4 (by kernel_rfl)
           have hb5_ := hall 5 (by kernel_rfl)
           have hb6_ := hall 6 (by kernel_rfl)
           have hb7_ := hall 7 (by kernel_rfl)
           have hb8_ := hall 8 (by kernel_rfl)
           have hb9_ := hall 9 (by kernel_rfl)
           have hb10_ := hall 10 (by kernel_rfl)
           have hb11_ := hall 11 (by kernel_rfl)
           have hb12_ := hall 12 (by kernel_rfl)
           have hb13_ := hall 13 (by kernel_rfl)
           have hb14_ := hall 14 (by kernel_rfl)
           have hb15_ := hall 15 (by kernel_rfl)
           have hb16_ := hall 16 (by kernel_rfl)
           have hb17_ := hall 17 (by kernel_rfl)
           have hb18_ := hall 18 (by kernel_rfl)
           have hb19_ := hall 19 (by kernel_rfl)
           have hb20_ := hall 20 (by kernel_rfl)
           have hb21_ := hall 21 (by kernel_rfl)
           have hb22_ := hall 22 (by kernel_rfl)
           have hb23_ := hall 23 (by kernel_rfl)
           have hb24_ := hall 24 (by kernel_rfl)
           subst ha
           simp only [putSel, hb1_, hb3_, hb4_, hb5_, hb6_, hb7_, hb8_, hb9_, hb10_, hb11_, hb12_, hb13_, hb14_, hb15_, hb16_, hb17_, hb18_, hb19_, hb20_, hb21_, hb22_, hb23_, hb24_, if_true, Act.put, List.setIfInBounds_toArray, List.set_cons_zero, List.set_cons_succ]
           have HBK := Aside0.mk Q_HBK
           clear Q_HBK
           clear hall hb1_ hb3_ hb4_ hb5_ hb6_ hb7_ hb8_ hb9_ hb10_ hb11_ hb12_ hb13_ hb14_ hb15_ hb16_ hb17_ hb18_ hb19_ hb20_ hb21_ hb22_ hb23_ hb24_
           clear y1 y2 y3 s1 s2
           go_wp2
           go_roundg d
           case measure => omega
           case rel => exact ⟨j + 1, rfl, by rw [HJW.out], ⟨by have := HJ.out; omega⟩, HNX, ⟨ZZ.out.below HBK.out⟩, ⟨Kd.R_below ZV.out HBK.out⟩⟩
         ·have s1 : decide (0 ≤ rd R nd) = false := decide_eq_false hg
          have s2 : decide (rd R nd ≥ 0) = false := s1
          rw [if_neg (fun h => hg h.2.1)] at hnx
          have HNX := Aside0.mk hnx
          clear hm hnx hkc hg
          go_wp2
          rw [HW1.out]
          refine start_ (n := 25) (S := fun w' => True) (ds := []) #[false, false, false, false, false, false, false, false, false, false, false, false, false, false, false, false, false, false, false, false, false, false, false, false, false] (by kernel_rfl) rfl rfl trivial (fun hHeld => ?_)
          refine with_tabW impl_LongestPath.tab23 impl_LongestPath.bits23 (fun HT_ HW_ => ?_)
          have ZZ : Aside0 (Lz gb g11 g12 g N c36 gl #[.int .i64 a0_0, .slice (some ad1) l0_1.length c0_1, .slice (some ad2) l0_2.length c0_2, .int .i64 a0_3, .int .i64 a0_4, .int .i64 a0_5, .int .i64 a0_6] w D S0 R (wr.alloc (.cells #[.int .i64 gt.f0, .int .i64 gt.f1, .slice A2 gt.f2.length c2] 36)).drew) := ⟨LZ.out.below (below_drew1 (below_alloc (Below.refl _ _) _))⟩
          have ZV : Aside0 (Kd.R (Kd.int .i64) 2 (wr.alloc (.cells #[.int .i64 gt.f0, .int .i64 gt.f1, .slice A2 gt.f2.length c2] 36)).drew w.heap.size (fun k_ => S0 ≤ k_) u18 path) := ⟨Kd.R_below HV.out (below_drew1 (below_alloc (Below.refl _ _) _))⟩
          have ZX : Aside0 ((wr.alloc (.cells #[.int .i64 gt.f0, .int .i64 gt.f1, .slice A2 gt.f2.length c2] 36)).drew.heap[wr.heap.size]? = some (.cells #[.int .i64 gt.f0, .int .i64 gt.f1, .slice A2 gt.f2.length c2] 36 (0, 0))) := ⟨blk_drew (blk_new wr _)⟩
          have ZC : Aside0 ((Kd.int .i64).C (wr.alloc (.cells #[.int .i64 gt.f0, .int .i64 gt.f1, .slice A2 gt.f2.length c2] 36)).drew A2 gt.f2.length gt.f2) := ⟨Kd.C_below (Kd.C_below HC2'.out LZ.out.2.1) (below_drew1 (below_alloc (Below.refl _ _) _))⟩
          clear LZ HV
          generalize (wr.alloc (.cells #[.int .i64 gt.f0, .int .i64 gt.f1, .slice A2 gt.f2.length c2] 36)).drew = wk at ZZ ZV ZX ZC hHeld ⊢
          have Z11 : Aside0 (wk.cell? ⟨g11, 0, none⟩ = some (.slice (some ⟨g, 0, none⟩) N c36)) := ⟨blk_cell ZZ.out.1.2.1 0⟩
          have ZN : Aside0 (wk.cell? ⟨g, nd.toNat, none⟩ = some (.int .i64 (rd R nd))) := ⟨(Kd.R_celln (0 : Int) ZZ.out.1.2.2.2 nd HNN.out.1 HNN.out.2).1⟩
          have ZA : Aside0 (wk.cell? ⟨g, at_.toNat, none⟩ = some (.int .i64 (rd R at_))) := ⟨(Kd.R_celln (0 : Int) ZZ.out.1.2.2.2 at_ HAT.out.1 HAT.out.2).1⟩
          have ZB1 : Aside0 (wk.cell? ⟨wr.heap.size, 1, none⟩ = some (.int .i64 gt.f1)) := ⟨(blk_cell ZX.out 1).trans rfl⟩
          have ZB2 : Aside0 (wk.cell? ⟨wr.heap.size, 2, none⟩ = some (.slice A2 gt.f2.length c2)) := ⟨(blk_cell ZX.out 2).trans rfl⟩
          have HBK := trivial
          refine pure_ (i := 0) (N := some 105) (v := ?_) (a' := ?_) #[true, false, false, false, false, false, false, false, false, false, false, false, false, false, false, false, false, false, false, false, false, false, false, false, false] rfl rfl (any_of HT_.out (by kernel_rfl)) (fun _ _ _ h => h) (Or.inl ⟨by rfl, ?_⟩) ?_ ?_
          rotate_left
          ·intro w'
           go_simp
           with_reducible rfl
          rotate_left
          ·simp only [Act.put, List.setIfInBounds_toArray, List.set_cons_zero, List.set_cons_succ, i64_w, i32_w]
           rfl
          refine pure_ (i := 2) (N := some 107) (v := ?_) (a' := ?_) #[true, false, true, false, false, false, false, false, false, false, false, false, false, false, false, false, false, false, false, false, false, false, false, false, false] rfl rfl (any_of HT_.out (by kernel_rfl)) (fun _ _ _ h => h) (Or.inl ⟨by rfl, ?_⟩) ?_ ?_
          rotate_left
          ·intro w'
           go_simp
           with_reducible rfl
          rotate_left
          ·simp only [Act.put, List.setIfInBounds_toArray, List.set_cons_zero, List.set_cons_succ, i64_w, i32_w]
           rfl
          refine inv_at [1, 3, 4, 5, 6, 7, 8, 9, 10, 11, 12, 13, 14, 15, 16, 17, 18, 19, 20, 21, 22, 23, 24] (fun a0_ b a w' => a = putSel a0_ b [(1, 106, .slice A2 gt.f2.length c2), (3, 108, .bool true), (4, 109, .bool true), (5, 110, .slice (some ⟨g, 0, none⟩) N c36), (6, 111, .int .i64 nd), (7, 112, .pointer (some ⟨g, nd.toNat, none⟩)), (8, 113, .int .i64 (rd R nd)), (9, 114, .bool false), (10, 115, .bool false), (11, 116, .bool false), (12, 117, undef), (13, 118, undef), (14, 119, undef), (15, 120, undef), (16, 121, undef), (17, 122, undef), (18, 123, undef), (19, 124, undef), (20, 125, undef), (21, 126, undef), (22, 127, undef), (23, 128, undef), (24, 129, .bool false)] ∧ (Below wk.heap.size wk w')) HT_.out HW_.out (by kernel_rfl) (by kernel_rfl) ?_ ?_ ?_
          ·exact ⟨by simp only [putSel, Bool.false_eq_true, if_false], Below.refl _ _⟩
          ·skip
           clear HBK
           refine steps_cons ?_ ?_
           ·rintro b a w' ⟨ha, Q_HBK⟩ hb_ hon hoff
            refine ⟨_, rfl, fun K hK => ?_⟩
            have e105 : a.tmps[105]? = some (.pointer (some ⟨wr.heap.size, 2, none⟩)) := by rw [ha]; exact (putSel_off rfl).trans rfl
            replace ha := Aside0.mk ha
            have HBK := Aside0.mk Q_HBK
            have hc_ := pw_cell_below HBK.out ZB2.out
            refine value_ (w1 := w') (v := .slice A2 gt.f2.length c2) (by rfl) rfl ?_ ?_
            ·go_simp
             (try simp only [i64_w])
             try rfl
            refine hK.out _ _ ⟨(by rw [ha.out]; exact putSel_upk 0 hb_ rfl rfl rfl), Q_HBK⟩
           refine steps_cons ?_ ?_
           ·rintro b a w' ⟨ha, Q_HBK⟩ hb_ hon hoff
            refine ⟨_, rfl, fun K hK => ?_⟩
            have e106 : a.tmps[106]? = some (.slice A2 gt.f2.length c2) := by rw [ha]; exact putSel_on (e := (1, 106, .slice A2 gt.f2.length c2)) 0 rfl rfl (hon 1 (by kernel_rfl)) rfl
            have e107 : a.tmps[107]? = some (.int .i64 at_) := by rw [ha]; exact (putSel_off rfl).trans rfl
            replace ha := Aside0.mk ha
            have HBK := Aside0.mk Q_HBK
            refine goes_ Try.func26 (by kernel_rfl) rfl #[.slice A2 gt.f2.length c2, .int .i64 at_] (by rfl) rfl rfl (by first | (simp only [List.map_toArray, List.map_cons, List.map_nil, Act.eval, Array.getD_eq_getD_getElem?, Option.getD_some, e106, e107]; done) | (simp only [List.map_toArray, List.map_cons, List.map_nil, Act.eval, Array.getD_eq_getD_getElem?, Option.getD_some, e106, e107]; rfl)) ?_
            refine (slices_Contains_int64_int64.calls (hr0 := Kd.C_below ZC.out HBK.out) (hc0 := HLC.out) (h := HCO.out)).mono ?_
            rintro e w5 ⟨rfl, hd⟩
            refine ⟨_, rfl, ?_⟩
            refine hK.out _ _ ⟨(by rw [ha.out]; exact putSel_upk 1 hb_ rfl rfl rfl), below_step HBK.out hd.below⟩
           refine steps_cons ?_ ?_
           ·rintro b a w' ⟨ha, Q_HBK⟩ hb_ hon hoff
            refine ⟨_, rfl, fun K hK => ?_⟩
            have e108 : a.tmps[108]? = some (.bool true) := by rw [ha]; exact putSel_on (e := (3, 108, .bool true)) 1 rfl rfl (hon 3 (by kernel_rfl)) rfl
            replace ha := Aside0.mk ha
            have HBK := Aside0.mk Q_HBK
            refine value_ (w1 := w') (v := .bool true) (by rfl) rfl ?_ ?_
            ·go_simp
             (try simp only [i64_w])
             try rfl
            refine hK.out _ _ ⟨(by rw [ha.out]; exact putSel_upk 2 hb_ rfl rfl rfl), Q_HBK⟩
           refine steps_cons ?_ ?_
           ·rintro b a w' ⟨ha, Q_HBK⟩ hb_ hon hoff
            refine ⟨_, rfl, fun K hK => ?_⟩
            have e11 : a.tmps[11]? = some (.pointer (some ⟨g11, 0, none⟩)) := by rw [ha]; exact (putSel_off rfl).trans rfl
            have e109 : a.tmps[109]? = some (.bool true) := by rw [ha]; exact putSel_on (e := (4, 109, .bool true)) 2 rfl rfl (hon 4 (by kernel_rfl)) rfl
            replace ha := Aside0.mk ha
            have HBK := Aside0.mk Q_HBK
            have hc_ := pw_cell_below HBK.out Z11.out
            refine value_ (w1 := w') (v := .slice (some ⟨g, 0, none⟩) N c36) (wanted_on rfl rfl rfl (e109.trans (by first | rfl | (simp [*]; done)))) rfl ?_ ?_
            ·go_simp
             (try simp only [i64_w])
             try rfl
            refine hK.out _ _ ⟨(by rw [ha.out]; exact putSel_upk 3 hb_ rfl rfl rfl), Q_HBK⟩
           refine steps_cons ?_ ?_
           ·rintro b a w' ⟨ha, Q_HBK⟩ hb_ hon hoff
            refine ⟨_, rfl, fun K hK => ?_⟩
            have e22 : a.tmps[22]? = some (.int .i64 nd) := by rw [ha]; exact (putSel_off rfl).trans rfl
            have e109 : a.tmps[109]? = some (.bool true) := by rw [ha]; exact putSel_on (e := (4, 109, .bool true)) 2 rfl rfl (hon 4 (by kernel_rfl)) rfl
            replace ha := Aside0.mk ha
            have HBK := Aside0.mk Q_HBK
            refine value_ (w1 := w') (v := .int .i64 nd) (wanted_on rfl rfl rfl (e109.trans (by first | rfl | (simp [*]; done)))) rfl ?_ ?_
            ·go_simp
             (try simp only [i64_w])
             try rfl
            refine hK.out _ _ ⟨(by rw [ha.out]; exact putSel_upk 4 hb_ rfl rfl rfl), Q_HBK⟩
           refine steps_cons ?_ ?_
           ·rintro b a w' ⟨ha, Q_HBK⟩ hb_ hon hoff
            refine ⟨_, rfl, fun K hK => ?_⟩
            have e110 : a.tmps[110]? = some (.slice (some ⟨g, 0, none⟩) N c36) := by rw [ha]; exact putSel_on (e := (5, 110, .slice (some ⟨g, 0, none⟩) N c36)) 3 rfl rfl (hon 5 (by kernel_rfl)) rfl
            have e111 : a.tmps[111]? = some (.int .i64 nd) := by rw [ha]; exact putSel_on (e := (6, 111, .int .i64 nd)) 4 rfl rfl (hon 6 (by kernel_rfl)) rfl
            have e109 : a.tmps[109]? = some (.bool true) := by rw [ha]; exact putSel_on (e := (4, 109, .bool true)) 2 rfl rfl (hon 4 (by kernel_rfl)) rfl
            replace ha := Aside0.mk ha
            have HBK := Aside0.mk Q_HBK
            refine value_ (w1 := w') (v := .pointer (some ⟨g, nd.toNat, none⟩)) (wanted_on rfl rfl rfl (e109.trans (by first | rfl | (simp [*]; done)))) rfl ?_ ?_
            ·go_simp
             (try simp only [i64_w])
             try rfl
            refine hK.out _ _ ⟨(by rw [ha.out]; exact putSel_upk 5 hb_ rfl rfl rfl), Q_HBK⟩
           refine steps_cons ?_ ?_
           ·rintro b a w' ⟨ha, Q_HBK⟩ hb_ hon hoff
            refine ⟨_, rfl, fun K hK => ?_⟩
            have e112 : a.tmps[112]? = some (.pointer (some ⟨g, nd.toNat, none⟩)) := by rw [ha]; exact putSel_on (e := (7, 112, .pointer (some ⟨g, nd.toNat, none⟩))) 5 rfl rfl (hon 7 (by kernel_rfl)) rfl
            have e109 : a.tmps[109]? = some (.bool true) := by rw [ha]; exact putSel_on (e := (4, 109, .bool true)) 2 rfl rfl (hon 4 (by kernel_rfl)) rfl
            replace ha := Aside0.mk ha
            have HBK := Aside0.mk Q_HBK
            have hc_ := pw_cell_below HBK.out ZN.out
            refine value_ (w1 := w') (v := .int .i64 (rd R nd)) (wanted_on rfl rfl rfl (e109.trans (by first | rfl | (simp [*]; done)))) rfl ?_ ?_
            ·go_simp
             (try simp only [i64_w])
             try rfl
            refine hK.out _ _ ⟨(by rw [ha.out]; exact putSel_upk 6 hb_ rfl rfl rfl), Q_HBK⟩
           refine steps_cons ?_ ?_
           ·rintro b a w' ⟨ha, Q_HBK⟩ hb_ hon hoff
            refine ⟨_, rfl, fun K hK => ?_⟩
            have e113 : a.tmps[113]? = some (.int .i64 (rd R nd)) := by rw [ha]; exact putSel_on (e := (8, 113, .int .i64 (rd R nd))) 6 rfl rfl (hon 8 (by kernel_rfl)) rfl
            have e109 : a.tmps[109]? = some (.bool true) := by rw [ha]; exact putSel_on (e := (4, 109, .bool true)) 2 rfl rfl (hon 4 (by kernel_rfl)) rfl
            replace ha := Aside0.mk ha
            have HBK := Aside0.mk Q_HBK
            refine value_ (w1 := w') (v := .bool false) (wanted_on rfl rfl rfl (e109.trans (by first | rfl | (simp [*]; done)))) rfl ?_ ?_
            ·go_simp
             (try simp only [i64_w])
             try rfl
            refine hK.out _ _ ⟨(by rw [ha.out]; exact putSel_upk 7 hb_ rfl rfl rfl), Q_HBK⟩
           refine steps_cons ?_ ?_
           ·rintro b a w' ⟨ha, Q_HBK⟩ hb_ hon hoff
            refine ⟨_, rfl, fun K hK => ?_⟩
            have e109 : a.tmps[109]? = some (.bool true) := by rw [ha]; exact putSel_on (e := (4, 109, .bool true)) 2 rfl rfl (hon 4 (by kernel_rfl)) rfl
            have e114 : a.tmps[114]? = some (.bool false) := by rw [ha]; exact putSel_on (e := (9, 114, .bool false)) 7 rfl rfl (hon 9 (by kernel_rfl)) rfl
            replace ha := Aside0.mk ha
            have HBK := Aside0.mk Q_HBK
            refine value_ (w1 := w') (v := .bool false) (by rfl) rfl ?_ ?_
            ·go_simp
             (try simp only [i64_w])
             try rfl
            refine hK.out _ _ ⟨(by rw [ha.out]; exact putSel_upk 8 hb_ rfl rfl rfl), Q_HBK⟩
           refine steps_cons ?_ ?_
           ·rintro b a w' ⟨ha, Q_HBK⟩ hb_ hon hoff
            refine ⟨_, rfl, fun K hK => ?_⟩
            have e115 : a.tmps[115]? = some (.bool false) := by rw [ha]; exact putSel_on (e := (10, 115, .bool false)) 8 rfl rfl (hon 10 (by kernel_rfl)) rfl
            replace ha := Aside0.mk ha
            have HBK := Aside0.mk Q_HBK
            refine value_ (w1 := w') (v := .bool false) (by rfl) rfl ?_ ?_
            ·go_simp
             (try simp only [i64_w])
             try rfl
            refine hK.out _ _ ⟨(by rw [ha.out]; exact putSel_upk 9 hb_ rfl rfl rfl), Q_HBK⟩
           refine steps_cons ?_ ?_
           ·rintro b a w' ⟨ha, Q_HBK⟩ hb_ hon hoff
            refine ⟨_, rfl, fun K hK => ?_⟩
            have e116 : a.tmps[116]? = some (.bool false) := by rw [ha]; exact putSel_on (e := (11, 116, .bool false)) 9 rfl rfl (hon 11 (by kernel_rfl)) rfl
            replace ha := Aside0.mk ha
            have HBK := Aside0.mk Q_HBK
            have hc_ := pw_cell_below HBK.out Z11.out
            refine off_ (wanted_off rfl rfl rfl (e116.trans (by first | rfl | (simp [*]; done)))) ?_
            refine hK.out _ _ ⟨(by rw [ha.out]; exact putSel_upk 10 hb_ rfl rfl rfl), Q_HBK⟩
           refine steps_cons ?_ ?_
           ·rintro b a w' ⟨ha, Q_HBK⟩ hb_ hon hoff
            refine ⟨_, rfl, fun K hK => ?_⟩
            have e116 : a.tmps[116]? = some (.bool false) := by rw [ha]; exact putSel_on (e := (11, 116, .bool false)) 9 rfl rfl (hon 11 (by kernel_rfl)) rfl
            replace ha := Aside0.mk ha
            have HBK := Aside0.mk Q_HBK
            refine off_ (wanted_off rfl rfl rfl (e116.trans (by first | rfl | (simp [*]; done)))) ?_
            refine hK.out _ _ ⟨(by rw [ha.out]; exact putSel_upk 11 hb_ rfl rfl rfl), Q_HBK⟩
           refine steps_cons ?_ ?_
           ·rintro b a w' ⟨ha, Q_HBK⟩ hb_ hon hoff
            refine ⟨_, rfl, fun K hK => ?_⟩
            have e116 : a.tmps[116]? = some (.bool false) := by rw [ha]; exact putSel_on (e := (11, 116, .bool false)) 9 rfl rfl (hon 11 (by kernel_rfl)) rfl
            replace ha := Aside0.mk ha
            have HBK := Aside0.mk Q_HBK
            refine off_ (wanted_off rfl rfl rfl (e116.trans (by first | rfl | (simp [*]; done)))) ?_
            refine hK.out _ _ ⟨(by rw [ha.out]; exact putSel_upk 12 hb_ rfl rfl rfl), Q_HBK⟩
           refine steps_cons ?_ ?_
           ·rintro b a w' ⟨ha, Q_HBK⟩ hb_ hon hoff
            refine ⟨_, rfl, fun K hK => ?_⟩
            have e116 : a.tmps[116]? = some (.bool false) := by rw [ha]; exact putSel_on (e := (11, 116, .bool false)) 9 rfl rfl (hon 11 (by kernel_rfl)) rfl
            replace ha := Aside0.mk ha
            have HBK := Aside0.mk Q_HBK
            have hc_ := pw_cell_below HBK.out ZA.out
            refine off_ (wanted_off rfl rfl rfl (e116.trans (by first | rfl | (simp [*]; done)))) ?_
            refine hK.out _ _ ⟨(by rw [ha.out]; exact putSel_upk 13 hb_ rfl rfl rfl), Q_HBK⟩
           refine steps_cons ?_ ?_
           ·rintro b a w' ⟨ha, Q_HBK⟩ hb_ hon hoff
            refine ⟨_, rfl, fun K hK => ?_⟩
            have e116 : a.tmps[116]? = some (.bool false) := by rw [ha]; exact putSel_on (e := (11, 116, .bool false)) 9 rfl rfl (hon 11 (by kernel_rfl)) rfl
            replace ha := Aside0.mk ha
            have HBK := Aside0.mk Q_HBK
            have hc_ := pw_cell_below HBK.out Z11.out
            refine off_ (wanted_off rfl rfl rfl (e116.trans (by first | rfl | (simp [*]; done)))) ?_
            refine hK.out _ _ ⟨(by rw [ha.out]; exact putSel_upk 14 hb_ rfl rfl rfl), Q_HBK⟩
           refine steps_cons ?_ ?_
           ·rintro b a w' ⟨ha, Q_HBK⟩ hb_ hon hoff
            refine ⟨_, rfl, fun K hK => ?_⟩
            have e116 : a.tmps[116]? = some (.bool false) := by rw [ha]; exact putSel_on (e := (11, 116, .bool false)) 9 rfl rfl (hon 11 (by kernel_rfl)) rfl
            replace ha := Aside0.mk ha
            have HBK := Aside0.mk Q_HBK
            refine off_ (wanted_off rfl rfl rfl (e116.trans (by first | rfl | (simp [*]; done)))) ?_
            refine hK.out _ _ ⟨(by rw [ha.out]; exact putSel_upk 15 hb_ rfl rfl rfl), Q_HBK⟩
           refine steps_cons ?_ ?_
           ·rintro b a w' ⟨ha, Q_HBK⟩ hb_ hon hoff
            refine ⟨_, rfl, fun K hK => ?_⟩
            have e116 : a.tmps[116]? = some (.bool false) := by rw [ha]; exact putSel_on (e := (11, 116, .bool false)) 9 rfl rfl (hon 11 (by kernel_rfl)) rfl
            replace ha := Aside0.mk ha
            have HBK := Aside0.mk Q_HBK
            refine off_ (wanted_off rfl rfl rfl (e116.trans (by first | rfl | (simp [*]; done)))) ?_
            refine hK.out _ _ ⟨(by rw [ha.out]; exact putSel_upk 16 hb_ rfl rfl rfl), Q_HBK⟩
           refine steps_cons ?_ ?_
           ·rintro b a w' ⟨ha, Q_HBK⟩ hb_ hon hoff
            refine ⟨_, rfl, fun K hK => ?_⟩
            have e116 : a.tmps[116]? = some (.bool false) := by rw [ha]; exact putSel_on (e := (11, 116, .bool false)) 9 rfl rfl (hon 11 (by kernel_rfl)) rfl
            replace ha := Aside0.mk ha
            have HBK := Aside0.mk Q_HBK
            have hc_ := pw_cell_below HBK.out ZN.out
            refine off_ (wanted_off rfl rfl rfl (e116.trans (by first | rfl | (simp [*]; done)))) ?_
            refine hK.out _ _ ⟨(by rw [ha.out]; exact putSel_upk 17 hb_ rfl rfl rfl), Q_HBK⟩
           refine steps_cons ?_ ?_
           ·rintro b a w' ⟨ha, Q_HBK⟩ hb_ hon hoff
            refine ⟨_, rfl, fun K hK => ?_⟩
            have e116 : a.tmps[116]? = some (.bool false) := by rw [ha]; exact putSel_on (e := (11, 116, .bool false)) 9 rfl rfl (hon 11 (by kernel_rfl)) rfl
            replace ha := Aside0.mk ha
            have HBK := Aside0.mk Q_HBK
            refine off_ (wanted_off rfl rfl rfl (e116.trans (by first | rfl | (simp [*]; done)))) ?_
            refine hK.out _ _ ⟨(by rw [ha.out]; exact putSel_upk 18 hb_ rfl rfl rfl), Q_HBK⟩
           refine steps_cons ?_ ?_
           ·rintro b a w' ⟨ha, Q_HBK⟩ hb_ hon hoff
            refine ⟨_, rfl, fun K hK => ?_⟩
            have e116 : a.tmps[116]? = some (.bool false) := by rw [ha]; exact putSel_on (e := (11, 116, .bool false)) 9 rfl rfl (hon 11 (by kernel_rfl)) rfl
            replace ha := Aside0.mk ha
            have HBK := Aside0.mk Q_HBK
            have hc_ := pw_cell_below HBK.out ZB1.out
            refine off_ (wanted_off rfl rfl rfl (e116.trans (by first | rfl | (simp [*]; done)))) ?_
            refine hK.out _ _ ⟨(by rw [ha.out]; exact putSel_upk 19 hb_ rfl rfl rfl), Q_HBK⟩
           refine steps_cons ?_ ?_
           ·rintro b a w' ⟨ha, Q_HBK⟩ hb_ hon hoff
            refine ⟨_, rfl, fun K hK => ?_⟩
            have e116 : a.tmps[116]? = some (.bool false) := by rw [ha]; exact putSel_on (e := (11, 116, .bool false)) 9 rfl rfl (hon 11 (by kernel_rfl)) rfl
            replace ha := Aside0.mk ha
            have HBK := Aside0.mk Q_HBK
            refine off_ (wanted_off rfl rfl rfl (e116.trans (by first | rfl | (simp [*]; done)))) ?_
            refine hK.out _ _ ⟨(by rw [ha.out]; exact putSel_upk 20 hb_ rfl rfl rfl), Q_HBK⟩
           refine steps_cons ?_ ?_
           ·rintro b a w' ⟨ha, Q_HBK⟩ hb_ hon hoff
            refine ⟨_, rfl, fun K hK => ?_⟩
            have e116 : a.tmps[116]? = some (.bool false) := by rw [ha]; exact putSel_on (e := (11, 116, .bool false)) 9 rfl rfl (hon 11 (by kernel_rfl)) rfl
            replace ha := Aside0.mk ha
            have HBK := Aside0.mk Q_HBK
            refine off_ (wanted_off rfl rfl rfl (e116.trans (by first | rfl | (simp [*]; done)))) ?_
            refine hK.out _ _ ⟨(by rw [ha.out]; exact putSel_upk 21 hb_ rfl rfl rfl), Q_HBK⟩
           refine steps_cons ?_ ?_
           ·rintro b a w' ⟨ha, Q_HBK⟩ hb_ hon hoff
            refine ⟨_, rfl, fun K hK => ?_⟩
            have e116 : a.tmps[116]? = some (.bool false) := by rw [ha]; exact putSel_on (e := (11, 116, .bool false)) 9 rfl rfl (hon 11 (by kernel_rfl)) rfl
            have e128 : a.tmps[128]? = some (undef) := by rw [ha]; exact putSel_on (e := (23, 128, undef)) 21 rfl rfl (hon 23 (by kernel_rfl)) rfl
            replace ha := Aside0.mk ha
            have HBK := Aside0.mk Q_HBK
            refine value_ (w1 := w') (v := .bool false) (by rfl) rfl ?_ ?_
            ·go_simp
             (try simp only [i64_w])
             try rfl
            refine hK.out _ _ ⟨(by rw [ha.out]; exact putSel_upk 22 hb_ rfl rfl rfl), Q_HBK⟩
           exact steps_nil
          rintro b a wz hall ⟨ha, Q_HBK⟩
          clear HBK
          have hb1_ := hall 1 (by kernel_rfl)
          have hb3_ := hall 3 (by kernel_rfl)
          have hb4_ := hall 4 (by kernel_rfl)
          have hb5_ := hall 5 (by kernel_rfl)
          have hb6_ := hall 6 (by kernel_rfl)
          have hb7_ := hall 7 (by kernel_rfl)
          have hb8_ := hall 8 (by kernel_rfl)
          have hb9_ := hall 9 (by kernel_rfl)
          have hb10_ := hall 10 (by kernel_rfl)
          have hb11_ := hall 11 (by kernel_rfl)
          have hb12_ := hall 12 (by kernel_rfl)
          have hb13_ := hall 13 (by kernel_rfl)
          have hb14_ := hall 14 (by kernel_rfl)
          have hb15_ := hall 15 (by kernel_rfl)
          have hb16_ := hall 16 (by kernel_rfl)
          have hb17_ := hall 17 (by kernel_rfl)
          have hb18_ := hall 18 (by kernel_rfl)
          have hb19_ := hall 19 (by kernel_rfl)
          have hb20_ := hall 20 (by kernel_rfl)
          have hb21_ := hall 21 (by kernel_rfl)
          have hb22_ := hall 22 (by kernel_rfl)
          have hb23_ := hall 23 (by kernel_rfl)
          have hb24_ := hall 24 (by kernel_rfl)
          subst ha
          simp only [putSel, hb1_, hb3_, hb4_, hb5_, hb6_, hb7_, hb8_, hb9_, hb10_, hb11_, hb12_, hb13_, hb14_, hb15_, hb16_, hb17_, hb18_, hb19_, hb20_, hb21_, hb22_, hb23_, hb24_, if_true, Act.put, List.setIfInBounds_toArray, List.set_cons_zero, List.set_cons_succ]
          have HBK := Aside0.mk Q_HBK
          clear Q_HBK
          clear hall hb1_ hb3_ hb4_ hb5_ hb6_ hb7_ hb8_ hb9_ hb10_ hb11_ hb12_ hb13_ hb14_ hb15_ hb16_ hb17_ hb18_ hb19_ hb20_ hb21_ hb22_ hb23_ hb24_
          clear s1 s2
          go_wp2
          go_roundg d
          case measure => omega
          case rel => exact ⟨j + 1, rfl, by rw [HJW.out], ⟨by have := HJ.out; omega⟩, HNX, ⟨ZZ.out.below HBK.out⟩, ⟨Kd.R_below ZV.out HBK.out⟩⟩
        ·have HCO : Aside0 (slices_Contains_int64_int64.f kc gt.f2 at_ = some false) := ⟨by rw [hkc, decide_eq_false hm]⟩
         rw [if_neg (fun h => hm h.1)] at hnx
         have HNX := Aside0.mk hnx
         clear hm hnx hkc
         go_wp2
         rw [HW1.out]
         refine start_ (n := 25) (S := fun w' => True) (ds := []) #[false, false, false, false, false, false, false, false, false, false, false, false, false, false, false, false, false, false, false, false, false, false, false, false, false] (by kernel_rfl) rfl rfl trivial (fun hHeld => ?_)
         refine with_tabW impl_LongestPath.tab23 impl_LongestPath.bits23 (fun HT_ HW_ => ?_)
         have ZZ : Aside0 (Lz gb g11 g12 g N c36 gl #[.int .i64 a0_0, .slice (some ad1) l0_1.length c0_1, .slice (some ad2) l0_2.length c0_2, .int .i64 a0_3, .int .i64 a0_4, .int .i64 a0_5, .int .i64 a0_6] w D S0 R (wr.alloc (.cells #[.int .i64 gt.f0, .int .i64 gt.f1, .slice A2 gt.f2.length c2] 36)).drew) := ⟨LZ.out.below (below_drew1 (below_alloc (Below.refl _ _) _))⟩
         have ZV : Aside0 (Kd.R (Kd.int .i64) 2 (wr.alloc (.cells #[.int .i64 gt.f0, .int .i64 gt.f1, .slice A2 gt.f2.length c2] 36)).drew w.heap.size (fun k_ => S0 ≤ k_) u18 path) := ⟨Kd.R_below HV.out (below_drew1 (below_alloc (Below.refl _ _) _))⟩
         have ZX : Aside0 ((wr.alloc (.cells #[.int .i64 gt.f0, .int .i64 gt.f1, .slice A2 gt.f2.length c2] 36)).drew.heap[wr.heap.size]? = some (.cells #[.int .i64 gt.f0, .int .i64 gt.f1, .slice A2 gt.f2.length c2] 36 (0, 0))) := ⟨blk_drew (blk_new wr _)⟩
         have ZC : Aside0 ((Kd.int .i64).C (wr.alloc (.cells #[.int .i64 gt.f0, .int .i64 gt.f1, .slice A2 gt.f2.length c2] 36)).drew A2 gt.f2.length gt.f2) := ⟨Kd.C_below (Kd.C_below HC2'.out LZ.out.2.1) (below_drew1 (below_alloc (Below.refl _ _) _))⟩
         clear LZ HV
         generalize (wr.alloc (.cells #[.int .i64 gt.f0, .int .i64 gt.f1, .slice A2 gt.f2.length c2] 36)).drew = wk at ZZ ZV ZX ZC hHeld ⊢
         have Z11 : Aside0 (wk.cell? ⟨g11, 0, none⟩ = some (.slice (some ⟨g, 0, none⟩) N c36)) := ⟨blk_cell ZZ.out.1.2.1 0⟩
         have ZN : Aside0 (wk.cell? ⟨g, nd.toNat, none⟩ = some (.int .i64 (rd R nd))) := ⟨(Kd.R_celln (0 : Int) ZZ.out.1.2.2.2 nd HNN.out.1 HNN.out.2).1⟩
         have ZA : Aside0 (wk.cell? ⟨g, at_.toNat, none⟩ = some (.int .i64 (rd R at_))) := ⟨(Kd.R_celln (0 : Int) ZZ.out.1.2.2.2 at_ HAT.out.1 HAT.out.2).1⟩
         have ZB1 : Aside0 (wk.cell? ⟨wr.heap.size, 1, none⟩ = some (.int .i64 gt.f1)) := ⟨(blk_cell ZX.out 1).trans rfl⟩
         have ZB2 : Aside0 (wk.cell? ⟨wr.heap.size, 2, none⟩ = some (.slice A2 gt.f2.length c2)) := ⟨(blk_cell ZX.out 2).trans rfl⟩
         have HBK := trivial
         refine pure_ (i := 0) (N := some 105) (v := ?_) (a' := ?_) #[true, false, false, false, false, false, false, false, false, false, false, false, false, false, false, false, false, false, false, false, false, false, false, false, false] rfl rfl (any_of HT_.out (by kernel_rfl)) (fun _ _ _ h => h) (Or.inl ⟨by rfl, ?_⟩) ?_ ?_
         rotate_left
         ·intro w'
          go_simp
          with_reducible rfl
         rotate_left
         ·simp only [Act.put, List.setIfInBounds_toArray, List.set_cons_zero, List.set_cons_succ, i64_w, i32_w]
          rfl
         refine pure_ (i := 2) (N := some 107) (v := ?_) (a' := ?_) #[true, false, true, false, false, false, false, false, false, false, false, false, false, false, false, false, false, false, false, false, false, false, false, false, false] rfl rfl (any_of HT_.out (by kernel_rfl)) (fun _ _ _ h => h) (Or.inl ⟨by rfl, ?_⟩) ?_ ?_
         rotate_left
         ·intro w'
          go_simp
          with_reducible rfl
         rotate_left
         ·simp only [Act.put, List.setIfInBounds_toArray, List.set_cons_zero, List.set_cons_succ, i64_w, i32_w]
          rfl
         refine inv_at [1, 3, 4, 5, 6, 7, 8, 9, 10, 11, 12, 13, 14, 15, 16, 17, 18, 19, 20, 21, 22, 23, 24] (fun a0_ b a w' => a = putSel a0_ b [(1, 106, .slice A2 gt.f2.length c2), (3, 108, .bool false), (4, 109, .bool false), (5, 110, undef), (6, 111, undef), (7, 112, undef), (8, 113, undef), (9, 114, undef), (10, 115, .bool false), (11, 116, .bool false), (12, 117, undef), (13, 118, undef), (14, 119, undef), (15, 120, undef), (16, 121, undef), (17, 122, undef), (18, 123, undef), (19, 124, undef), (20, 125, undef), (21, 126, undef), (22, 127, undef), (23, 128, undef), (24, 129, .bool false)] ∧ (Below wk.heap.size wk w')) HT_.out HW_.out (by kernel_rfl) (by kernel_rfl) ?_ ?_ ?_
         ·exact ⟨by simp only [putSel, Bool.false_eq_true, if_false], Below.refl _ _⟩
         ·skip
          clear HBK
          refine steps_cons ?_ ?_
          ·rintro b a w' ⟨ha, Q_HBK⟩ hb_ hon hoff
           refine ⟨_, rfl, fun K hK => ?_⟩
           have e105 : a.tmps[105]? = some (.pointer (some ⟨wr.heap.size, 2, none⟩)) := by rw [ha]; exact (putSel_off rfl).trans rfl
           replace ha := Aside0.mk ha
           have HBK := Aside0.mk Q_HBK
           have hc_ := pw_cell_below HBK.out ZB2.out
           refine value_ (w1 := w') (v := .slice A2 gt.f2.length c2) (by rfl) rfl ?_ ?_
           ·go_simp
            (try simp only [i64_w])
            try rfl
           refine hK.out _ _ ⟨(by rw [ha.out]; exact putSel_upk 0 hb_ rfl rfl rfl), Q_HBK⟩
          refine steps_cons ?_ ?_
          ·rintro b a w' ⟨ha, Q_HBK⟩ hb_ hon hoff
           refine ⟨_, rfl, fun K hK => ?_⟩
           have e106 : a.tmps[106]? = some (.slice A2 gt.f2.length c2) := by rw [ha]; exact putSel_on (e := (1, 106, .slice A2 gt.f2.length c2)) 0 rfl rfl (hon 1 (by kernel_rfl)) rfl
           have e107 : a.tmps[107]? = some (.int .i64 at_) := by rw [ha]; exact (putSel_off rfl).trans rfl
           replace ha := Aside0.mk ha
           have HBK := Aside0.mk Q_HBK
           refine goes_ Try.func26 (by kernel_rfl) rfl #[.slice A2 gt.f2.length c2, .int .i64 at_] (by rfl) rfl rfl (by first | (simp only [List.map_toArray, List.map_cons, List.map_nil, Act.eval, Array.getD_eq_getD_getElem?, Option.getD_some, e106, e107]; done) | (simp only [List.map_toArray, List.map_cons, List.map_nil, Act.eval, Array.getD_eq_getD_getElem?, Option.getD_some, e106, e107]; rfl)) ?_
           refine (slices_Contains_int64_int64.calls (hr0 := Kd.C_below ZC.out HBK.out) (hc0 := HLC.out) (h := HCO.out)).mono ?_
           rintro e w5 ⟨rfl, hd⟩
           refine ⟨_, rfl, ?_⟩
           refine hK.out _ _ ⟨(by rw [ha.out]; exact putSel_upk 1 hb_ rfl rfl rfl), below_step HBK.out hd.below⟩
          refine steps_cons ?_ ?_
          ·rintro b a w' ⟨ha, Q_HBK⟩ hb_ hon hoff
           refine ⟨_, rfl, fun K hK => ?_⟩
           have e108 : a.tmps[108]? = some (.bool false) := by rw [ha]; exact putSel_on (e := (3, 108, .bool false)) 1 rfl rfl (hon 3 (by kernel_rfl)) rfl
           replace ha := Aside0.mk ha
           have HBK := Aside0.mk Q_HBK
           refine value_ (w1 := w') (v := .bool false) (by rfl) rfl ?_ ?_
           ·go_simp
            (try simp only [i64_w])
            try rfl
           refine hK.out _ _ ⟨(by rw [ha.out]; exact putSel_upk 2 hb_ rfl rfl rfl), Q_HBK⟩
          refine steps_cons ?_ ?_
          ·rintro b a w' ⟨ha, Q_HBK⟩ hb_ hon hoff
           refine ⟨_, rfl, fun K hK => ?_⟩
           have e109 : a.tmps[109]? = some (.bool false) := by rw [ha]; exact putSel_on (e := (4, 109, .bool false)) 2 rfl rfl (hon 4 (by kernel_rfl)) rfl
           replace ha := Aside0.mk ha
           have HBK := Aside0.mk Q_HBK
           have hc_ := pw_cell_below HBK.out Z11.out
           refine off_ (wanted_off rfl rfl rfl (e109.trans (by first | rfl | (simp [*]; done)))) ?_
           refine hK.out _ _ ⟨(by rw [ha.out]; exact putSel_upk 3 hb_ rfl rfl rfl), Q_HBK⟩
          refine steps_cons ?_ ?_
          ·rintro b a w' ⟨ha, Q_HBK⟩ hb_ hon hoff
           refine ⟨_, rfl, fun K hK => ?_⟩
           have e109 : a.tmps[109]? = some (.bool false) := by rw [ha]; exact putSel_on (e := (4, 109, .bool false)) 2 rfl rfl (hon 4 (by kernel_rfl)) rfl
           replace ha := Aside0.mk ha
           have HBK := Aside0.mk Q_HBK
           refine off_ (wanted_off rfl rfl rfl (e109.trans (by first | rfl | (simp [*]; done)))) ?_
           refine hK.out _ _ ⟨(by rw [ha.out]; exact putSel_upk 4 hb_ rfl rfl rfl), Q_HBK⟩
          refine steps_cons ?_ ?_
          ·rintro b a w' ⟨ha, Q_HBK⟩ hb_ hon hoff
           refine ⟨_, rfl, fun K hK => ?_⟩
           have e109 : a.tmps[109]? = some (.bool false) := by rw [ha]; exact putSel_on (e := (4, 109, .bool false)) 2 rfl rfl (hon 4 (by kernel_rfl)) rfl
           replace ha := Aside0.mk ha
           have HBK := Aside0.mk Q_HBK
           refine off_ (wanted_off rfl rfl rfl (e109.trans (by first | rfl | (simp [*]; done)))) ?_
           refine hK.out _ _ ⟨(by rw [ha.out]; exact putSel_upk 5 hb_ rfl rfl rfl), Q_HBK⟩
          refine steps_cons ?_ ?_
          ·rintro b a w' ⟨ha, Q_HBK⟩ hb_ hon hoff
           refine ⟨_, rfl, fun K hK => ?_⟩
           have e109 : a.tmps[109]? = some (.bool false) := by rw [ha]; exact putSel_on (e := (4, 109, .bool false)) 2 rfl rfl (hon 4 (by kernel_rfl)) rfl
           replace ha := Aside0.mk ha
           have HBK := Aside0.mk Q_HBK
           have hc_ := pw_cell_below HBK.out ZN.out
           refine off_ (wanted_off rfl rfl rfl (e109.trans (by first | rfl | (simp [*]; done)))) ?_
           refine hK.out _ _ ⟨(by rw [ha.out]; exact putSel_upk 6 hb_ rfl rfl rfl), Q_HBK⟩
          refine steps_cons ?_ ?_
          ·rintro b a w' ⟨ha, Q_HBK⟩ hb_ hon hoff
           refine ⟨_, rfl, fun K hK => ?_⟩
           have e109 : a.tmps[109]? = some (.bool false) := by rw [ha]; exact putSel_on (e := (4, 109, .bool false)) 2 rfl rfl (hon 4 (by kernel_rfl)) rfl
           replace ha := Aside0.mk ha
           have HBK := Aside0.mk Q_HBK
           refine off_ (wanted_off rfl rfl rfl (e109.trans (by first | rfl | (simp [*]; done)))) ?_
           refine hK.out _ _ ⟨(by rw [ha.out]; exact putSel_upk 7 hb_ rfl rfl rfl), Q_HBK⟩
          refine steps_cons ?_ ?_
          ·rintro b a w' ⟨ha, Q_HBK⟩ hb_ hon hoff
           refine ⟨_, rfl, fun K hK => ?_⟩
           have e109 : a.tmps[109]? = some (.bool false) := by rw [ha]; exact putSel_on (e := (4, 109, .bool false)) 2 rfl rfl (hon 4 (by kernel_rfl)) rfl
           have e114 : a.tmps[114]? = some (undef) := by rw [ha]; exact putSel_on (e := (9, 114, undef)) 7 rfl rfl (hon 9 (by kernel_rfl)) rfl
           replace ha := Aside0.mk ha
           have HBK := Aside0.mk Q_HBK
           refine value_ (w1 := w') (v := .bool false) (by rfl) rfl ?_ ?_
           ·go_simp
            (try simp only [i64_w])
            try rfl
           refine hK.out _ _ ⟨(by rw [ha.out]; exact putSel_upk 8 hb_ rfl rfl rfl), Q_HBK⟩
          refine steps_cons ?_ ?_
          ·rintro b a w' ⟨ha, Q_HBK⟩ hb_ hon hoff
           refine ⟨_, rfl, fun K hK => ?_⟩
           have e115 : a.tmps[115]? = some (.bool false) := by rw [ha]; exact putSel_on (e := (10, 115, .bool false)) 8 rfl rfl (hon 10 (by kernel_rfl)) rfl
           replace ha := Aside0.mk ha
           have HBK := Aside0.mk Q_HBK
           refine value_ (w1 := w') (v := .bool false) (by rfl) rfl ?_ ?_
           ·go_simp
            (try simp only [i64_w])
            try rfl
           refine hK.out _ _ ⟨(by rw [ha.out]; exact putSel_upk 9 hb_ rfl rfl rfl), Q_HBK⟩
          refine steps_cons ?_ ?_
          ·rintro b a w' ⟨ha, Q_HBK⟩ hb_ hon hoff
           refine ⟨_, rfl, fun K hK => ?_⟩
           have e116 : a.tmps[116]? = some (.bool false) := by rw [ha]; exact putSel_on (e := (11, 116, .bool false)) 9 rfl rfl (hon 11 (by kernel_rfl)) rfl
           replace ha := Aside0.mk ha
           have HBK := Aside0.mk Q_HBK
           have hc_ := pw_cell_below HBK.out Z11.out
           refine off_ (wanted_off rfl rfl rfl (e116.trans (by first | rfl | (simp [*]; done)))) ?_
           refine hK.out _ _ ⟨(by rw [ha.out]; exact putSel_upk 10 hb_ rfl rfl rfl), Q_HBK⟩
          refine steps_cons ?_ ?_
          ·rintro b a w' ⟨ha, Q_HBK⟩ hb_ hon hoff
           refine ⟨_, rfl, fun K hK => ?_⟩
           have e116 : a.tmps[116]? = some (.bool false) := by rw [ha]; exact putSel_on (e := (11, 116, .bool false)) 9 rfl rfl (hon 11 (by kernel_rfl)) rfl
           replace ha := Aside0.mk ha
           have HBK := Aside0.mk Q_HBK
           refine off_ (wanted_off rfl rfl rfl (e116.trans (by first | rfl | (simp [*]; done)))) ?_
           refine hK.out _ _ ⟨(by rw [ha.out]; exact putSel_upk 11 hb_ rfl rfl rfl), Q_HBK⟩
          refine steps_cons ?_ ?_
          ·rintro b a w' ⟨ha, Q_HBK⟩ hb_ hon hoff
           refine ⟨_, rfl, fun K hK => ?_⟩
           have e116 : a.tmps[116]? = some (.bool false) := by rw [ha]; exact putSel_on (e := (11, 116, .bool false)) 9 rfl rfl (hon 11 (by kernel_rfl)) rfl
           replace ha := Aside0.mk ha
           have HBK := Aside0.mk Q_HBK
           refine off_ (wanted_off rfl rfl rfl (e116.trans (by first | rfl | (simp [*]; done)))) ?_
           refine hK.out _ _ ⟨(by rw [ha.out]; exact putSel_upk 12 hb_ rfl rfl rfl), Q_HBK⟩
          refine steps_cons ?_ ?_
          ·rintro b a w' ⟨ha, Q_HBK⟩ hb_ hon hoff
           refine ⟨_, rfl, fun K hK => ?_⟩
           have e116 : a.tmps[116]? = some (.bool false) := by rw [ha]; exact putSel_on (e := (11, 116, .bool false)) 9 rfl rfl (hon 11 (by kernel_rfl)) rfl
           replace ha := Aside0.mk ha
           have HBK := Aside0.mk Q_HBK
           have hc_ := pw_cell_below HBK.out ZA.out
           refine off_ (wanted_off rfl rfl rfl (e116.trans (by first | rfl | (simp [*]; done)))) ?_
           refine hK.out _ _ ⟨(by rw [ha.out]; exact putSel_upk 13 hb_ rfl rfl rfl), Q_HBK⟩
          refine steps_cons ?_ ?_
          ·rintro b a w' ⟨ha, Q_HBK⟩ hb_ hon hoff
           refine ⟨_, rfl, fun K hK => ?_⟩
           have e116 : a.tmps[116]? = some (.bool false) := by rw [ha]; exact putSel_on (e := (11, 116, .bool false)) 9 rfl rfl (hon 11 (by kernel_rfl)) rfl
           replace ha := Aside0.mk ha
           have HBK := Aside0.mk Q_HBK
           have hc_ := pw_cell_below HBK.out Z11.out
           refine off_ (wanted_off rfl rfl rfl (e116.trans (by first | rfl | (simp [*]; done)))) ?_
           refine hK.out _ _ ⟨(by rw [ha.out]; exact putSel_upk 14 hb_ rfl rfl rfl), Q_HBK⟩
          refine steps_cons ?_ ?_
          ·rintro b a w' ⟨ha, Q_HBK⟩ hb_ hon hoff
           refine ⟨_, rfl, fun K hK => ?_⟩
           have e116 : a.tmps[116]? = some (.bool false) := by rw [ha]; exact putSel_on (e := (11, 116, .bool false)) 9 rfl rfl (hon 11 (by kernel_rfl)) rfl
           replace ha := Aside0.mk ha
           have HBK := Aside0.mk Q_HBK
           refine off_ (wanted_off rfl rfl rfl (e116.trans (by first | rfl | (simp [*]; done)))) ?_
           refine hK.out _ _ ⟨(by rw [ha.out]; exact putSel_upk 15 hb_ rfl rfl rfl), Q_HBK⟩
          refine steps_cons ?_ ?_
          ·rintro b a w' ⟨ha, Q_HBK⟩ hb_ hon hoff
           refine ⟨_, rfl, fun K hK => ?_⟩
           have e116 : a.tmps[116]? = some (.bool false) := by rw [ha]; exact putSel_on (e := (11, 116, .bool false)) 9 rfl rfl (hon 11 (by kernel_rfl)) rfl
           replace ha := Aside0.mk ha
           have HBK := Aside0.mk Q_HBK
           refine off_ (wanted_off rfl rfl rfl (e116.trans (by first | rfl | (simp [*]; done)))) ?_
           refine hK.out _ _ ⟨(by rw [ha.out]; exact putSel_upk 16 hb_ rfl rfl rfl), Q_HBK⟩
          refine steps_cons ?_ ?_
          ·rintro b a w' ⟨ha, Q_HBK⟩ hb_ hon hoff
           refine ⟨_, rfl, fun K hK => ?_⟩
           have e116 : a.tmps[116]? = some (.bool false) := by rw [ha]; exact putSel_on (e := (11, 116, .bool false)) 9 rfl rfl (hon 11 (by kernel_rfl)) rfl
           replace ha := Aside0.mk ha
           have HBK := Aside0.mk Q_HBK
           have hc_ := pw_cell_below HBK.out ZN.out
           refine off_ (wanted_off rfl rfl rfl (e116.trans (by first | rfl | (simp [*]; done)))) ?_
           refine hK.out _ _ ⟨(by rw [ha.out]; exact putSel_upk 17 hb_ rfl rfl rfl), Q_HBK⟩
          refine steps_cons ?_ ?_
          ·rintro b a w' ⟨ha, Q_HBK⟩ hb_ hon hoff
           refine ⟨_, rfl, fun K hK => ?_⟩
           have e116 : a.tmps[116]? = some (.bool false) := by rw [ha]; exact putSel_on (e := (11, 116, .bool false)) 9 rfl rfl (hon 11 (by kernel_rfl)) rfl
           replace ha := Aside0.mk ha
           have HBK := Aside0.mk Q_HBK
           refine off_ (wanted_off rfl rfl rfl (e116.trans (by first | rfl | (simp [*]; done)))) ?_
           refine hK.out _ _ ⟨(by rw [ha.out]; exact putSel_upk 18 hb_ rfl rfl rfl), Q_HBK⟩
          refine steps_cons ?_ ?_
          ·rintro b a w' ⟨ha, Q_HBK⟩ hb_ hon hoff
           refine ⟨_, rfl, fun K hK => ?_⟩
           have e116 : a.tmps[116]? = some (.bool false) := by rw [ha]; exact putSel_on (e := (11, 116, .bool false)) 9 rfl rfl (hon 11 (by kernel_rfl)) rfl
           replace ha := Aside0.mk ha
           have HBK := Aside0.mk Q_HBK
           have hc_ := pw_cell_below HBK.out ZB1.out
           refine off_ (wanted_off rfl rfl rfl (e116.trans (by first | rfl | (simp [*]; done)))) ?_
           refine hK.out _ _ ⟨(by rw [ha.out]; exact putSel_upk 19 hb_ rfl rfl rfl), Q_HBK⟩
          refine steps_cons ?_ ?_
          ·rintro b a w' ⟨ha, Q_HBK⟩ hb_ hon hoff
           refine ⟨_, rfl, fun K hK => ?_⟩
           have e116 : a.tmps[116]? = some (.bool false) := by rw [ha]; exact putSel_on (e := (11, 116, .bool false)) 9 rfl rfl (hon 11 (by kernel_rfl)) rfl
           replace ha := Aside0.mk ha
           have HBK := Aside0.mk Q_HBK
           refine off_ (wanted_off rfl rfl rfl (e116.trans (by first | rfl | (simp [*]; done)))) ?_
           refine hK.out _ _ ⟨(by rw [ha.out]; exact putSel_upk 20 hb_ rfl rfl rfl), Q_HBK⟩
          refine steps_cons ?_ ?_
          ·rintro b a w' ⟨ha, Q_HBK⟩ hb_ hon hoff
           refine ⟨_, rfl, fun K hK => ?_⟩
           have e116 : a.tmps[116]? = some (.bool false) := by rw [ha]; exact putSel_on (e := (11, 116, .bool false)) 9 rfl rfl (hon 11 (by kernel_rfl)) rfl
           replace ha := Aside0.mk ha
           have HBK := Aside0.mk Q_HBK
           refine off_ (wanted_off rfl rfl rfl (e116.trans (by first | rfl | (simp [*]; done)))) ?_
           refine hK.out _ _ ⟨(by rw [ha.out]; exact putSel_upk 21 hb_ rfl rfl rfl), Q_HBK⟩
          refine steps_cons ?_ ?_
          ·rintro b a w' ⟨ha, Q_HBK⟩ hb_ hon hoff
           refine ⟨_, rfl, fun K hK => ?_⟩
           have e116 : a.tmps[116]? = some (.bool false) := by rw [ha]; exact putSel_on (e := (11, 116, .bool false)) 9 rfl rfl (hon 11 (by kernel_rfl)) rfl
           have e128 : a.tmps[128]? = some (undef) := by rw [ha]; exact putSel_on (e := (23, 128, undef)) 21 rfl rfl (hon 23 (by kernel_rfl)) rfl
           replace ha := Aside0.mk ha
           have HBK := Aside0.mk Q_HBK
           refine value_ (w1 := w') (v := .bool false) (by rfl) rfl ?_ ?_
           ·go_simp
            (try simp only [i64_w])
            try rfl
           refine hK.out _ _ ⟨(by rw [ha.out]; exact putSel_upk 22 hb_ rfl rfl rfl), Q_HBK⟩
          exact steps_nil
         rintro b a wz hall ⟨ha, Q_HBK⟩
         clear HBK
         have hb1_ := hall 1 (by kernel_rfl)
         have hb3_ := hall 3 (by kernel_rfl)
         have hb4_ := hall 4 (by kernel_rfl)
         have hb5_ := hall 5 (by kernel_rfl)
         have hb6_ := hall 6 (by kernel_rfl)
         have hb7_ := hall 7 (by kernel_rfl)
         have hb8_ := hall 8 (by kernel_rfl)
         have hb9_ := hall 9 (by kernel_rfl)
         have hb10_ := hall 10 (by kernel_rfl)
         have hb11_ := hall 11 (by kernel_rfl)
         have hb12_ := hall 12 (by kernel_rfl)
         have hb13_ := hall 13 (by kernel_rfl)
         have hb14_ := hall 14 (by kernel_rfl)
         have hb15_ := hall 15 (by kernel_rfl)
         have hb16_ := hall 16 (by kernel_rfl)
         have hb17_ := hall 17 (by kernel_rfl)
         have hb18_ := hall 18 (by kernel_rfl)
         have hb19_ := hall 19 (by kernel_rfl)
         have hb20_ := hall 20 (by kernel_rfl)
         have hb21_ := hall 21 (by kernel_rfl)
         have hb22_ := hall 22 (by kernel_rfl)
         have hb23_ := hall 23 (by kernel_rfl)
         have hb24_ := hall 24 (by kernel_rfl)
         subst ha
         simp only [putSel, hb1_, hb3_, hb4_, hb5_, hb6_, hb7_, hb8_, hb9_, hb10_, hb11_, hb12_, hb13_, hb14_, hb15_, hb16_, hb17_, hb18_, hb19_, hb20_, hb21_, hb22_, hb23_, hb24_, if_true, Act.put, List.setIfInBounds_toArray, List.set_cons_zero, List.set_cons_succ]
         have HBK := Aside0.mk Q_HBK
         clear Q_HBK
         clear hall hb1_ hb3_ hb4_ hb5_ hb6_ hb7_ hb8_ hb9_ hb10_ hb11_ hb12_ hb13_ hb14_ hb15_ hb16_ hb17_ hb18_ hb19_ hb20_ hb21_ hb22_ hb23_ hb24_
         go_wp2
         go_roundg d
         case measure => omega
         case rel => exact ⟨j + 1, rfl, by rw [HJW.out], ⟨by have := HJ.out; omega⟩, HNX, ⟨ZZ.out.below HBK.out⟩, ⟨Kd.R_below ZV.out HBK.out⟩⟩
  case stop =>
   rintro D c pre W _ _ h _
   exact h.elim

end Go.Proofs.Ytbkofbcmhddbfaa.Pa

