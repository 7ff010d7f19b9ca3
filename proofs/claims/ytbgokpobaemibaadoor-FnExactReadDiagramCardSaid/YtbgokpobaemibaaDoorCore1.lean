-- Written for this claim by a program of this session.
import Derived.Test.YtbgokpobaemibaaDoorPax0
import Derived.Test.YtbgokpobaemibaaDoorShelfF
import Derived.Lib.AppendIntMem
import Derived.Lib.ItoaNum
import Derived.Lib.ItoaLen
import Derived.Lib.SplitLaws
import Derived.Lib.ParseIntB
import Derived.Lib.ItoaMem
import Derived.Lib.IndexBytes
import Derived.Test.YtbgokpobaemibaaDoorShelfP
import Derived.Test.YtbgokpobaemibaaDoorShelfS
/- Small laws of whole numbers and lists that the plain statements of this seat use. -/
namespace Go.Proofs.YtbgokpobaemibaaDoor.Pure
open Go.RowKit Go.Proofs.YtbgokpobaemibaaDoor.Pa Go.Proofs.YtbgokpobaemibaaDoorW.PrintWords Go.Proofs.YtbgokpobaemibaaDoorW.PrintLast
set_option linter.unusedVariables false
set_option linter.unusedSimpArgs false

theorem wrap_id {x : Int} (h0 : -9223372036854775808 ≤ x) (h1 : x ≤ 9223372036854775807) : wrap64 x = x := by
 unfold wrap64
 omega
theorem wf64 {x : Int} (h : (Lit.int .i64 x).wf = true) : -9223372036854775808 ≤ x ∧ x ≤ 9223372036854775807 := by
 simp only [Lit.wf, IntKind.min, IntKind.max, IntKind.signed, IntKind.bits, Bool.and_eq_true, decide_eq_true_eq, if_true] at h
 omega
theorem wf64' {x : Int} (h : -9223372036854775808 ≤ x ∧ x ≤ 9223372036854775807) : (Lit.int .i64 x).wf = true := by
 simp only [Lit.wf, IntKind.min, IntKind.max, IntKind.signed, IntKind.bits, Bool.and_eq_true, decide_eq_true_eq, if_true]
 omega
theorem rd_get {l : List Int} {i : Nat} (h : i < l.length) : rd l (i : Int) = l[i] := by
 unfold rd
 rw [List.getD_eq_getElem?_getD, Int.toNat_natCast, List.getElem?_eq_getElem h]
 rfl
/-- The numbers a, a + 1, .. -/
def numsFrom (a : Int) : Nat → List Int
 | 0 => []
 | n + 1 => a :: numsFrom (a + 1) n
theorem numsFrom_length (a : Int) (n : Nat) : (numsFrom a n).length = n := by
 induction n generalizing a with
 | zero => rfl
 | succ n ih => simp [numsFrom, ih]
theorem ev_intro {α : Type} {f : Nat → Option α} {r : α} (K : Nat) (h : ∀ k, K ≤ k → f k = some r) : Ev f r := ⟨K, h⟩
end Go.Proofs.YtbgokpobaemibaaDoor.Pure

namespace Go.Proofs.YtbgokpobaemibaaDoor.Pa
open Go.RowKit Go.Proofs.YtbgokpobaemibaaDoorW.PrintWords Go.Proofs.YtbgokpobaemibaaDoorW.PrintLast Go.Proofs.YtbgokpobaemibaaDoorW.PrintMore
attribute [local go_sem] max2_int min2_int max_two min_two max_three min_three max_four min_four   -- for this text's walks alone
set_option linter.unusedVariables false
set_option linter.unusedSimpArgs false

/-! ### spec_l01Dec: function 51 -/
mutual
def spec_l01Dec.l0 : Nat → Int → List Int → Int → Option (ByteArray)
 | 0, _, _, _ => none
 | k + 1, x0, x3, x4 => if x4 = 0 then (if x0 < 0 then (if x3.length < 140737488355328 then (spec_l01Dec.j1 k (x3 ++ [45])) else (none)) else (spec_l01Dec.j1 k x3)) else (if (Int.tmod x4 10) < 0 then (if x3.length < 140737488355328 then (spec_l01Dec.l0 k x0 (x3 ++ [(wrap64 (48 + (wrap64 (-(Int.tmod x4 10))))) % 256]) (wrap64 (Int.tdiv x4 10))) else (none)) else (if x3.length < 140737488355328 then (spec_l01Dec.l0 k x0 (x3 ++ [(wrap64 (48 + (Int.tmod x4 10))) % 256]) (wrap64 (Int.tdiv x4 10))) else (none)))
def spec_l01Dec.j1 : Nat → List Int → Option (ByteArray)
 | 0, _ => none
 | k + 1, x3 => spec_l01Dec.l1 k x3 (([] : List Int)) (wrap64 ((x3.length : Int) - 1))
def spec_l01Dec.l1 : Nat → List Int → List Int → Int → Option (ByteArray)
 | 0, _, _, _ => none
 | k + 1, x3, x6, x7 => if x7 ≥ 0 then (if 0 ≤ x7 then (if x7 < (x3.length : Int) then (if x6.length < 140737488355328 then (spec_l01Dec.l1 k x3 (x6 ++ [rd x3 x7]) (wrap64 (x7 - 1))) else (none)) else (none)) else (none)) else (some (strOfNums x6))
end
def spec_l01Dec.f (k : Nat) (a0 : Int) : Option (ByteArray) := if a0 = 0 then (some (⟨#[48]⟩ : ByteArray)) else (spec_l01Dec.l0 k a0 (([] : List Int)) a0)
theorem spec_l01Dec.mono_l : ∀ k, (∀ y0 y1 y2, LeO (spec_l01Dec.l0 k y0 y1 y2) (spec_l01Dec.l0 (k + 1) y0 y1 y2)) ∧ (∀ y0, LeO (spec_l01Dec.j1 k y0) (spec_l01Dec.j1 (k + 1) y0)) ∧ (∀ y0 y1 y2, LeO (spec_l01Dec.l1 k y0 y1 y2) (spec_l01Dec.l1 (k + 1) y0 y1 y2))
 | 0 => ⟨fun _ _ _ r h => by simp [spec_l01Dec.l0] at h, fun _ r h => by simp [spec_l01Dec.j1] at h, fun _ _ _ r h => by simp [spec_l01Dec.l1] at h⟩
 | k + 1 => by
  obtain ⟨ih0, ih1, ih2⟩ := spec_l01Dec.mono_l k
  refine ⟨?_, ?_, ?_⟩
  ·intro y0 y1 y2
   unfold spec_l01Dec.l0
   repeat' first
   | (with_reducible exact ih0 _ _ _)
   | (with_reducible exact ih1 _)
   | (with_reducible exact ih2 _ _ _)
   | (with_reducible exact LeO.refl _)
   | (with_reducible exact LeO.none _)
   | (with_reducible refine LeO.ite ?_ ?_)
   | (with_reducible refine LeO.bind ?_ (fun _ => ?_))
   | exact ih0 _ _ _
   | exact ih1 _
   | exact ih2 _ _ _
   | exact LeO.none _
   | refine LeO.ite ?_ ?_
   | refine LeO.bind ?_ (fun _ => ?_)
  ·intro y0
   unfold spec_l01Dec.j1
   repeat' first
   | (with_reducible exact ih0 _ _ _)
   | (with_reducible exact ih1 _)
   | (with_reducible exact ih2 _ _ _)
   | (with_reducible exact LeO.refl _)
   | (with_reducible exact LeO.none _)
   | (with_reducible refine LeO.ite ?_ ?_)
   | (with_reducible refine LeO.bind ?_ (fun _ => ?_))
   | exact ih0 _ _ _
   | exact ih1 _
   | exact ih2 _ _ _
   | exact LeO.none _
   | refine LeO.ite ?_ ?_
   | refine LeO.bind ?_ (fun _ => ?_)
  ·intro y0 y1 y2
   unfold spec_l01Dec.l1
   repeat' first
   | (with_reducible exact ih0 _ _ _)
   | (with_reducible exact ih1 _)
   | (with_reducible exact ih2 _ _ _)
   | (with_reducible exact LeO.refl _)
   | (with_reducible exact LeO.none _)
   | (with_reducible refine LeO.ite ?_ ?_)
   | (with_reducible refine LeO.bind ?_ (fun _ => ?_))
   | exact ih0 _ _ _
   | exact ih1 _
   | exact ih2 _ _ _
   | exact LeO.none _
   | refine LeO.ite ?_ ?_
   | refine LeO.bind ?_ (fun _ => ?_)
theorem spec_l01Dec.mono : ∀ a0 k, LeO (spec_l01Dec.f k a0) (spec_l01Dec.f (k + 1) a0) := by
 intro a0 k
 obtain ⟨ih0, ih1, ih2⟩ := spec_l01Dec.mono_l k
 unfold spec_l01Dec.f
 repeat' first
   | (with_reducible exact ih0 _ _ _)
   | (with_reducible exact ih1 _)
   | (with_reducible exact ih2 _ _ _)
   | (with_reducible exact LeO.refl _)
   | (with_reducible exact LeO.none _)
   | (with_reducible refine LeO.ite ?_ ?_)
   | (with_reducible refine LeO.bind ?_ (fun _ => ?_))
   | exact ih0 _ _ _
   | exact ih1 _
   | exact ih2 _ _ _
   | exact LeO.none _
   | refine LeO.ite ?_ ?_
   | refine LeO.bind ?_ (fun _ => ?_)
set_option maxHeartbeats 8000000 in
set_option maxRecDepth 100000 in
theorem spec_l01Dec.calls (k : Nat) (a0 : Int) (r : ByteArray) (w : World) (h : spec_l01Dec.f k a0 = some r) :
  Calls Tryd.prog 51 #[.int .i64 a0] w fun e w' => e = .returned (.string r) ∧ Below w.heap.size w w' := by
 have HB := Aside0.mk (Below.refl w.heap.size w)
 have H : (if a0 = 0 then (some (⟨#[48]⟩ : ByteArray)) else (spec_l01Dec.l0 k a0 (([] : List Int)) a0)) = some r := h
 clear h
 by_cases c2 : a0 = 0
 ·rw [if_pos c2] at H
  have c2b0 : (a0 == 0) = true := beq_iff_eq.mpr c2
  have c2b1 : (a0 != 0) = false := bne_eq_false_iff_eq.mpr c2
  clear c2
  obtain rfl := Option.some.inj H
  go_enter Tryd.func51, Tryd.ntmps51
  go_wp2
  go_ret
  exact ⟨by first | rfl | (simp [errW_none, errW_some] <;> rfl) | (simp [*, errW_none, errW_some] <;> rfl), by repeat (first | (with_reducible first | exact HB.out | apply below_alloc | apply pw_below_drewN | apply below_drew1) | exact HB.out)⟩
 ·rw [if_neg c2] at H
  have c2b0 : (a0 == 0) = false := beq_eq_false_iff_ne.mpr c2
  have c2b1 : (a0 != 0) = true := bne_iff_ne.mpr c2
  obtain ⟨y370, hy370⟩ : ∃ y_ : List Int, y_ = (([] : List Int)) := ⟨_, rfl⟩
  replace H : (spec_l01Dec.l0 k a0 y370 a0) = some r := by first | (rw [hy370]; with_reducible exact H) | (have H2_ := (Option.bind_some _ _).symm.trans H; rw [hy370]; with_reducible exact H2_) | (have H2_ := (Option.bind_some _ _).symm.trans H; with_reducible exact H2_) | with_reducible exact H | (rw [hy370]; exact H) | exact H
  have Ny370 := Aside0.mk hy370
  clear hy370
  have H' := Aside0.mk H
  clear H
  go_enter Tryd.func51, Tryd.ntmps51
  go_wp2_with (first | ((with_reducible refine gate_dst (N := 10) rfl ?_); refine Kd.R_lit (Kd.int .u8) _ 5 ?hg (N := 10) ?hd (xs := ([] : List Int)) (inner := []) (ok := fun _ => True) (okp := fun _ => True) ?hr ?hp (fun _ hk => hk) trivial (Below.refl _ _) (Nat.le_refl _) (by simp) ?_; (case hd => rfl); (case hg => rfl); (case hr => first | (go_simp; done) | (go_simp; rfl)); (case hp => exact (Reps.none _ _)); intro v371 w3 ho4 hb hg_ hnew_; clear hg_ hnew_; (first | rw [← Ny370.out] at ho4 | (simp only [Int.reduceToNat] at ho4; rw [← Ny370.out] at ho4)); have n0_ := Aside0.mk (Kd.R_lower ho4 (below_size (by repeat (first | (with_reducible first | exact HB.out | apply below_alloc | apply pw_below_drewN | apply below_drew1) | exact HB.out)))); have n1_ := Aside0.mk (below_step (by repeat (first | (with_reducible first | exact HB.out | apply below_alloc | apply pw_below_drewN | apply below_drew1) | exact HB.out)) hb); clear HB; have HO372 := n0_; have HB := n1_; clear n0_ n1_; clear hb ho4))
  go_loopg [3, 4] k (fun kq v3 v4 w' => ∃ (x3_1 : List Int) (x4_1 : Int), v4 = .int .i64 x4_1 ∧ Aside0 (spec_l01Dec.l0 kq a0 x3_1 x4_1 = some r) ∧ Aside0 (kq ≤ k) ∧ Aside0 (Kd.R (Kd.int .u8) 5 w' w.heap.size (fun _ => True) v3 x3_1) ∧ Aside0 (Below w.heap.size w w'))
  case atStart => exact ⟨(y370), (a0), (by first | rfl | (simp; done) | (simp [*]; done)), H', ⟨Nat.le_refl _⟩, ⟨by (with_reducible repeat (first | apply Kd.R_alloc | apply Kd.R_drewN | apply Kd.R_drew)); exact HO372.out⟩, ⟨by repeat (first | (with_reducible first | exact HB.out | apply below_alloc | apply pw_below_drewN | apply below_drew1) | exact HB.out)⟩⟩
  case round =>
   clear H'
   try clear c2
   try clear c2b0
   try clear c2b1
   try clear p2
   obtain ⟨x3_1, x4_1, rfl, HA, HK1, HO_3, HB⟩ := hrel
   cases gk with
   | zero => exact absurd HA.out (by simp [spec_l01Dec.l0])
   | succ k1 =>
    have H := HA.out
    clear HA
    simp only [spec_l01Dec.l0] at H
    by_cases c5 : x4_1 = 0
    ·rw [if_pos c5] at H
     have c5b0 : (x4_1 == 0) = true := beq_iff_eq.mpr c5
     have c5b1 : (x4_1 != 0) = false := bne_eq_false_iff_eq.mpr c5
     clear c5
     have HC6 := Aside0.mk H
     clear H
     go_upto_if 29 with (fail)
     go_cut [3] (fun v3 wc => ∃ (kq : Nat) (x3_5 : List Int), Aside0 (spec_l01Dec.j1 kq x3_5 = some r) ∧ Aside0 (kq ≤ k1) ∧ Aside0 (Kd.R (Kd.int .u8) 5 wc w.heap.size (fun _ => True) v3 x3_5) ∧ Aside0 (Below w.heap.size w wc))
     case first =>
      have H := HC6.out
      clear HC6
      by_cases c7 : a0 < 0
      ·rw [if_pos c7] at H
       have c7b0 : decide (a0 < 0) = true := decide_eq_true c7
       clear c7
       (first | rw [c7b0] | (simp only [i64_w, i32_w]; rw [c7b0]) | skip)
       by_cases c8 : x3_1.length < 140737488355328
       ·rw [if_pos c8] at H
        have LMc8 := Aside0.mk c8
        clear c8
        obtain ⟨y379, hy379⟩ : ∃ y_ : List Int, y_ = (x3_1 ++ [45]) := ⟨_, rfl⟩
        replace H : (spec_l01Dec.j1 k1 y379) = some r := by first | (rw [hy379]; with_reducible exact H) | (have H2_ := (Option.bind_some _ _).symm.trans H; rw [hy379]; with_reducible exact H2_) | (have H2_ := (Option.bind_some _ _).symm.trans H; with_reducible exact H2_) | with_reducible exact H | (rw [hy379]; exact H) | exact H
        have Ny379 := Aside0.mk hy379
        clear hy379
        have H' := Aside0.mk H
        clear H
        go_wp2_with (first | ((with_reducible refine gate_builtin (b := .append) (xs := #[.tmp 30, .tmp 31]) rfl ?_); at_builtin; refine Kd.R_append (Kd.int .u8) (w0 := w) w.heap.size rfl (.tmp 30) (.tmp 31) 22 5 (.int .u8 0) 1 rfl Tryd.underlying22 info5 rfl (by decide) (by omega) u3 x3_1 45 [.int .u8 45] (fun _ => True) (fun _ => False) rfl rfl ?aP (fun _ hk => hk.elim) ?aF ?aO ?aB ?aS ?aL ?_; (case aP => exact rfl); (case aB => exact (by repeat (first | (with_reducible first | exact HB.out | apply below_alloc | apply pw_below_drewN | apply below_drew1) | exact HB.out))); (case aF => exact (fun _ _ => trivial)); (case aO => exact (by (with_reducible repeat (first | apply Kd.R_alloc | apply Kd.R_drewN | apply Kd.R_drew)); exact HO_3.out)); (case aS => exact (below_size (by repeat (first | (with_reducible first | exact HB.out | apply below_alloc | apply pw_below_drewN | apply below_drew1) | exact HB.out)))); (case aL => have := LMc8.out; omega); intro v380 w9 ho hb hg hat; rw [← Ny379.out] at ho; have n0_ := Aside0.mk (hb); have n1_ := Aside0.mk (ho); clear HB; clear HO_3; have HB := n0_; have HO381 := n1_; clear n0_ n1_; clear ho hb hg hat))
        go_meet
        case rel => exact ⟨_, (y379), H', ⟨by have := HK1.out; first | omega | exact Nat.le_refl _⟩, ⟨by (with_reducible repeat (first | apply Kd.R_alloc | apply Kd.R_drewN | apply Kd.R_drew)); exact HO381.out⟩, ⟨by repeat (first | (with_reducible first | exact HB.out | apply below_alloc | apply pw_below_drewN | apply below_drew1) | exact HB.out)⟩⟩
       ·rw [if_neg c8] at H
        exact absurd H (by simp)
      ·rw [if_neg c7] at H
       have c7b0 : decide (a0 < 0) = false := decide_eq_false c7
       clear c7
       (first | rw [c7b0] | (simp only [i64_w, i32_w]; rw [c7b0]) | skip)
       have H' := Aside0.mk H
       clear H
       go_wp2
       go_meet
       case rel => exact ⟨_, (x3_1), H', ⟨by have := HK1.out; first | omega | exact Nat.le_refl _⟩, ⟨by (with_reducible repeat (first | apply Kd.R_alloc | apply Kd.R_drewN | apply Kd.R_drew)); exact HO_3.out⟩, ⟨by repeat (first | (with_reducible first | exact HB.out | apply below_alloc | apply pw_below_drewN | apply below_drew1) | exact HB.out)⟩⟩
     case rest =>
      clear HC6
      try clear c2
      try clear c2b0
      try clear c2b1
      try clear p2
      try clear c5
      try clear c5b0
      try clear c5b1
      try clear c7
      try clear c7b0
      try clear c8
      try clear p2
      obtain ⟨kq, x3_5, HA, HJ5, HO_3, HB⟩ := hcut
      cases kq with
      | zero => exact absurd HA.out (by simp [spec_l01Dec.j1])
      | succ kj5 =>
       have H := HA.out
       clear HA
       simp only [spec_l01Dec.j1] at H
       obtain ⟨y382, hy382⟩ : ∃ y_ : List Int, y_ = (([] : List Int)) := ⟨_, rfl⟩
       replace H : (spec_l01Dec.l1 kj5 x3_5 y382 (wrap64 ((x3_5.length : Int) - 1))) = some r := by first | (rw [hy382]; with_reducible exact H) | (have H2_ := (Option.bind_some _ _).symm.trans H; rw [hy382]; with_reducible exact H2_) | (have H2_ := (Option.bind_some _ _).symm.trans H; with_reducible exact H2_) | with_reducible exact H | (rw [hy382]; exact H) | exact H
       have Ny382 := Aside0.mk hy382
       clear hy382
       have H' := Aside0.mk H
       clear H
       go_wp2_with (first | ((with_reducible refine gate_dst (N := 33) rfl ?_); refine Kd.R_lit (Kd.int .u8) _ 5 ?hg (N := 33) ?hd (xs := ([] : List Int)) (inner := []) (ok := fun _ => True) (okp := fun _ => True) ?hr ?hp (fun _ hk => hk) trivial (Below.refl _ _) (Nat.le_refl _) (by simp) ?_; (case hd => rfl); (case hg => rfl); (case hr => first | (go_simp; done) | (go_simp; rfl)); (case hp => exact (Reps.none _ _)); intro v383 w10 ho11 hb hg_ hnew_; clear hg_ hnew_; (first | rw [← Ny382.out] at ho11 | (simp only [Int.reduceToNat] at ho11; rw [← Ny382.out] at ho11)); have n0_ := Aside0.mk (Kd.R_elder' (by (with_reducible repeat (first | apply Kd.R_alloc | apply Kd.R_drewN | apply Kd.R_drew)); exact HO_3.out) (Kd.R_base ho11) hb); have n1_ := Aside0.mk (Kd.R_lower (Kd.R_new' ho11 (Kd.R_lt (by (with_reducible repeat (first | apply Kd.R_alloc | apply Kd.R_drewN | apply Kd.R_drew)); exact HO_3.out))) (below_size (by repeat (first | (with_reducible first | exact HB.out | apply below_alloc | apply pw_below_drewN | apply below_drew1) | exact HB.out)))); have n2_ := Aside0.mk (below_step (by repeat (first | (with_reducible first | exact HB.out | apply below_alloc | apply pw_below_drewN | apply below_drew1) | exact HB.out)) hb); clear HO_3; clear HB; have HO_3 := n0_; have HO384 := n1_; have HB := n2_; clear n0_ n1_ n2_; clear hb ho11; obtain ⟨Ao12, co12, eo12⟩ := Kd.R_slice HO_3.out; subst eo12))
       go_loopg [6, 7] kj5 (fun kq v6 v7 w' => ∃ (x6_3 : List Int) (x7_3 : Int), v7 = .int .i64 x7_3 ∧ Aside0 (spec_l01Dec.l1 kq x3_5 x6_3 x7_3 = some r) ∧ Aside0 (kq ≤ kj5) ∧ Aside0 (Kd.R (Kd.int .u8) 5 w' w.heap.size (fun k_ => some k_ ≠ (v6 : Value).ownBlock) (.slice Ao12 x3_5.length co12) x3_5) ∧ Aside0 (Kd.R (Kd.int .u8) 5 w' w.heap.size (fun k_ => some k_ ≠ ((.slice Ao12 x3_5.length co12) : Value).ownBlock) v6 x6_3) ∧ Aside0 (Below w.heap.size w w'))
       case atStart => exact ⟨(y382), (wrap64 ((x3_5.length : Int) - 1)), (by first | rfl | (simp; done) | (simp [*]; done)), H', ⟨Nat.le_refl _⟩, ⟨by (with_reducible repeat (first | apply Kd.R_alloc | apply Kd.R_drewN | apply Kd.R_drew)); exact Kd.R_mono HO_3.out (fun _ hk => hk.2)⟩, ⟨by (with_reducible repeat (first | apply Kd.R_alloc | apply Kd.R_drewN | apply Kd.R_drew)); exact Kd.R_mono HO384.out (fun _ hk => hk.2)⟩, ⟨by repeat (first | (with_reducible first | exact HB.out | apply below_alloc | apply pw_below_drewN | apply below_drew1) | exact HB.out)⟩⟩
       case round =>
        clear H'
        try clear c2
        try clear c2b0
        try clear c2b1
        try clear p2
        try clear c5
        try clear c5b0
        try clear c5b1
        try clear p6
        try clear c7
        try clear c7b0
        try clear c8
        try clear p2
        obtain ⟨x6_3, x7_3, rfl, HA, HK3, HO_3, HO_6, HB⟩ := hrel
        cases gk with
        | zero => exact absurd HA.out (by simp [spec_l01Dec.l1])
        | succ k3 =>
         have H := HA.out
         clear HA
         simp only [spec_l01Dec.l1] at H
         by_cases c13 : x7_3 ≥ 0
         ·rw [if_pos c13] at H
          have c13b0 : decide (0 ≤ x7_3) = true := decide_eq_true c13
          clear c13
          by_cases c14 : 0 ≤ x7_3
          ·rw [if_pos c14] at H
           have c14b0 : decide (0 ≤ x7_3) = true := decide_eq_true c14
           clear c14
           by_cases c15 : x7_3 < (x3_5.length : Int)
           ·rw [if_pos c15] at H
            have c15b0 : decide (x7_3 < (x3_5.length : Int)) = true := decide_eq_true c15
            clear c15
            by_cases c16 : x6_3.length < 140737488355328
            ·rw [if_pos c16] at H
             have LMc16 := Aside0.mk c16
             clear c16
             obtain ⟨y386, hy386⟩ : ∃ y_ : List Int, y_ = (x6_3 ++ [rd x3_5 x7_3]) := ⟨_, rfl⟩
             replace H : (spec_l01Dec.l1 k3 x3_5 y386 (wrap64 (x7_3 - 1))) = some r := by first | (rw [hy386]; with_reducible exact H) | (have H2_ := (Option.bind_some _ _).symm.trans H; rw [hy386]; with_reducible exact H2_) | (have H2_ := (Option.bind_some _ _).symm.trans H; with_reducible exact H2_) | with_reducible exact H | (rw [hy386]; exact H) | exact H
             have Ny386 := Aside0.mk hy386
             clear hy386
             have H' := Aside0.mk H
             clear H
             have p385 : 0 ≤ (x7_3 : Int) := of_decide_eq_true (by with_reducible assumption)
             have q385 : x7_3 < (x3_5.length : Int) := of_decide_eq_true (by with_reducible assumption)
             obtain ⟨ad385, e385, hx385_0⟩ := Kd.at_int (Kd.R_reads' HO_3.out).2.2 x7_3 p385 q385
             cases e385
             replace p385 := eq_true p385
             replace q385 := eq_true q385
             go_wp2_with (first | ((with_reducible refine gate_builtin (b := .append) (xs := #[.tmp 41, .tmp 46]) rfl ?_); at_builtin; refine Kd.R_append (Kd.int .u8) (w0 := w) w.heap.size rfl (.tmp 41) (.tmp 46) 22 5 (.int .u8 0) 1 rfl Tryd.underlying22 info5 rfl (by decide) (by omega) u6 x6_3 (rd x3_5 x7_3) [.int .u8 (rd x3_5 x7_3)] (fun k_ => some k_ ≠ (.slice (some ad385) x3_5.length co12 : Value).ownBlock) (fun _ => False) rfl rfl ?aP (fun _ hk => hk.elim) ?aF ?aO ?aB ?aS ?aL ?_; (case aP => exact rfl); (case aB => exact (by repeat (first | (with_reducible first | exact HB.out | apply below_alloc | apply pw_below_drewN | apply below_drew1) | exact HB.out))); (case aF => exact (fun k_ hk => Kd.fresh' (Kd.R_lt (by (with_reducible repeat (first | apply Kd.R_alloc | apply Kd.R_drewN | apply Kd.R_drew)); exact HO_3.out)) k_ hk)); (case aO => exact (by (with_reducible repeat (first | apply Kd.R_alloc | apply Kd.R_drewN | apply Kd.R_drew)); exact HO_6.out)); (case aS => exact (below_size (by repeat (first | (with_reducible first | exact HB.out | apply below_alloc | apply pw_below_drewN | apply below_drew1) | exact HB.out)))); (case aL => have := LMc16.out; omega); intro v387 w17 ho hb hg hat; rw [← Ny386.out] at ho; have n0_ := Aside0.mk (Kd.R_after (ok := (fun _ => True)) (by (with_reducible repeat (first | apply Kd.R_alloc | apply Kd.R_drewN | apply Kd.R_drew)); exact Kd.R_mono HO_3.out (fun _ hk => ⟨trivial, hk⟩)) hg hat); have n1_ := Aside0.mk (hb); have n2_ := Aside0.mk (ho); clear HO_3; clear HB; clear HO_6; have HO_3 := n0_; have HB := n1_; have HO388 := n2_; clear n0_ n1_ n2_; clear ho hb hg hat))
             go_roundg k3
             case measure => have := HK1.out; have := HJ5.out; have := HK3.out; omega
             case rel => exact ⟨(y386), (wrap64 (x7_3 - 1)), (by first | rfl | (simp; done) | (simp [*]; done)), H', ⟨by have := HK1.out; have := HJ5.out; have := HK3.out; omega⟩, ⟨by (with_reducible repeat (first | apply Kd.R_alloc | apply Kd.R_drewN | apply Kd.R_drew)); exact Kd.R_mono HO_3.out (fun _ hk => hk.2)⟩, ⟨by (with_reducible repeat (first | apply Kd.R_alloc | apply Kd.R_drewN | apply Kd.R_drew)); exact HO388.out⟩, ⟨by repeat (first | (with_reducible first | exact HB.out | apply below_alloc | apply pw_below_drewN | apply below_drew1) | exact HB.out)⟩⟩
            ·rw [if_neg c16] at H
             exact absurd H (by simp)
           ·rw [if_neg c15] at H
            exact absurd H (by simp)
          ·rw [if_neg c14] at H
           exact absurd H (by simp)
         ·rw [if_neg c13] at H
          have c13b0 : decide (0 ≤ x7_3) = false := decide_eq_false c13
          clear c13
          obtain rfl := Option.some.inj H
          have hcv18 := own_string (P := Tryd.prog) Tryd.underlying22 Tryd.underlying5 Tryd.underlying9 (Kd.own_of_R HO_6.out)
          go_wp2
          go_ret
          exact ⟨by first | rfl | (simp [errW_none, errW_some] <;> rfl) | (simp [*, errW_none, errW_some] <;> rfl), by repeat (first | (with_reducible first | exact HB.out | apply below_alloc | apply pw_below_drewN | apply below_drew1) | exact HB.out)⟩
    ·rw [if_neg c5] at H
     have c5b0 : (x4_1 == 0) = false := beq_eq_false_iff_ne.mpr c5
     have c5b1 : (x4_1 != 0) = true := bne_iff_ne.mpr c5
     by_cases c19 : (Int.tmod x4_1 10) < 0
     ·rw [if_pos c19] at H
      have c19b0 : decide ((Int.tmod x4_1 10) < 0) = true := decide_eq_true c19
      clear c19
      by_cases c20 : x3_1.length < 140737488355328
      ·rw [if_pos c20] at H
       have LMc20 := Aside0.mk c20
       clear c20
       obtain ⟨y373, hy373⟩ : ∃ y_ : List Int, y_ = (x3_1 ++ [(wrap64 (48 + (wrap64 (-(Int.tmod x4_1 10))))) % 256]) := ⟨_, rfl⟩
       replace H : (spec_l01Dec.l0 k1 a0 y373 (wrap64 (Int.tdiv x4_1 10))) = some r := by first | (rw [hy373]; with_reducible exact H) | (have H2_ := (Option.bind_some _ _).symm.trans H; rw [hy373]; with_reducible exact H2_) | (have H2_ := (Option.bind_some _ _).symm.trans H; with_reducible exact H2_) | with_reducible exact H | (rw [hy373]; exact H) | exact H
       have Ny373 := Aside0.mk hy373
       clear hy373
       have H' := Aside0.mk H
       clear H
       go_wp2_with (first | ((with_reducible refine gate_builtin (b := .append) (xs := #[.tmp 22, .tmp 26]) rfl ?_); at_builtin; refine Kd.R_append (Kd.int .u8) (w0 := w) w.heap.size rfl (.tmp 22) (.tmp 26) 22 5 (.int .u8 0) 1 rfl Tryd.underlying22 info5 rfl (by decide) (by omega) u3 x3_1 ((wrap64 (48 + (wrap64 (-(Int.tmod x4_1 10))))) % 256) [.int .u8 ((wrap64 (48 + (wrap64 (-(Int.tmod x4_1 10))))) % 256)] (fun _ => True) (fun _ => False) rfl rfl ?aP (fun _ hk => hk.elim) ?aF ?aO ?aB ?aS ?aL ?_; (case aP => exact rfl); (case aB => exact (by repeat (first | (with_reducible first | exact HB.out | apply below_alloc | apply pw_below_drewN | apply below_drew1) | exact HB.out))); (case aF => exact (fun _ _ => trivial)); (case aO => exact (by (with_reducible repeat (first | apply Kd.R_alloc | apply Kd.R_drewN | apply Kd.R_drew)); exact HO_3.out)); (case aS => exact (below_size (by repeat (first | (with_reducible first | exact HB.out | apply below_alloc | apply pw_below_drewN | apply below_drew1) | exact HB.out)))); (case aL => have := LMc20.out; omega); intro v374 w21 ho hb hg hat; rw [← Ny373.out] at ho; have n0_ := Aside0.mk (hb); have n1_ := Aside0.mk (ho); clear HB; clear HO_3; have HB := n0_; have HO375 := n1_; clear n0_ n1_; clear ho hb hg hat))
       go_roundg k1
       case measure => have := HK1.out; omega
       case rel => exact ⟨(y373), (wrap64 (Int.tdiv x4_1 10)), (by first | rfl | (simp; done) | (simp [*]; done)), H', ⟨by have := HK1.out; omega⟩, ⟨by (with_reducible repeat (first | apply Kd.R_alloc | apply Kd.R_drewN | apply Kd.R_drew)); exact HO375.out⟩, ⟨by repeat (first | (with_reducible first | exact HB.out | apply below_alloc | apply pw_below_drewN | apply below_drew1) | exact HB.out)⟩⟩
      ·rw [if_neg c20] at H
       exact absurd H (by simp)
     ·rw [if_neg c19] at H
      have c19b0 : decide ((Int.tmod x4_1 10) < 0) = false := decide_eq_false c19
      clear c19
      by_cases c22 : x3_1.length < 140737488355328
      ·rw [if_pos c22] at H
       have LMc22 := Aside0.mk c22
       clear c22
       obtain ⟨y376, hy376⟩ : ∃ y_ : List Int, y_ = (x3_1 ++ [(wrap64 (48 + (Int.tmod x4_1 10))) % 256]) := ⟨_, rfl⟩
       replace H : (spec_l01Dec.l0 k1 a0 y376 (wrap64 (Int.tdiv x4_1 10))) = some r := by first | (rw [hy376]; with_reducible exact H) | (have H2_ := (Option.bind_some _ _).symm.trans H; rw [hy376]; with_reducible exact H2_) | (have H2_ := (Option.bind_some _ _).symm.trans H; with_reducible exact H2_) | with_reducible exact H | (rw [hy376]; exact H) | exact H
       have Ny376 := Aside0.mk hy376
       clear hy376
       have H' := Aside0.mk H
       clear H
       go_wp2_with (first | ((with_reducible refine gate_builtin (b := .append) (xs := #[.tmp 22, .tmp 26]) rfl ?_); at_builtin; refine Kd.R_append (Kd.int .u8) (w0 := w) w.heap.size rfl (.tmp 22) (.tmp 26) 22 5 (.int .u8 0) 1 rfl Tryd.underlying22 info5 rfl (by decide) (by omega) u3 x3_1 ((wrap64 (48 + (Int.tmod x4_1 10))) % 256) [.int .u8 ((wrap64 (48 + (Int.tmod x4_1 10))) % 256)] (fun _ => True) (fun _ => False) rfl rfl ?aP (fun _ hk => hk.elim) ?aF ?aO ?aB ?aS ?aL ?_; (case aP => exact rfl); (case aB => exact (by repeat (first | (with_reducible first | exact HB.out | apply below_alloc | apply pw_below_drewN | apply below_drew1) | exact HB.out))); (case aF => exact (fun _ _ => trivial)); (case aO => exact (by (with_reducible repeat (first | apply Kd.R_alloc | apply Kd.R_drewN | apply Kd.R_drew)); exact HO_3.out)); (case aS => exact (below_size (by repeat (first | (with_reducible first | exact HB.out | apply below_alloc | apply pw_below_drewN | apply below_drew1) | exact HB.out)))); (case aL => have := LMc22.out; omega); intro v377 w23 ho hb hg hat; rw [← Ny376.out] at ho; have n0_ := Aside0.mk (hb); have n1_ := Aside0.mk (ho); clear HB; clear HO_3; have HB := n0_; have HO378 := n1_; clear n0_ n1_; clear ho hb hg hat))
       go_roundg k1
       case measure => have := HK1.out; omega
       case rel => exact ⟨(y376), (wrap64 (Int.tdiv x4_1 10)), (by first | rfl | (simp; done) | (simp [*]; done)), H', ⟨by have := HK1.out; omega⟩, ⟨by (with_reducible repeat (first | apply Kd.R_alloc | apply Kd.R_drewN | apply Kd.R_drew)); exact HO378.out⟩, ⟨by repeat (first | (with_reducible first | exact HB.out | apply below_alloc | apply pw_below_drewN | apply below_drew1) | exact HB.out)⟩⟩
      ·rw [if_neg c22] at H
       exact absurd H (by simp)

end Go.Proofs.YtbgokpobaemibaaDoor.Pa

namespace Go.Proofs.YtbgokpobaemibaaDoor.Pa
open Go.RowKit Go.Proofs.YtbgokpobaemibaaDoorW.PrintWords Go.Proofs.YtbgokpobaemibaaDoorW.PrintLast Go.Proofs.YtbgokpobaemibaaDoorW.PrintMore
attribute [local go_sem] max2_int min2_int max_two min_two max_three min_three max_four min_four   -- for this text's walks alone
set_option linter.unusedVariables false
set_option linter.unusedSimpArgs false

/-! ### impl_Decimal: function 24 -/
def decB (n : Int) : ByteArray := ⟨(Lib.itoa n).toArray⟩
/-- The table of powers of ten is as it was laid. -/
def TabOk (w : World) : Prop := Lib.TabIs Tryd.prog w "internal/strconv.uint64pow10" .u64 Lib.pow10Tab
theorem tab_below {w w1 : World} (h : TabOk w) (hb : Below w.heap.size w w1) : TabOk w1 := by
 unfold TabOk Lib.TabIs World.var? at *
 cases hg : Program.globalNamed Tryd.prog "internal/strconv.uint64pow10" with
 | none => simp [hg] at h
 | some g =>
  simp only [hg, Option.bind_some] at h ⊢
  have hlt : g < w.heap.size := by
   rcases Nat.lt_or_ge g w.heap.size with h' | h'
   ·exact h'
   ·rw [Array.getElem?_eq_none h'] at h; simp at h
  rw [hb.block g hlt]
  exact h
def impl_Decimal.f (a0 : Int) : Option ByteArray := if -9223372036854775808 ≤ a0 ∧ a0 ≤ 9223372036854775807 then some (decB a0) else none
set_option maxHeartbeats 2000000 in
set_option maxRecDepth 100000 in
theorem impl_Decimal.calls (a0 : Int) (r : ByteArray) (w : World) (ht_ : TabOk w) (h : impl_Decimal.f a0 = some r) :
  Calls Tryd.prog 24 #[.int .i64 a0] w fun e w' => e = .returned (.string r) ∧ Below w.heap.size w w' := by
 unfold impl_Decimal.f at h
 split at h
 ·rename_i hq
  obtain rfl := Option.some.inj h
  clear h
  have HC := Aside0.mk (Tryd.strconv_FormatInt_10 a0 hq.1 hq.2 w ht_)
  clear hq ht_
  go_enter Tryd.func24, Tryd.ntmps24
  go_wp2_with (go_at_call 43; refine HC.out.mono ?_; rintro e w' ⟨rfl, nd, os, rfl⟩)
  go_ret
  exact ⟨rfl, Lib.below_grow _ _ (Nat.le_refl _) _ _⟩
 ·cases h

end Go.Proofs.YtbgokpobaemibaaDoor.Pa

/- The reference's decimal text of a small number is the library's. -/
namespace Go.Proofs.YtbgokpobaemibaaDoor.Pure
open Go.RowKit Go.Proofs.YtbgokpobaemibaaDoor.Pa Go.Proofs.YtbgokpobaemibaaDoorW.PrintWords Go.Proofs.YtbgokpobaemibaaDoorW.PrintLast Go.Proofs.YtbgokpobaemibaaDoorW.PrintMore
set_option linter.unusedVariables false
set_option linter.unusedSimpArgs false

/-- The digits, the last one first. -/
def revI (u : Nat) : List Int := ((Lib.decDigits u).map fun b => (b.toNat : Int)).reverse
theorem dig_toNat (d : Nat) (h : d < 10) : ((UInt8.ofNat (48 + d)).toNat : Int) = 48 + (d : Int) := by
 have : (UInt8.ofNat (48 + d)).toNat = 48 + d := by
  rw [UInt8.toNat_ofNat']
  exact Nat.mod_eq_of_lt (by omega)
 rw [this]
 omega
theorem revI_small (u : Nat) (h : u < 10) : revI u = [48 + (u : Int)] := by
 unfold revI
 rw [Lib.decDigits, dif_pos h]
 simp only [List.map_cons, List.map_nil, List.reverse_cons, List.reverse_nil, List.nil_append]
 rw [dig_toNat u h]
theorem revI_step (u : Nat) (h : ¬ u < 10) : revI u = (48 + ((u % 10 : Nat) : Int)) :: revI (u / 10) := by
 unfold revI
 rw [Lib.decDigits, dif_neg h]
 simp only [List.map_append, List.map_cons, List.map_nil, List.reverse_append, List.reverse_cons, List.reverse_nil, List.nil_append, List.singleton_append]
 rw [dig_toNat (u % 10) (by omega)]
theorem tdiv_pos (u : Nat) : Int.tdiv (u : Int) 10 = ((u / 10 : Nat) : Int) := by
 rw [Int.tdiv_eq_ediv_of_nonneg (by omega)]; omega
theorem tdiv_neg (u : Nat) : Int.tdiv (-(u : Int)) 10 = -((u / 10 : Nat) : Int) := by
 rw [Int.neg_tdiv, tdiv_pos]
theorem tmod_pos (u : Nat) : Int.tmod (u : Int) 10 = ((u % 10 : Nat) : Int) := by
 rw [Int.tmod_eq_emod_of_nonneg (by omega)]; omega
theorem tmod_neg (u : Nat) : Int.tmod (-(u : Int)) 10 = -((u % 10 : Nat) : Int) := by
 rw [Int.neg_tmod, tmod_pos]
/-- One digit is laid. -/
theorem dec_one (x0 : Int) (neg : Bool) (u : Nat) (hu : 0 < u) (hu2 : u ≤ 1000) (acc : List Int) (ha : acc.length ≤ 5000) (k : Nat) :
  spec_l01Dec.l0 (k + 1) x0 acc (if neg = true then -(u : Int) else (u : Int)) = spec_l01Dec.l0 k x0 (acc ++ [48 + ((u % 10 : Nat) : Int)]) (if neg = true then -((u / 10 : Nat) : Int) else ((u / 10 : Nat) : Int)) := by
 have h10 : u % 10 < 10 := Nat.mod_lt _ (by omega)
 simp only [spec_l01Dec.l0]
 cases neg with
 | false =>
  simp only [Bool.false_eq_true, if_false]
  rw [if_neg (by omega), tmod_pos, tdiv_pos, if_neg (by omega), if_pos (by omega), wrap_id (by omega) (by omega), wrap_id (by omega) (by omega)]
  rw [show (48 + ((u % 10 : Nat) : Int)) % 256 = 48 + ((u % 10 : Nat) : Int) by omega]
 | true =>
  simp only [if_true]
  rw [if_neg (by omega), tmod_neg, tdiv_neg, Int.neg_neg, wrap_id (x := ((u % 10 : Nat) : Int)) (by omega) (by omega), if_pos (show acc.length < 140737488355328 by omega), wrap_id (x := 48 + ((u % 10 : Nat) : Int)) (by omega) (by omega), wrap_id (x := -((u / 10 : Nat) : Int)) (by omega) (by omega)]
  rw [show (48 + ((u % 10 : Nat) : Int)) % 256 = 48 + ((u % 10 : Nat) : Int) by omega]
  by_cases hz : -((u % 10 : Nat) : Int) < 0
  ·rw [if_pos hz]
  ·have h0 : ((u % 10 : Nat) : Int) = 0 := by omega
   rw [if_neg hz, h0, show (-(0 : Int)) = 0 from rfl, Int.add_zero, show wrap64 48 = 48 from wrap_id (by omega) (by omega), if_pos (show acc.length < 140737488355328 by omega)]
   rfl
theorem dec_loop (x0 : Int) (neg : Bool) : ∀ (n u : Nat), u ≤ n → 0 < u → u ≤ 1000 → ∀ (acc : List Int) (k : Nat), acc.length + u ≤ 3000 → n < k →
  ∃ k', k ≤ k' + n ∧ spec_l01Dec.l0 k x0 acc (if neg = true then -(u : Int) else (u : Int)) = spec_l01Dec.l0 k' x0 (acc ++ revI u) 0
 | 0, u, h, h0, _, _, _, _, _ => absurd h (by omega)
 | n + 1, u, h, h0, h1, acc, k, ha, hk => by
  obtain ⟨k, rfl⟩ : ∃ q, k = q + 1 := ⟨k - 1, by omega⟩
  rw [dec_one x0 neg u h0 h1 acc (by omega) k]
  by_cases hs : u < 10
  ·refine ⟨k, by omega, ?_⟩
   rw [revI_small u hs, show u % 10 = u by omega, show u / 10 = 0 by omega]
   cases neg <;> rfl
  ·obtain ⟨k', hk', he⟩ := dec_loop x0 neg n (u / 10) (by omega) (by omega) (by omega) (acc ++ [48 + ((u % 10 : Nat) : Int)]) k (by rw [List.length_append, List.length_singleton]; omega) (by omega)
   refine ⟨k', by omega, ?_⟩
   rw [he, revI_step u hs, List.append_assoc, List.singleton_append]
theorem rev_loop (L : List Int) (hL : L.length ≤ 5000) : ∀ (i : Nat) (k : Nat), i ≤ L.length → i < k → spec_l01Dec.l1 k L (L.drop i).reverse ((i : Int) - 1) = some (strOfNums L.reverse)
 | 0, k, hi, hk => by
  obtain ⟨k, rfl⟩ : ∃ q, k = q + 1 := ⟨k - 1, by omega⟩
  simp only [spec_l01Dec.l1]
  rw [if_neg (by omega), List.drop_zero]
 | i + 1, k, hi, hk => by
  obtain ⟨k, rfl⟩ : ∃ q, k = q + 1 := ⟨k - 1, by omega⟩
  have hl : i < L.length := by omega
  have e : ((i + 1 : Nat) : Int) - 1 = (i : Int) := by omega
  rw [e]
  simp only [spec_l01Dec.l1]
  rw [if_pos (by omega), if_pos (by omega), if_pos (by omega), if_pos (by rw [List.length_reverse, List.length_drop]; omega), wrap_id (by omega) (by omega), rd_get hl]
  have := rev_loop L hL i k (by omega) (by omega)
  rw [List.drop_eq_getElem_cons hl, List.reverse_cons] at this
  exact this
theorem rev_tells (L : List Int) (hL : L.length ≤ 5000) (k : Nat) (hk : L.length + 1 < k) : spec_l01Dec.j1 k L = some (strOfNums L.reverse) := by
 obtain ⟨k, rfl⟩ : ∃ q, k = q + 1 := ⟨k - 1, by omega⟩
 simp only [spec_l01Dec.j1]
 rw [wrap_id (by omega) (by omega)]
 have := rev_loop L hL L.length k (by omega) (by omega)
 rw [List.drop_of_length_le (Nat.le_refl _)] at this
 exact this
theorem strOf_bytes (l : List UInt8) : strOfNums (l.map fun b => (b.toNat : Int)) = ⟨l.toArray⟩ := by
 unfold strOfNums
 congr 2
 rw [List.map_map]
 conv => rhs; rw [← List.map_id l]
 refine List.map_congr_left fun b _ => ?_
 simp
theorem revI_length (u : Nat) (hu : u ≤ 1000) : (revI u).length ≤ 21 := by
 unfold revI
 rw [List.length_reverse, List.length_map]
 have := Lib.itoa_length_le (u : Int) (by omega) (by omega)
 unfold Lib.itoa at this
 rw [if_neg (by omega), Int.toNat_natCast] at this
 exact this
theorem dec_tells (n : Int) (h0 : -1000 ≤ n) (h1 : n ≤ 1000) (k : Nat) (hk : 1100 < k) : spec_l01Dec.f k n = some (decB n) := by
 unfold spec_l01Dec.f
 by_cases hz : n = 0
 ·subst hz
  rw [if_pos rfl]
  unfold decB Lib.itoa
  rw [if_neg (by omega), show (0 : Int).toNat = 0 from rfl, Lib.decDigits, dif_pos (by omega)]
  rfl
 ·rw [if_neg hz]
  by_cases hn : n < 0
  ·obtain ⟨u, rfl⟩ : ∃ u : Nat, n = -(u : Int) := ⟨n.natAbs, by omega⟩
   obtain ⟨k', hk', he⟩ := dec_loop (-(u : Int)) true u u (Nat.le_refl _) (by omega) (by omega) [] k (by simp; omega) (by omega)
   rw [if_pos rfl] at he
   have hl := revI_length u (by omega)
   obtain ⟨q, rfl⟩ : ∃ q, k' = q + 1 := ⟨k' - 1, by omega⟩
   rw [he, List.nil_append]
   simp only [spec_l01Dec.l0, if_true]
   rw [if_pos hn, if_pos (by omega), rev_tells _ (by rw [List.length_append, List.length_singleton]; omega) q (by rw [List.length_append, List.length_singleton]; omega)]
   congr 1
   unfold decB Lib.itoa revI
   rw [if_pos hn, List.reverse_append, List.reverse_reverse, Int.natAbs_neg, Int.natAbs_natCast]
   have := strOf_bytes (45 :: Lib.decDigits u)
   rw [← this]
   rfl
  ·obtain ⟨u, rfl⟩ : ∃ u : Nat, n = (u : Int) := ⟨n.toNat, by omega⟩
   obtain ⟨k', hk', he⟩ := dec_loop (u : Int) false u u (Nat.le_refl _) (by omega) (by omega) [] k (by simp; omega) (by omega)
   rw [if_neg (by decide)] at he
   have hl := revI_length u (by omega)
   obtain ⟨q, rfl⟩ : ∃ q, k' = q + 1 := ⟨k' - 1, by omega⟩
   rw [he, List.nil_append]
   simp only [spec_l01Dec.l0, if_true]
   rw [if_neg hn, rev_tells _ (by omega) q (by omega)]
   congr 1
   unfold decB Lib.itoa revI
   rw [if_neg hn, List.reverse_reverse, Int.toNat_natCast, strOf_bytes]
theorem dec_prog (n : Int) (h0 : -1000 ≤ n) (h1 : n ≤ 1000) : impl_Decimal.f n = some (decB n) := by
 unfold impl_Decimal.f
 rw [if_pos ⟨by omega, by omega⟩]
theorem decB_size (n : Int) (h0 : -1000 ≤ n) (h1 : n ≤ 1000) : (decB n).size ≤ 21 := by
 have := Lib.itoa_length_le n (by omega) (by omega)
 have e : (decB n).size = (Lib.itoa n).length := by
  unfold decB
  simp [ByteArray.size]
 rw [e]
 exact this
end Go.Proofs.YtbgokpobaemibaaDoor.Pure

namespace Go.Proofs.YtbgokpobaemibaaDoor.Pa
open Go.RowKit Go.Proofs.YtbgokpobaemibaaDoorW.PrintWords Go.Proofs.YtbgokpobaemibaaDoorW.PrintLast Go.Proofs.YtbgokpobaemibaaDoorW.PrintMore
attribute [local go_sem] max2_int min2_int max_two min_two max_three min_three max_four min_four   -- for this text's walks alone
set_option linter.unusedVariables false
set_option linter.unusedSimpArgs false

/-! ### AUX texts -/
/-- A text cut at a mark. -/
def cutL (c : UInt8) : List UInt8 → List (List UInt8)
 | [] => [[]]
 | b :: l => if b = c then [] :: cutL c l else match cutL c l with
  | [] => [[b]]
  | w :: ws => (b :: w) :: ws
theorem cutL_ne (c : UInt8) : ∀ l, cutL c l ≠ []
 | [] => by simp [cutL]
 | b :: l => by
  unfold cutL
  split
  ·simp
  ·split <;> simp
theorem indexByte_miss (c : UInt8) : ∀ l : List UInt8, Lib.indexByte l c = -1 → l.count c = 0
 | [], _ => rfl
 | b :: l, h => by
  unfold Lib.indexByte at h
  by_cases e : b = c
  ·rw [if_pos (by simpa using e)] at h; cases h
  ·rw [if_neg (by simpa using e)] at h
   by_cases h1 : Lib.indexByte l c = -1
   ·rw [List.count_cons_of_ne e, indexByte_miss c l h1]
   ·rw [if_neg (by simpa using h1)] at h
    have := Lib.indexByte_ge l c
    omega
theorem splitK_cut (c : UInt8) : ∀ l : List UInt8, Lib.splitK [c] 0 (Lib.count l [c]) l = cutL c l
 | [] => by
  rw [Lib.count_one]
  rfl
 | b :: l => by
  have ih := splitK_cut c l
  by_cases e : b = c
  ·subst e
   rw [Lib.count_cons_eq, Nat.add_comm]
   unfold Lib.splitK cutL
   have hi : Lib.index (b :: l) [b] = 0 := by rw [Lib.index_one]; unfold Lib.indexByte; rw [if_pos (by simp)]
   rw [hi, if_neg (by decide), if_pos rfl]
   simp only [List.length_singleton, Int.toNat_zero, Nat.zero_add, List.take_zero, List.drop_succ_cons, List.drop_zero]
   rw [ih]
  ·rw [Lib.count_cons_ne _ _ _ e]
   unfold cutL
   rw [if_neg e, ← ih]
   cases hk : Lib.count l [c] with
   | zero => rfl
   | succ k =>
    have hx : Lib.index l [c] ≠ -1 := by
     intro h
     rw [Lib.index_one] at h
     have := indexByte_miss c l h
     rw [Lib.count_one] at hk
     omega
    have h0 := Lib.indexByte_ge l c
    have h1 : Lib.index (b :: l) [c] = Lib.index l [c] + 1 := by
     rw [Lib.index_one, Lib.index_one] at *
     conv => lhs; unfold Lib.indexByte
     rw [if_neg (by simpa using e), if_neg (by simpa using hx)]
    rw [← Lib.index_one] at h0
    unfold Lib.splitK
    rw [h1, if_neg (by simp; omega), if_neg (by simpa using hx)]
    dsimp only
    rw [show (Lib.index l [c] + 1).toNat = (Lib.index l [c]).toNat + 1 by omega]
    simp only [Nat.add_zero, List.take_succ_cons, List.length_singleton, List.drop_succ_cons]
/-- Words with a mark between them. -/
def joinL (c : UInt8) : List (List UInt8) → List UInt8
 | [] => []
 | [w] => w
 | w :: v :: ws => w ++ c :: joinL c (v :: ws)
theorem cutL_word (c : UInt8) : ∀ w : List UInt8, c ∉ w → cutL c w = [w]
 | [], _ => rfl
 | b :: w, h => by
  unfold cutL
  rw [if_neg (fun e => h (by rw [e]; exact List.mem_cons_self ..)), cutL_word c w (fun q => h (List.mem_cons_of_mem _ q))]
theorem cutL_first (c : UInt8) (r : List UInt8) : ∀ w : List UInt8, c ∉ w → cutL c (w ++ c :: r) = w :: cutL c r
 | [], _ => by
  show cutL c (c :: r) = _
  conv => lhs; unfold cutL
  rw [if_pos rfl]
 | b :: w, h => by
  show cutL c (b :: (w ++ c :: r)) = _
  conv => lhs; unfold cutL
  rw [if_neg (fun e => h (by rw [e]; exact List.mem_cons_self ..)), cutL_first c r w (fun q => h (List.mem_cons_of_mem _ q))]
theorem cutL_join (c : UInt8) : ∀ ws : List (List UInt8), ws ≠ [] → (∀ w ∈ ws, c ∉ w) → cutL c (joinL c ws) = ws
 | [], h, _ => absurd rfl h
 | [w], _, h => cutL_word c w (h w (by simp))
 | w :: v :: ws, _, h => by
  show cutL c (w ++ c :: joinL c (v :: ws)) = _
  rw [cutL_first c _ w (h w (by simp)), cutL_join c (v :: ws) (by simp) (fun x hx => h x (List.mem_cons_of_mem _ hx))]
theorem join_cutL (c : UInt8) : ∀ l : List UInt8, joinL c (cutL c l) = l
 | [] => rfl
 | b :: l => by
  have ih := join_cutL c l
  have hne := cutL_ne c l
  unfold cutL
  by_cases e : b = c
  ·rw [if_pos e]
   cases hq : cutL c l with
   | nil => exact absurd hq hne
   | cons v ws =>
    rw [hq] at ih
    show [] ++ c :: joinL c (v :: ws) = _
    rw [ih, e]
    rfl
  ·rw [if_neg e]
   cases hq : cutL c l with
   | nil => exact absurd hq hne
   | cons v ws =>
    rw [hq] at ih
    cases ws with
    | nil => show b :: v = b :: l; rw [show v = l from ih]
    | cons u us =>
     show b :: (v ++ c :: joinL c (u :: us)) = b :: l
     rw [show v ++ c :: joinL c (u :: us) = l from ih]
theorem cutL_free (c : UInt8) : ∀ (l w : List UInt8), w ∈ cutL c l → c ∉ w
 | [], w, h => by
  have : w = [] := by simpa [cutL] using h
  rw [this]; simp
 | b :: l, w, h => by
  have ih := cutL_free c l
  have hne := cutL_ne c l
  unfold cutL at h
  by_cases e : b = c
  ·rw [if_pos e] at h
   rcases List.mem_cons.1 h with rfl | h
   ·simp
   ·exact ih w h
  ·rw [if_neg e] at h
   cases hq : cutL c l with
   | nil => exact absurd hq hne
   | cons v ws =>
    rw [hq] at h ih
    rcases List.mem_cons.1 h with rfl | h
    ·intro hc
     rcases List.mem_cons.1 hc with rfl | hc
     ·exact e rfl
     ·exact ih v (by simp) hc
    ·exact ih w (List.mem_cons_of_mem _ h)
/-- Digits read to their number. -/
theorem parseM_append (M : Nat) : ∀ (l1 l2 : List UInt8) (acc : Nat), Lib.parseUintM M acc (l1 ++ l2) = match Lib.parseUintM M acc l1 with
  | .ok a => Lib.parseUintM M a l2
  | .syntax => .syntax
  | .range => .range
 | [], _, _ => rfl
 | c :: l1, l2, acc => by
  simp only [List.cons_append, Lib.parseUintM]
  split
  ·split
   ·rfl
   ·split
    ·rfl
    ·exact parseM_append M l1 l2 _
  ·rfl
theorem parseM_dec (u : Nat) (hu : u ≤ 18446744073709551615) : Lib.parseUintM 18446744073709551615 0 (Lib.decDigits u) = .ok u := by
 induction u using Nat.strongRecOn with
 | _ u ih =>
  have dig : ∀ d, d < 10 → (UInt8.ofNat (48 + d)).toNat = 48 + d := by decide
  unfold Lib.decDigits
  by_cases h : u < 10
  ·rw [dif_pos h]
   unfold Lib.parseUintM
   rw [dig u h, if_pos (by omega), if_neg (by omega), if_neg (by omega)]
   unfold Lib.parseUintM
   congr 1
   omega
  ·rw [dif_neg h, parseM_append, ih (u / 10) (by omega) (by omega)]
   dsimp only
   unfold Lib.parseUintM
   rw [dig (u % 10) (by omega), if_pos (by omega), if_neg (by omega), if_neg (by omega)]
   unfold Lib.parseUintM
   congr 1
   omega
theorem dec_digit (u : Nat) : (∀ b ∈ Lib.decDigits u, 48 ≤ b.toNat ∧ b.toNat ≤ 57) ∧ Lib.decDigits u ≠ [] := by
 induction u using Nat.strongRecOn with
 | _ u ih =>
  have dig : ∀ d, d < 10 → (UInt8.ofNat (48 + d)).toNat = 48 + d := by decide
  unfold Lib.decDigits
  by_cases h : u < 10
  ·rw [dif_pos h]
   refine ⟨fun b hb => ?_, by simp⟩
   obtain rfl := List.mem_singleton.1 hb
   rw [dig u h]
   omega
  ·rw [dif_neg h]
   refine ⟨fun b hb => ?_, by simp⟩
   rcases List.mem_append.1 hb with hb | hb
   ·exact (ih (u / 10) (by omega)).1 b hb
   ·obtain rfl := List.mem_singleton.1 hb
    rw [dig (u % 10) (by omega)]
    omega
theorem itoa_bytes (n : Int) : ∀ b ∈ Lib.itoa n, b.toNat = 45 ∨ (48 ≤ b.toNat ∧ b.toNat ≤ 57) := by
 intro b hb
 unfold Lib.itoa at hb
 split at hb
 ·rcases List.mem_cons.1 hb with rfl | hb
  ·exact .inl rfl
  ·exact .inr ((dec_digit _).1 b hb)
 ·exact .inr ((dec_digit _).1 b hb)
theorem parse_itoa (n : Int) (h0 : -9223372036854775808 ≤ n) (h1 : n ≤ 9223372036854775807) : Lib.parseIntB 64 (Lib.itoa n) = .ok n := by
 have key : ∀ u : Nat, u ≤ 18446744073709551615 → Lib.parseUintB 64 (Lib.decDigits u) = .ok u := by
  intro u hu
  unfold Lib.parseUintB
  rw [if_neg (dec_digit u).2]
  exact parseM_dec u hu
 have e63 : (2 : Nat) ^ (64 - 1) = 9223372036854775808 := by decide
 unfold Lib.itoa
 by_cases hn : n < 0
 ·have c1 : (UInt8.toNat 45 = 43 ∨ UInt8.toNat 45 = 45) := .inr rfl
  have c2 : UInt8.toNat 45 = 45 := rfl
  rw [if_pos hn]
  unfold Lib.parseIntB
  simp only [if_pos c1]
  rw [key _ (by omega)]
  dsimp only
  rw [e63, if_neg (fun h => h.1 c2), if_neg (fun h => by have := h.2; omega), if_pos c2]
  congr 1
  omega
 ·rw [if_neg hn]
  have hne := (dec_digit n.toNat).2
  have hd := (dec_digit n.toNat).1
  have hk := key n.toNat (by omega)
  cases hq : Lib.decDigits n.toNat with
  | nil => exact absurd hq hne
  | cons c r =>
   rw [hq] at hd hk
   have hc := hd c (by simp)
   have c1 : ¬ (c.toNat = 43 ∨ c.toNat = 45) := by omega
   have c2 : ¬ c.toNat = 45 := by omega
   unfold Lib.parseIntB
   simp only [if_neg c1]
   rw [hk]
   dsimp only
   rw [e63, if_neg (fun h => by have := h.2; omega), if_neg (fun h => c2 h.1), if_neg c2]
   congr 1
   omega

end Go.Proofs.YtbgokpobaemibaaDoor.Pa

namespace Go.Proofs.YtbgokpobaemibaaDoor.Pa
open Go.RowKit Go.Proofs.YtbgokpobaemibaaDoorW.PrintWords Go.Proofs.YtbgokpobaemibaaDoorW.PrintLast Go.Proofs.YtbgokpobaemibaaDoorW.PrintMore
attribute [local go_sem] max2_int min2_int max_two min_two max_three min_three max_four min_four   -- for this text's walks alone
set_option linter.unusedVariables false
set_option linter.unusedSimpArgs false

/-! ### AUX readT -/
/-- The number with a text, where there is one. -/
def rdDec (w : List UInt8) : Option Int := match Lib.parseIntB 64 w with
 | .ok v => if Lib.itoa v = w ∧ -1000000000000000 ≤ v ∧ v ≤ 1000000000000000 then some v else none
 | _ => none
theorem rdDec_iff (w : List UInt8) (v : Int) : rdDec w = some v ↔ w = Lib.itoa v ∧ -1000000000000000 ≤ v ∧ v ≤ 1000000000000000 := by
 constructor
 ·intro h
  unfold rdDec at h
  cases hp : Lib.parseIntB 64 w with
  | ok u =>
   rw [hp] at h
   dsimp only at h
   by_cases hc : Lib.itoa u = w ∧ -1000000000000000 ≤ u ∧ u ≤ 1000000000000000
   ·rw [if_pos hc] at h
    obtain rfl := Option.some.inj h
    exact ⟨hc.1.symm, hc.2⟩
   ·rw [if_neg hc] at h; cases h
  | «syntax» => rw [hp] at h; cases h
  | range => rw [hp] at h; cases h
 ·rintro ⟨rfl, h0, h1⟩
  unfold rdDec
  rw [parse_itoa v (by omega) (by omega)]
  dsimp only
  rw [if_pos ⟨rfl, h0, h1⟩]
/-- Three numbers with points between them. -/
def textThree (b : Int × Int × Int) : List UInt8 := joinL 46 [Lib.itoa b.1, Lib.itoa b.2.1, Lib.itoa b.2.2]
def rdThree (w : List UInt8) : Option (Int × Int × Int) := match cutL 46 w with
 | [x, y, z] => (rdDec x).bind fun a => (rdDec y).bind fun b => (rdDec z).bind fun c => some (a, b, c)
 | _ => none
def inThree (b : Int × Int × Int) : Prop := (-1000000000000000 ≤ b.1 ∧ b.1 ≤ 1000000000000000) ∧ (-1000000000000000 ≤ b.2.1 ∧ b.2.1 ≤ 1000000000000000) ∧ (-1000000000000000 ≤ b.2.2 ∧ b.2.2 ≤ 1000000000000000)
theorem itoa_free (c : UInt8) (hc : c.toNat = 44 ∨ c.toNat = 46) (v : Int) : c ∉ Lib.itoa v := fun h => by
 have := itoa_bytes v c h
 omega
theorem rdThree_iff (w : List UInt8) (b : Int × Int × Int) : rdThree w = some b ↔ w = textThree b ∧ inThree b := by
 obtain ⟨a, b, c⟩ := b
 have free : ∀ x ∈ [Lib.itoa a, Lib.itoa b, Lib.itoa c], (46 : UInt8) ∉ x := by
  intro x hx
  simp only [List.mem_cons, List.not_mem_nil, or_false] at hx
  rcases hx with rfl | rfl | rfl <;> exact itoa_free 46 (.inr rfl) _
 constructor
 ·intro h
  unfold rdThree at h
  cases hq : cutL 46 w with
  | nil => rw [hq] at h; cases h
  | cons x t =>
   cases t with
   | nil => rw [hq] at h; cases h
   | cons y t =>
    cases t with
    | nil => rw [hq] at h; cases h
    | cons z t =>
     cases t with
     | cons _ _ => rw [hq] at h; cases h
     | nil =>
      rw [hq] at h
      dsimp only at h
      obtain ⟨a', ha, h⟩ := Option.bind_eq_some_iff.mp h
      obtain ⟨b', hb, h⟩ := Option.bind_eq_some_iff.mp h
      obtain ⟨c', hc, h⟩ := Option.bind_eq_some_iff.mp h
      have h := Option.some.inj h
      simp only [Prod.mk.injEq] at h
      obtain ⟨rfl, rfl, rfl⟩ := h
      have e1 := (rdDec_iff _ _).1 ha
      have e2 := (rdDec_iff _ _).1 hb
      have e3 := (rdDec_iff _ _).1 hc
      refine ⟨?_, e1.2, e2.2, e3.2⟩
      rw [← join_cutL 46 w, hq, e1.1, e2.1, e3.1]
      rfl
 ·rintro ⟨rfl, h1, h2, h3⟩
  unfold rdThree textThree
  rw [cutL_join 46 _ (by simp) free]
  dsimp only
  rw [(rdDec_iff _ _).2 ⟨rfl, h1⟩, (rdDec_iff _ _).2 ⟨rfl, h2⟩, (rdDec_iff _ _).2 ⟨rfl, h3⟩]
  rfl
theorem three_free (b : Int × Int × Int) : (44 : UInt8) ∉ textThree b := by
 intro h
 have e44 : ∀ v, (44 : UInt8) ∉ Lib.itoa v := itoa_free 44 (.inl rfl)
 unfold textThree joinL joinL joinL at h
 simp only [List.mem_append, List.mem_cons] at h
 rcases h with h | h | h | h | h
 ·exact e44 _ h
 ·exact absurd h (by decide)
 ·exact e44 _ h
 ·exact absurd h (by decide)
 ·exact e44 _ h
/-- All words read, or none. -/
def rdAll : List (List UInt8) → Option (List (Int × Int × Int))
 | [] => some []
 | w :: ws => (rdThree w).bind fun b => (rdAll ws).bind fun l => some (b :: l)
theorem rdAll_iff : ∀ (ws : List (List UInt8)) (bs : List (Int × Int × Int)), rdAll ws = some bs ↔ ws = bs.map textThree ∧ ∀ b ∈ bs, inThree b
 | [], bs => by
  constructor
  ·intro h
   obtain rfl := Option.some.inj h
   exact ⟨rfl, by simp⟩
  ·rintro ⟨h, _⟩
   cases bs with
   | nil => rfl
   | cons _ _ => cases h
 | w :: ws, bs => by
  constructor
  ·intro h
   obtain ⟨b, hb, h⟩ := Option.bind_eq_some_iff.mp h
   obtain ⟨l, hl, h⟩ := Option.bind_eq_some_iff.mp h
   obtain rfl := Option.some.inj h
   have e1 := (rdThree_iff _ _).1 hb
   have e2 := (rdAll_iff ws l).1 hl
   refine ⟨by rw [List.map_cons, e1.1, e2.1], fun x hx => ?_⟩
   rcases List.mem_cons.1 hx with rfl | hx
   ·exact e1.2
   ·exact e2.2 x hx
  ·rintro ⟨h, hin⟩
   cases bs with
   | nil => cases h
   | cons b l =>
    rw [List.map_cons] at h
    injection h with h1 h2
    unfold rdAll
    rw [(rdThree_iff _ _).2 ⟨h1, hin b (by simp)⟩, Option.bind_some, (rdAll_iff ws l).2 ⟨h2, fun x hx => hin x (List.mem_cons_of_mem _ hx)⟩]
    rfl
/-- A diagram's text; and a text read. -/
def textD (n : Int) (bs : List (Int × Int × Int)) : List UInt8 := joinL 44 (Lib.itoa n :: bs.map textThree)
def rdD (s : List UInt8) : Option (Int × List (Int × Int × Int)) := match cutL 44 s with
 | [] => none
 | w :: ws => (rdDec w).bind fun n => (rdAll ws).bind fun bs => some (n, bs)
theorem rdD_iff (s : List UInt8) (n : Int) (bs : List (Int × Int × Int)) : rdD s = some (n, bs) ↔ s = textD n bs ∧ (-1000000000000000 ≤ n ∧ n ≤ 1000000000000000) ∧ ∀ b ∈ bs, inThree b := by
 constructor
 ·intro h
  unfold rdD at h
  cases hq : cutL 44 s with
  | nil => exact absurd hq (cutL_ne 44 s)
  | cons w ws =>
   rw [hq] at h
   dsimp only at h
   obtain ⟨n', hn, h⟩ := Option.bind_eq_some_iff.mp h
   obtain ⟨l, hl, h⟩ := Option.bind_eq_some_iff.mp h
   have h := Option.some.inj h
   simp only [Prod.mk.injEq] at h
   obtain ⟨rfl, rfl⟩ := h
   have e1 := (rdDec_iff _ _).1 hn
   have e2 := (rdAll_iff _ _).1 hl
   refine ⟨?_, e1.2, e2.2⟩
   unfold textD
   rw [← e1.1, ← e2.1, ← hq, join_cutL]
 ·rintro ⟨rfl, hn, hb⟩
  unfold rdD textD
  rw [cutL_join 44 _ (by simp) (fun w hw => by
   rcases List.mem_cons.1 hw with rfl | hw
   ·exact itoa_free 44 (.inl rfl) n
   ·obtain ⟨b, _, rfl⟩ := List.mem_map.1 hw
    exact three_free b)]
  dsimp only
  rw [(rdDec_iff _ _).2 ⟨rfl, hn⟩, Option.bind_some, (rdAll_iff _ _).2 ⟨rfl, hb⟩]
  rfl

end Go.Proofs.YtbgokpobaemibaaDoor.Pa

namespace Go.Proofs.YtbgokpobaemibaaDoor.Pa
open Go.RowKit Go.Proofs.YtbgokpobaemibaaDoorW.PrintWords Go.Proofs.YtbgokpobaemibaaDoorW.PrintLast Go.Proofs.YtbgokpobaemibaaDoorW.PrintMore
attribute [local go_sem] max2_int min2_int max_two min_two max_three min_three max_four min_four   -- for this text's walks alone
set_option linter.unusedVariables false
set_option linter.unusedSimpArgs false

/-! ### spec_l00In: function 49 -/
def spec_l00In.f (a0 : Int) (a1 : Int) (a2 : Int) : Option (Bool) := if a0 ≥ a1 then (some (decide (a0 ≤ a2))) else (some false)
set_option maxHeartbeats 8000000 in
set_option maxRecDepth 100000 in
theorem spec_l00In.calls (a0 : Int) (a1 : Int) (a2 : Int) (r : Bool) (w : World) (h : spec_l00In.f a0 a1 a2 = some r) :
  Calls Tryd.prog 49 #[.int .i64 a0, .int .i64 a1, .int .i64 a2] w fun e w' => e = .returned (.bool r) ∧ Drawn0 w w' := by
 have H : (if a0 ≥ a1 then (some (decide (a0 ≤ a2))) else (some false)) = some r := h
 clear h
 by_cases c4 : a0 ≥ a1
 ·rw [if_pos c4] at H
  have c4b0 : decide (a1 ≤ a0) = true := decide_eq_true c4
  clear c4
  obtain rfl := Option.some.inj H
  go_enter Tryd.func49, Tryd.ntmps49
  go_wp2
  go_ret
  exact ⟨by first | rfl | (simp; done) | (simp [*]; done), by repeat (first | exact Drawn0.refl _ | apply Drawn0.step)⟩
 ·rw [if_neg c4] at H
  have c4b0 : decide (a1 ≤ a0) = false := decide_eq_false c4
  clear c4
  obtain rfl := Option.some.inj H
  go_enter Tryd.func49, Tryd.ntmps49
  go_wp2
  go_ret
  exact ⟨by first | rfl | (simp; done) | (simp [*]; done), by repeat (first | exact Drawn0.refl _ | apply Drawn0.step)⟩

end Go.Proofs.YtbgokpobaemibaaDoor.Pa

namespace Go.Proofs.YtbgokpobaemibaaDoor.Pa
open Go.RowKit Go.Proofs.YtbgokpobaemibaaDoorW.PrintWords Go.Proofs.YtbgokpobaemibaaDoorW.PrintLast Go.Proofs.YtbgokpobaemibaaDoorW.PrintMore
attribute [local go_sem] max2_int min2_int max_two min_two max_three min_three max_four min_four   -- for this text's walks alone
set_option linter.unusedVariables false
set_option linter.unusedSimpArgs false

/-! ### spec_l04Bound: function 50 -/
def spec_l04Bound.f (a0 : Int) (a1_0 : Int) (a1_1 : Int) (a1_2 : Int) : Option (Bool) := (spec_l00In.f a1_0 0 (wrap64 (a0 - 1))).bind fun t399 => (if t399 = true then ((spec_l00In.f a1_1 0 (wrap64 (a0 - 1))).bind fun t400 => (if t400 = true then (if a1_0 = a1_1 then (some false) else ((spec_l00In.f a1_2 (-1000) 1000).bind fun t401 => (some t401))) else (some false))) else (some false))
set_option maxHeartbeats 8000000 in
set_option maxRecDepth 100000 in
theorem spec_l04Bound.calls (a0 : Int) (a1_0 : Int) (a1_1 : Int) (a1_2 : Int) (r : Bool) (w : World) (h : spec_l04Bound.f a0 a1_0 a1_1 a1_2 = some r) :
  Calls Tryd.prog 50 #[.int .i64 a0, .agg #[.int .i64 a1_0, .int .i64 a1_1, .int .i64 a1_2]] w fun e w' => e = .returned (.bool r) ∧ Below w.heap.size w w' := by
 have hu39 := Tryd.underlying39
 have HB := Aside0.mk (Below.refl w.heap.size w)
 have H : ((spec_l00In.f a1_0 0 (wrap64 (a0 - 1))).bind fun t399 => (if t399 = true then ((spec_l00In.f a1_1 0 (wrap64 (a0 - 1))).bind fun t400 => (if t400 = true then (if a1_0 = a1_1 then (some false) else ((spec_l00In.f a1_2 (-1000) 1000).bind fun t401 => (some t401))) else (some false))) else (some false))) = some r := h
 clear h
 replace H := Option.bind_eq_some_iff.mp H
 obtain ⟨t399, A30, H⟩ := H
 replace H : (if t399 = true then ((spec_l00In.f a1_1 0 (wrap64 (a0 - 1))).bind fun t400 => (if t400 = true then (if a1_0 = a1_1 then (some false) else ((spec_l00In.f a1_2 (-1000) 1000).bind fun t401 => (some t401))) else (some false))) else (some false)) = some r := H
 have A3 := Aside0.mk A30
 clear A30
 by_cases c4 : t399 = true
 ·subst c4
  have H1 : ((spec_l00In.f a1_1 0 (wrap64 (a0 - 1))).bind fun t400 => (if t400 = true then (if a1_0 = a1_1 then (some false) else ((spec_l00In.f a1_2 (-1000) 1000).bind fun t401 => (some t401))) else (some false))) = some r := by rw [if_pos rfl] at H; exact H
  clear H
  have H := H1
  clear H1
  replace H := Option.bind_eq_some_iff.mp H
  obtain ⟨t400, A50, H⟩ := H
  replace H : (if t400 = true then (if a1_0 = a1_1 then (some false) else ((spec_l00In.f a1_2 (-1000) 1000).bind fun t401 => (some t401))) else (some false)) = some r := H
  have A5 := Aside0.mk A50
  clear A50
  by_cases c6 : t400 = true
  ·subst c6
   have H1 : (if a1_0 = a1_1 then (some false) else ((spec_l00In.f a1_2 (-1000) 1000).bind fun t401 => (some t401))) = some r := by rw [if_pos rfl] at H; exact H
   clear H
   have H := H1
   clear H1
   by_cases c7 : a1_0 = a1_1
   ·rw [if_pos c7] at H
    have c7b0 : (a1_0 == a1_1) = true := beq_iff_eq.mpr c7
    have c7b1 : (a1_0 != a1_1) = false := bne_eq_false_iff_eq.mpr c7
    clear c7
    obtain rfl := Option.some.inj H
    go_enter Tryd.func50, Tryd.ntmps50
    go_wp2_with (first | ((with_reducible refine gate_dst (N := 3) rfl ?_); refine box_event ?hg (N := 3) ?hd (cs := #[.int .i64 a1_0, .int .i64 a1_1, .int .i64 a1_2]) (t := 39) ?hr ?_; (case hd => rfl); (case hg => rfl); (case hr => first | (go_simp; done) | (go_simp; rfl)); intro gb398 hg w8 hbox hb; have n0_ := Aside0.mk (below_step (by repeat (first | (with_reducible first | exact HB.out | apply below_alloc | apply pw_below_drewN | apply below_drew1) | exact HB.out)) hb); have n1_ := Aside0.mk (hbox); have n2_ := Aside0.mk ((by rw [hg]; exact (below_size (by repeat (first | (with_reducible first | exact HB.out | apply below_alloc | apply pw_below_drewN | apply below_drew1) | exact HB.out))) : w.heap.size ≤ gb398)); have n3_ := Aside0.mk ((by rw [hg]; exact (below_size (by repeat (first | (with_reducible first | exact HB.out | apply below_alloc | apply pw_below_drewN | apply below_drew1) | exact HB.out))) : w.heap.size ≤ gb398)); clear HB; have HB := n0_; have BK398 := n1_; have GW398 := n2_; have GE398 := n3_; clear n0_ n1_ n2_ n3_; clear hb hbox hg; have hcz9_0 : w8.cell? ⟨gb398, 0, none⟩ = some (.int .i64 a1_0) := (blk_cell BK398.out 0).trans rfl; have hcz9_1 : w8.cell? ⟨gb398, 1, none⟩ = some (.int .i64 a1_1) := (blk_cell BK398.out 1).trans rfl; have hcz9_2 : w8.cell? ⟨gb398, 2, none⟩ = some (.int .i64 a1_2) := (blk_cell BK398.out 2).trans rfl; have hfz9_0 := blk_frozen BK398.out 0; have hfz9_1 := blk_frozen BK398.out 1; have hfz9_2 := blk_frozen BK398.out 2) | ((with_reducible refine gate_callee (f := 49) rfl ?_); refine goesL_ (some 9) rfl rfl Tryd.func49 (by kernel_rfl) rfl #[.int .i64 a1_0, .int .i64 0, .int .i64 (wrap64 (a0 - 1))] rfl (by (try simp only [List.map_toArray, List.map_cons, List.map_nil]); first | done | rfl | (simp only [List.length_drop, List.length_take]; rfl)) ?_; (with_reducible refine (spec_l00In.calls a1_0 0 (wrap64 (a0 - 1)) true _ A3.out).mono ?_); rintro e w' ⟨rfl, ⟨nd, rfl⟩⟩; refine ⟨_, rfl, ?_⟩) | (go_at_call 49; (with_reducible refine (spec_l00In.calls a1_1 0 (wrap64 (a0 - 1)) true _ A5.out).mono ?_); rintro e w' ⟨rfl, ⟨nd, rfl⟩⟩))
    go_ret
    exact ⟨by first | rfl | (simp [errW_none, errW_some] <;> rfl) | (simp [*, errW_none, errW_some] <;> rfl), by repeat (first | (with_reducible first | exact HB.out | apply below_alloc | apply pw_below_drewN | apply below_drew1 | refine below_set ?_ GE398.out) | exact HB.out)⟩
   ·rw [if_neg c7] at H
    have c7b0 : (a1_0 == a1_1) = false := beq_eq_false_iff_ne.mpr c7
    have c7b1 : (a1_0 != a1_1) = true := bne_iff_ne.mpr c7
    replace H := Option.bind_eq_some_iff.mp H
    obtain ⟨t401, A100, H⟩ := H
    replace H : (some t401) = some r := H
    have A10 := Aside0.mk A100
    clear A100
    obtain rfl := Option.some.inj H
    go_enter Tryd.func50, Tryd.ntmps50
    go_wp2_with (first | ((with_reducible refine gate_dst (N := 3) rfl ?_); refine box_event ?hg (N := 3) ?hd (cs := #[.int .i64 a1_0, .int .i64 a1_1, .int .i64 a1_2]) (t := 39) ?hr ?_; (case hd => rfl); (case hg => rfl); (case hr => first | (go_simp; done) | (go_simp; rfl)); intro gb398 hg w11 hbox hb; have n0_ := Aside0.mk (below_step (by repeat (first | (with_reducible first | exact HB.out | apply below_alloc | apply pw_below_drewN | apply below_drew1) | exact HB.out)) hb); have n1_ := Aside0.mk (hbox); have n2_ := Aside0.mk ((by rw [hg]; exact (below_size (by repeat (first | (with_reducible first | exact HB.out | apply below_alloc | apply pw_below_drewN | apply below_drew1) | exact HB.out))) : w.heap.size ≤ gb398)); have n3_ := Aside0.mk ((by rw [hg]; exact (below_size (by repeat (first | (with_reducible first | exact HB.out | apply below_alloc | apply pw_below_drewN | apply below_drew1) | exact HB.out))) : w.heap.size ≤ gb398)); clear HB; have HB := n0_; have BK398 := n1_; have GW398 := n2_; have GE398 := n3_; clear n0_ n1_ n2_ n3_; clear hb hbox hg; have hcz12_0 : w11.cell? ⟨gb398, 0, none⟩ = some (.int .i64 a1_0) := (blk_cell BK398.out 0).trans rfl; have hcz12_1 : w11.cell? ⟨gb398, 1, none⟩ = some (.int .i64 a1_1) := (blk_cell BK398.out 1).trans rfl; have hcz12_2 : w11.cell? ⟨gb398, 2, none⟩ = some (.int .i64 a1_2) := (blk_cell BK398.out 2).trans rfl; have hfz12_0 := blk_frozen BK398.out 0; have hfz12_1 := blk_frozen BK398.out 1; have hfz12_2 := blk_frozen BK398.out 2) | ((with_reducible refine gate_callee (f := 49) rfl ?_); refine goesL_ (some 9) rfl rfl Tryd.func49 (by kernel_rfl) rfl #[.int .i64 a1_0, .int .i64 0, .int .i64 (wrap64 (a0 - 1))] rfl (by (try simp only [List.map_toArray, List.map_cons, List.map_nil]); first | done | rfl | (simp only [List.length_drop, List.length_take]; rfl)) ?_; (with_reducible refine (spec_l00In.calls a1_0 0 (wrap64 (a0 - 1)) true _ A3.out).mono ?_); rintro e w' ⟨rfl, ⟨nd, rfl⟩⟩; refine ⟨_, rfl, ?_⟩) | (go_at_call 49; (with_reducible refine (spec_l00In.calls a1_1 0 (wrap64 (a0 - 1)) true _ A5.out).mono ?_); rintro e w' ⟨rfl, ⟨nd, rfl⟩⟩) | (go_at_call 49; (with_reducible refine (spec_l00In.calls a1_2 (-1000) 1000 t401 _ A10.out).mono ?_); rintro e w' ⟨rfl, ⟨nd, rfl⟩⟩))
    go_ret
    exact ⟨by first | rfl | (simp [errW_none, errW_some] <;> rfl) | (simp [*, errW_none, errW_some] <;> rfl), by repeat (first | (with_reducible first | exact HB.out | apply below_alloc | apply pw_below_drewN | apply below_drew1 | refine below_set ?_ GE398.out) | exact HB.out)⟩
  ·replace c6 := Bool.eq_false_iff.mpr c6
   subst c6
   have H1 : (some false) = some r := by rw [if_neg (show ¬ (false = true) by decide)] at H; exact H
   clear H
   have H := H1
   clear H1
   obtain rfl := Option.some.inj H
   go_enter Tryd.func50, Tryd.ntmps50
   go_wp2_with (first | ((with_reducible refine gate_dst (N := 3) rfl ?_); refine box_event ?hg (N := 3) ?hd (cs := #[.int .i64 a1_0, .int .i64 a1_1, .int .i64 a1_2]) (t := 39) ?hr ?_; (case hd => rfl); (case hg => rfl); (case hr => first | (go_simp; done) | (go_simp; rfl)); intro gb398 hg w13 hbox hb; have n0_ := Aside0.mk (below_step (by repeat (first | (with_reducible first | exact HB.out | apply below_alloc | apply pw_below_drewN | apply below_drew1) | exact HB.out)) hb); have n1_ := Aside0.mk (hbox); have n2_ := Aside0.mk ((by rw [hg]; exact (below_size (by repeat (first | (with_reducible first | exact HB.out | apply below_alloc | apply pw_below_drewN | apply below_drew1) | exact HB.out))) : w.heap.size ≤ gb398)); have n3_ := Aside0.mk ((by rw [hg]; exact (below_size (by repeat (first | (with_reducible first | exact HB.out | apply below_alloc | apply pw_below_drewN | apply below_drew1) | exact HB.out))) : w.heap.size ≤ gb398)); clear HB; have HB := n0_; have BK398 := n1_; have GW398 := n2_; have GE398 := n3_; clear n0_ n1_ n2_ n3_; clear hb hbox hg; have hcz14_0 : w13.cell? ⟨gb398, 0, none⟩ = some (.int .i64 a1_0) := (blk_cell BK398.out 0).trans rfl; have hcz14_1 : w13.cell? ⟨gb398, 1, none⟩ = some (.int .i64 a1_1) := (blk_cell BK398.out 1).trans rfl; have hcz14_2 : w13.cell? ⟨gb398, 2, none⟩ = some (.int .i64 a1_2) := (blk_cell BK398.out 2).trans rfl; have hfz14_0 := blk_frozen BK398.out 0; have hfz14_1 := blk_frozen BK398.out 1; have hfz14_2 := blk_frozen BK398.out 2) | ((with_reducible refine gate_callee (f := 49) rfl ?_); refine goesL_ (some 9) rfl rfl Tryd.func49 (by kernel_rfl) rfl #[.int .i64 a1_0, .int .i64 0, .int .i64 (wrap64 (a0 - 1))] rfl (by (try simp only [List.map_toArray, List.map_cons, List.map_nil]); first | done | rfl | (simp only [List.length_drop, List.length_take]; rfl)) ?_; (with_reducible refine (spec_l00In.calls a1_0 0 (wrap64 (a0 - 1)) true _ A3.out).mono ?_); rintro e w' ⟨rfl, ⟨nd, rfl⟩⟩; refine ⟨_, rfl, ?_⟩) | (go_at_call 49; (with_reducible refine (spec_l00In.calls a1_1 0 (wrap64 (a0 - 1)) false _ A5.out).mono ?_); rintro e w' ⟨rfl, ⟨nd, rfl⟩⟩))
   go_ret
   exact ⟨by first | rfl | (simp [errW_none, errW_some] <;> rfl) | (simp [*, errW_none, errW_some] <;> rfl), by repeat (first | (with_reducible first | exact HB.out | apply below_alloc | apply pw_below_drewN | apply below_drew1 | refine below_set ?_ GE398.out) | exact HB.out)⟩
 ·replace c4 := Bool.eq_false_iff.mpr c4
  subst c4
  have H1 : (some false) = some r := by rw [if_neg (show ¬ (false = true) by decide)] at H; exact H
  clear H
  have H := H1
  clear H1
  obtain rfl := Option.some.inj H
  go_enter Tryd.func50, Tryd.ntmps50
  go_wp2_with (first | ((with_reducible refine gate_dst (N := 3) rfl ?_); refine box_event ?hg (N := 3) ?hd (cs := #[.int .i64 a1_0, .int .i64 a1_1, .int .i64 a1_2]) (t := 39) ?hr ?_; (case hd => rfl); (case hg => rfl); (case hr => first | (go_simp; done) | (go_simp; rfl)); intro gb398 hg w15 hbox hb; have n0_ := Aside0.mk (below_step (by repeat (first | (with_reducible first | exact HB.out | apply below_alloc | apply pw_below_drewN | apply below_drew1) | exact HB.out)) hb); have n1_ := Aside0.mk (hbox); have n2_ := Aside0.mk ((by rw [hg]; exact (below_size (by repeat (first | (with_reducible first | exact HB.out | apply below_alloc | apply pw_below_drewN | apply below_drew1) | exact HB.out))) : w.heap.size ≤ gb398)); have n3_ := Aside0.mk ((by rw [hg]; exact (below_size (by repeat (first | (with_reducible first | exact HB.out | apply below_alloc | apply pw_below_drewN | apply below_drew1) | exact HB.out))) : w.heap.size ≤ gb398)); clear HB; have HB := n0_; have BK398 := n1_; have GW398 := n2_; have GE398 := n3_; clear n0_ n1_ n2_ n3_; clear hb hbox hg; have hcz16_0 : w15.cell? ⟨gb398, 0, none⟩ = some (.int .i64 a1_0) := (blk_cell BK398.out 0).trans rfl; have hcz16_1 : w15.cell? ⟨gb398, 1, none⟩ = some (.int .i64 a1_1) := (blk_cell BK398.out 1).trans rfl; have hcz16_2 : w15.cell? ⟨gb398, 2, none⟩ = some (.int .i64 a1_2) := (blk_cell BK398.out 2).trans rfl; have hfz16_0 := blk_frozen BK398.out 0; have hfz16_1 := blk_frozen BK398.out 1; have hfz16_2 := blk_frozen BK398.out 2) | ((with_reducible refine gate_callee (f := 49) rfl ?_); refine goesL_ (some 9) rfl rfl Tryd.func49 (by kernel_rfl) rfl #[.int .i64 a1_0, .int .i64 0, .int .i64 (wrap64 (a0 - 1))] rfl (by (try simp only [List.map_toArray, List.map_cons, List.map_nil]); first | done | rfl | (simp only [List.length_drop, List.length_take]; rfl)) ?_; (with_reducible refine (spec_l00In.calls a1_0 0 (wrap64 (a0 - 1)) false _ A3.out).mono ?_); rintro e w' ⟨rfl, ⟨nd, rfl⟩⟩; refine ⟨_, rfl, ?_⟩))
  go_ret
  exact ⟨by first | rfl | (simp [errW_none, errW_some] <;> rfl) | (simp [*, errW_none, errW_some] <;> rfl), by repeat (first | (with_reducible first | exact HB.out | apply below_alloc | apply pw_below_drewN | apply below_drew1 | refine below_set ?_ GE398.out) | exact HB.out)⟩

end Go.Proofs.YtbgokpobaemibaaDoor.Pa

namespace Go.Proofs.YtbgokpobaemibaaDoor.Pa
open Go.RowKit Go.Proofs.YtbgokpobaemibaaDoorW.PrintWords Go.Proofs.YtbgokpobaemibaaDoorW.PrintLast Go.Proofs.YtbgokpobaemibaaDoorW.PrintMore
attribute [local go_sem] max2_int min2_int max_two min_two max_three min_three max_four min_four   -- for this text's walks alone
set_option linter.unusedVariables false
set_option linter.unusedSimpArgs false

/-- A state of type 26 at block g of W; what its slices lead to came in by w0. -/
def IsS26 (w0 W : World) (g : Nat) (f0 : Int) (f1 : List (S39)) : Prop := ∃ A1 c1, W.heap[g]? = some (.cells #[.int .i64 f0, .slice A1 f1.length c1] 26 (0, 0)) ∧ w0.heap.size ≤ g ∧ Kd.C k39 w0 A1 f1.length f1
theorem IsS26.grown {w0 W : World} {g : Nat} {f0 : Int} {f1 : List (S39)} {W1 : World} {row : Option Nat} (h : IsS26 w0 W g f0 f1) (hw : W.grownBy W1 row) (hne : some g ≠ row) : IsS26 w0 W1 g f0 f1 := by
 obtain ⟨A1, c1, hb, hg, hr1⟩ := h
 exact ⟨A1, c1, blk_grown hb hw hne, hg, hr1⟩
theorem IsS26.own_neN {w0 W : World} {g : Nat} {f0 : Int} {f1 : List (S39)} {α : Type} {d : Kd α} {e : Nat} {base : Nat} {ok : Nat → Prop} {v : Value} {xs : List α} (h : IsS26 w0 W g f0 f1) (ho : Kd.N d e W base ok v xs) (ht : e ≠ 26) : some g ≠ v.ownBlock := by
 obtain ⟨A1, c1, hb, hg, hr1⟩ := h
 exact Kd.N_ne ho hb ht
theorem IsS26.fresh {w0 W : World} {g : Nat} {f0 : Int} {f1 : List (S39)} (h : IsS26 w0 W g f0 f1) : ∀ k, W.heap.size ≤ k → k ≠ g := by
 obtain ⟨A1, c1, hb, hg, hr1⟩ := h
 exact Kd.freshB hb
theorem IsS26.kept {w0 W : World} {g : Nat} {f0 : Int} {f1 : List (S39)} {W1 : World} {S : Nat → Prop} (h : IsS26 w0 W g f0 f1) (hk : Kept W W1 S) (hne : ¬ S g) : IsS26 w0 W1 g f0 f1 := by
 obtain ⟨A1, c1, hb, hg, hr1⟩ := h
 exact ⟨A1, c1, blk_kept hb hk hne, hg, hr1⟩
theorem IsS26.below {w0 W : World} {g : Nat} {f0 : Int} {f1 : List (S39)} {W1 : World} (h : IsS26 w0 W g f0 f1) (hw : Below W.heap.size W W1) : IsS26 w0 W1 g f0 f1 := h.grown (grown_of_below hw none) (by simp)
theorem IsS26.alloc {w0 W : World} {g : Nat} {f0 : Int} {f1 : List (S39)} (h : IsS26 w0 W g f0 f1) (o : Obj) : IsS26 w0 (W.alloc o) g f0 f1 := h.below (below_alloc (Below.refl _ _) o)
theorem IsS26.drewN {w0 W : World} {g : Nat} {f0 : Int} {f1 : List (S39)} (h : IsS26 w0 W g f0 f1) (m : Nat) : IsS26 w0 (W.drewN m) g f0 f1 := h
theorem IsS26.drew {w0 W : World} {g : Nat} {f0 : Int} {f1 : List (S39)} (h : IsS26 w0 W g f0 f1) : IsS26 w0 W.drew g f0 f1 := h
theorem IsS26.at_ {w0 W : World} {g : Nat} {f0 : Int} {f1 : List (S39)} {w' : World} {m : Nat} (hq : W.drewN m = w') (h : IsS26 w0 W g f0 f1) : IsS26 w0 w' g f0 f1 := by subst hq; exact IsS26.drewN h m
theorem IsS26.apart {w0 W : World} {g : Nat} {f0 : Int} {f1 : List (S39)} {α : Type} {d : Kd α} {e : Nat} {base : Nat} {ok : Nat → Prop} {v : Value} {xs : List α} (h : IsS26 w0 W g f0 f1) (ho : d.R e W base ok v xs) (ht : ∀ q, q ∈ e :: d.E → q ≠ 26) : d.R e W base (fun k => ok k ∧ k ≠ g) v xs := by
 obtain ⟨A1, c1, hb, hg, hr1⟩ := h
 exact Kd.R_types ho hb ht
theorem IsS26.own_ne {w0 W : World} {g : Nat} {f0 : Int} {f1 : List (S39)} {α : Type} {d : Kd α} {e : Nat} {base : Nat} {ok : Nat → Prop} {v : Value} {xs : List α} (h : IsS26 w0 W g f0 f1) (ho : d.R e W base ok v xs) (ht : e ≠ 26) : some g ≠ v.ownBlock := by
 obtain ⟨A1, c1, hb, hg, hr1⟩ := h
 exact Kd.R_ne ho hb ht
theorem IsS26.apartQ {w0 W : World} {g : Nat} {f0 : Int} {f1 : List (S39)} {α : Type} {d : Kd α} {e : Nat} {base : Nat} {ok : Nat → Prop} {v : Value} {xs : List α} (h : IsS26 w0 W g f0 f1) (ho : d.Q e W base ok v xs) (ht : ∀ q, q ∈ e :: d.E → q ≠ 26) : d.Q e W base (fun k => ok k ∧ k ≠ g) v xs := by
 obtain ⟨A1, c1, hb, hg, hr1⟩ := h
 exact Kd.Q_types ho hb ht
theorem IsS26.own_neQ {w0 W : World} {g : Nat} {f0 : Int} {f1 : List (S39)} {α : Type} {d : Kd α} {e : Nat} {base : Nat} {ok : Nat → Prop} {v : Value} {xs : List α} (h : IsS26 w0 W g f0 f1) (ho : d.Q e W base ok v xs) (ht : e ≠ 26) : some g ≠ v.ownBlock := by
 obtain ⟨A1, c1, hb, hg, hr1⟩ := h
 exact Kd.Q_ne ho hb ht
theorem IsS26.apartS {w0 W : World} {g : Nat} {f0 : Int} {f1 : List (S39)} {α : Type} {d : Kd α} {e : Nat} {base : Nat} {ok : Nat → Prop} {v : Value} {xs : List α} (h : IsS26 w0 W g f0 f1) (ho : d.S e W base ok v xs) (ht : ∀ q, q ∈ e :: d.E → q ≠ 26) : d.S e W base (fun k => ok k ∧ k ≠ g) v xs := by
 obtain ⟨A1, c1, hb, hg, hr1⟩ := h
 exact Kd.S_types ho hb ht
theorem IsS26.own_neS {w0 W : World} {g : Nat} {f0 : Int} {f1 : List (S39)} {α : Type} {d : Kd α} {e : Nat} {base : Nat} {ok : Nat → Prop} {v : Value} {xs : List α} (h : IsS26 w0 W g f0 f1) (ho : d.S e W base ok v xs) (ht : e ≠ 26) : some g ≠ v.ownBlock := by
 obtain ⟨A1, c1, hb, hg, hr1⟩ := h
 exact Kd.S_ne ho hb ht
theorem IsS26.lt {w0 W : World} {g : Nat} {f0 : Int} {f1 : List (S39)} (h : IsS26 w0 W g f0 f1) : g < W.heap.size := by
 obtain ⟨A1, c1, hb, hg, hr1⟩ := h
 exact blk_lt hb
theorem IsS26.ge {w0 W : World} {g : Nat} {f0 : Int} {f1 : List (S39)} (h : IsS26 w0 W g f0 f1) : w0.heap.size ≤ g := by
 obtain ⟨A1, c1, hb, hg, hr1⟩ := h
 exact hg
theorem IsS26.ne_blk {w0 W : World} {g : Nat} {f0 : Int} {f1 : List (S39)} {a : Nat} {cs : Array Value} {t : TypeId} {fr : Nat × Nat} (h : IsS26 w0 W g f0 f1) (hb2 : W.heap[a]? = some (.cells cs t fr)) (ht : t ≠ 26) : g ≠ a := by
 obtain ⟨A1, c1, hb, hg, hr1⟩ := h
 rintro rfl
 rw [hb] at hb2
 injection hb2 with hb2
 injection hb2 with _ ht2
 exact ht ht2.symm
theorem IsS26.far {w0 W : World} {g : Nat} {f0 : Int} {f1 : List (S39)} {p : Addr} (h : IsS26 w0 W g f0 f1) (hne : g ≠ p.block) (u : Value) : IsS26 w0 (W.setCell p u) g f0 f1 := by
 obtain ⟨A1, c1, hb, hg, hr1⟩ := h
 exact ⟨A1, c1, blk_far hb hne u, hg, hr1⟩
theorem cellS26_0 {W : World} {g : Nat} {A1 : Option Addr} {c1 : Nat} {f0 : Int} {f1 : List (S39)} (h : W.heap[g]? = some (.cells #[.int .i64 f0, .slice A1 f1.length c1] 26 (0, 0))) : W.cell? ⟨g, 0, none⟩ = some (.int .i64 f0) := (blk_cell h 0).trans rfl
theorem IsS26.set_0 {w0 W : World} {g : Nat} {f0 : Int} {f1 : List (S39)} (h : IsS26 w0 W g f0 f1) (x : Int) : IsS26 w0 (W.setCell ⟨g, 0, none⟩ (.int .i64 x)) g x f1 := by
 obtain ⟨A1, c1, hb, hg, hr1⟩ := h
 exact ⟨A1, c1, by simpa using blk_set hb 0 (.int .i64 x), hg, hr1⟩
theorem cellS26_1 {W : World} {g : Nat} {A1 : Option Addr} {c1 : Nat} {f0 : Int} {f1 : List (S39)} (h : W.heap[g]? = some (.cells #[.int .i64 f0, .slice A1 f1.length c1] 26 (0, 0))) : W.cell? ⟨g, 1, none⟩ = some (.slice A1 f1.length c1) := (blk_cell h 1).trans rfl
theorem IsS26.new (w0 W : World) (A1 : Option Addr) (c1 : Nat) (f0 : Int) (f1 : List (S39)) (hB : Below w0.heap.size w0 W) (hr1 : Kd.C k39 w0 A1 f1.length f1) : IsS26 w0 (W.alloc (.cells #[.int .i64 f0, .slice A1 f1.length c1] 26)) W.heap.size f0 f1 := ⟨A1, c1, by simpa using heap_alloc_new W _, hB.size, hr1⟩

/-! ### spec_l04Is: function 34 -/
/-- What a diagram must be. -/
def boundOkS (n : Int) (b : S39) : Bool := decide (0 ≤ b.f0) && decide (b.f0 ≤ n - 1) && (decide (0 ≤ b.f1) && decide (b.f1 ≤ n - 1)) && !(b.f0 == b.f1) && (decide (-1000 ≤ b.f2) && decide (b.f2 ≤ 1000))
def diagramOkS (n : Int) (l : List S39) : Bool := decide (1 ≤ n) && decide (n ≤ 10) && decide (l.length ≤ 24) && l.all (boundOkS n)
theorem l04Bound_tells (a b c n : Int) (h0 : 1 ≤ n) (h1 : n ≤ 10) : spec_l04Bound.f n a b c = some (boundOkS n ⟨a, b, c⟩) := by
 have hw : wrap64 (n - 1) = n - 1 := by unfold wrap64; omega
 have hin : ∀ x l u : Int, spec_l00In.f x l u = some (decide (l ≤ x) && decide (x ≤ u)) := by
  intro x l u
  unfold spec_l00In.f
  by_cases h : l ≤ x <;> simp [h]
 unfold spec_l04Bound.f boundOkS
 simp only [hin, hw, Option.bind_some]
 by_cases h2 : 0 ≤ a <;> by_cases h3 : a ≤ n - 1 <;> by_cases h4 : 0 ≤ b <;> by_cases h5 : b ≤ n - 1 <;> by_cases h6 : a = b <;> simp [h2, h3, h4, h5, h6]
def spec_l04Is.f (s0_0 : Int) (s0_1 : List (S39)) : Option (Bool × Int) := some (diagramOkS s0_0 s0_1, s0_0)
def allOkS (n : Int) (l : List S39) : Bool := l.all (boundOkS n)
theorem allOkS_step (n x : Int) (l : List S39) (h0 : 0 ≤ x) (h1 : x < (l.length : Int)) : allOkS n (l.drop x.toNat) = (boundOkS n (rd_T39 l x) && allOkS n (l.drop (x + 1).toNat)) := by
 rw [List.drop_eq_getElem_cons (by omega), show (x + 1).toNat = x.toNat + 1 from by omega]
 unfold rd_T39 allOkS
 rw [List.getD_eq_getElem?_getD, List.getElem?_eq_getElem (by omega), List.all_cons]
 rfl
set_option maxHeartbeats 4000000 in
set_option maxRecDepth 100000 in
theorem l04Is_walk (g : Nat) (n : Int) (l : List (S39)) (A : Option Addr) (c : Nat) (w0 w : World) (hb : w.heap[g]? = some (.cells #[.int .i64 n, .slice A l.length c] 26 (0, 0)))
  (hr : Kd.C k39 w0 A l.length l) (hB : Below w0.heap.size w0 w) :
  Calls Tryd.prog 34 #[.pointer (some ⟨g, 0, none⟩)] w fun e w' => e = .returned (.bool (diagramOkS n l)) ∧ Below w.heap.size w w' := by
 have hu := Tryd.underlying26
 have hu2 := Tryd.underlying39
 have c0 : w.cell? ⟨g, 0, none⟩ = some (.int .i64 n) := (blk_cell hb 0).trans rfl
 have c1 : w.cell? ⟨g, 1, none⟩ = some (.slice A l.length c) := (blk_cell hb 1).trans rfl
 have HC0 := Aside0.mk c0
 have HC1 := Aside0.mk c1
 have HR := Aside0.mk hr
 have HB0 := Aside0.mk hB
 have hlen : l.length ≤ 9223372036854775807 := hr.2.1
 clear hr hB hb
 by_cases hn : 1 ≤ n ∧ n ≤ 10
 ·obtain ⟨h0, h1⟩ := hn
  have HW : Aside0 (spec_l00In.f n 1 10 = some true) := ⟨by unfold spec_l00In.f; rw [if_pos h0, decide_eq_true h1]⟩
  by_cases hl : l.length ≤ 24
  ·have d1 : decide ((24 : Int) < (l.length : Int)) = false := decide_eq_false (by omega)
   have d2 : decide (24 < l.length) = false := decide_eq_false (by omega)
   have HE : Aside0 (diagramOkS n l = allOkS n l) := ⟨by unfold diagramOkS allOkS; rw [decide_eq_true h0, decide_eq_true h1, decide_eq_true hl]; simp⟩
   have H0 := Aside0.mk h0
   have H1 := Aside0.mk h1
   clear h0 h1 hl
   generalize diagramOkS n l = q at HE ⊢
   go_enter Tryd.func34, Tryd.ntmps34
   go_wp2_with (go_at_call 49; refine (spec_l00In.calls _ _ _ true _ HW.out).mono ?_; rintro e w' ⟨rfl, ⟨nd, rfl⟩⟩)
   clear c0 c1
   go_loopg [3] l.length (fun gg s3 wr => ∃ x : Int, s3 = .int .i64 x ∧ Aside0 (0 ≤ x ∧ x ≤ l.length ∧ (l.length : Int) - x ≤ gg) ∧ Aside0 (Below w.heap.size w wr) ∧ Aside0 (allOkS n l = allOkS n (l.drop x.toNat)))
   case atStart => exact ⟨0, rfl, ⟨by omega⟩, ⟨pw_below_drewN (Below.refl _ _) nd⟩, ⟨rfl⟩⟩
   case round =>
    obtain ⟨x, rfl, HX, HB, HF⟩ := hrel
    have c0 : wr.cell? ⟨g, 0, none⟩ = some (.int .i64 n) := pw_cell_below HB.out HC0.out
    have c1 : wr.cell? ⟨g, 1, none⟩ = some (.slice A l.length c) := pw_cell_below HB.out HC1.out
    by_cases hlt : x < (l.length : Int)
    ·have t0 : decide (0 ≤ x) = true := decide_eq_true HX.out.1
     have t1 : decide (x < (l.length : Int)) = true := decide_eq_true hlt
     have HL := Aside0.mk hlt
     clear hlt
     obtain ⟨ad, e, e0, e1, e2⟩ := at_T39 HR.out x HX.out.1 HL.out
     cases e
     replace e0 := pw_cell_below HB.out ((HB0.out.cell (World.block_lt_of_cell? w0 _ e0)).trans e0)
     replace e1 := pw_cell_below HB.out ((HB0.out.cell (World.block_lt_of_cell? w0 _ e1)).trans e1)
     replace e2 := pw_cell_below HB.out ((HB0.out.cell (World.block_lt_of_cell? w0 _ e2)).trans e2)
     have HD := Aside0.mk (allOkS_step n x l HX.out.1 HL.out)
     have HQ := Aside0.mk (l04Bound_tells (rd_T39 l x).f0 (rd_T39 l x).f1 (rd_T39 l x).f2 n H0.out H1.out)
     have p0 := eq_true HX.out.1
     have p1 := eq_true HL.out
     cases hq : boundOkS n (rd_T39 l x) with
     | true =>
      rw [show boundOkS n ⟨(rd_T39 l x).f0, (rd_T39 l x).f1, (rd_T39 l x).f2⟩ = true from hq] at HQ
      have HQ2 := Aside0.mk hq
      clear hq
      go_wp2
      go_region_held3 (fun w' => Aside0 (Below wr.heap.size wr w') ∧ w'.cell? ⟨g, 0, none⟩ = some (.int .i64 n) ∧ w'.cell? ⟨g, 1, none⟩ = some (.slice (some ad) l.length c) ∧ w'.cell? (ad.add (x.toNat * 3)) = some (.int .i64 (rd_T39 l x).f0) ∧ w'.cell? ⟨(ad.add (x.toNat * 3)).block, (ad.add (x.toNat * 3)).off + 1, none⟩ = some (.int .i64 (rd_T39 l x).f1) ∧ w'.cell? ⟨(ad.add (x.toNat * 3)).block, (ad.add (x.toNat * 3)).off + 2, none⟩ = some (.int .i64 (rd_T39 l x).f2)) ((first | exact ⟨⟨below_drew (Below.refl _ _)⟩, c0, c1, e0, e1, e2⟩ | exact ⟨⟨below_step (below_drew (Below.refl _ _)) hb'⟩, pw_cell_below hb' c0, pw_cell_below hb' c1, pw_cell_below hb' e0, pw_cell_below hb' e1, pw_cell_below hb' e2⟩)) ((go_at_call 50; refine (spec_l04Bound.calls _ _ _ _ true _ HQ.out).mono ?_; rintro e w' ⟨rfl, hb'⟩))
      go_wp2
      have hx1 := HX.out
      have hl1 := HL.out
      have hb2 := below_step HB.out (below_step (below_drew (Below.refl wr.heap.size wr)) hb')
      go_roundg ((l.length : Int) - (x + 1)).toNat
      case measure => omega
      case rel =>
       have hw1 : wrap64 (x + 1) = x + 1 := by unfold wrap64; omega
       refine ⟨x + 1, by rw [hw1], ⟨by omega⟩, ⟨hb2⟩, ⟨?_⟩⟩
       rw [HF.out, HD.out, HQ2.out]
       rfl
     | false =>
      rw [show boundOkS n ⟨(rd_T39 l x).f0, (rd_T39 l x).f1, (rd_T39 l x).f2⟩ = false from hq] at HQ
      have HQ2 := Aside0.mk hq
      clear hq
      go_wp2
      go_region_held3 (fun w' => Aside0 (Below wr.heap.size wr w') ∧ w'.cell? ⟨g, 0, none⟩ = some (.int .i64 n) ∧ w'.cell? ⟨g, 1, none⟩ = some (.slice (some ad) l.length c) ∧ w'.cell? (ad.add (x.toNat * 3)) = some (.int .i64 (rd_T39 l x).f0) ∧ w'.cell? ⟨(ad.add (x.toNat * 3)).block, (ad.add (x.toNat * 3)).off + 1, none⟩ = some (.int .i64 (rd_T39 l x).f1) ∧ w'.cell? ⟨(ad.add (x.toNat * 3)).block, (ad.add (x.toNat * 3)).off + 2, none⟩ = some (.int .i64 (rd_T39 l x).f2)) ((first | exact ⟨⟨below_drew (Below.refl _ _)⟩, c0, c1, e0, e1, e2⟩ | exact ⟨⟨below_step (below_drew (Below.refl _ _)) hb'⟩, pw_cell_below hb' c0, pw_cell_below hb' c1, pw_cell_below hb' e0, pw_cell_below hb' e1, pw_cell_below hb' e2⟩)) ((go_at_call 50; refine (spec_l04Bound.calls _ _ _ _ false _ HQ.out).mono ?_; rintro e w' ⟨rfl, hb'⟩))
      go_wp2
      have hb2 := below_step HB.out (below_step (below_drew (Below.refl wr.heap.size wr)) hb')
      go_ret
      refine ⟨?_, hb2⟩
      rw [HE.out, HF.out, HD.out, HQ2.out]
      rfl
    ·have t1 : decide (x < (l.length : Int)) = false := decide_eq_false hlt
     have HL := Aside0.mk hlt
     clear hlt
     go_wp2
     go_ret
     refine ⟨?_, HB.out⟩
     have hx := HX.out
     have hl := HL.out
     rw [HE.out, HF.out, List.drop_of_length_le (by omega)]
     rfl
  ·have d1 : decide ((24 : Int) < (l.length : Int)) = true := decide_eq_true (by omega)
   have d2 : decide (24 < l.length) = true := decide_eq_true (by omega)
   have HE : Aside0 (diagramOkS n l = false) := ⟨by unfold diagramOkS; rw [decide_eq_false hl]; simp⟩
   clear h0 h1 hl
   generalize diagramOkS n l = q at HE ⊢
   go_enter Tryd.func34, Tryd.ntmps34
   go_wp2_with (go_at_call 49; refine (spec_l00In.calls _ _ _ true _ HW.out).mono ?_; rintro e w' ⟨rfl, ⟨nd, rfl⟩⟩)
   go_ret
   exact ⟨by rw [HE.out]; rfl, pw_below_drewN (Below.refl _ _) nd⟩
 ·have HW : Aside0 (spec_l00In.f n 1 10 = some false) := ⟨by
   unfold spec_l00In.f
   split
   ·rw [decide_eq_false (by omega)]
   ·rfl⟩
  have HE : Aside0 (diagramOkS n l = false) := ⟨by
   unfold diagramOkS
   by_cases h0 : 1 ≤ n
   ·rw [decide_eq_false (show ¬ n ≤ 10 by omega)]; simp
   ·rw [decide_eq_false h0]; simp⟩
  clear hn
  generalize diagramOkS n l = q at HE ⊢
  go_enter Tryd.func34, Tryd.ntmps34
  go_wp2_with (go_at_call 49; refine (spec_l00In.calls _ _ _ false _ HW.out).mono ?_; rintro e w' ⟨rfl, ⟨nd, rfl⟩⟩)
  go_ret
  exact ⟨by rw [HE.out]; rfl, pw_below_drewN (Below.refl _ _) nd⟩
theorem spec_l04Is.calls (g : Nat) (s0_0 : Int) (s0_1 : List (S39)) (r1 : Bool) (r2 : Int) (w0 w : World) (hI : IsS26 w0 w g s0_0 s0_1) (hB : Below w0.heap.size w0 w) (h : spec_l04Is.f s0_0 s0_1 = some (r1, r2)) :
  Calls Tryd.prog 34 #[.pointer (some ⟨g, 0, none⟩)] w fun e w' => e = .returned (.bool r1) ∧ IsS26 w0 w' g r2 s0_1 ∧ Below w0.heap.size w0 w' ∧ KeepBut w w' g none := by
 simp only [spec_l04Is.f, Option.some.injEq, Prod.mk.injEq] at h
 obtain ⟨rfl, rfl⟩ := h
 obtain ⟨A, c, hb, hg, hr⟩ := id hI
 exact (l04Is_walk g s0_0 s0_1 A c w0 w hb hr hB).mono fun e w' ⟨he, hb'⟩ => ⟨he, hI.below hb', below_step hB hb', KeepBut.of_below hb' g none⟩

end Go.Proofs.YtbgokpobaemibaaDoor.Pa

namespace Go.Proofs.YtbgokpobaemibaaDoor.Pa
open Go.RowKit Go.Proofs.YtbgokpobaemibaaDoorW.PrintWords Go.Proofs.YtbgokpobaemibaaDoorW.PrintLast Go.Proofs.YtbgokpobaemibaaDoorW.PrintMore
attribute [local go_sem] max2_int min2_int max_two min_two max_three min_three max_four min_four   -- for this text's walks alone
set_option linter.unusedVariables false
set_option linter.unusedSimpArgs false

/-! ### spec_l04Text: function 35 -/
def spec_l04Text.l0 : Nat → ByteArray → Int → Int → List (S39) → Option (ByteArray × Int)
 | 0, _, _, _, _ => none
 | k + 1, x3, x4, x1000, x1001 => if x4 < (x1001.length : Int) then (if 0 ≤ x4 then ((spec_l01Dec.f k ((rd_T39 x1001 x4).f0)).bind fun t405 => (if 1 + t405.size ≤ 9223372036854775807 then (if ((⟨#[44]⟩ : ByteArray) ++ t405).size + 1 ≤ 9223372036854775807 then ((spec_l01Dec.f k ((rd_T39 x1001 x4).f1)).bind fun t406 => (if (((⟨#[44]⟩ : ByteArray) ++ t405) ++ (⟨#[46]⟩ : ByteArray)).size + t406.size ≤ 9223372036854775807 then (if ((((⟨#[44]⟩ : ByteArray) ++ t405) ++ (⟨#[46]⟩ : ByteArray)) ++ t406).size + 1 ≤ 9223372036854775807 then ((spec_l01Dec.f k ((rd_T39 x1001 x4).f2)).bind fun t407 => (if (((((⟨#[44]⟩ : ByteArray) ++ t405) ++ (⟨#[46]⟩ : ByteArray)) ++ t406) ++ (⟨#[46]⟩ : ByteArray)).size + t407.size ≤ 9223372036854775807 then (if x3.size + ((((((⟨#[44]⟩ : ByteArray) ++ t405) ++ (⟨#[46]⟩ : ByteArray)) ++ t406) ++ (⟨#[46]⟩ : ByteArray)) ++ t407).size ≤ 9223372036854775807 then (spec_l04Text.l0 k (x3 ++ ((((((⟨#[44]⟩ : ByteArray) ++ t405) ++ (⟨#[46]⟩ : ByteArray)) ++ t406) ++ (⟨#[46]⟩ : ByteArray)) ++ t407)) (wrap64 (x4 + 1)) x1000 x1001) else (none)) else (none))) else (none)) else (none))) else (none)) else (none))) else (none)) else (some (x3, x1000))
def spec_l04Text.f (k : Nat) (s0_0 : Int) (s0_1 : List (S39)) : Option (ByteArray × Int) := (spec_l01Dec.f k s0_0).bind fun t402 => (spec_l04Text.l0 k t402 0 s0_0 s0_1)
theorem spec_l04Text.mono_l : ∀ k, (∀ y0 y1 y2 y3, LeO (spec_l04Text.l0 k y0 y1 y2 y3) (spec_l04Text.l0 (k + 1) y0 y1 y2 y3))
 | 0 => fun _ _ _ _ r h => by simp [spec_l04Text.l0] at h
 | k + 1 => by
  have ih0 := spec_l04Text.mono_l k
  ·intro y0 y1 y2 y3
   unfold spec_l04Text.l0
   repeat' first
   | (with_reducible exact ih0 _ _ _ _)
   | (with_reducible exact spec_l01Dec.mono _ _)
   | (with_reducible exact LeO.refl _)
   | (with_reducible exact LeO.none _)
   | (with_reducible refine LeO.ite ?_ ?_)
   | (with_reducible refine LeO.bind ?_ (fun _ => ?_))
   | exact ih0 _ _ _ _
   | exact spec_l01Dec.mono _ _
   | exact LeO.none _
   | refine LeO.ite ?_ ?_
   | refine LeO.bind ?_ (fun _ => ?_)
theorem spec_l04Text.mono : ∀ a0 a1 k, LeO (spec_l04Text.f k a0 a1) (spec_l04Text.f (k + 1) a0 a1) := by
 intro a0 a1 k
 have ih0 := spec_l04Text.mono_l k
 unfold spec_l04Text.f
 repeat' first
   | (with_reducible exact ih0 _ _ _ _)
   | (with_reducible exact spec_l01Dec.mono _ _)
   | (with_reducible exact LeO.refl _)
   | (with_reducible exact LeO.none _)
   | (with_reducible refine LeO.ite ?_ ?_)
   | (with_reducible refine LeO.bind ?_ (fun _ => ?_))
   | exact ih0 _ _ _ _
   | exact spec_l01Dec.mono _ _
   | exact LeO.none _
   | refine LeO.ite ?_ ?_
   | refine LeO.bind ?_ (fun _ => ?_)
def spec_l04Text.T6 : Bool × List (List Nat × List Nat) := (true, [([], []), ([], []), ([1], [1]), ([2], [2]), ([3], [3]), ([4], [4]), ([], []), ([6], [6]), ([7, 3], [7]), ([5, 8], [5, 8]), ([9], [9]), ([], []), ([11], [11]), ([12, 8], [12]), ([10, 13], [10, 13]), ([0, 14], [0, 14]), ([15, 13, 0, 1, 2, 3, 4, 5, 6, 7, 8, 9, 10, 11, 12, 13, 14, 15], [0, 15])])
def spec_l04Text.B6 : List Nat := [0, 0, 2, 6, 14, 30, 0, 64, 206, 510, 1022, 0, 2048, 6606, 16382, 32767, 65535]
theorem spec_l04Text.tab6 : rtab .any (opsOf Tryd.f35 6) = spec_l04Text.T6 := by kernel_rfl
theorem spec_l04Text.bits6 : waitsOk spec_l04Text.T6.2 spec_l04Text.B6 = true := by kernel_rfl
/-- A diagram that lies in a box, whenever that was made. -/
def IsD26 (w0 W : World) (g : Nat) (f0 : Int) (f1 : List (S39)) : Prop := ∃ A1 c1, W.heap[g]? = some (.cells #[.int .i64 f0, .slice A1 f1.length c1] 26 (0, 0)) ∧ True ∧ Kd.C k39 w0 A1 f1.length f1
theorem IsD26.grown {w0 W : World} {g : Nat} {f0 : Int} {f1 : List (S39)} {W1 : World} {row : Option Nat} (h : IsD26 w0 W g f0 f1) (hw : W.grownBy W1 row) (hne : some g ≠ row) : IsD26 w0 W1 g f0 f1 := by
 obtain ⟨A1, c1, hb, hg, hr1⟩ := h
 exact ⟨A1, c1, blk_grown hb hw hne, hg, hr1⟩
theorem IsD26.below {w0 W : World} {g : Nat} {f0 : Int} {f1 : List (S39)} {W1 : World} (h : IsD26 w0 W g f0 f1) (hw : Below W.heap.size W W1) : IsD26 w0 W1 g f0 f1 := h.grown (grown_of_below hw none) (by simp)
theorem IsD26.alloc {w0 W : World} {g : Nat} {f0 : Int} {f1 : List (S39)} (h : IsD26 w0 W g f0 f1) (o : Obj) : IsD26 w0 (W.alloc o) g f0 f1 := h.below (below_alloc (Below.refl _ _) o)
theorem IsD26.drewN {w0 W : World} {g : Nat} {f0 : Int} {f1 : List (S39)} (h : IsD26 w0 W g f0 f1) (m : Nat) : IsD26 w0 (W.drewN m) g f0 f1 := h
theorem IsD26.drew {w0 W : World} {g : Nat} {f0 : Int} {f1 : List (S39)} (h : IsD26 w0 W g f0 f1) : IsD26 w0 W.drew g f0 f1 := h
theorem IsD26.lt {w0 W : World} {g : Nat} {f0 : Int} {f1 : List (S39)} (h : IsD26 w0 W g f0 f1) : g < W.heap.size := by
 obtain ⟨A1, c1, hb, hg, hr1⟩ := h
 exact blk_lt hb
theorem IsD26.far {w0 W : World} {g : Nat} {f0 : Int} {f1 : List (S39)} {p : Addr} (h : IsD26 w0 W g f0 f1) (hne : g ≠ p.block) (u : Value) : IsD26 w0 (W.setCell p u) g f0 f1 := by
 obtain ⟨A1, c1, hb, hg, hr1⟩ := h
 exact ⟨A1, c1, blk_far hb hne u, hg, hr1⟩
set_option maxHeartbeats 8000000 in
set_option maxRecDepth 100000 in
theorem spec_l04Text.calls (k : Nat) (g : Nat) (s0_0 : Int) (s0_1 : List (S39)) (r1 : ByteArray) (r2 : Int) (w0 w : World) (hI : IsD26 w0 w g s0_0 s0_1) (hB : Below w0.heap.size w0 w) (h : spec_l04Text.f k s0_0 s0_1 = some (r1, r2)) :
  Calls Tryd.prog 35 #[.pointer (some ⟨g, 0, none⟩)] w fun e w' => e = .returned (.string r1) ∧ IsD26 w0 w' g r2 s0_1 ∧ Below w0.heap.size w0 w' ∧ KeepBut w w' g none := by
 have hu39 := Tryd.underlying39
 have HI0 := Aside0.mk hI
 have HK := Aside0.mk (KeepBut.refl w g none)
 have HL := Aside0.mk hB.size
 clear hI
 have HW0 := Aside0.mk hB.size
 have HB := Aside0.mk hB
 clear hB
 have H : ((spec_l01Dec.f k s0_0).bind fun t402 => (spec_l04Text.l0 k t402 0 s0_0 s0_1)) = some (r1, r2) := h
 clear h
 replace H := Option.bind_eq_some_iff.mp H
 obtain ⟨t402, A20, H⟩ := H
 replace H : (spec_l04Text.l0 k t402 0 s0_0 s0_1) = some (r1, r2) := H
 have A2 := Aside0.mk A20
 clear A20
 have H' := Aside0.mk H
 clear H
 obtain ⟨ASz3_1, cSz3_1, HGz3, hgz3, HSz3_1⟩ := HI0.out
 have hcz3_0 := cellS26_0 HGz3
 have hcz3_1 := cellS26_1 HGz3
 have hfz3_0 := blk_frozen HGz3 0
 clear HGz3 hgz3
 go_enter Tryd.func35, Tryd.ntmps35
 go_wp2_with (first | ((with_reducible refine gate_callee (f := 51) rfl ?_); refine goesL_ (some 10) rfl rfl Tryd.func51 (by kernel_rfl) rfl #[.int .i64 s0_0] rfl (by (try simp only [List.map_toArray, List.map_cons, List.map_nil]); first | done | rfl | (simp only [List.length_drop, List.length_take]; rfl)) ?_; (with_reducible refine (spec_l01Dec.calls k s0_0 t402 _ A2.out).mono ?_); rintro e w4 ⟨rfl, hb⟩; refine ⟨_, rfl, ?_⟩; have n0_ := Aside0.mk (IsD26.below (by repeat (first | (with_reducible first | exact HI0.out | apply IsD26.alloc | apply IsD26.drewN | apply IsD26.drew | apply IsD26.set_0) | exact HI0.out)) hb); have n1_ := Aside0.mk (KeepBut.trans (by repeat (first | (with_reducible first | exact HK.out | apply KeepBut.set_ | apply keep_drewN | apply keep_drew | apply keep_alloc) | exact HK.out)) (KeepBut.of_below hb g none) (.inl rfl)); have n2_ := Aside0.mk (below_step (by repeat (first | (with_reducible first | exact HB.out | apply below_alloc | apply pw_below_drewN | apply below_drew1) | exact HB.out)) hb); clear HI0; clear HK; clear HB; have HI0 := n0_; have HK := n1_; have HB := n2_; clear n0_ n1_ n2_; (try clear hb); (try clear hb2); (try clear hk); (try clear hi)))
 go_loopg [3, 4] k (fun kq v3 v4 w' => ∃ (x3_1 : ByteArray) (x4_1 : Int), v3 = .string x3_1 ∧ v4 = .int .i64 x4_1 ∧ Aside0 (spec_l04Text.l0 kq x3_1 x4_1 s0_0 s0_1 = some (r1, r2)) ∧ Aside0 (kq ≤ k) ∧ Aside0 (IsD26 w0 w' g s0_0 s0_1) ∧ Aside0 (KeepBut w w' g none) ∧ Aside0 (Below w0.heap.size w0 w'))
 case atStart => exact ⟨(t402), (0), (by first | rfl | (simp; done) | (simp [*]; done)), (by first | rfl | (simp; done) | (simp [*]; done)), H', ⟨Nat.le_refl _⟩, ⟨by repeat (first | (with_reducible first | exact HI0.out | apply IsD26.alloc | apply IsD26.drewN | apply IsD26.drew | apply IsD26.set_0) | exact HI0.out)⟩, ⟨by repeat (first | (with_reducible first | exact HK.out | apply KeepBut.set_ | apply keep_drewN | apply keep_drew | apply keep_alloc) | exact HK.out)⟩, ⟨by repeat (first | (with_reducible first | exact HB.out | apply below_alloc | apply pw_below_drewN | apply below_drew1) | exact HB.out)⟩⟩
 case round =>
  clear H'
  try clear p2
  try clear c3
  try clear hcz3_0
  try clear hcz3_1
  try clear hfz3_0
  obtain ⟨x3_1, x4_1, rfl, rfl, HA, HK1, HI0, HK, HB⟩ := hrel
  cases gk with
  | zero => exact absurd HA.out (by simp [spec_l04Text.l0])
  | succ k1 =>
   have H := HA.out
   clear HA
   simp only [spec_l04Text.l0] at H
   by_cases c5 : x4_1 < (s0_1.length : Int)
   ·rw [if_pos c5] at H
    have c5b0 : decide (x4_1 < (s0_1.length : Int)) = true := decide_eq_true c5
    clear c5
    by_cases c6 : 0 ≤ x4_1
    ·rw [if_pos c6] at H
     have c6b0 : decide (0 ≤ x4_1) = true := decide_eq_true c6
     clear c6
     replace H := Option.bind_eq_some_iff.mp H
     obtain ⟨t405, A70, H⟩ := H
     replace H : (if 1 + t405.size ≤ 9223372036854775807 then (if ((⟨#[44]⟩ : ByteArray) ++ t405).size + 1 ≤ 9223372036854775807 then ((spec_l01Dec.f k1 ((rd_T39 s0_1 x4_1).f1)).bind fun t406 => (if (((⟨#[44]⟩ : ByteArray) ++ t405) ++ (⟨#[46]⟩ : ByteArray)).size + t406.size ≤ 9223372036854775807 then (if ((((⟨#[44]⟩ : ByteArray) ++ t405) ++ (⟨#[46]⟩ : ByteArray)) ++ t406).size + 1 ≤ 9223372036854775807 then ((spec_l01Dec.f k1 ((rd_T39 s0_1 x4_1).f2)).bind fun t407 => (if (((((⟨#[44]⟩ : ByteArray) ++ t405) ++ (⟨#[46]⟩ : ByteArray)) ++ t406) ++ (⟨#[46]⟩ : ByteArray)).size + t407.size ≤ 9223372036854775807 then (if x3_1.size + ((((((⟨#[44]⟩ : ByteArray) ++ t405) ++ (⟨#[46]⟩ : ByteArray)) ++ t406) ++ (⟨#[46]⟩ : ByteArray)) ++ t407).size ≤ 9223372036854775807 then (spec_l04Text.l0 k1 (x3_1 ++ ((((((⟨#[44]⟩ : ByteArray) ++ t405) ++ (⟨#[46]⟩ : ByteArray)) ++ t406) ++ (⟨#[46]⟩ : ByteArray)) ++ t407)) (wrap64 (x4_1 + 1)) s0_0 s0_1) else (none)) else (none))) else (none)) else (none))) else (none)) else (none)) = some (r1, r2) := H
     have A7 := Aside0.mk A70
     clear A70
     by_cases c8 : 1 + t405.size ≤ 9223372036854775807
     ·rw [if_pos c8] at H
      have c8b0 := eq_true c8
      have c8b1 : decide (1 + t405.size ≤ 9223372036854775807) = true := decide_eq_true c8
      try have c8b2 : (9223372036854775807 < 1 + t405.size) = False := eq_false (Nat.not_lt.2 c8)
      by_cases c9 : ((⟨#[44]⟩ : ByteArray) ++ t405).size + 1 ≤ 9223372036854775807
      ·rw [if_pos c9] at H
       have c9b0 := eq_true c9
       have c9b1 : decide (((⟨#[44]⟩ : ByteArray) ++ t405).size + 1 ≤ 9223372036854775807) = true := decide_eq_true c9
       try have c9b2 : (9223372036854775807 < ((⟨#[44]⟩ : ByteArray) ++ t405).size + 1) = False := eq_false (Nat.not_lt.2 c9)
       have c9_c_sum_ : (9223372036854775807 < 1 + t405.size + 1) = False := eq_false (Nat.not_lt.2 (by have h_ := c9; simp only [ByteArray.size_append, show (⟨#[44]⟩ : ByteArray).size = 1 from rfl] at h_; omega))
       replace H := Option.bind_eq_some_iff.mp H
       obtain ⟨t406, A100, H⟩ := H
       replace H : (if (((⟨#[44]⟩ : ByteArray) ++ t405) ++ (⟨#[46]⟩ : ByteArray)).size + t406.size ≤ 9223372036854775807 then (if ((((⟨#[44]⟩ : ByteArray) ++ t405) ++ (⟨#[46]⟩ : ByteArray)) ++ t406).size + 1 ≤ 9223372036854775807 then ((spec_l01Dec.f k1 ((rd_T39 s0_1 x4_1).f2)).bind fun t407 => (if (((((⟨#[44]⟩ : ByteArray) ++ t405) ++ (⟨#[46]⟩ : ByteArray)) ++ t406) ++ (⟨#[46]⟩ : ByteArray)).size + t407.size ≤ 9223372036854775807 then (if x3_1.size + ((((((⟨#[44]⟩ : ByteArray) ++ t405) ++ (⟨#[46]⟩ : ByteArray)) ++ t406) ++ (⟨#[46]⟩ : ByteArray)) ++ t407).size ≤ 9223372036854775807 then (spec_l04Text.l0 k1 (x3_1 ++ ((((((⟨#[44]⟩ : ByteArray) ++ t405) ++ (⟨#[46]⟩ : ByteArray)) ++ t406) ++ (⟨#[46]⟩ : ByteArray)) ++ t407)) (wrap64 (x4_1 + 1)) s0_0 s0_1) else (none)) else (none))) else (none)) else (none)) = some (r1, r2) := H
       have A10 := Aside0.mk A100
       clear A100
       by_cases c11 : (((⟨#[44]⟩ : ByteArray) ++ t405) ++ (⟨#[46]⟩ : ByteArray)).size + t406.size ≤ 9223372036854775807
       ·rw [if_pos c11] at H
        have c11b0 := eq_true c11
        have c11b1 : decide ((((⟨#[44]⟩ : ByteArray) ++ t405) ++ (⟨#[46]⟩ : ByteArray)).size + t406.size ≤ 9223372036854775807) = true := decide_eq_true c11
        try have c11b2 : (9223372036854775807 < (((⟨#[44]⟩ : ByteArray) ++ t405) ++ (⟨#[46]⟩ : ByteArray)).size + t406.size) = False := eq_false (Nat.not_lt.2 c11)
        have c11_c_sum_ : (9223372036854775807 < 1 + t405.size + 1 + t406.size) = False := eq_false (Nat.not_lt.2 (by have h_ := c11; simp only [ByteArray.size_append, show (⟨#[44]⟩ : ByteArray).size = 1 from rfl, show (⟨#[46]⟩ : ByteArray).size = 1 from rfl] at h_; omega))
        by_cases c12 : ((((⟨#[44]⟩ : ByteArray) ++ t405) ++ (⟨#[46]⟩ : ByteArray)) ++ t406).size + 1 ≤ 9223372036854775807
        ·rw [if_pos c12] at H
         have c12b0 := eq_true c12
         have c12b1 : decide (((((⟨#[44]⟩ : ByteArray) ++ t405) ++ (⟨#[46]⟩ : ByteArray)) ++ t406).size + 1 ≤ 9223372036854775807) = true := decide_eq_true c12
         try have c12b2 : (9223372036854775807 < ((((⟨#[44]⟩ : ByteArray) ++ t405) ++ (⟨#[46]⟩ : ByteArray)) ++ t406).size + 1) = False := eq_false (Nat.not_lt.2 c12)
         have c12_c_sum_ : (9223372036854775807 < 1 + t405.size + 1 + t406.size + 1) = False := eq_false (Nat.not_lt.2 (by have h_ := c12; simp only [ByteArray.size_append, show (⟨#[44]⟩ : ByteArray).size = 1 from rfl, show (⟨#[46]⟩ : ByteArray).size = 1 from rfl] at h_; omega))
         replace H := Option.bind_eq_some_iff.mp H
         obtain ⟨t407, A130, H⟩ := H
         replace H : (if (((((⟨#[44]⟩ : ByteArray) ++ t405) ++ (⟨#[46]⟩ : ByteArray)) ++ t406) ++ (⟨#[46]⟩ : ByteArray)).size + t407.size ≤ 9223372036854775807 then (if x3_1.size + ((((((⟨#[44]⟩ : ByteArray) ++ t405) ++ (⟨#[46]⟩ : ByteArray)) ++ t406) ++ (⟨#[46]⟩ : ByteArray)) ++ t407).size ≤ 9223372036854775807 then (spec_l04Text.l0 k1 (x3_1 ++ ((((((⟨#[44]⟩ : ByteArray) ++ t405) ++ (⟨#[46]⟩ : ByteArray)) ++ t406) ++ (⟨#[46]⟩ : ByteArray)) ++ t407)) (wrap64 (x4_1 + 1)) s0_0 s0_1) else (none)) else (none)) = some (r1, r2) := H
         have A13 := Aside0.mk A130
         clear A130
         by_cases c14 : (((((⟨#[44]⟩ : ByteArray) ++ t405) ++ (⟨#[46]⟩ : ByteArray)) ++ t406) ++ (⟨#[46]⟩ : ByteArray)).size + t407.size ≤ 9223372036854775807
         ·rw [if_pos c14] at H
          have c14b0 := eq_true c14
          have c14b1 : decide ((((((⟨#[44]⟩ : ByteArray) ++ t405) ++ (⟨#[46]⟩ : ByteArray)) ++ t406) ++ (⟨#[46]⟩ : ByteArray)).size + t407.size ≤ 9223372036854775807) = true := decide_eq_true c14
          try have c14b2 : (9223372036854775807 < (((((⟨#[44]⟩ : ByteArray) ++ t405) ++ (⟨#[46]⟩ : ByteArray)) ++ t406) ++ (⟨#[46]⟩ : ByteArray)).size + t407.size) = False := eq_false (Nat.not_lt.2 c14)
          have c14_c_sum_ : (9223372036854775807 < 1 + t405.size + 1 + t406.size + 1 + t407.size) = False := eq_false (Nat.not_lt.2 (by have h_ := c14; simp only [ByteArray.size_append, show (⟨#[44]⟩ : ByteArray).size = 1 from rfl, show (⟨#[46]⟩ : ByteArray).size = 1 from rfl] at h_; omega))
          by_cases c15 : x3_1.size + ((((((⟨#[44]⟩ : ByteArray) ++ t405) ++ (⟨#[46]⟩ : ByteArray)) ++ t406) ++ (⟨#[46]⟩ : ByteArray)) ++ t407).size ≤ 9223372036854775807
          ·rw [if_pos c15] at H
           have c15b0 := eq_true c15
           have c15b1 : decide (x3_1.size + ((((((⟨#[44]⟩ : ByteArray) ++ t405) ++ (⟨#[46]⟩ : ByteArray)) ++ t406) ++ (⟨#[46]⟩ : ByteArray)) ++ t407).size ≤ 9223372036854775807) = true := decide_eq_true c15
           try have c15b2 : (9223372036854775807 < x3_1.size + ((((((⟨#[44]⟩ : ByteArray) ++ t405) ++ (⟨#[46]⟩ : ByteArray)) ++ t406) ++ (⟨#[46]⟩ : ByteArray)) ++ t407).size) = False := eq_false (Nat.not_lt.2 c15)
           have c15_c_sum_ : (9223372036854775807 < x3_1.size + (1 + t405.size + 1 + t406.size + 1 + t407.size)) = False := eq_false (Nat.not_lt.2 (by have h_ := c15; simp only [ByteArray.size_append, show (⟨#[44]⟩ : ByteArray).size = 1 from rfl, show (⟨#[46]⟩ : ByteArray).size = 1 from rfl] at h_; omega))
           have H' := Aside0.mk H
           clear H
           obtain ⟨ASz16_1, cSz16_1, HGz16, hgz16, HSz16_1⟩ := HI0.out
           have hcz16_0 := cellS26_0 HGz16
           have hcz16_1 := cellS26_1 HGz16
           have hfz16_0 := blk_frozen HGz16 0
           clear HGz16 hgz16
           have p403 : 0 ≤ (x4_1 : Int) := of_decide_eq_true (by with_reducible assumption)
           have q403 : x4_1 < (s0_1.length : Int) := of_decide_eq_true (by with_reducible assumption)
           obtain ⟨ad403, e403, hx403_0, hx403_1, hx403_2⟩ := at_T39 HSz16_1 x4_1 p403 q403
           cases e403
           replace hx403_0 := pw_cell_below HB.out hx403_0
           replace hx403_1 := pw_cell_below HB.out hx403_1
           replace hx403_2 := pw_cell_below HB.out hx403_2
           replace p403 := eq_true p403
           replace q403 := eq_true q403
           try go_wp2_with (first | ((with_reducible refine gate_dst (N := 5) rfl ?_); refine box_event ?hg (N := 5) ?hd (cs := #[.int .i64 0, .int .i64 0, .int .i64 0]) (t := 39) ?hr ?_; (case hd => rfl); (case hg => rfl); (case hr => first | (go_simp; done) | (go_simp; rfl)); intro gb404 hg w17 hbox hb; have n0_ := Aside0.mk (IsD26.below (by repeat (first | (with_reducible first | exact HI0.out | apply IsD26.alloc | apply IsD26.drewN | apply IsD26.drew | apply IsD26.set_0) | exact HI0.out)) hb); have n1_ := Aside0.mk (KeepBut.trans (by repeat (first | (with_reducible first | exact HK.out | apply KeepBut.set_ | apply keep_drewN | apply keep_drew | apply keep_alloc) | exact HK.out)) (KeepBut.of_below hb g none) (.inl rfl)); have n2_ := Aside0.mk (below_step (by repeat (first | (with_reducible first | exact HB.out | apply below_alloc | apply pw_below_drewN | apply below_drew1) | exact HB.out)) hb); have n3_ := Aside0.mk (hbox); have n4_ := Aside0.mk ((by rw [hg]; exact (keep_size (w := w) (g := g) (row := none) (by repeat (first | (with_reducible first | exact HK.out | apply KeepBut.set_ | apply keep_drewN | apply keep_drew | apply keep_alloc) | exact HK.out))) : w.heap.size ≤ gb404)); have n5_ := Aside0.mk ((Nat.le_trans HW0.out (by rw [hg]; exact (keep_size (w := w) (g := g) (row := none) (by repeat (first | (with_reducible first | exact HK.out | apply KeepBut.set_ | apply keep_drewN | apply keep_drew | apply keep_alloc) | exact HK.out))) : w.heap.size ≤ gb404) : w0.heap.size ≤ gb404)); have n6_ := Aside0.mk ((by rw [hg]; exact Nat.ne_of_lt (IsD26.lt (show IsD26 w0 _ g s0_0 s0_1 from by repeat (first | (with_reducible first | exact HI0.out | apply IsD26.alloc | apply IsD26.drewN | apply IsD26.drew | apply IsD26.set_0) | exact HI0.out))) : g ≠ gb404)); have n7_ := Aside0.mk ((by rw [hg]; exact Nat.ne_of_gt (IsD26.lt (show IsD26 w0 _ g s0_0 s0_1 from by repeat (first | (with_reducible first | exact HI0.out | apply IsD26.alloc | apply IsD26.drewN | apply IsD26.drew | apply IsD26.set_0) | exact HI0.out))) : gb404 ≠ g)); clear HI0; clear HK; clear HB; have HI0 := n0_; have HK := n1_; have HB := n2_; have BK404 := n3_; have GW404 := n4_; have GE404 := n5_; have NB0_404 := n6_; have NB404_0 := n7_; clear n0_ n1_ n2_ n3_ n4_ n5_ n6_ n7_; clear hb hbox hg; have hnb18 := NB404_0.out; have hnc18 := NB0_404.out; have hcz19_0 : w17.cell? ⟨gb404, 0, none⟩ = some (.int .i64 0) := (blk_cell BK404.out 0).trans rfl; have hcz19_1 : w17.cell? ⟨gb404, 1, none⟩ = some (.int .i64 0) := (blk_cell BK404.out 1).trans rfl; have hcz19_2 : w17.cell? ⟨gb404, 2, none⟩ = some (.int .i64 0) := (blk_cell BK404.out 2).trans rfl; have hfz19_0 := blk_frozen BK404.out 0; have hfz19_1 := blk_frozen BK404.out 1; have hfz19_2 := blk_frozen BK404.out 2))
           have n0_ : Aside0 ((((w17.setCell ⟨gb404, 0, none⟩ (.int .i64 ((rd_T39 s0_1 x4_1).f0))).setCell ⟨gb404, 1, none⟩ (.int .i64 ((rd_T39 s0_1 x4_1).f1))).setCell ⟨gb404, 2, none⟩ (.int .i64 ((rd_T39 s0_1 x4_1).f2))).heap[gb404]? = some (.cells #[.int .i64 ((rd_T39 s0_1 x4_1).f0), .int .i64 ((rd_T39 s0_1 x4_1).f1), .int .i64 ((rd_T39 s0_1 x4_1).f2)] 39 (0, 0))) := ⟨by (with_reducible repeat (first | refine blk_drewN ?_ _ | refine blk_drew ?_ | refine blk_alloc ?_ _)); refine blk_put (cs := #[.int .i64 ((rd_T39 s0_1 x4_1).f0), .int .i64 ((rd_T39 s0_1 x4_1).f1), .int .i64 0]) ?_ 2 _ rfl; (with_reducible repeat (first | refine blk_drewN ?_ _ | refine blk_drew ?_ | refine blk_alloc ?_ _)); refine blk_put (cs := #[.int .i64 ((rd_T39 s0_1 x4_1).f0), .int .i64 0, .int .i64 0]) ?_ 1 _ rfl; (with_reducible repeat (first | refine blk_drewN ?_ _ | refine blk_drew ?_ | refine blk_alloc ?_ _)); refine blk_put (cs := #[.int .i64 0, .int .i64 0, .int .i64 0]) ?_ 0 _ rfl; (with_reducible repeat (first | refine blk_drewN ?_ _ | refine blk_drew ?_ | refine blk_alloc ?_ _)); exact BK404.out⟩
           have n1_ : Aside0 (IsD26 w0 (((w17.setCell ⟨gb404, 0, none⟩ (.int .i64 ((rd_T39 s0_1 x4_1).f0))).setCell ⟨gb404, 1, none⟩ (.int .i64 ((rd_T39 s0_1 x4_1).f1))).setCell ⟨gb404, 2, none⟩ (.int .i64 ((rd_T39 s0_1 x4_1).f2))) g s0_0 s0_1) := ⟨by repeat (first | (with_reducible first | exact HI0.out | apply IsD26.alloc | apply IsD26.drewN | apply IsD26.drew | apply IsD26.set_0 | refine IsD26.far ?_ NB0_404.out _) | exact HI0.out)⟩
           have n2_ : Aside0 (KeepBut w (((w17.setCell ⟨gb404, 0, none⟩ (.int .i64 ((rd_T39 s0_1 x4_1).f0))).setCell ⟨gb404, 1, none⟩ (.int .i64 ((rd_T39 s0_1 x4_1).f1))).setCell ⟨gb404, 2, none⟩ (.int .i64 ((rd_T39 s0_1 x4_1).f2))) g none) := ⟨by repeat (first | (with_reducible first | exact HK.out | apply KeepBut.set_ | apply keep_drewN | apply keep_drew | apply keep_alloc | refine keep_far ?_ GW404.out _) | exact HK.out)⟩
           have n3_ : Aside0 (Below w0.heap.size w0 (((w17.setCell ⟨gb404, 0, none⟩ (.int .i64 ((rd_T39 s0_1 x4_1).f0))).setCell ⟨gb404, 1, none⟩ (.int .i64 ((rd_T39 s0_1 x4_1).f1))).setCell ⟨gb404, 2, none⟩ (.int .i64 ((rd_T39 s0_1 x4_1).f2)))) := ⟨by repeat (first | (with_reducible first | exact HB.out | apply below_alloc | apply pw_below_drewN | apply below_drew1 | refine below_set ?_ GE404.out) | exact HB.out)⟩
           (try clear BK404)
           (try clear HI0)
           (try clear HK)
           (try clear HB)
           generalize (((w17.setCell ⟨gb404, 0, none⟩ (.int .i64 ((rd_T39 s0_1 x4_1).f0))).setCell ⟨gb404, 1, none⟩ (.int .i64 ((rd_T39 s0_1 x4_1).f1))).setCell ⟨gb404, 2, none⟩ (.int .i64 ((rd_T39 s0_1 x4_1).f2))) = w20 at n0_ n1_ n2_ n3_ ⊢
           have BK404 := n0_
           have HI0 := n1_
           have HK := n2_
           have HB := n3_
           clear n0_ n1_ n2_ n3_
           have n0_ := Aside0.mk (blk_drew BK404.out)
           have n1_ := Aside0.mk (IsD26.drew HI0.out)
           have n2_ := Aside0.mk (keep_drew HK.out)
           have n3_ := Aside0.mk (below_drew1 HB.out)
           clear BK404
           clear HI0
           clear HK
           clear HB
           have BK404 := n0_
           have HI0 := n1_
           have HK := n2_
           have HB := n3_
           clear n0_ n1_ n2_ n3_
           refine start_ (n := 17) (S := fun w' => w'.cell? ⟨gb404, 0, none⟩ = some (.int .i64 ((rd_T39 s0_1 x4_1).f0)) ∧ w'.cell? ⟨gb404, 1, none⟩ = some (.int .i64 ((rd_T39 s0_1 x4_1).f1)) ∧ w'.cell? ⟨gb404, 2, none⟩ = some (.int .i64 ((rd_T39 s0_1 x4_1).f2))) (ds := []) #[false, false, false, false, false, false, false, false, false, false, false, false, false, false, false, false, false] (by kernel_rfl) rfl rfl ⟨(blk_cell BK404.out 0).trans rfl, (blk_cell BK404.out 1).trans rfl, (blk_cell BK404.out 2).trans rfl⟩ (fun hHeld => ?_); refine with_tabW spec_l04Text.tab6 spec_l04Text.bits6 (fun HT_ HW_ => ?_)
           generalize w20.drew = w21 at BK404 HI0 HK HB hHeld ⊢
           refine pure_ (i := 0) (N := some 27) (v := ?_) (a' := ?_) #[true, false, false, false, false, false, false, false, false, false, false, false, false, false, false, false, false] rfl rfl (any_of HT_.out (by kernel_rfl)) (fun _ _ _ h => h) (Or.inl ⟨by rfl, ?_⟩) ?_ ?_
           rotate_left
           ·intro w'
            go_simp
            with_reducible rfl
           rotate_left
           ·simp only [Act.put, List.setIfInBounds_toArray, List.set_cons_zero, List.set_cons_succ, i64_w, i32_w]
            rfl
           refine pure_ (i := 1) (N := some 28) (v := ?_) (a' := ?_) #[true, true, false, false, false, false, false, false, false, false, false, false, false, false, false, false, false] rfl rfl (any_of HT_.out (by kernel_rfl)) (fun _ _ _ h => h) (Or.inl ⟨by rfl, ?_⟩) ?_ ?_
           rotate_left
           ·intro w'
            go_simp
            with_reducible rfl
           rotate_left
           ·simp only [Act.put, List.setIfInBounds_toArray, List.set_cons_zero, List.set_cons_succ, i64_w, i32_w]
            rfl
           refine pure_ (i := 6) (N := some 33) (v := ?_) (a' := ?_) #[true, true, false, false, false, false, true, false, false, false, false, false, false, false, false, false, false] rfl rfl (any_of HT_.out (by kernel_rfl)) (fun _ _ _ h => h) (Or.inl ⟨by rfl, ?_⟩) ?_ ?_
           rotate_left
           ·intro w'
            go_simp
            with_reducible rfl
           rotate_left
           ·simp only [Act.put, List.setIfInBounds_toArray, List.set_cons_zero, List.set_cons_succ, i64_w, i32_w]
            rfl
           refine pure_ (i := 11) (N := some 38) (v := ?_) (a' := ?_) #[true, true, false, false, false, false, true, false, false, false, false, true, false, false, false, false, false] rfl rfl (any_of HT_.out (by kernel_rfl)) (fun _ _ _ h => h) (Or.inl ⟨by rfl, ?_⟩) ?_ ?_
           rotate_left
           ·intro w'
            go_simp
            with_reducible rfl
           rotate_left
           ·simp only [Act.put, List.setIfInBounds_toArray, List.set_cons_zero, List.set_cons_succ, i64_w, i32_w]
            rfl
           refine take_ (i := 2) (N := some 29) (v := ?_) (a' := ?_) #[true, true, true, false, false, false, true, false, false, false, false, true, false, false, false, false, false] rfl rfl (take_ofW HT_.out HW_.out (by kernel_rfl)) (fun _ _ _ h => h) (Or.inl ⟨by rfl, ?_⟩) hHeld ?_ ?_
           rotate_left
           ·rintro w' ⟨s0, s1, s2⟩
            go_simp
            with_reducible rfl
           rotate_left
           ·simp only [Act.put, List.setIfInBounds_toArray, List.set_cons_zero, List.set_cons_succ, i64_w, i32_w]
            rfl
           refine take_ (i := 7) (N := some 34) (v := ?_) (a' := ?_) #[true, true, true, false, false, false, true, true, false, false, false, true, false, false, false, false, false] rfl rfl (take_ofW HT_.out HW_.out (by kernel_rfl)) (fun _ _ _ h => h) (Or.inl ⟨by rfl, ?_⟩) hHeld ?_ ?_
           rotate_left
           ·rintro w' ⟨s0, s1, s2⟩
            go_simp
            with_reducible rfl
           rotate_left
           ·simp only [Act.put, List.setIfInBounds_toArray, List.set_cons_zero, List.set_cons_succ, i64_w, i32_w]
            rfl
           refine take_ (i := 12) (N := some 39) (v := ?_) (a' := ?_) #[true, true, true, false, false, false, true, true, false, false, false, true, true, false, false, false, false] rfl rfl (take_ofW HT_.out HW_.out (by kernel_rfl)) (fun _ _ _ h => h) (Or.inl ⟨by rfl, ?_⟩) hHeld ?_ ?_
           rotate_left
           ·rintro w' ⟨s0, s1, s2⟩
            go_simp
            with_reducible rfl
           rotate_left
           ·simp only [Act.put, List.setIfInBounds_toArray, List.set_cons_zero, List.set_cons_succ, i64_w, i32_w]
            rfl
           refine one_ (i := 3) (N := some 30) #[true, true, true, true, false, false, true, true, false, false, false, true, true, false, false, false, false] rfl rfl (one_of HT_.out (by kernel_rfl)) (by decide) (fun K hK => ?_)
           refine goes_ Tryd.func51 (by kernel_rfl) rfl #[.int .i64 ((rd_T39 s0_1 x4_1).f0)] (by rfl) rfl rfl (by (try simp only [List.map_toArray, List.map_cons, List.map_nil]); first | done | rfl | (simp only [List.length_drop, List.length_take]; rfl)) ?_
           with_reducible refine (spec_l01Dec.calls k1 ((rd_T39 s0_1 x4_1).f0) t405 _ A7.out).mono ?_
           rintro e w22 ⟨rfl, hb⟩
           refine ⟨_, rfl, ?_⟩
           have n0_ := Aside0.mk (IsD26.below (by repeat (first | (with_reducible first | exact HI0.out | apply IsD26.alloc | apply IsD26.drewN | apply IsD26.drew | apply IsD26.set_0 | refine IsD26.far ?_ NB0_404.out _) | exact HI0.out)) hb)
           have n1_ := Aside0.mk (blk_below (g := gb404) (o := .cells #[.int .i64 ((rd_T39 s0_1 x4_1).f0), .int .i64 ((rd_T39 s0_1 x4_1).f1), .int .i64 ((rd_T39 s0_1 x4_1).f2)] 39 (0, 0)) (by (with_reducible repeat (first | refine blk_drewN ?_ _ | refine blk_drew ?_ | refine blk_alloc ?_ _)); exact BK404.out) hb)
           have n2_ := Aside0.mk (KeepBut.trans (by repeat (first | (with_reducible first | exact HK.out | apply KeepBut.set_ | apply keep_drewN | apply keep_drew | apply keep_alloc | refine keep_far ?_ GW404.out _) | exact HK.out)) (KeepBut.of_below hb g none) (.inl rfl))
           have n3_ := Aside0.mk (below_step (by repeat (first | (with_reducible first | exact HB.out | apply below_alloc | apply pw_below_drewN | apply below_drew1 | refine below_set ?_ GE404.out) | exact HB.out)) hb)
           clear HI0
           clear BK404
           clear HK
           clear HB
           have HI0 := n0_
           have BK404 := n1_
           have HK := n2_
           have HB := n3_
           clear n0_ n1_ n2_ n3_
           (try clear hb)
           (try clear hb2)
           (try clear hk)
           (try clear hi)
           refine hK.out _ _ ⟨(blk_cell BK404.out 0).trans rfl, (blk_cell BK404.out 1).trans rfl, (blk_cell BK404.out 2).trans rfl⟩ (fun hHeld => ?_)
           clear hK K
           refine norm_ (a' := ?_) ?_ ?_
           rotate_left
           ·show Act.put _ (some 30) _ = _
            simp only [Act.put, List.setIfInBounds_toArray, List.set_cons_zero, List.set_cons_succ, i64_w, i32_w]
            rfl
           refine pure_ (i := 4) (N := some 31) (v := ?_) (a' := ?_) #[true, true, true, true, true, false, true, true, false, false, false, true, true, false, false, false, false] rfl rfl (any_of HT_.out (by kernel_rfl)) (fun _ _ _ h => h) (Or.inl ⟨by rfl, ?_⟩) ?_ ?_
           rotate_left
           ·intro w'
            go_simp
            with_reducible rfl
           rotate_left
           ·simp only [Act.put, List.setIfInBounds_toArray, List.set_cons_zero, List.set_cons_succ, i64_w, i32_w]
            rfl
           refine pure_ (i := 5) (N := some 32) (v := ?_) (a' := ?_) #[true, true, true, true, true, true, true, true, false, false, false, true, true, false, false, false, false] rfl rfl (any_of HT_.out (by kernel_rfl)) (fun _ _ _ h => h) (Or.inl ⟨by rfl, ?_⟩) ?_ ?_
           rotate_left
           ·intro w'
            go_simp
            with_reducible rfl
           rotate_left
           ·simp only [Act.put, List.setIfInBounds_toArray, List.set_cons_zero, List.set_cons_succ, i64_w, i32_w]
            rfl
           refine one_ (i := 8) (N := some 35) #[true, true, true, true, true, true, true, true, true, false, false, true, true, false, false, false, false] rfl rfl (one_of HT_.out (by kernel_rfl)) (by decide) (fun K hK => ?_)
           refine goes_ Tryd.func51 (by kernel_rfl) rfl #[.int .i64 ((rd_T39 s0_1 x4_1).f1)] (by rfl) rfl rfl (by (try simp only [List.map_toArray, List.map_cons, List.map_nil]); first | done | rfl | (simp only [List.length_drop, List.length_take]; rfl)) ?_
           with_reducible refine (spec_l01Dec.calls k1 ((rd_T39 s0_1 x4_1).f1) t406 _ A10.out).mono ?_
           rintro e w23 ⟨rfl, hb⟩
           refine ⟨_, rfl, ?_⟩
           have n0_ := Aside0.mk (IsD26.below (by repeat (first | (with_reducible first | exact HI0.out | apply IsD26.alloc | apply IsD26.drewN | apply IsD26.drew | apply IsD26.set_0 | refine IsD26.far ?_ NB0_404.out _) | exact HI0.out)) hb)
           have n1_ := Aside0.mk (blk_below (g := gb404) (o := .cells #[.int .i64 ((rd_T39 s0_1 x4_1).f0), .int .i64 ((rd_T39 s0_1 x4_1).f1), .int .i64 ((rd_T39 s0_1 x4_1).f2)] 39 (0, 0)) (by (with_reducible repeat (first | refine blk_drewN ?_ _ | refine blk_drew ?_ | refine blk_alloc ?_ _)); exact BK404.out) hb)
           have n2_ := Aside0.mk (KeepBut.trans (by repeat (first | (with_reducible first | exact HK.out | apply KeepBut.set_ | apply keep_drewN | apply keep_drew | apply keep_alloc | refine keep_far ?_ GW404.out _) | exact HK.out)) (KeepBut.of_below hb g none) (.inl rfl))
           have n3_ := Aside0.mk (below_step (by repeat (first | (with_reducible first | exact HB.out | apply below_alloc | apply pw_below_drewN | apply below_drew1 | refine below_set ?_ GE404.out) | exact HB.out)) hb)
           clear HI0
           clear BK404
           clear HK
           clear HB
           have HI0 := n0_
           have BK404 := n1_
           have HK := n2_
           have HB := n3_
           clear n0_ n1_ n2_ n3_
           (try clear hb)
           (try clear hb2)
           (try clear hk)
           (try clear hi)
           refine hK.out _ _ ⟨(blk_cell BK404.out 0).trans rfl, (blk_cell BK404.out 1).trans rfl, (blk_cell BK404.out 2).trans rfl⟩ (fun hHeld => ?_)
           clear hK K
           refine norm_ (a' := ?_) ?_ ?_
           rotate_left
           ·show Act.put _ (some 35) _ = _
            simp only [Act.put, List.setIfInBounds_toArray, List.set_cons_zero, List.set_cons_succ, i64_w, i32_w]
            rfl
           refine pure_ (i := 9) (N := some 36) (v := ?_) (a' := ?_) #[true, true, true, true, true, true, true, true, true, true, false, true, true, false, false, false, false] rfl rfl (any_of HT_.out (by kernel_rfl)) (fun _ _ _ h => h) (Or.inl ⟨by rfl, ?_⟩) ?_ ?_
           rotate_left
           ·intro w'
            go_simp
            with_reducible rfl
           rotate_left
           ·simp only [Act.put, List.setIfInBounds_toArray, List.set_cons_zero, List.set_cons_succ, i64_w, i32_w]
            rfl
           refine pure_ (i := 10) (N := some 37) (v := ?_) (a' := ?_) #[true, true, true, true, true, true, true, true, true, true, true, true, true, false, false, false, false] rfl rfl (any_of HT_.out (by kernel_rfl)) (fun _ _ _ h => h) (Or.inl ⟨by rfl, ?_⟩) ?_ ?_
           rotate_left
           ·intro w'
            go_simp
            with_reducible rfl
           rotate_left
           ·simp only [Act.put, List.setIfInBounds_toArray, List.set_cons_zero, List.set_cons_succ, i64_w, i32_w]
            rfl
           refine one_ (i := 13) (N := some 40) #[true, true, true, true, true, true, true, true, true, true, true, true, true, true, false, false, false] rfl rfl (one_of HT_.out (by kernel_rfl)) (by decide) (fun K hK => ?_)
           refine goes_ Tryd.func51 (by kernel_rfl) rfl #[.int .i64 ((rd_T39 s0_1 x4_1).f2)] (by rfl) rfl rfl (by (try simp only [List.map_toArray, List.map_cons, List.map_nil]); first | done | rfl | (simp only [List.length_drop, List.length_take]; rfl)) ?_
           with_reducible refine (spec_l01Dec.calls k1 ((rd_T39 s0_1 x4_1).f2) t407 _ A13.out).mono ?_
           rintro e w24 ⟨rfl, hb⟩
           refine ⟨_, rfl, ?_⟩
           have n0_ := Aside0.mk (IsD26.below (by repeat (first | (with_reducible first | exact HI0.out | apply IsD26.alloc | apply IsD26.drewN | apply IsD26.drew | apply IsD26.set_0 | refine IsD26.far ?_ NB0_404.out _) | exact HI0.out)) hb)
           have n1_ := Aside0.mk (blk_below (g := gb404) (o := .cells #[.int .i64 ((rd_T39 s0_1 x4_1).f0), .int .i64 ((rd_T39 s0_1 x4_1).f1), .int .i64 ((rd_T39 s0_1 x4_1).f2)] 39 (0, 0)) (by (with_reducible repeat (first | refine blk_drewN ?_ _ | refine blk_drew ?_ | refine blk_alloc ?_ _)); exact BK404.out) hb)
           have n2_ := Aside0.mk (KeepBut.trans (by repeat (first | (with_reducible first | exact HK.out | apply KeepBut.set_ | apply keep_drewN | apply keep_drew | apply keep_alloc | refine keep_far ?_ GW404.out _) | exact HK.out)) (KeepBut.of_below hb g none) (.inl rfl))
           have n3_ := Aside0.mk (below_step (by repeat (first | (with_reducible first | exact HB.out | apply below_alloc | apply pw_below_drewN | apply below_drew1 | refine below_set ?_ GE404.out) | exact HB.out)) hb)
           clear HI0
           clear BK404
           clear HK
           clear HB
           have HI0 := n0_
           have BK404 := n1_
           have HK := n2_
           have HB := n3_
           clear n0_ n1_ n2_ n3_
           (try clear hb)
           (try clear hb2)
           (try clear hk)
           (try clear hi)
           refine hK.out _ _ ⟨(blk_cell BK404.out 0).trans rfl, (blk_cell BK404.out 1).trans rfl, (blk_cell BK404.out 2).trans rfl⟩ (fun hHeld => ?_)
           clear hK K
           refine norm_ (a' := ?_) ?_ ?_
           rotate_left
           ·show Act.put _ (some 40) _ = _
            simp only [Act.put, List.setIfInBounds_toArray, List.set_cons_zero, List.set_cons_succ, i64_w, i32_w]
            rfl
           refine pure_ (i := 14) (N := some 41) (v := ?_) (a' := ?_) #[true, true, true, true, true, true, true, true, true, true, true, true, true, true, true, false, false] rfl rfl (any_of HT_.out (by kernel_rfl)) (fun _ _ _ h => h) (Or.inl ⟨by rfl, ?_⟩) ?_ ?_
           rotate_left
           ·intro w'
            go_simp
            with_reducible rfl
           rotate_left
           ·simp only [Act.put, List.setIfInBounds_toArray, List.set_cons_zero, List.set_cons_succ, i64_w, i32_w]
            rfl
           refine pure_ (i := 15) (N := some 42) (v := ?_) (a' := ?_) #[true, true, true, true, true, true, true, true, true, true, true, true, true, true, true, true, false] rfl rfl (any_of HT_.out (by kernel_rfl)) (fun _ _ _ h => h) (Or.inl ⟨by rfl, ?_⟩) ?_ ?_
           rotate_left
           ·intro w'
            go_simp
            with_reducible rfl
           rotate_left
           ·simp only [Act.put, List.setIfInBounds_toArray, List.set_cons_zero, List.set_cons_succ, i64_w, i32_w]
            rfl
           refine pure_ (i := 16) (N := some 3) (v := ?_) (a' := ?_) #[true, true, true, true, true, true, true, true, true, true, true, true, true, true, true, true, true] rfl rfl (any_of HT_.out (by kernel_rfl)) (fun _ _ _ h => h) (Or.inl ⟨by rfl, ?_⟩) ?_ ?_
           rotate_left
           ·intro w'
            go_simp
            with_reducible rfl
           rotate_left
           ·simp only [Act.put, List.setIfInBounds_toArray, List.set_cons_zero, List.set_cons_succ, i64_w, i32_w]
            rfl
           refine done_ (done_of HT_.out (by kernel_rfl)) ?_
           try go_wp2
           go_roundg k1
           case measure => have := HK1.out; omega
           case rel => exact ⟨(x3_1 ++ ((((((⟨#[44]⟩ : ByteArray) ++ t405) ++ (⟨#[46]⟩ : ByteArray)) ++ t406) ++ (⟨#[46]⟩ : ByteArray)) ++ t407)), (wrap64 (x4_1 + 1)), (by first | rfl | (simp; done) | (simp [*]; done)), (by first | rfl | (simp; done) | (simp [*]; done)), H', ⟨by have := HK1.out; omega⟩, ⟨by repeat (first | (with_reducible first | exact HI0.out | apply IsD26.alloc | apply IsD26.drewN | apply IsD26.drew | apply IsD26.set_0 | refine IsD26.far ?_ NB0_404.out _) | exact HI0.out)⟩, ⟨by repeat (first | (with_reducible first | exact HK.out | apply KeepBut.set_ | apply keep_drewN | apply keep_drew | apply keep_alloc | refine keep_far ?_ GW404.out _) | exact HK.out)⟩, ⟨by repeat (first | (with_reducible first | exact HB.out | apply below_alloc | apply pw_below_drewN | apply below_drew1 | refine below_set ?_ GE404.out) | exact HB.out)⟩⟩
          ·rw [if_neg c15] at H
           exact absurd H (by simp)
         ·rw [if_neg c14] at H
          exact absurd H (by simp)
        ·rw [if_neg c12] at H
         exact absurd H (by simp)
       ·rw [if_neg c11] at H
        exact absurd H (by simp)
      ·rw [if_neg c9] at H
       exact absurd H (by simp)
     ·rw [if_neg c8] at H
      exact absurd H (by simp)
    ·rw [if_neg c6] at H
     exact absurd H (by simp)
   ·rw [if_neg c5] at H
    have c5b0 : decide (x4_1 < (s0_1.length : Int)) = false := decide_eq_false c5
    clear c5
    simp only [Option.some.injEq, Prod.mk.injEq] at H
    obtain ⟨rfl, rfl⟩ := H
    obtain ⟨ASz25_1, cSz25_1, HGz25, hgz25, HSz25_1⟩ := HI0.out
    have hcz25_0 := cellS26_0 HGz25
    have hcz25_1 := cellS26_1 HGz25
    have hfz25_0 := blk_frozen HGz25 0
    clear HGz25 hgz25
    go_wp2
    go_ret
    exact ⟨by first | rfl | (simp [errW_none, errW_some] <;> rfl) | (simp [*, errW_none, errW_some] <;> rfl), by repeat (first | (with_reducible first | exact HI0.out | apply IsD26.alloc | apply IsD26.drewN | apply IsD26.drew | apply IsD26.set_0) | exact HI0.out), by repeat (first | (with_reducible first | exact HB.out | apply below_alloc | apply pw_below_drewN | apply below_drew1) | exact HB.out), by repeat (first | (with_reducible first | exact HK.out | apply KeepBut.set_ | apply keep_drewN | apply keep_drew | apply keep_alloc) | exact HK.out)⟩

end Go.Proofs.YtbgokpobaemibaaDoor.Pa

/- The text of a diagram, as the reference lays it; its length. -/
namespace Go.Proofs.YtbgokpobaemibaaDoor.Pure
open Go.RowKit Go.Proofs.YtbgokpobaemibaaDoor.Pa Go.Proofs.YtbgokpobaemibaaDoorW.PrintWords Go.Proofs.YtbgokpobaemibaaDoorW.PrintLast Go.Proofs.YtbgokpobaemibaaDoorW.PrintMore
set_option linter.unusedVariables false
set_option linter.unusedSimpArgs false

/-- What a bound adds to the text. -/
def addB (b : S39) : ByteArray := (((((⟨#[44]⟩ : ByteArray) ++ decB b.f0) ++ (⟨#[46]⟩ : ByteArray)) ++ decB b.f1) ++ (⟨#[46]⟩ : ByteArray)) ++ decB b.f2
def tx (out : ByteArray) : List S39 → ByteArray
 | [] => out
 | b :: l => tx (out ++ addB b) l
def Near (b : S39) : Prop := (-1000 ≤ b.f0 ∧ b.f0 ≤ 1000) ∧ (-1000 ≤ b.f1 ∧ b.f1 ≤ 1000) ∧ (-1000 ≤ b.f2 ∧ b.f2 ≤ 1000)
theorem e44 : (⟨#[44]⟩ : ByteArray).size = 1 := rfl
theorem e46 : (⟨#[46]⟩ : ByteArray).size = 1 := rfl
theorem dec_size5 (u : Nat) (h : u ≤ 1000) : (Lib.decDigits u).length ≤ 4 := by
 rw [Lib.decDigits]
 by_cases h1 : u < 10
 ·rw [dif_pos h1]; simp
 ·rw [dif_neg h1, Lib.decDigits]
  by_cases h2 : u / 10 < 10
  ·rw [dif_pos h2]; simp
  ·rw [dif_neg h2, Lib.decDigits]
   by_cases h3 : u / 10 / 10 < 10
   ·rw [dif_pos h3]; simp
   ·rw [dif_neg h3, Lib.decDigits, dif_pos (by omega)]; simp
theorem decB_size5 (n : Int) (h0 : -1000 ≤ n) (h1 : n ≤ 1000) : (decB n).size ≤ 5 := by
 have e : (decB n).size = (Lib.itoa n).length := by
  unfold decB
  simp [ByteArray.size]
 rw [e]
 unfold Lib.itoa
 split
 ·have := dec_size5 n.natAbs (by omega)
  rw [List.length_cons]; omega
 ·have := dec_size5 n.toNat (by omega)
  omega
theorem addB_size {b : S39} (h : Near b) : (addB b).size ≤ 18 := by
 have h1 := decB_size5 b.f0 h.1.1 h.1.2
 have h2 := decB_size5 b.f1 h.2.1.1 h.2.1.2
 have h3 := decB_size5 b.f2 h.2.2.1 h.2.2.2
 unfold addB
 simp only [ByteArray.size_append, e44, e46]
 omega
theorem tx_size : ∀ (l : List S39) (out : ByteArray), (∀ b ∈ l, Near b) → (tx out l).size ≤ out.size + 18 * l.length
 | [], out, _ => by unfold tx; simp
 | b :: l, out, h => by
  have h1 := tx_size l (out ++ addB b) (fun x hx => h x (List.mem_cons_of_mem _ hx))
  have h2 := addB_size (h b (by simp))
  rw [ByteArray.size_append] at h1
  unfold tx
  rw [List.length_cons]
  omega
theorem rdBd_get {l : List S39} {i : Nat} (h : i < l.length) : rd_T39 l (i : Int) = l[i] := by
 unfold rd_T39
 rw [List.getD_eq_getElem?_getD, Int.toNat_natCast, List.getElem?_eq_getElem h]
 rfl
theorem text_spec (n : Int) (l : List S39) (hl : l.length ≤ 24) (hn : ∀ b ∈ l, Near b) : ∀ d i k (out : ByteArray), l.length - i = d → i ≤ l.length → out.size ≤ 100 * (i + 1) → d + 1200 < k →
  spec_l04Text.l0 k out (i : Int) n l = some (tx out (l.drop i), n)
 | 0, i, k, out, hd, hi, ho, hk => by
  obtain ⟨k, rfl⟩ : ∃ q, k = q + 1 := ⟨k - 1, by omega⟩
  simp only [spec_l04Text.l0]
  rw [if_neg (by omega), List.drop_of_length_le (by omega)]
  rfl
 | d + 1, i, k, out, hd, hi, ho, hk => by
  obtain ⟨k, rfl⟩ : ∃ q, k = q + 1 := ⟨k - 1, by omega⟩
  have hl2 : i < l.length := by omega
  have hb := hn l[i] (List.getElem_mem hl2)
  have hw : wrap64 ((i : Int) + 1) = ((i + 1 : Nat) : Int) := by rw [wrap_id (by omega) (by omega)]; omega
  have s0 := decB_size _ hb.1.1 hb.1.2
  have s1 := decB_size _ hb.2.1.1 hb.2.1.2
  have s2 := decB_size _ hb.2.2.1 hb.2.2.2
  have hs := addB_size hb
  simp only [spec_l04Text.l0]
  rw [if_pos (by omega), if_pos (by omega), rdBd_get hl2, dec_tells _ hb.1.1 hb.1.2 k (by omega), Option.bind_some, dec_tells _ hb.2.1.1 hb.2.1.2 k (by omega), Option.bind_some, dec_tells _ hb.2.2.1 hb.2.2.2 k (by omega), Option.bind_some,
   if_pos (by omega), if_pos (by simp only [ByteArray.size_append, e44, e46]; omega), if_pos (by simp only [ByteArray.size_append, e44, e46]; omega), if_pos (by simp only [ByteArray.size_append, e44, e46]; omega), if_pos (by simp only [ByteArray.size_append, e44, e46]; omega), if_pos (by simp only [ByteArray.size_append, e44, e46]; omega), hw]
  have := text_spec n l hl hn d (i + 1) k (out ++ addB l[i]) (by omega) (by omega) (by rw [ByteArray.size_append]; omega) (by omega)
  rw [List.drop_eq_getElem_cons hl2]
  exact this
theorem text_tells (n : Int) (h0 : -1000 ≤ n) (h1 : n ≤ 1000) (l : List S39) (hl : l.length ≤ 24) (hn : ∀ b ∈ l, Near b) (k : Nat) (hk : 1300 < k) : spec_l04Text.f k n l = some (tx (decB n) l, n) := by
 have hs := decB_size n h0 h1
 have t2 := text_spec n l hl hn l.length 0 k (decB n) (by omega) (by omega) (by omega) (by omega)
 rw [show ((0 : Nat) : Int) = 0 from rfl, List.drop_zero] at t2
 unfold spec_l04Text.f
 rw [dec_tells n h0 h1 k (by omega), Option.bind_some]
 exact t2
def tri (b : S39) : Int × Int × Int := (b.f0, b.f1, b.f2)
theorem addB_data (b : S39) : (addB b).data.toList = 44 :: textThree (tri b) := by
 unfold addB textThree tri decB joinL joinL joinL
 simp [ByteArray.data_append]
theorem joinL_flat (c : UInt8) (w : List UInt8) : ∀ ws : List (List UInt8), joinL c (w :: ws) = w ++ (ws.map (c :: ·)).flatten := by
 intro ws
 induction ws generalizing w with
 | nil => simp [joinL]
 | cons v ws ih =>
  show w ++ c :: joinL c (v :: ws) = _
  rw [ih]
  simp
theorem tx_data : ∀ (l : List S39) (out : ByteArray), (tx out l).data.toList = out.data.toList ++ ((l.map tri).map fun t => 44 :: textThree t).flatten
 | [], out => by simp [tx]
 | b :: l, out => by
  unfold tx
  rw [tx_data l, ByteArray.data_append, Array.toList_append, addB_data]
  simp
theorem text_is (n : Int) (l : List S39) : (tx (decB n) l).data.toList = textD n (l.map tri) := by
 unfold textD
 rw [tx_data, joinL_flat]
 simp only [List.map_map]
 rfl
end Go.Proofs.YtbgokpobaemibaaDoor.Pure

/- The reference's decimal text of a number up to 10^18 is the library's. -/
namespace Go.Proofs.YtbgokpobaemibaaDoor.Pure
open Go.RowKit Go.Proofs.YtbgokpobaemibaaDoor.Pa Go.Proofs.YtbgokpobaemibaaDoorW.PrintWords Go.Proofs.YtbgokpobaemibaaDoorW.PrintLast Go.Proofs.YtbgokpobaemibaaDoorW.PrintMore
set_option linter.unusedVariables false
set_option linter.unusedSimpArgs false

theorem dec_oneT (x0 : Int) (neg : Bool) (u : Nat) (hu : 0 < u) (hu2 : u ≤ 1000000000000000000) (acc : List Int) (ha : acc.length ≤ 5000) (k : Nat) :
  spec_l01Dec.l0 (k + 1) x0 acc (if neg = true then -(u : Int) else (u : Int)) = spec_l01Dec.l0 k x0 (acc ++ [48 + ((u % 10 : Nat) : Int)]) (if neg = true then -((u / 10 : Nat) : Int) else ((u / 10 : Nat) : Int)) := by
 have h10 : u % 10 < 10 := Nat.mod_lt _ (by omega)
 simp only [spec_l01Dec.l0]
 cases neg with
 | false =>
  simp only [Bool.false_eq_true, if_false]
  rw [if_neg (by omega), tmod_pos, tdiv_pos, if_neg (by omega), if_pos (by omega), wrap_id (by omega) (by omega), wrap_id (by omega) (by omega)]
  rw [show (48 + ((u % 10 : Nat) : Int)) % 256 = 48 + ((u % 10 : Nat) : Int) by omega]
 | true =>
  simp only [if_true]
  rw [if_neg (by omega), tmod_neg, tdiv_neg, Int.neg_neg, wrap_id (x := ((u % 10 : Nat) : Int)) (by omega) (by omega), if_pos (show acc.length < 140737488355328 by omega), wrap_id (x := 48 + ((u % 10 : Nat) : Int)) (by omega) (by omega), wrap_id (x := -((u / 10 : Nat) : Int)) (by omega) (by omega)]
  rw [show (48 + ((u % 10 : Nat) : Int)) % 256 = 48 + ((u % 10 : Nat) : Int) by omega]
  by_cases hz : -((u % 10 : Nat) : Int) < 0
  ·rw [if_pos hz]
  ·have h0 : ((u % 10 : Nat) : Int) = 0 := by omega
   rw [if_neg hz, h0, show (-(0 : Int)) = 0 from rfl, Int.add_zero, show wrap64 48 = 48 from wrap_id (by omega) (by omega), if_pos (show acc.length < 140737488355328 by omega)]
   rfl
theorem dec_loopT (x0 : Int) (neg : Bool) : ∀ (n u : Nat), u < 10 ^ n → 0 < u → u ≤ 1000000000000000000 → ∀ (acc : List Int) (k : Nat), acc.length + n ≤ 3000 → n < k →
  ∃ k', k ≤ k' + n ∧ spec_l01Dec.l0 k x0 acc (if neg = true then -(u : Int) else (u : Int)) = spec_l01Dec.l0 k' x0 (acc ++ revI u) 0
 | 0, u, h, h0, _, _, _, _, _ => absurd h (by simp; omega)
 | n + 1, u, h, h0, h1, acc, k, ha, hk => by
  obtain ⟨k, rfl⟩ : ∃ q, k = q + 1 := ⟨k - 1, by omega⟩
  rw [dec_oneT x0 neg u h0 h1 acc (by omega) k]
  by_cases hs : u < 10
  ·refine ⟨k, by omega, ?_⟩
   rw [revI_small u hs, show u % 10 = u by omega, show u / 10 = 0 by omega]
   cases neg <;> rfl
  ·have hq : u / 10 < 10 ^ n := by rw [Nat.pow_succ] at h; omega
   obtain ⟨k', hk', he⟩ := dec_loopT x0 neg n (u / 10) hq (by omega) (by omega) (acc ++ [48 + ((u % 10 : Nat) : Int)]) k (by rw [List.length_append, List.length_singleton]; omega) (by omega)
   refine ⟨k', by omega, ?_⟩
   rw [he, revI_step u hs, List.append_assoc, List.singleton_append]
theorem revI_lengthT (u : Nat) (hu : u ≤ 1000000000000000000) : (revI u).length ≤ 21 := by
 unfold revI
 rw [List.length_reverse, List.length_map]
 have := Lib.itoa_length_le (u : Int) (by omega) (by omega)
 unfold Lib.itoa at this
 rw [if_neg (by omega), Int.toNat_natCast] at this
 exact this
theorem dec_tellsT (n : Int) (h0 : -1000000000000000000 ≤ n) (h1 : n ≤ 1000000000000000000) (k : Nat) (hk : 100 < k) : spec_l01Dec.f k n = some (decB n) := by
 have e20 : (10 : Nat) ^ 19 = 10000000000000000000 := by decide
 unfold spec_l01Dec.f
 by_cases hz : n = 0
 ·subst hz
  rw [if_pos rfl]
  unfold decB Lib.itoa
  rw [if_neg (by omega), show (0 : Int).toNat = 0 from rfl, Lib.decDigits, dif_pos (by omega)]
  rfl
 ·rw [if_neg hz]
  by_cases hn : n < 0
  ·obtain ⟨u, rfl⟩ : ∃ u : Nat, n = -(u : Int) := ⟨n.natAbs, by omega⟩
   obtain ⟨k', hk', he⟩ := dec_loopT (-(u : Int)) true 19 u (by rw [e20]; omega) (by omega) (by omega) [] k (by simp) (by omega)
   rw [if_pos rfl] at he
   have hl := revI_lengthT u (by omega)
   obtain ⟨q, rfl⟩ : ∃ q, k' = q + 1 := ⟨k' - 1, by omega⟩
   rw [he, List.nil_append]
   simp only [spec_l01Dec.l0, if_true]
   rw [if_pos hn, if_pos (by omega), rev_tells _ (by rw [List.length_append, List.length_singleton]; omega) q (by rw [List.length_append, List.length_singleton]; omega)]
   congr 1
   unfold decB Lib.itoa revI
   rw [if_pos hn, List.reverse_append, List.reverse_reverse, Int.natAbs_neg, Int.natAbs_natCast]
   have := strOf_bytes (45 :: Lib.decDigits u)
   rw [← this]
   rfl
  ·obtain ⟨u, rfl⟩ : ∃ u : Nat, n = (u : Int) := ⟨n.toNat, by omega⟩
   obtain ⟨k', hk', he⟩ := dec_loopT (u : Int) false 19 u (by rw [e20]; omega) (by omega) (by omega) [] k (by simp) (by omega)
   rw [if_neg (by decide)] at he
   have hl := revI_lengthT u (by omega)
   obtain ⟨q, rfl⟩ : ∃ q, k' = q + 1 := ⟨k' - 1, by omega⟩
   rw [he, List.nil_append]
   simp only [spec_l01Dec.l0, if_true]
   rw [if_neg hn, rev_tells _ (by omega) q (by omega)]
   congr 1
   unfold decB Lib.itoa revI
   rw [if_neg hn, List.reverse_reverse, Int.toNat_natCast, strOf_bytes]
end Go.Proofs.YtbgokpobaemibaaDoor.Pure

namespace Go.Proofs.YtbgokpobaemibaaDoor.Pa
open Go.RowKit Go.Proofs.YtbgokpobaemibaaDoorW.PrintWords Go.Proofs.YtbgokpobaemibaaDoorW.PrintLast Go.Proofs.YtbgokpobaemibaaDoorW.PrintMore
attribute [local go_sem] max2_int min2_int max_two min_two max_three min_three max_four min_four   -- for this text's walks alone
set_option linter.unusedVariables false
set_option linter.unusedSimpArgs false

/-! ### spec_l01Cut: function 32 -/
def spec_l01Cut.l0 : Nat → ByteArray → Int → List ByteArray → Int → Int → Option (List ByteArray)
 | 0, _, _, _, _, _ => none
 | k + 1, x0, x1, x5, x6, x7 => if x7 ≤ (x0.size : Int) then (if x7 = (x0.size : Int) then (if 0 ≤ x6 then (if x6 ≤ x7 then (if x5.length < 8796093022208 then (spec_l01Cut.l0 k x0 x1 (x5 ++ [x0.extract (x6 : Int).toNat (x7 : Int).toNat]) (wrap64 (x7 + 1)) (wrap64 (x7 + 1))) else (none)) else (none)) else (none)) else (if 0 ≤ x7 then (if x7 < (x0.size : Int) then (if (bt x0 x7) = x1 then (if 0 ≤ x6 then (if x6 ≤ x7 then (if x5.length < 8796093022208 then (spec_l01Cut.l0 k x0 x1 (x5 ++ [x0.extract (x6 : Int).toNat (x7 : Int).toNat]) (wrap64 (x7 + 1)) (wrap64 (x7 + 1))) else (none)) else (none)) else (none)) else (spec_l01Cut.l0 k x0 x1 x5 x6 (wrap64 (x7 + 1)))) else (none)) else (none))) else (some x5)
def spec_l01Cut.f (k : Nat) (a0 : ByteArray) (a1 : Int) : Option (List ByteArray) := spec_l01Cut.l0 k a0 a1 (([] : List ByteArray)) 0 0
theorem spec_l01Cut.mono_l : ∀ k, (∀ y0 y1 y2 y3 y4, LeO (spec_l01Cut.l0 k y0 y1 y2 y3 y4) (spec_l01Cut.l0 (k + 1) y0 y1 y2 y3 y4))
 | 0 => fun _ _ _ _ _ r h => by simp [spec_l01Cut.l0] at h
 | k + 1 => by
  have ih0 := spec_l01Cut.mono_l k
  ·intro y0 y1 y2 y3 y4
   unfold spec_l01Cut.l0
   repeat' first
   | (with_reducible exact ih0 _ _ _ _ _)
   | (with_reducible exact LeO.refl _)
   | (with_reducible exact LeO.none _)
   | (with_reducible refine LeO.ite ?_ ?_)
   | (with_reducible refine LeO.bind ?_ (fun _ => ?_))
   | exact ih0 _ _ _ _ _
   | exact LeO.none _
   | refine LeO.ite ?_ ?_
   | refine LeO.bind ?_ (fun _ => ?_)
theorem spec_l01Cut.mono : ∀ a0 a1 k, LeO (spec_l01Cut.f k a0 a1) (spec_l01Cut.f (k + 1) a0 a1) := by
 intro a0 a1 k
 have ih0 := spec_l01Cut.mono_l k
 unfold spec_l01Cut.f
 repeat' first
   | (with_reducible exact ih0 _ _ _ _ _)
   | (with_reducible exact LeO.refl _)
   | (with_reducible exact LeO.none _)
   | (with_reducible refine LeO.ite ?_ ?_)
   | (with_reducible refine LeO.bind ?_ (fun _ => ?_))
   | exact ih0 _ _ _ _ _
   | exact LeO.none _
   | refine LeO.ite ?_ ?_
   | refine LeO.bind ?_ (fun _ => ?_)
set_option maxHeartbeats 8000000 in
set_option maxRecDepth 100000 in
theorem spec_l01Cut.calls (k : Nat) (a0 : ByteArray) (a1 : Int) (r : List ByteArray) (w : World) (h : spec_l01Cut.f k a0 a1 = some r) :
  Calls Tryd.prog 32 #[.string a0, .int .u8 a1] w fun e w' => ∃ v0_ : Value, e = .returned (v0_) ∧ Kd.R Kd.string 9 w' w.heap.size (fun _ => True) v0_ r ∧ Below w.heap.size w w' := by
 have HB := Aside0.mk (Below.refl w.heap.size w)
 have H : (spec_l01Cut.l0 k a0 a1 (([] : List ByteArray)) 0 0) = some r := h
 clear h
 obtain ⟨y361, hy361⟩ : ∃ y_ : List ByteArray, y_ = (([] : List ByteArray)) := ⟨_, rfl⟩
 replace H : (spec_l01Cut.l0 k a0 a1 y361 0 0) = some r := by first | (rw [hy361]; with_reducible exact H) | (have H2_ := (Option.bind_some _ _).symm.trans H; rw [hy361]; with_reducible exact H2_) | (have H2_ := (Option.bind_some _ _).symm.trans H; with_reducible exact H2_) | with_reducible exact H | (rw [hy361]; exact H) | exact H
 have Ny361 := Aside0.mk hy361
 clear hy361
 have H' := Aside0.mk H
 clear H
 go_enter Tryd.func32, Tryd.ntmps32
 go_wp2_with (first | ((with_reducible refine gate_dst (N := 8) rfl ?_); refine Kd.R_lit Kd.string _ 9 ?hg (N := 8) ?hd (xs := ([] : List ByteArray)) (inner := []) (ok := fun _ => True) (okp := fun _ => True) ?hr ?hp (fun _ hk => hk) trivial (Below.refl _ _) (Nat.le_refl _) (by simp) ?_; (case hd => rfl); (case hg => rfl); (case hr => first | (go_simp; done) | (go_simp; rfl)); (case hp => exact (Reps.none _ _)); intro v362 w3 ho4 hb hg_ hnew_; clear hg_ hnew_; (first | rw [← Ny361.out] at ho4 | (simp only [Int.reduceToNat] at ho4; rw [← Ny361.out] at ho4)); have n0_ := Aside0.mk (Kd.R_lower ho4 (below_size (by repeat (first | (with_reducible first | exact HB.out | apply below_alloc | apply pw_below_drewN | apply below_drew1) | exact HB.out)))); have n1_ := Aside0.mk (below_step (by repeat (first | (with_reducible first | exact HB.out | apply below_alloc | apply pw_below_drewN | apply below_drew1) | exact HB.out)) hb); clear HB; have HO363 := n0_; have HB := n1_; clear n0_ n1_; clear hb ho4))
 go_loopg [5, 6, 7] k (fun kq v5 v6 v7 w' => ∃ (x5_1 : List ByteArray) (x6_1 : Int) (x7_1 : Int), v6 = .int .i64 x6_1 ∧ v7 = .int .i64 x7_1 ∧ Aside0 (spec_l01Cut.l0 kq a0 a1 x5_1 x6_1 x7_1 = some r) ∧ Aside0 (kq ≤ k) ∧ Aside0 (Kd.R Kd.string 9 w' w.heap.size (fun _ => True) v5 x5_1) ∧ Aside0 (Below w.heap.size w w'))
 case atStart => exact ⟨(y361), (0), (0), (by first | rfl | (simp; done) | (simp [*]; done)), (by first | rfl | (simp; done) | (simp [*]; done)), H', ⟨Nat.le_refl _⟩, ⟨by (with_reducible repeat (first | apply Kd.R_alloc | apply Kd.R_drewN | apply Kd.R_drew)); exact HO363.out⟩, ⟨by repeat (first | (with_reducible first | exact HB.out | apply below_alloc | apply pw_below_drewN | apply below_drew1) | exact HB.out)⟩⟩
 case round =>
  clear H'
  try clear p2
  try clear c3
  obtain ⟨x5_1, x6_1, x7_1, rfl, rfl, HA, HK1, HO_5, HB⟩ := hrel
  cases gk with
  | zero => exact absurd HA.out (by simp [spec_l01Cut.l0])
  | succ k1 =>
   have H := HA.out
   clear HA
   simp only [spec_l01Cut.l0] at H
   by_cases c5 : x7_1 ≤ (a0.size : Int)
   ·rw [if_pos c5] at H
    have c5b0 : decide (x7_1 ≤ (a0.size : Int)) = true := decide_eq_true c5
    clear c5
    by_cases c6 : x7_1 = (a0.size : Int)
    ·rw [if_pos c6] at H
     have c6b0 : (x7_1 == (a0.size : Int)) = true := beq_iff_eq.mpr c6
     have c6b1 : (x7_1 != (a0.size : Int)) = false := bne_eq_false_iff_eq.mpr c6
     clear c6
     by_cases c7 : 0 ≤ x6_1
     ·rw [if_pos c7] at H
      have c7b0 := eq_true c7
      have c7b1 : decide (0 ≤ x6_1) = true := decide_eq_true c7
      clear c7
      by_cases c8 : x6_1 ≤ x7_1
      ·rw [if_pos c8] at H
       have c8b0 := eq_true c8
       have c8b1 : decide (x6_1 ≤ x7_1) = true := decide_eq_true c8
       clear c8
       have c9b0 := eq_true (of_decide_eq_true (by with_reducible assumption) : x7_1 ≤ (a0.size : Int))
       by_cases c10 : x5_1.length < 8796093022208
       ·rw [if_pos c10] at H
        have LMc10 := Aside0.mk c10
        clear c10
        obtain ⟨y364, hy364⟩ : ∃ y_ : List ByteArray, y_ = (x5_1 ++ [a0.extract (x6_1 : Int).toNat (x7_1 : Int).toNat]) := ⟨_, rfl⟩
        replace H : (spec_l01Cut.l0 k1 a0 a1 y364 (wrap64 (x7_1 + 1)) (wrap64 (x7_1 + 1))) = some r := by first | (rw [hy364]; with_reducible exact H) | (have H2_ := (Option.bind_some _ _).symm.trans H; rw [hy364]; with_reducible exact H2_) | (have H2_ := (Option.bind_some _ _).symm.trans H; with_reducible exact H2_) | with_reducible exact H | (rw [hy364]; exact H) | exact H
        have Ny364 := Aside0.mk hy364
        clear hy364
        have H' := Aside0.mk H
        clear H
        go_wp2_with (first | ((with_reducible refine gate_builtin (b := .append) (xs := #[.tmp 26, .tmp 31]) rfl ?_); at_builtin; refine Kd.R_append Kd.string (w0 := w) w.heap.size rfl (.tmp 26) (.tmp 31) 55 9 (.string ⟨#[]⟩) 16 rfl Tryd.underlying55 info9 rfl (by decide) (by omega) u5 x5_1 (a0.extract (x6_1 : Int).toNat (x7_1 : Int).toNat) [.string (a0.extract (x6_1 : Int).toNat (x7_1 : Int).toNat)] (fun _ => True) (fun _ => False) rfl rfl ?aP (fun _ hk => hk.elim) ?aF ?aO ?aB ?aS ?aL ?_; (case aP => exact rfl); (case aB => exact (by repeat (first | (with_reducible first | exact HB.out | apply below_alloc | apply pw_below_drewN | apply below_drew1) | exact HB.out))); (case aF => exact (fun _ _ => trivial)); (case aO => exact (by (with_reducible repeat (first | apply Kd.R_alloc | apply Kd.R_drewN | apply Kd.R_drew)); exact HO_5.out)); (case aS => exact (below_size (by repeat (first | (with_reducible first | exact HB.out | apply below_alloc | apply pw_below_drewN | apply below_drew1) | exact HB.out)))); (case aL => have := LMc10.out; omega); intro v365 w11 ho hb hg hat; rw [← Ny364.out] at ho; have n0_ := Aside0.mk (hb); have n1_ := Aside0.mk (ho); clear HB; clear HO_5; have HB := n0_; have HO366 := n1_; clear n0_ n1_; clear ho hb hg hat))
        go_roundg k1
        case measure => have := HK1.out; omega
        case rel => exact ⟨(y364), (wrap64 (x7_1 + 1)), (wrap64 (x7_1 + 1)), (by first | rfl | (simp; done) | (simp [*]; done)), (by first | rfl | (simp; done) | (simp [*]; done)), H', ⟨by have := HK1.out; omega⟩, ⟨by (with_reducible repeat (first | apply Kd.R_alloc | apply Kd.R_drewN | apply Kd.R_drew)); exact HO366.out⟩, ⟨by repeat (first | (with_reducible first | exact HB.out | apply below_alloc | apply pw_below_drewN | apply below_drew1) | exact HB.out)⟩⟩
       ·rw [if_neg c10] at H
        exact absurd H (by simp)
      ·rw [if_neg c8] at H
       exact absurd H (by simp)
     ·rw [if_neg c7] at H
      exact absurd H (by simp)
    ·rw [if_neg c6] at H
     have c6b0 : (x7_1 == (a0.size : Int)) = false := beq_eq_false_iff_ne.mpr c6
     have c6b1 : (x7_1 != (a0.size : Int)) = true := bne_iff_ne.mpr c6
     by_cases c12 : 0 ≤ x7_1
     ·rw [if_pos c12] at H
      have c12b0 : decide (0 ≤ x7_1) = true := decide_eq_true c12
      clear c12
      by_cases c13 : x7_1 < (a0.size : Int)
      ·rw [if_pos c13] at H
       have c13b0 : decide (x7_1 < (a0.size : Int)) = true := decide_eq_true c13
       clear c13
       by_cases c15 : (bt a0 x7_1) = a1
       ·rw [if_pos c15] at H
        have c15b0 : ((bt a0 x7_1) == a1) = true := beq_iff_eq.mpr c15
        have c15b1 : ((bt a0 x7_1) != a1) = false := bne_eq_false_iff_eq.mpr c15
        clear c15
        by_cases c16 : 0 ≤ x6_1
        ·rw [if_pos c16] at H
         have c16b0 := eq_true c16
         have c16b1 : decide (0 ≤ x6_1) = true := decide_eq_true c16
         clear c16
         by_cases c17 : x6_1 ≤ x7_1
         ·rw [if_pos c17] at H
          have c17b0 := eq_true c17
          have c17b1 : decide (x6_1 ≤ x7_1) = true := decide_eq_true c17
          clear c17
          have c18b0 := eq_true (of_decide_eq_true (by with_reducible assumption) : x7_1 ≤ (a0.size : Int))
          by_cases c19 : x5_1.length < 8796093022208
          ·rw [if_pos c19] at H
           have LMc19 := Aside0.mk c19
           clear c19
           obtain ⟨y367, hy367⟩ : ∃ y_ : List ByteArray, y_ = (x5_1 ++ [a0.extract (x6_1 : Int).toNat (x7_1 : Int).toNat]) := ⟨_, rfl⟩
           replace H : (spec_l01Cut.l0 k1 a0 a1 y367 (wrap64 (x7_1 + 1)) (wrap64 (x7_1 + 1))) = some r := by first | (rw [hy367]; with_reducible exact H) | (have H2_ := (Option.bind_some _ _).symm.trans H; rw [hy367]; with_reducible exact H2_) | (have H2_ := (Option.bind_some _ _).symm.trans H; with_reducible exact H2_) | with_reducible exact H | (rw [hy367]; exact H) | exact H
           have Ny367 := Aside0.mk hy367
           clear hy367
           have H' := Aside0.mk H
           clear H
           have p14 : 0 ≤ (x7_1 : Int) := of_decide_eq_true (by with_reducible assumption)
           have q14 : x7_1 < (a0.size : Int) := of_decide_eq_true (by with_reducible assumption)
           have hx14 := bt_at a0 x7_1
           replace p14 := eq_true p14
           replace q14 := eq_true q14
           go_wp2_with (first | ((with_reducible refine gate_builtin (b := .append) (xs := #[.tmp 26, .tmp 31]) rfl ?_); at_builtin; refine Kd.R_append Kd.string (w0 := w) w.heap.size rfl (.tmp 26) (.tmp 31) 55 9 (.string ⟨#[]⟩) 16 rfl Tryd.underlying55 info9 rfl (by decide) (by omega) u5 x5_1 (a0.extract (x6_1 : Int).toNat (x7_1 : Int).toNat) [.string (a0.extract (x6_1 : Int).toNat (x7_1 : Int).toNat)] (fun _ => True) (fun _ => False) rfl rfl ?aP (fun _ hk => hk.elim) ?aF ?aO ?aB ?aS ?aL ?_; (case aP => exact rfl); (case aB => exact (by repeat (first | (with_reducible first | exact HB.out | apply below_alloc | apply pw_below_drewN | apply below_drew1) | exact HB.out))); (case aF => exact (fun _ _ => trivial)); (case aO => exact (by (with_reducible repeat (first | apply Kd.R_alloc | apply Kd.R_drewN | apply Kd.R_drew)); exact HO_5.out)); (case aS => exact (below_size (by repeat (first | (with_reducible first | exact HB.out | apply below_alloc | apply pw_below_drewN | apply below_drew1) | exact HB.out)))); (case aL => have := LMc19.out; omega); intro v368 w20 ho hb hg hat; rw [← Ny367.out] at ho; have n0_ := Aside0.mk (hb); have n1_ := Aside0.mk (ho); clear HB; clear HO_5; have HB := n0_; have HO369 := n1_; clear n0_ n1_; clear ho hb hg hat))
           go_roundg k1
           case measure => have := HK1.out; omega
           case rel => exact ⟨(y367), (wrap64 (x7_1 + 1)), (wrap64 (x7_1 + 1)), (by first | rfl | (simp; done) | (simp [*]; done)), (by first | rfl | (simp; done) | (simp [*]; done)), H', ⟨by have := HK1.out; omega⟩, ⟨by (with_reducible repeat (first | apply Kd.R_alloc | apply Kd.R_drewN | apply Kd.R_drew)); exact HO369.out⟩, ⟨by repeat (first | (with_reducible first | exact HB.out | apply below_alloc | apply pw_below_drewN | apply below_drew1) | exact HB.out)⟩⟩
          ·rw [if_neg c19] at H
           exact absurd H (by simp)
         ·rw [if_neg c17] at H
          exact absurd H (by simp)
        ·rw [if_neg c16] at H
         exact absurd H (by simp)
       ·rw [if_neg c15] at H
        have c15b0 : ((bt a0 x7_1) == a1) = false := beq_eq_false_iff_ne.mpr c15
        have c15b1 : ((bt a0 x7_1) != a1) = true := bne_iff_ne.mpr c15
        have H' := Aside0.mk H
        clear H
        have p14 : 0 ≤ (x7_1 : Int) := of_decide_eq_true (by with_reducible assumption)
        have q14 : x7_1 < (a0.size : Int) := of_decide_eq_true (by with_reducible assumption)
        have hx14 := bt_at a0 x7_1
        replace p14 := eq_true p14
        replace q14 := eq_true q14
        go_wp2
        go_roundg k1
        case measure => have := HK1.out; omega
        case rel => exact ⟨(x5_1), (x6_1), (wrap64 (x7_1 + 1)), (by first | rfl | (simp; done) | (simp [*]; done)), (by first | rfl | (simp; done) | (simp [*]; done)), H', ⟨by have := HK1.out; omega⟩, ⟨by (with_reducible repeat (first | apply Kd.R_alloc | apply Kd.R_drewN | apply Kd.R_drew)); exact HO_5.out⟩, ⟨by repeat (first | (with_reducible first | exact HB.out | apply below_alloc | apply pw_below_drewN | apply below_drew1) | exact HB.out)⟩⟩
      ·rw [if_neg c13] at H
       exact absurd H (by simp)
     ·rw [if_neg c12] at H
      exact absurd H (by simp)
   ·rw [if_neg c5] at H
    have c5b0 : decide (x7_1 ≤ (a0.size : Int)) = false := decide_eq_false c5
    clear c5
    obtain rfl := Option.some.inj H
    go_wp2
    go_ret
    exact ⟨_, by first | rfl | (simp [errW_none, errW_some] <;> rfl) | (simp [*, errW_none, errW_some] <;> rfl), by (with_reducible repeat (first | apply Kd.R_alloc | apply Kd.R_drewN | apply Kd.R_drew)); exact HO_5.out, by repeat (first | (with_reducible first | exact HB.out | apply below_alloc | apply pw_below_drewN | apply below_drew1) | exact HB.out)⟩

end Go.Proofs.YtbgokpobaemibaaDoor.Pa

namespace Go.Proofs.YtbgokpobaemibaaDoor.Pa
open Go.RowKit Go.Proofs.YtbgokpobaemibaaDoorW.PrintWords Go.Proofs.YtbgokpobaemibaaDoorW.PrintLast Go.Proofs.YtbgokpobaemibaaDoorW.PrintMore
attribute [local go_sem] max2_int min2_int max_two min_two max_three min_three max_four min_four   -- for this text's walks alone
set_option linter.unusedVariables false
set_option linter.unusedSimpArgs false

/-! ### impl_within: function 29 -/
def impl_within.f (a0 : Int) (a1 : Int) (a2 : Int) : Option (Bool) := if a0 ≥ a1 then (some (decide (a0 ≤ a2))) else (some false)
set_option maxHeartbeats 8000000 in
set_option maxRecDepth 100000 in
theorem impl_within.calls (a0 : Int) (a1 : Int) (a2 : Int) (r : Bool) (w : World) (h : impl_within.f a0 a1 a2 = some r) :
  Calls Tryd.prog 29 #[.int .i64 a0, .int .i64 a1, .int .i64 a2] w fun e w' => e = .returned (.bool r) ∧ Drawn0 w w' := by
 have H : (if a0 ≥ a1 then (some (decide (a0 ≤ a2))) else (some false)) = some r := h
 clear h
 by_cases c4 : a0 ≥ a1
 ·rw [if_pos c4] at H
  have c4b0 : decide (a1 ≤ a0) = true := decide_eq_true c4
  clear c4
  obtain rfl := Option.some.inj H
  go_enter Tryd.func29, Tryd.ntmps29
  go_wp2
  go_ret
  exact ⟨by first | rfl | (simp; done) | (simp [*]; done), by repeat (first | exact Drawn0.refl _ | apply Drawn0.step)⟩
 ·rw [if_neg c4] at H
  have c4b0 : decide (a1 ≤ a0) = false := decide_eq_false c4
  clear c4
  obtain rfl := Option.some.inj H
  go_enter Tryd.func29, Tryd.ntmps29
  go_wp2
  go_ret
  exact ⟨by first | rfl | (simp; done) | (simp [*]; done), by repeat (first | exact Drawn0.refl _ | apply Drawn0.step)⟩

end Go.Proofs.YtbgokpobaemibaaDoor.Pa

namespace Go.Proofs.YtbgokpobaemibaaDoor.Pa
open Go.RowKit Go.Proofs.YtbgokpobaemibaaDoorW.PrintWords Go.Proofs.YtbgokpobaemibaaDoorW.PrintLast Go.Proofs.YtbgokpobaemibaaDoorW.PrintMore
attribute [local go_sem] max2_int min2_int max_two min_two max_three min_three max_four min_four   -- for this text's walks alone
set_option linter.unusedVariables false
set_option linter.unusedSimpArgs false

/-! ### AUX rdWide -/
/-- What reading numbers wants of the world: the tables and the two errors as they were laid. -/
def ErrAt (w : World) (g : Nat) : Prop := ∃ ev, w.cell? ⟨g, 0, none⟩ = some ev ∧ (ev = .nilIface ∨ ∃ te pe, ev = .iface te pe)
def EnvOk (w : World) : Prop := TabOk w ∧ (∃ m, w.cell? ⟨1, 0, none⟩ = some (.int .i64 m)) ∧ ErrAt w 4 ∧ ErrAt w 5
theorem cell_on {w w1 : World} {p : Addr} {v : Value} (h : w.cell? p = some v) (hb : Below w.heap.size w w1) : w1.cell? p = some v := (hb.cell (World.block_lt_of_cell? w _ h)).trans h
theorem ErrAt.below {w w1 : World} {g : Nat} (h : ErrAt w g) (hb : Below w.heap.size w w1) : ErrAt w1 g := let ⟨ev, h1, h2⟩ := h; ⟨ev, cell_on h1 hb, h2⟩
theorem EnvOk.below {w w1 : World} (h : EnvOk w) (hb : Below w.heap.size w w1) : EnvOk w1 := ⟨tab_below h.1 hb, let ⟨m, hm⟩ := h.2.1; ⟨m, cell_on hm hb⟩, h.2.2.1.below hb, h.2.2.2.below hb⟩
def rdB (s : ByteArray) : Int × Bool := match rdDec s.data.toList with
 | some v => (v, true)
 | none => (0, false)
theorem decB_eq (v : Int) (s : ByteArray) : decB v = s ↔ Lib.itoa v = s.data.toList := by
 constructor
 ·rintro rfl; rfl
 ·intro h
  unfold decB
  rw [h]
theorem bq_false {a b : ByteArray} (h : a ≠ b) : (a.toList == b.toList) = false := by
 cases q : a.toList == b.toList with
 | false => rfl
 | true =>
  exfalso
  have h1 := beq_iff_eq.1 q
  rw [ByteArray.toList_eq, ByteArray.toList_eq] at h1
  exact h (ByteArray.ext (Array.ext' h1))
theorem bq_true {a b : ByteArray} (h : a = b) : (a.toList == b.toList) = true := by subst h; simp
theorem parse_in (l : List UInt8) (v : Int) (h : Lib.parseIntB 64 l = .ok v) : -9223372036854775808 ≤ v ∧ v ≤ 9223372036854775807 := by
 have e63 : (2 : Nat) ^ (64 - 1) = 9223372036854775808 := by decide
 unfold Lib.parseIntB at h
 split at h
 ·cases h
 ·dsimp only at h
  split at h
  ·cases h
  ·cases h
  ·rw [e63] at h
   split at h
   ·cases h
   ·split at h
    ·cases h
    ·injection h with h
     rename_i h1 h2
     split at h <;> omega
set_option maxHeartbeats 8000000 in
set_option maxRecDepth 100000 in
theorem readWide.calls (s : ByteArray) (v : Int) (ok : Bool) (w : World) (he : EnvOk w) (hs : s.size ≤ 281474976710656) (h : rdB s = (v, ok)) :
  Calls Tryd.prog 45 #[.string s, .int .i64 1000000000000000] w fun e w' => e = .returned (.tuple #[.int .i64 v, .bool ok]) ∧ Below w.heap.size w w' := by
 have HE := Aside0.mk he
 have HS := Aside0.mk hs
 clear he hs
 cases hp : Lib.parseIntB 64 s.data.toList with
 | «syntax» =>
  have hq : (0, false) = (v, ok) := by rw [← h]; unfold rdB rdDec; rw [hp]
  injection hq with e1 e2
  subst e1
  subst e2
  obtain ⟨ev, hv, hev⟩ := HE.out.2.2.1
  have HC := Aside0.mk (Tryd.strconv_ParseInt_10_at64_syntax s HS.out hp ev w hv hev)
  clear h hp hv hev
  go_enter Tryd.func45, Tryd.ntmps45
  go_wp2_with (go_at_call 59; refine HC.out.mono ?_; rintro e w1 ⟨G, rfl, _, _, hb⟩; have HB := Aside0.mk hb; clear hb)
  go_ret2
  exact ⟨rfl, HB.out⟩
 | range =>
  have hq : (0, false) = (v, ok) := by rw [← h]; unfold rdB rdDec; rw [hp]
  injection hq with e1 e2
  subst e1
  subst e2
  obtain ⟨ev, hv, hev⟩ := HE.out.2.2.2
  have HC := Aside0.mk (Tryd.strconv_ParseInt_10_at64_range s HS.out hp ev w hv hev)
  clear h hp hv hev
  go_enter Tryd.func45, Tryd.ntmps45
  go_wp2_with (go_at_call 59; refine HC.out.mono ?_; rintro e w1 ⟨G, rfl, _, _, hb⟩; have HB := Aside0.mk hb; clear hb)
  go_ret2
  exact ⟨rfl, HB.out⟩
 | ok u =>
  have hu := parse_in _ _ hp
  have HC : Aside0 (Calls Tryd.prog 59 #[.string s, .int .i64 10, .int .i64 64] w fun e w' => e = .returned (.tuple #[.int .i64 u, .nilIface]) ∧ Below w.heap.size w w') := ⟨(Tryd.strconv_ParseInt_10_at64_ok s (by have := HS.out; omega) u hp w).mono (fun e w' ⟨h1, h2⟩ => ⟨h1, by
   rcases h2 with rfl | ⟨t, rfl⟩
   ·exact Below.refl _ _
   ·exact Lib.bytesWorld_below _ _ _⟩)⟩
  have HD : Aside0 (impl_Decimal.f u = some (decB u)) := ⟨by unfold impl_Decimal.f; rw [if_pos hu]⟩
  have hr : rdB s = if decB u = s ∧ -1000000000000000 ≤ u ∧ u ≤ 1000000000000000 then (u, true) else (0, false) := by
   unfold rdB rdDec
   rw [hp]
   dsimp only
   by_cases hc : decB u = s ∧ -1000000000000000 ≤ u ∧ u ≤ 1000000000000000
   ·rw [if_pos hc, if_pos ⟨(decB_eq _ _).1 hc.1, hc.2⟩]
   ·rw [if_neg hc, if_neg (fun q => hc ⟨(decB_eq _ _).2 q.1, q.2⟩)]
  rw [hr] at h
  clear hr hp
  have HU := Aside0.mk hu
  clear hu
  by_cases c1 : decB u = s
  ·have d3 := bq_true c1
   by_cases c2 : -1000000000000000 ≤ u ∧ u ≤ 1000000000000000
   ·rw [if_pos ⟨c1, c2⟩] at h
    injection h with e1 e2
    subst e1
    subst e2
    have HW : Aside0 (impl_within.f u (-1000000000000000) 1000000000000000 = some true) := ⟨by unfold impl_within.f; rw [if_pos (by omega), decide_eq_true c2.2]⟩
    clear c2
    go_enter Tryd.func45, Tryd.ntmps45
    go_wp2_with (first | (go_at_call 59; refine HC.out.mono ?_; rintro e w1 ⟨rfl, hb⟩; have HB := Aside0.mk hb; clear hb) | (go_at_call 24; refine (impl_Decimal.calls (ht_ := (HE.out.below HB.out).1) (h := HD.out)).mono ?_; rintro e w2 ⟨rfl, hb⟩; have HB2 := Aside0.mk (below_step HB.out hb); clear hb) | (go_at_call 29; refine (impl_within.calls _ _ _ _ _ HW.out).mono ?_; rintro e w3 ⟨rfl, hd⟩; have HB3 := Aside0.mk (below_step HB2.out hd.below); clear hd))
    go_ret2
    exact ⟨rfl, HB3.out⟩
   ·rw [if_neg (fun q => c2 q.2)] at h
    injection h with e1 e2
    subst e1
    subst e2
    have HW : Aside0 (impl_within.f u (-1000000000000000) 1000000000000000 = some false) := ⟨by
     unfold impl_within.f
     by_cases q : u ≥ -1000000000000000
     ·rw [if_pos q, decide_eq_false (fun z => c2 ⟨q, z⟩)]
     ·rw [if_neg q]⟩
    clear c2
    go_enter Tryd.func45, Tryd.ntmps45
    go_wp2_with (first | (go_at_call 59; refine HC.out.mono ?_; rintro e w1 ⟨rfl, hb⟩; have HB := Aside0.mk hb; clear hb) | (go_at_call 24; refine (impl_Decimal.calls (ht_ := (HE.out.below HB.out).1) (h := HD.out)).mono ?_; rintro e w2 ⟨rfl, hb⟩; have HB2 := Aside0.mk (below_step HB.out hb); clear hb) | (go_at_call 29; refine (impl_within.calls _ _ _ _ _ HW.out).mono ?_; rintro e w3 ⟨rfl, hd⟩; have HB3 := Aside0.mk (below_step HB2.out hd.below); clear hd))
    go_ret2
    exact ⟨rfl, HB3.out⟩
  ·have d3 := bq_false c1
   rw [if_neg (fun q => c1 q.1)] at h
   injection h with e1 e2
   subst e1
   subst e2
   go_enter Tryd.func45, Tryd.ntmps45
   go_wp2_with (first | (go_at_call 59; refine HC.out.mono ?_; rintro e w1 ⟨rfl, hb⟩; have HB := Aside0.mk hb; clear hb) | (go_at_call 24; refine (impl_Decimal.calls (ht_ := (HE.out.below HB.out).1) (h := HD.out)).mono ?_; rintro e w2 ⟨rfl, hb⟩; have HB2 := Aside0.mk (below_step HB.out hb); clear hb))
   go_ret2
   exact ⟨rfl, HB2.out⟩

end Go.Proofs.YtbgokpobaemibaaDoor.Pa

namespace Go.Proofs.YtbgokpobaemibaaDoor.Pa
open Go.RowKit Go.Proofs.YtbgokpobaemibaaDoorW.PrintWords Go.Proofs.YtbgokpobaemibaaDoorW.PrintLast Go.Proofs.YtbgokpobaemibaaDoorW.PrintMore
attribute [local go_sem] max2_int min2_int max_two min_two max_three min_three max_four min_four   -- for this text's walks alone
set_option linter.unusedVariables false
set_option linter.unusedSimpArgs false

/-! ### AUX rdThreeN -/
set_option maxHeartbeats 4000000 in
set_option maxRecDepth 100000 in
theorem ReadDecimal.calls (s : ByteArray) (v : Int) (ok : Bool) (w : World) (he : EnvOk w) (hs : s.size ≤ 281474976710656) (h : rdB s = (v, ok)) :
    Calls Tryd.prog 26 #[.string s] w fun e w' => e = .returned (.tuple #[.int .i64 v, .bool ok]) ∧ Below w.heap.size w w' := by
  have HC := Aside0.mk (readWide.calls s v ok w he hs h)
  clear he hs h
  go_enter Tryd.func26, Tryd.ntmps26
  go_wp2_with (go_at_call 45; refine HC.out.mono ?_; rintro e w1 ⟨rfl, hb⟩; have HB := Aside0.mk hb; clear hb)
  go_ret2
  exact ⟨rfl, HB.out⟩
theorem piece_size (sep : ByteArray) (save : Nat) : ∀ (k : Nat) (s x : ByteArray), x ∈ Lib.splitB sep save k s → x.size ≤ s.size
  | 0, s, x, h => by
    obtain rfl := List.mem_singleton.1 h
    exact Nat.le_refl _
  | k + 1, s, x, h => by
    unfold Lib.splitB at h
    split at h
    · obtain rfl := List.mem_singleton.1 h
      exact Nat.le_refl _
    · rcases List.mem_cons.1 h with rfl | h
      · rw [ByteArray.size_extract]; omega
      · have := piece_size sep save k _ x h
        rw [ByteArray.size_extract] at this
        omega
/-- The words of a text. -/
def wordsB (c : UInt8) (s : ByteArray) : List ByteArray := Lib.splitB ⟨#[c]⟩ 0 (Lib.countB s ⟨#[c]⟩) s
theorem wordsB_size {c : UInt8} {s x : ByteArray} (h : x ∈ wordsB c s) : x.size ≤ s.size := piece_size _ _ _ _ _ h
theorem wordsB_cut (c : UInt8) (s : ByteArray) : (wordsB c s).map (·.data.toList) = cutL c s.data.toList := by
  unfold wordsB
  rw [Lib.splitB_data]
  exact splitK_cut c s.data.toList
theorem words_calls (c : UInt8) (s : ByteArray) (w : World) (he : EnvOk w) (hs : s.size < 4294967281) :
    Calls Tryd.prog 25 #[.string s, .string ⟨#[c]⟩] w fun e w' => e = .returned (.slice (some ⟨w.heap.size, 0, none⟩) (wordsB c s).length (wordsB c s).length) ∧ w' = w.alloc (.cells ((wordsB c s).map Value.string).toArray 9) := by
  obtain ⟨m, hm⟩ := he.2.1
  have hlen : (wordsB c s).length = Lib.countB s ⟨#[c]⟩ + 1 := Lib.splitB_all ⟨#[c]⟩ (Nat.le_refl 1) 0 _ s rfl
  have h := Tryd.strings_Split s ⟨#[c]⟩ m w hs hm (Nat.le_refl 1)
  rw [hlen]
  exact h
def rd3 (s : ByteArray) : Int × Int × Int × Bool := match wordsB 46 s with
  | [x, y, z] => ((rdB x).1, (rdB y).1, (rdB z).1, (rdB x).2 && (rdB y).2 && (rdB z).2)
  | _ => (0, 0, 0, false)
set_option maxHeartbeats 8000000 in
set_option maxRecDepth 100000 in
theorem threeNumbers.calls (s : ByteArray) (a b c : Int) (ok : Bool) (w : World) (he : EnvOk w) (hs : s.size < 4294967281) (h : rd3 s = (a, b, c, ok)) :
    Calls Tryd.prog 27 #[.string s] w fun e w' => e = .returned (.tuple #[.int .i64 a, .int .i64 b, .int .i64 c, .bool ok]) ∧ Below w.heap.size w w' := by
  have HC := Aside0.mk (words_calls 46 s w he hs)
  have HE := Aside0.mk he
  have HZ : Aside0 (∀ x ∈ wordsB 46 s, x.size ≤ 281474976710656) := ⟨fun x hx => by have := wordsB_size hx; omega⟩
  clear he hs
  unfold rd3 at h
  generalize wordsB 46 s = ws at h HC HZ
  by_cases h3 : ws.length = 3
  · obtain ⟨x, y, z, rfl⟩ : ∃ x y z, ws = [x, y, z] := by
      match ws, h3 with
      | [x, y, z], _ => exact ⟨x, y, z, rfl⟩
    dsimp only at h
    obtain ⟨a', o1, h1⟩ : ∃ v o, rdB x = (v, o) := ⟨_, _, rfl⟩
    obtain ⟨b', o2, h2⟩ : ∃ v o, rdB y = (v, o) := ⟨_, _, rfl⟩
    obtain ⟨c', o3, h3'⟩ : ∃ v o, rdB z = (v, o) := ⟨_, _, rfl⟩
    rw [h1, h2, h3'] at h
    injection h with e1 h
    injection h with e2 h
    injection h with e3 e4
    subst e1
    subst e2
    subst e3
    subst e4
    have H1 := Aside0.mk h1
    have H2 := Aside0.mk h2
    have H3 := Aside0.mk h3'
    have HC' : Aside0 (Calls Tryd.prog 25 #[.string s, .string ⟨#[46]⟩] w fun e w' => e = .returned (.slice (some ⟨w.heap.size, 0, none⟩) 3 3) ∧ w'.heap[w.heap.size]? = some (.cells #[.string x, .string y, .string z] 9 (0, 0)) ∧ Below w.heap.size w w') := ⟨HC.out.mono (fun e w' ⟨q1, q2⟩ => ⟨q1, by rw [q2]; exact blk_new w _, by rw [q2]; exact below_alloc (Below.refl _ _) _⟩)⟩
    have HZ1 : Aside0 (x.size ≤ 281474976710656 ∧ y.size ≤ 281474976710656 ∧ z.size ≤ 281474976710656) := ⟨HZ.out x (by simp), HZ.out y (by simp), HZ.out z (by simp)⟩
    clear HC HZ h1 h2 h3 h3'
    cases o1 <;> cases o2 <;> cases o3 <;>
      (go_enter Tryd.func27, Tryd.ntmps27
       go_wp2_with (first | (go_at_call 25; refine HC'.out.mono ?_; rintro e w1 ⟨rfl, hk, hb⟩; have HK := Aside0.mk hk; have HB := Aside0.mk hb; have k0 := blk_cell hk 0; have k1 := blk_cell hk 1; have k2 := blk_cell hk 2; clear hk hb) | (go_at_call 26; refine (ReadDecimal.calls x _ _ w1 (HE.out.below HB.out) HZ1.out.1 H1.out).mono ?_; rintro e w2 ⟨rfl, hb⟩; have HB2 := Aside0.mk (below_step HB.out hb); have HK2 := Aside0.mk (blk_below HK.out hb); clear H1 hb k0 k1 k2; have k1 := blk_cell HK2.out 1; have k2 := blk_cell HK2.out 2) | (go_at_call 26; refine (ReadDecimal.calls y _ _ w2 (HE.out.below HB2.out) HZ1.out.2.1 H2.out).mono ?_; rintro e w3 ⟨rfl, hb⟩; have HB3 := Aside0.mk (below_step HB2.out hb); have HK3 := Aside0.mk (blk_below HK2.out hb); clear H2 hb k1 k2; have k2 := blk_cell HK3.out 2) | (go_at_call 26; refine (ReadDecimal.calls z _ _ w3 (HE.out.below HB3.out) HZ1.out.2.2 H3.out).mono ?_; rintro e w4 ⟨rfl, hb⟩; have HB4 := Aside0.mk (below_step HB3.out hb); clear H3 hb k2))
       refine bodyPost_ret (by simp [results, Tryd.f27, go_sem]; rfl) rfl ?_
       exact ⟨rfl, HB4.out⟩)
  · obtain ⟨m, hm⟩ : ∃ m, ws.length = m := ⟨_, rfl⟩
    have hq : (0, 0, 0, false) = (a, b, c, ok) := by
      rw [← h]
      split
      · rename_i x y z
        exact absurd rfl h3
      · rfl
    injection hq with e1 hq
    injection hq with e2 hq
    injection hq with e3 e4
    subst e1
    subst e2
    subst e3
    subst e4
    rw [hm] at HC h3
    have d1 : ((m : Int) == 3) = false := beq_eq_false_iff_ne.mpr (by omega)
    have d2 : ((m : Int) != 3) = true := bne_iff_ne.mpr (by omega)
    have d3 : decide ((m : Int) = 3) = false := decide_eq_false (by omega)
    have d4 : decide (m = 3) = false := decide_eq_false h3
    have HC' : Aside0 (Calls Tryd.prog 25 #[.string s, .string ⟨#[46]⟩] w fun e w' => e = .returned (.slice (some ⟨w.heap.size, 0, none⟩) m m) ∧ Below w.heap.size w w') := ⟨HC.out.mono (fun e w' ⟨q1, q2⟩ => ⟨q1, by rw [q2]; exact below_alloc (Below.refl _ _) _⟩)⟩
    clear h hm HC HZ
    go_enter Tryd.func27, Tryd.ntmps27
    go_wp2_with (go_at_call 25; refine HC'.out.mono ?_; rintro e w1 ⟨rfl, hb⟩; have HB := Aside0.mk hb; clear hb)
    refine bodyPost_ret (by simp [results, Tryd.f27, go_sem]; rfl) rfl ?_
    exact ⟨rfl, HB.out⟩

end Go.Proofs.YtbgokpobaemibaaDoor.Pa

/- The reference's cutting of a text at a mark is the library's. -/
namespace Go.Proofs.YtbgokpobaemibaaDoor.Pure
open Go.RowKit Go.Proofs.YtbgokpobaemibaaDoor.Pa Go.Proofs.YtbgokpobaemibaaDoorW.PrintWords Go.Proofs.YtbgokpobaemibaaDoorW.PrintLast Go.Proofs.YtbgokpobaemibaaDoorW.PrintMore
set_option linter.unusedVariables false
set_option linter.unusedSimpArgs false

/-- What stands ahead joins the first piece. -/
def preL (p : List UInt8) : List (List UInt8) → List (List UInt8)
 | [] => [p]
 | w :: ws => (p ++ w) :: ws
theorem preL_nil (l : List (List UInt8)) (h : l ≠ []) : preL [] l = l := by
 cases l with
 | nil => exact absurd rfl h
 | cons w ws => rfl
theorem cutL_same (c : UInt8) (l : List UInt8) : cutL c (c :: l) = [] :: cutL c l := by
 rw [cutL, if_pos rfl]
theorem cutL_else (b c : UInt8) (l : List UInt8) (h : b ≠ c) : cutL c (b :: l) = preL [b] (cutL c l) := by
 rw [cutL, if_neg h]
 cases cutL c l <;> rfl
theorem preL_two (p q : List UInt8) (l : List (List UInt8)) : preL p (preL q l) = preL (p ++ q) l := by
 cases l <;> simp [preL]
theorem bt_get (s : ByteArray) (i : Nat) (h : i < s.size) : bt s (i : Int) = ((s.data.toList[i]'(by simpa using h)).toNat : Int) := by
 unfold bt
 rw [dif_pos (by simpa using h)]
 rfl
theorem cut_loop (s : ByteArray) (c : UInt8) (hs : s.size ≤ 2000000) : ∀ (d i f : Nat) (acc : List ByteArray) (k : Nat), s.size - i = d → f ≤ i → i ≤ s.size → acc.length ≤ i → d + 1 < k →
  ∃ r, spec_l01Cut.l0 k s (c.toNat : Int) acc (f : Int) (i : Int) = some r ∧ r.map (·.data.toList) = acc.map (·.data.toList) ++ preL ((s.data.toList.drop f).take (i - f)) (cutL c (s.data.toList.drop i))
 | 0, i, f, acc, k, hd, hf, hi, ha, hk => by
  obtain ⟨k, rfl⟩ : ∃ q, k = q + 2 := ⟨k - 2, by omega⟩
  obtain rfl : i = s.size := by omega
  have hw : wrap64 ((s.size : Int) + 1) = (s.size : Int) + 1 := wrap_id (by omega) (by omega)
  refine ⟨acc ++ [s.extract f s.size], ?_, ?_⟩
  ·rw [spec_l01Cut.l0, if_pos (by omega), if_pos rfl, if_pos (by omega), if_pos (by omega), if_pos (by omega), hw]
   rw [spec_l01Cut.l0, if_neg (by omega)]
   simp
  ·rw [List.map_append, show s.data.toList.drop s.size = [] from List.drop_of_length_le (by simp)]
   simp only [List.map_cons, List.map_nil, cutL, preL, Lib.extract_data, List.append_nil]
 | d + 1, i, f, acc, k, hd, hf, hi, ha, hk => by
  obtain ⟨k, rfl⟩ : ∃ q, k = q + 1 := ⟨k - 1, by omega⟩
  have hlt : i < s.size := by omega
  have hl : i < s.data.toList.length := by simpa using hlt
  have hw : wrap64 ((i : Int) + 1) = ((i + 1 : Nat) : Int) := by rw [wrap_id (by omega) (by omega)]; omega
  rw [spec_l01Cut.l0, if_pos (by omega), if_neg (by omega), if_pos (by omega), if_pos (by omega), bt_get s i hlt, hw, List.drop_eq_getElem_cons hl]
  by_cases hc : s.data.toList[i] = c
  ·rw [if_pos (by rw [hc]), if_pos (by omega), if_pos (by omega), if_pos (by omega)]
   obtain ⟨r, h1, h2⟩ := cut_loop s c hs d (i + 1) (i + 1) (acc ++ [s.extract f i]) k (by omega) (Nat.le_refl _) (by omega) (by simp; omega) (by omega)
   refine ⟨r, ?_, ?_⟩
   ·simpa using h1
   ·rw [h2, hc, cutL_same, Nat.sub_self, List.take_zero, preL_nil _ (cutL_ne c _), List.map_append]
    simp only [List.map_cons, List.map_nil, preL, Lib.extract_data, List.append_assoc, List.append_nil, List.singleton_append]
  ·rw [if_neg (fun h => hc (UInt8.toNat_inj.1 (by omega)))]
   obtain ⟨r, h1, h2⟩ := cut_loop s c hs d (i + 1) f acc k (by omega) (by omega) (by omega) (by omega) (by omega)
   refine ⟨r, h1, ?_⟩
   rw [h2, cutL_else _ _ _ hc, preL_two]
   congr 2
   rw [show i + 1 - f = (i - f) + 1 by omega, List.take_add_one, List.getElem?_drop, show f + (i - f) = i by omega, List.getElem?_eq_getElem hl]
   rfl
theorem toLists_inj : ∀ (a b : List ByteArray), a.map (·.data.toList) = b.map (·.data.toList) → a = b
 | [], [], _ => rfl
 | [], _ :: _, h => by cases h
 | _ :: _, [], h => by cases h
 | x :: a, y :: b, h => by
  rw [List.map_cons, List.map_cons] at h
  injection h with h1 h2
  rw [toLists_inj a b h2, show x = y from ByteArray.ext (Array.ext' h1)]
theorem cut_tells (s : ByteArray) (c : UInt8) (hs : s.size ≤ 2000000) (k : Nat) (hk : s.size + 1 < k) : spec_l01Cut.f k s (c.toNat : Int) = some (wordsB c s) := by
 obtain ⟨r, h1, h2⟩ := cut_loop s c hs s.size 0 0 [] k (by omega) (Nat.le_refl _) (by omega) (Nat.le_refl _) hk
 unfold spec_l01Cut.f
 rw [show ((0 : Nat) : Int) = 0 from rfl] at h1
 rw [h1, toLists_inj r (wordsB c s) (by rw [h2, wordsB_cut, List.drop_zero, Nat.sub_self, List.take_zero, preL_nil _ (cutL_ne c _)]; rfl)]
end Go.Proofs.YtbgokpobaemibaaDoor.Pure

