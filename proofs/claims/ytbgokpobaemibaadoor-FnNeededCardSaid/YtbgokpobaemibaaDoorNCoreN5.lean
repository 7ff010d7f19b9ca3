-- Written for this claim by a program of this session.
import Derived.Test.YtbgokpobaemibaaDoorNPax0
import Derived.Test.YtbgokpobaemibaaDoorNCoreN2
import Derived.Test.YtbgokpobaemibaaDoorNCoreN4
import Derived.Lib.SplitLaws
import Derived.Lib.ParseIntB
import Derived.Lib.ItoaMem
import Derived.Lib.IndexBytes
import Derived.Test.YtbgokpobaemibaaDoorNCoreN1
import Derived.Test.YtbgokpobaemibaaDoorNShelfP
import Derived.Test.YtbgokpobaemibaaDoorNShelfS
import Derived.Lib.AppendIntMem
namespace Go.Proofs.YtbgokpobaemibaaDoor.Pa
open Go.RowKit Go.Proofs.YtbgokpobaemibaaDoorW.PrintWords Go.Proofs.YtbgokpobaemibaaDoorW.PrintLast Go.Proofs.YtbgokpobaemibaaDoorW.PrintMore
attribute [local go_sem] max2_int min2_int max_two min_two max_three min_three max_four min_four   -- for this text's walks alone
set_option linter.unusedVariables false
set_option linter.unusedSimpArgs false

/-! ### impl_DiagramText: function 9 -/
def impl_DiagramText.l0 : Nat → ByteArray → List (S39) → Int → Int → Option (ByteArray × Bool)
 | 0, _, _, _, _ => none
 | k + 1, x4, x14, x15, x16 => if x16 < x15 then (if 0 ≤ x16 then (if x16 < (x14.length : Int) then ((impl_Decimal.f ((rd_T39 x14 x16).f0)).bind fun t255 => (if 1 + t255.size ≤ 9223372036854775807 then (if ((⟨#[44]⟩ : ByteArray) ++ t255).size + 1 ≤ 9223372036854775807 then ((impl_Decimal.f ((rd_T39 x14 x16).f1)).bind fun t256 => (if (((⟨#[44]⟩ : ByteArray) ++ t255) ++ (⟨#[46]⟩ : ByteArray)).size + t256.size ≤ 9223372036854775807 then (if ((((⟨#[44]⟩ : ByteArray) ++ t255) ++ (⟨#[46]⟩ : ByteArray)) ++ t256).size + 1 ≤ 9223372036854775807 then ((impl_Decimal.f ((rd_T39 x14 x16).f2)).bind fun t257 => (if (((((⟨#[44]⟩ : ByteArray) ++ t255) ++ (⟨#[46]⟩ : ByteArray)) ++ t256) ++ (⟨#[46]⟩ : ByteArray)).size + t257.size ≤ 9223372036854775807 then (if x4.size + ((((((⟨#[44]⟩ : ByteArray) ++ t255) ++ (⟨#[46]⟩ : ByteArray)) ++ t256) ++ (⟨#[46]⟩ : ByteArray)) ++ t257).size ≤ 9223372036854775807 then (impl_DiagramText.l0 k (x4 ++ ((((((⟨#[44]⟩ : ByteArray) ++ t255) ++ (⟨#[46]⟩ : ByteArray)) ++ t256) ++ (⟨#[46]⟩ : ByteArray)) ++ t257)) x14 x15 (wrap64 (x16 + 1))) else (none)) else (none))) else (none)) else (none))) else (none)) else (none))) else (none)) else (none)) else (some (x4, true))
def impl_DiagramText.f (k : Nat) (a0_0 : Int) (l0_1 : List (S39)) : Option (ByteArray × Bool) := (impl_ValidDiagram.f a0_0 l0_1).bind fun t251 => (if t251 = true then ((impl_Decimal.f a0_0).bind fun t252 => (impl_DiagramText.l0 k t252 l0_1 (l0_1.length : Int) 0)) else (some ((⟨#[]⟩ : ByteArray), false)))
def impl_DiagramText.T7 : Bool × List (List Nat × List Nat) := (true, [([], []), ([], []), ([1], [1]), ([2], [2]), ([3], [3]), ([4], [4]), ([], []), ([6], [6]), ([7, 3], [7]), ([5, 8], [5, 8]), ([9], [9]), ([], []), ([11], [11]), ([12, 8], [12]), ([10, 13], [10, 13]), ([0, 14], [0, 14]), ([15, 13, 0, 1, 2, 3, 4, 5, 6, 7, 8, 9, 10, 11, 12, 13, 14, 15], [0, 15])])
def impl_DiagramText.B7 : List Nat := [0, 0, 2, 6, 14, 30, 0, 64, 206, 510, 1022, 0, 2048, 6606, 16382, 32767, 65535]
theorem impl_DiagramText.tab7 : rtab .any (opsOf Tryd.f9 7) = impl_DiagramText.T7 := by kernel_rfl
theorem impl_DiagramText.bits7 : waitsOk impl_DiagramText.T7.2 impl_DiagramText.B7 = true := by kernel_rfl
set_option maxHeartbeats 8000000 in
set_option maxRecDepth 100000 in
theorem impl_DiagramText.calls (k : Nat) (a0_0 : Int) (A0_1 : Option Addr) (c0_1 : Nat) (l0_1 : List (S39)) (r1 : ByteArray) (r2 : Bool) (w : World) (ht_ : TabOk w) (hr0_1 : Kd.C k39 w A0_1 l0_1.length l0_1) (hc0_1 : l0_1.length ≤ c0_1) (h : impl_DiagramText.f k a0_0 l0_1 = some (r1, r2)) :
  Calls Tryd.prog 9 #[.agg #[.int .i64 a0_0, .slice A0_1 l0_1.length c0_1]] w fun e w' => e = .returned (.tuple #[.string r1, .bool r2]) ∧ Below w.heap.size w w' := by
 have hu26 := Tryd.underlying26
 have hu39 := Tryd.underlying39
 have HR0_1 := Aside0.mk hr0_1
 have HC0_1 := Aside0.mk hc0_1
 clear hr0_1 hc0_1
 have HTab_ := Aside0.mk ht_
 clear ht_
 have HB := Aside0.mk (Below.refl w.heap.size w)
 have H : ((impl_ValidDiagram.f a0_0 l0_1).bind fun t251 => (if t251 = true then ((impl_Decimal.f a0_0).bind fun t252 => (impl_DiagramText.l0 k t252 l0_1 (l0_1.length : Int) 0)) else (some ((⟨#[]⟩ : ByteArray), false)))) = some (r1, r2) := h
 clear h
 replace H := Option.bind_eq_some_iff.mp H
 obtain ⟨t251, A20, H⟩ := H
 replace H : (if t251 = true then ((impl_Decimal.f a0_0).bind fun t252 => (impl_DiagramText.l0 k t252 l0_1 (l0_1.length : Int) 0)) else (some ((⟨#[]⟩ : ByteArray), false))) = some (r1, r2) := H
 have A2 := Aside0.mk A20
 clear A20
 by_cases c3 : t251 = true
 ·subst c3
  have H1 : ((impl_Decimal.f a0_0).bind fun t252 => (impl_DiagramText.l0 k t252 l0_1 (l0_1.length : Int) 0)) = some (r1, r2) := by rw [if_pos rfl] at H; exact H
  clear H
  have H := H1
  clear H1
  replace H := Option.bind_eq_some_iff.mp H
  obtain ⟨t252, A40, H⟩ := H
  replace H : (impl_DiagramText.l0 k t252 l0_1 (l0_1.length : Int) 0) = some (r1, r2) := H
  have A4 := Aside0.mk A40
  clear A40
  have H' := Aside0.mk H
  clear H
  go_enter Tryd.func9, Tryd.ntmps9
  go_wp2_with (first | ((with_reducible refine gate_dst (N := 1) rfl ?_); refine box_event ?hg (N := 1) ?hd (cs := #[.int .i64 a0_0, .slice A0_1 l0_1.length c0_1]) (t := 26) ?hr ?_; (case hd => rfl); (case hg => rfl); (case hr => first | (go_simp; done) | (go_simp; rfl)); intro gb250 hg w5 hbox hb; have n0_ := Aside0.mk (below_step (by repeat (first | (with_reducible first | exact HB.out | apply below_alloc | apply pw_below_drewN | apply below_drew1) | exact HB.out)) hb); have n1_ := Aside0.mk (hbox); have n2_ := Aside0.mk ((by rw [hg]; exact (below_size (by repeat (first | (with_reducible first | exact HB.out | apply below_alloc | apply pw_below_drewN | apply below_drew1) | exact HB.out))) : w.heap.size ≤ gb250)); have n3_ := Aside0.mk ((by rw [hg]; exact (below_size (by repeat (first | (with_reducible first | exact HB.out | apply below_alloc | apply pw_below_drewN | apply below_drew1) | exact HB.out))) : w.heap.size ≤ gb250)); clear HB; have HB := n0_; have BK250 := n1_; have GW250 := n2_; have GE250 := n3_; clear n0_ n1_ n2_ n3_; clear hb hbox hg; have hcz6_0 : w5.cell? ⟨gb250, 0, none⟩ = some (.int .i64 a0_0) := (blk_cell BK250.out 0).trans rfl; have hcz6_1 : w5.cell? ⟨gb250, 1, none⟩ = some (.slice A0_1 l0_1.length c0_1) := (blk_cell BK250.out 1).trans rfl; have hfz6_0 := blk_frozen BK250.out 0; have hfz6_1 := blk_frozen BK250.out 1) | ((with_reducible refine gate_callee (f := 15) rfl ?_); refine goesL_ (some 8) rfl rfl Tryd.func15 (by kernel_rfl) rfl #[.agg #[.int .i64 a0_0, .slice A0_1 l0_1.length c0_1]] rfl (by (try simp only [List.map_toArray, List.map_cons, List.map_nil]); first | done | rfl | (simp only [List.length_drop, List.length_take]; rfl)) ?_; (with_reducible refine (impl_ValidDiagram.calls a0_0 _ _ l0_1 true _ ?side1 ?side2 A2.out).mono ?_); (case side1 => repeat (first | exact (Kd.C_below HR0_1.out HB.out) | (with_reducible refine Kd.C_alloc ?_ _) | (with_reducible refine Kd.C_drewN ?_ _) | (with_reducible refine Kd.C_drew ?_))); (case side2 => exact HC0_1.out); rintro e w7 ⟨rfl, hb⟩; refine ⟨_, rfl, ?_⟩; have n0_ := Aside0.mk (blk_below (g := gb250) (o := .cells #[.int .i64 a0_0, .slice A0_1 l0_1.length c0_1] 26 (0, 0)) (by (with_reducible repeat (first | refine blk_drewN ?_ _ | refine blk_drew ?_ | refine blk_alloc ?_ _)); exact BK250.out) hb); have n1_ := Aside0.mk (below_step (by repeat (first | (with_reducible first | exact HB.out | apply below_alloc | apply pw_below_drewN | apply below_drew1 | refine below_set ?_ GE250.out) | exact HB.out)) hb); clear BK250; clear HB; have BK250 := n0_; have HB := n1_; clear n0_ n1_; (try clear hb); (try clear hb2); (try clear hk); (try clear hi); have hcz8_0 : w7.cell? ⟨gb250, 0, none⟩ = some (.int .i64 a0_0) := (blk_cell BK250.out 0).trans rfl; have hcz8_1 : w7.cell? ⟨gb250, 1, none⟩ = some (.slice A0_1 l0_1.length c0_1) := (blk_cell BK250.out 1).trans rfl; have hfz8_0 := blk_frozen BK250.out 0; have hfz8_1 := blk_frozen BK250.out 1) | ((with_reducible refine gate_callee (f := 24) rfl ?_); refine goesL_ (some 12) rfl rfl Tryd.func24 (by kernel_rfl) rfl #[.int .i64 a0_0] rfl (by (try simp only [List.map_toArray, List.map_cons, List.map_nil]); first | done | rfl | (simp only [List.length_drop, List.length_take]; rfl)) ?_; (with_reducible refine (impl_Decimal.calls a0_0 t252 _ (tab_below HTab_.out (by repeat (first | (with_reducible first | exact HB.out | apply below_alloc | apply pw_below_drewN | apply below_drew1 | refine below_set ?_ GE250.out | refine below_set ?_ GE254.out) | exact HB.out))) A4.out).mono ?_); rintro e w9 ⟨rfl, hb⟩; refine ⟨_, rfl, ?_⟩; have n0_ := Aside0.mk (blk_below (g := gb250) (o := .cells #[.int .i64 a0_0, .slice A0_1 l0_1.length c0_1] 26 (0, 0)) (by (with_reducible repeat (first | refine blk_drewN ?_ _ | refine blk_drew ?_ | refine blk_alloc ?_ _)); exact BK250.out) hb); have n1_ := Aside0.mk (below_step (by repeat (first | (with_reducible first | exact HB.out | apply below_alloc | apply pw_below_drewN | apply below_drew1 | refine below_set ?_ GE250.out) | exact HB.out)) hb); clear BK250; clear HB; have BK250 := n0_; have HB := n1_; clear n0_ n1_; (try clear hb); (try clear hb2); (try clear hk); (try clear hi); have hcz10_0 : w9.cell? ⟨gb250, 0, none⟩ = some (.int .i64 a0_0) := (blk_cell BK250.out 0).trans rfl; have hcz10_1 : w9.cell? ⟨gb250, 1, none⟩ = some (.slice A0_1 l0_1.length c0_1) := (blk_cell BK250.out 1).trans rfl; have hfz10_0 := blk_frozen BK250.out 0; have hfz10_1 := blk_frozen BK250.out 1))
  go_loopg [4, 16] k (fun kq v4 v16 w' => ∃ (x4_1 : ByteArray) (x16_1 : Int), v4 = .string x4_1 ∧ v16 = .int .i64 x16_1 ∧ Aside0 (impl_DiagramText.l0 kq x4_1 l0_1 (l0_1.length : Int) x16_1 = some (r1, r2)) ∧ Aside0 (kq ≤ k) ∧ Aside0 (w'.heap[gb250]? = some (.cells #[.int .i64 a0_0, (.slice A0_1 l0_1.length c0_1)] 26 (0, 0))) ∧ Aside0 (Below w.heap.size w w'))
  case atStart => exact ⟨(t252), (0), (by first | rfl | (simp; done) | (simp [*]; done)), (by first | rfl | (simp; done) | (simp [*]; done)), H', ⟨Nat.le_refl _⟩, ⟨by (with_reducible repeat (first | refine blk_drewN ?_ _ | refine blk_drew ?_ | refine blk_alloc ?_ _)); exact BK250.out⟩, ⟨by repeat (first | (with_reducible first | exact HB.out | apply below_alloc | apply pw_below_drewN | apply below_drew1 | refine below_set ?_ GE250.out) | exact HB.out)⟩⟩
  case round =>
   clear H'
   try clear c1
   try clear c2
   try clear p2
   try clear c3
   try clear c9
   try clear hcz10_0
   try clear hcz10_1
   try clear hcz6_0
   try clear hcz6_1
   try clear hcz8_0
   try clear hcz8_1
   try clear hfz10_0
   try clear hfz10_1
   try clear hfz6_0
   try clear hfz6_1
   try clear hfz8_0
   try clear hfz8_1
   obtain ⟨x4_1, x16_1, rfl, rfl, HA, HK1, BK250, HB⟩ := hrel
   cases gk with
   | zero => exact absurd HA.out (by simp [impl_DiagramText.l0])
   | succ k1 =>
    have H := HA.out
    clear HA
    simp only [impl_DiagramText.l0] at H
    by_cases c11 : x16_1 < (l0_1.length : Int)
    ·rw [if_pos c11] at H
     have c11b0 : decide (x16_1 < (l0_1.length : Int)) = true := decide_eq_true c11
     clear c11
     by_cases c12 : 0 ≤ x16_1
     ·rw [if_pos c12] at H
      have c12b0 : decide (0 ≤ x16_1) = true := decide_eq_true c12
      clear c12
      by_cases c13 : x16_1 < (l0_1.length : Int)
      ·rw [if_pos c13] at H
       have c13b0 : decide (x16_1 < (l0_1.length : Int)) = true := decide_eq_true c13
       clear c13
       replace H := Option.bind_eq_some_iff.mp H
       obtain ⟨t255, A140, H⟩ := H
       replace H : (if 1 + t255.size ≤ 9223372036854775807 then (if ((⟨#[44]⟩ : ByteArray) ++ t255).size + 1 ≤ 9223372036854775807 then ((impl_Decimal.f ((rd_T39 l0_1 x16_1).f1)).bind fun t256 => (if (((⟨#[44]⟩ : ByteArray) ++ t255) ++ (⟨#[46]⟩ : ByteArray)).size + t256.size ≤ 9223372036854775807 then (if ((((⟨#[44]⟩ : ByteArray) ++ t255) ++ (⟨#[46]⟩ : ByteArray)) ++ t256).size + 1 ≤ 9223372036854775807 then ((impl_Decimal.f ((rd_T39 l0_1 x16_1).f2)).bind fun t257 => (if (((((⟨#[44]⟩ : ByteArray) ++ t255) ++ (⟨#[46]⟩ : ByteArray)) ++ t256) ++ (⟨#[46]⟩ : ByteArray)).size + t257.size ≤ 9223372036854775807 then (if x4_1.size + ((((((⟨#[44]⟩ : ByteArray) ++ t255) ++ (⟨#[46]⟩ : ByteArray)) ++ t256) ++ (⟨#[46]⟩ : ByteArray)) ++ t257).size ≤ 9223372036854775807 then (impl_DiagramText.l0 k1 (x4_1 ++ ((((((⟨#[44]⟩ : ByteArray) ++ t255) ++ (⟨#[46]⟩ : ByteArray)) ++ t256) ++ (⟨#[46]⟩ : ByteArray)) ++ t257)) l0_1 (l0_1.length : Int) (wrap64 (x16_1 + 1))) else (none)) else (none))) else (none)) else (none))) else (none)) else (none)) = some (r1, r2) := H
       have A14 := Aside0.mk A140
       clear A140
       by_cases c15 : 1 + t255.size ≤ 9223372036854775807
       ·rw [if_pos c15] at H
        have c15b0 := eq_true c15
        have c15b1 : decide (1 + t255.size ≤ 9223372036854775807) = true := decide_eq_true c15
        try have c15b2 : (9223372036854775807 < 1 + t255.size) = False := eq_false (Nat.not_lt.2 c15)
        by_cases c16 : ((⟨#[44]⟩ : ByteArray) ++ t255).size + 1 ≤ 9223372036854775807
        ·rw [if_pos c16] at H
         have c16b0 := eq_true c16
         have c16b1 : decide (((⟨#[44]⟩ : ByteArray) ++ t255).size + 1 ≤ 9223372036854775807) = true := decide_eq_true c16
         try have c16b2 : (9223372036854775807 < ((⟨#[44]⟩ : ByteArray) ++ t255).size + 1) = False := eq_false (Nat.not_lt.2 c16)
         have c16_c_sum_ : (9223372036854775807 < 1 + t255.size + 1) = False := eq_false (Nat.not_lt.2 (by have h_ := c16; simp only [ByteArray.size_append, show (⟨#[44]⟩ : ByteArray).size = 1 from rfl] at h_; omega))
         replace H := Option.bind_eq_some_iff.mp H
         obtain ⟨t256, A170, H⟩ := H
         replace H : (if (((⟨#[44]⟩ : ByteArray) ++ t255) ++ (⟨#[46]⟩ : ByteArray)).size + t256.size ≤ 9223372036854775807 then (if ((((⟨#[44]⟩ : ByteArray) ++ t255) ++ (⟨#[46]⟩ : ByteArray)) ++ t256).size + 1 ≤ 9223372036854775807 then ((impl_Decimal.f ((rd_T39 l0_1 x16_1).f2)).bind fun t257 => (if (((((⟨#[44]⟩ : ByteArray) ++ t255) ++ (⟨#[46]⟩ : ByteArray)) ++ t256) ++ (⟨#[46]⟩ : ByteArray)).size + t257.size ≤ 9223372036854775807 then (if x4_1.size + ((((((⟨#[44]⟩ : ByteArray) ++ t255) ++ (⟨#[46]⟩ : ByteArray)) ++ t256) ++ (⟨#[46]⟩ : ByteArray)) ++ t257).size ≤ 9223372036854775807 then (impl_DiagramText.l0 k1 (x4_1 ++ ((((((⟨#[44]⟩ : ByteArray) ++ t255) ++ (⟨#[46]⟩ : ByteArray)) ++ t256) ++ (⟨#[46]⟩ : ByteArray)) ++ t257)) l0_1 (l0_1.length : Int) (wrap64 (x16_1 + 1))) else (none)) else (none))) else (none)) else (none)) = some (r1, r2) := H
         have A17 := Aside0.mk A170
         clear A170
         by_cases c18 : (((⟨#[44]⟩ : ByteArray) ++ t255) ++ (⟨#[46]⟩ : ByteArray)).size + t256.size ≤ 9223372036854775807
         ·rw [if_pos c18] at H
          have c18b0 := eq_true c18
          have c18b1 : decide ((((⟨#[44]⟩ : ByteArray) ++ t255) ++ (⟨#[46]⟩ : ByteArray)).size + t256.size ≤ 9223372036854775807) = true := decide_eq_true c18
          try have c18b2 : (9223372036854775807 < (((⟨#[44]⟩ : ByteArray) ++ t255) ++ (⟨#[46]⟩ : ByteArray)).size + t256.size) = False := eq_false (Nat.not_lt.2 c18)
          have c18_c_sum_ : (9223372036854775807 < 1 + t255.size + 1 + t256.size) = False := eq_false (Nat.not_lt.2 (by have h_ := c18; simp only [ByteArray.size_append, show (⟨#[44]⟩ : ByteArray).size = 1 from rfl, show (⟨#[46]⟩ : ByteArray).size = 1 from rfl] at h_; omega))
          by_cases c19 : ((((⟨#[44]⟩ : ByteArray) ++ t255) ++ (⟨#[46]⟩ : ByteArray)) ++ t256).size + 1 ≤ 9223372036854775807
          ·rw [if_pos c19] at H
           have c19b0 := eq_true c19
           have c19b1 : decide (((((⟨#[44]⟩ : ByteArray) ++ t255) ++ (⟨#[46]⟩ : ByteArray)) ++ t256).size + 1 ≤ 9223372036854775807) = true := decide_eq_true c19
           try have c19b2 : (9223372036854775807 < ((((⟨#[44]⟩ : ByteArray) ++ t255) ++ (⟨#[46]⟩ : ByteArray)) ++ t256).size + 1) = False := eq_false (Nat.not_lt.2 c19)
           have c19_c_sum_ : (9223372036854775807 < 1 + t255.size + 1 + t256.size + 1) = False := eq_false (Nat.not_lt.2 (by have h_ := c19; simp only [ByteArray.size_append, show (⟨#[44]⟩ : ByteArray).size = 1 from rfl, show (⟨#[46]⟩ : ByteArray).size = 1 from rfl] at h_; omega))
           replace H := Option.bind_eq_some_iff.mp H
           obtain ⟨t257, A200, H⟩ := H
           replace H : (if (((((⟨#[44]⟩ : ByteArray) ++ t255) ++ (⟨#[46]⟩ : ByteArray)) ++ t256) ++ (⟨#[46]⟩ : ByteArray)).size + t257.size ≤ 9223372036854775807 then (if x4_1.size + ((((((⟨#[44]⟩ : ByteArray) ++ t255) ++ (⟨#[46]⟩ : ByteArray)) ++ t256) ++ (⟨#[46]⟩ : ByteArray)) ++ t257).size ≤ 9223372036854775807 then (impl_DiagramText.l0 k1 (x4_1 ++ ((((((⟨#[44]⟩ : ByteArray) ++ t255) ++ (⟨#[46]⟩ : ByteArray)) ++ t256) ++ (⟨#[46]⟩ : ByteArray)) ++ t257)) l0_1 (l0_1.length : Int) (wrap64 (x16_1 + 1))) else (none)) else (none)) = some (r1, r2) := H
           have A20 := Aside0.mk A200
           clear A200
           by_cases c21 : (((((⟨#[44]⟩ : ByteArray) ++ t255) ++ (⟨#[46]⟩ : ByteArray)) ++ t256) ++ (⟨#[46]⟩ : ByteArray)).size + t257.size ≤ 9223372036854775807
           ·rw [if_pos c21] at H
            have c21b0 := eq_true c21
            have c21b1 : decide ((((((⟨#[44]⟩ : ByteArray) ++ t255) ++ (⟨#[46]⟩ : ByteArray)) ++ t256) ++ (⟨#[46]⟩ : ByteArray)).size + t257.size ≤ 9223372036854775807) = true := decide_eq_true c21
            try have c21b2 : (9223372036854775807 < (((((⟨#[44]⟩ : ByteArray) ++ t255) ++ (⟨#[46]⟩ : ByteArray)) ++ t256) ++ (⟨#[46]⟩ : ByteArray)).size + t257.size) = False := eq_false (Nat.not_lt.2 c21)
            have c21_c_sum_ : (9223372036854775807 < 1 + t255.size + 1 + t256.size + 1 + t257.size) = False := eq_false (Nat.not_lt.2 (by have h_ := c21; simp only [ByteArray.size_append, show (⟨#[44]⟩ : ByteArray).size = 1 from rfl, show (⟨#[46]⟩ : ByteArray).size = 1 from rfl] at h_; omega))
            by_cases c22 : x4_1.size + ((((((⟨#[44]⟩ : ByteArray) ++ t255) ++ (⟨#[46]⟩ : ByteArray)) ++ t256) ++ (⟨#[46]⟩ : ByteArray)) ++ t257).size ≤ 9223372036854775807
            ·rw [if_pos c22] at H
             have c22b0 := eq_true c22
             have c22b1 : decide (x4_1.size + ((((((⟨#[44]⟩ : ByteArray) ++ t255) ++ (⟨#[46]⟩ : ByteArray)) ++ t256) ++ (⟨#[46]⟩ : ByteArray)) ++ t257).size ≤ 9223372036854775807) = true := decide_eq_true c22
             try have c22b2 : (9223372036854775807 < x4_1.size + ((((((⟨#[44]⟩ : ByteArray) ++ t255) ++ (⟨#[46]⟩ : ByteArray)) ++ t256) ++ (⟨#[46]⟩ : ByteArray)) ++ t257).size) = False := eq_false (Nat.not_lt.2 c22)
             have c22_c_sum_ : (9223372036854775807 < x4_1.size + (1 + t255.size + 1 + t256.size + 1 + t257.size)) = False := eq_false (Nat.not_lt.2 (by have h_ := c22; simp only [ByteArray.size_append, show (⟨#[44]⟩ : ByteArray).size = 1 from rfl, show (⟨#[46]⟩ : ByteArray).size = 1 from rfl] at h_; omega))
             have H' := Aside0.mk H
             clear H
             have p253 : 0 ≤ (x16_1 : Int) := of_decide_eq_true (by with_reducible assumption)
             have q253 : x16_1 < (l0_1.length : Int) := of_decide_eq_true (by with_reducible assumption)
             obtain ⟨ad253, e253, hx253_0, hx253_1, hx253_2⟩ := at_T39 HR0_1.out x16_1 p253 q253
             cases e253
             replace hx253_0 := (HB.out.cell (World.block_lt_of_cell? w _ hx253_0)).trans hx253_0
             replace hx253_1 := (HB.out.cell (World.block_lt_of_cell? w _ hx253_1)).trans hx253_1
             replace hx253_2 := (HB.out.cell (World.block_lt_of_cell? w _ hx253_2)).trans hx253_2
             replace p253 := eq_true p253
             replace q253 := eq_true q253
             try go_wp2_with (first | ((with_reducible refine gate_dst (N := 6) rfl ?_); refine box_event ?hg (N := 6) ?hd (cs := #[.int .i64 0, .int .i64 0, .int .i64 0]) (t := 39) ?hr ?_; (case hd => rfl); (case hg => rfl); (case hr => first | (go_simp; done) | (go_simp; rfl)); intro gb254 hg w23 hbox hb; have n0_ := Aside0.mk (blk_below (g := gb250) (o := .cells #[.int .i64 a0_0, .slice (some ad253) l0_1.length c0_1] 26 (0, 0)) (by (with_reducible repeat (first | refine blk_drewN ?_ _ | refine blk_drew ?_ | refine blk_alloc ?_ _)); exact BK250.out) hb); have n1_ := Aside0.mk (below_step (by repeat (first | (with_reducible first | exact HB.out | apply below_alloc | apply pw_below_drewN | apply below_drew1 | refine below_set ?_ GE250.out) | exact HB.out)) hb); have n2_ := Aside0.mk (hbox); have n3_ := Aside0.mk ((by rw [hg]; exact (below_size (by repeat (first | (with_reducible first | exact HB.out | apply below_alloc | apply pw_below_drewN | apply below_drew1 | refine below_set ?_ GE250.out) | exact HB.out))) : w.heap.size ≤ gb254)); have n4_ := Aside0.mk ((by rw [hg]; exact (below_size (by repeat (first | (with_reducible first | exact HB.out | apply below_alloc | apply pw_below_drewN | apply below_drew1 | refine below_set ?_ GE250.out) | exact HB.out))) : w.heap.size ≤ gb254)); have n5_ := Aside0.mk ((by rw [hg]; exact Nat.ne_of_lt (blk_lt (g := gb250) (o := .cells #[.int .i64 a0_0, .slice (some ad253) l0_1.length c0_1] 26 (0, 0)) (by (with_reducible repeat (first | refine blk_drewN ?_ _ | refine blk_drew ?_ | refine blk_alloc ?_ _)); exact BK250.out)) : gb250 ≠ gb254)); have n6_ := Aside0.mk ((by rw [hg]; exact Nat.ne_of_gt (blk_lt (g := gb250) (o := .cells #[.int .i64 a0_0, .slice (some ad253) l0_1.length c0_1] 26 (0, 0)) (by (with_reducible repeat (first | refine blk_drewN ?_ _ | refine blk_drew ?_ | refine blk_alloc ?_ _)); exact BK250.out)) : gb254 ≠ gb250)); clear BK250; clear HB; have BK250 := n0_; have HB := n1_; have BK254 := n2_; have GW254 := n3_; have GE254 := n4_; have NB250_254 := n5_; have NB254_250 := n6_; clear n0_ n1_ n2_ n3_ n4_ n5_ n6_; clear hb hbox hg; have hnb24 := NB254_250.out; have hnc24 := NB250_254.out; have hcz25_0 : w23.cell? ⟨gb254, 0, none⟩ = some (.int .i64 0) := (blk_cell BK254.out 0).trans rfl; have hcz25_1 : w23.cell? ⟨gb254, 1, none⟩ = some (.int .i64 0) := (blk_cell BK254.out 1).trans rfl; have hcz25_2 : w23.cell? ⟨gb254, 2, none⟩ = some (.int .i64 0) := (blk_cell BK254.out 2).trans rfl; have hfz25_0 := blk_frozen BK254.out 0; have hfz25_1 := blk_frozen BK254.out 1; have hfz25_2 := blk_frozen BK254.out 2))
             have n0_ : Aside0 ((((w23.setCell ⟨gb254, 0, none⟩ (.int .i64 ((rd_T39 l0_1 x16_1).f0))).setCell ⟨gb254, 1, none⟩ (.int .i64 ((rd_T39 l0_1 x16_1).f1))).setCell ⟨gb254, 2, none⟩ (.int .i64 ((rd_T39 l0_1 x16_1).f2))).heap[gb250]? = some (.cells #[.int .i64 a0_0, .slice (some ad253) l0_1.length c0_1] 26 (0, 0))) := ⟨by (with_reducible repeat (first | refine blk_drewN ?_ _ | refine blk_drew ?_ | refine blk_alloc ?_ _)); refine blk_far ?_ NB250_254.out _; (with_reducible repeat (first | refine blk_drewN ?_ _ | refine blk_drew ?_ | refine blk_alloc ?_ _)); refine blk_far ?_ NB250_254.out _; (with_reducible repeat (first | refine blk_drewN ?_ _ | refine blk_drew ?_ | refine blk_alloc ?_ _)); refine blk_far ?_ NB250_254.out _; (with_reducible repeat (first | refine blk_drewN ?_ _ | refine blk_drew ?_ | refine blk_alloc ?_ _)); exact BK250.out⟩
             have n1_ : Aside0 ((((w23.setCell ⟨gb254, 0, none⟩ (.int .i64 ((rd_T39 l0_1 x16_1).f0))).setCell ⟨gb254, 1, none⟩ (.int .i64 ((rd_T39 l0_1 x16_1).f1))).setCell ⟨gb254, 2, none⟩ (.int .i64 ((rd_T39 l0_1 x16_1).f2))).heap[gb254]? = some (.cells #[.int .i64 ((rd_T39 l0_1 x16_1).f0), .int .i64 ((rd_T39 l0_1 x16_1).f1), .int .i64 ((rd_T39 l0_1 x16_1).f2)] 39 (0, 0))) := ⟨by (with_reducible repeat (first | refine blk_drewN ?_ _ | refine blk_drew ?_ | refine blk_alloc ?_ _)); refine blk_put (cs := #[.int .i64 ((rd_T39 l0_1 x16_1).f0), .int .i64 ((rd_T39 l0_1 x16_1).f1), .int .i64 0]) ?_ 2 _ rfl; (with_reducible repeat (first | refine blk_drewN ?_ _ | refine blk_drew ?_ | refine blk_alloc ?_ _)); refine blk_put (cs := #[.int .i64 ((rd_T39 l0_1 x16_1).f0), .int .i64 0, .int .i64 0]) ?_ 1 _ rfl; (with_reducible repeat (first | refine blk_drewN ?_ _ | refine blk_drew ?_ | refine blk_alloc ?_ _)); refine blk_put (cs := #[.int .i64 0, .int .i64 0, .int .i64 0]) ?_ 0 _ rfl; (with_reducible repeat (first | refine blk_drewN ?_ _ | refine blk_drew ?_ | refine blk_alloc ?_ _)); exact BK254.out⟩
             have n2_ : Aside0 (Below w.heap.size w (((w23.setCell ⟨gb254, 0, none⟩ (.int .i64 ((rd_T39 l0_1 x16_1).f0))).setCell ⟨gb254, 1, none⟩ (.int .i64 ((rd_T39 l0_1 x16_1).f1))).setCell ⟨gb254, 2, none⟩ (.int .i64 ((rd_T39 l0_1 x16_1).f2)))) := ⟨by repeat (first | (with_reducible first | exact HB.out | apply below_alloc | apply pw_below_drewN | apply below_drew1 | refine below_set ?_ GE250.out | refine below_set ?_ GE254.out) | exact HB.out)⟩
             (try clear BK250)
             (try clear BK254)
             (try clear HB)
             generalize (((w23.setCell ⟨gb254, 0, none⟩ (.int .i64 ((rd_T39 l0_1 x16_1).f0))).setCell ⟨gb254, 1, none⟩ (.int .i64 ((rd_T39 l0_1 x16_1).f1))).setCell ⟨gb254, 2, none⟩ (.int .i64 ((rd_T39 l0_1 x16_1).f2))) = w26 at n0_ n1_ n2_ ⊢
             have BK250 := n0_
             have BK254 := n1_
             have HB := n2_
             clear n0_ n1_ n2_
             have n0_ := Aside0.mk (blk_drew BK250.out)
             have n1_ := Aside0.mk (blk_drew BK254.out)
             have n2_ := Aside0.mk (below_drew1 HB.out)
             clear BK250
             clear BK254
             clear HB
             have BK250 := n0_
             have BK254 := n1_
             have HB := n2_
             clear n0_ n1_ n2_
             refine start_ (n := 17) (S := fun w' => w'.cell? ⟨gb254, 0, none⟩ = some (.int .i64 ((rd_T39 l0_1 x16_1).f0)) ∧ w'.cell? ⟨gb254, 1, none⟩ = some (.int .i64 ((rd_T39 l0_1 x16_1).f1)) ∧ w'.cell? ⟨gb254, 2, none⟩ = some (.int .i64 ((rd_T39 l0_1 x16_1).f2))) (ds := []) #[false, false, false, false, false, false, false, false, false, false, false, false, false, false, false, false, false] (by kernel_rfl) rfl rfl ⟨(blk_cell BK254.out 0).trans rfl, (blk_cell BK254.out 1).trans rfl, (blk_cell BK254.out 2).trans rfl⟩ (fun hHeld => ?_); refine with_tabW impl_DiagramText.tab7 impl_DiagramText.bits7 (fun HT_ HW_ => ?_)
             generalize w26.drew = w27 at BK250 BK254 HB hHeld ⊢
             refine pure_ (i := 0) (N := some 20) (v := ?_) (a' := ?_) #[true, false, false, false, false, false, false, false, false, false, false, false, false, false, false, false, false] rfl rfl (any_of HT_.out (by kernel_rfl)) (fun _ _ _ h => h) (Or.inl ⟨by rfl, ?_⟩) ?_ ?_
             rotate_left
             ·intro w'
              go_simp
              with_reducible rfl
             rotate_left
             ·simp only [Act.put, List.setIfInBounds_toArray, List.set_cons_zero, List.set_cons_succ, i64_w, i32_w]
              rfl
             refine pure_ (i := 1) (N := some 21) (v := ?_) (a' := ?_) #[true, true, false, false, false, false, false, false, false, false, false, false, false, false, false, false, false] rfl rfl (any_of HT_.out (by kernel_rfl)) (fun _ _ _ h => h) (Or.inl ⟨by rfl, ?_⟩) ?_ ?_
             rotate_left
             ·intro w'
              go_simp
              with_reducible rfl
             rotate_left
             ·simp only [Act.put, List.setIfInBounds_toArray, List.set_cons_zero, List.set_cons_succ, i64_w, i32_w]
              rfl
             refine pure_ (i := 6) (N := some 26) (v := ?_) (a' := ?_) #[true, true, false, false, false, false, true, false, false, false, false, false, false, false, false, false, false] rfl rfl (any_of HT_.out (by kernel_rfl)) (fun _ _ _ h => h) (Or.inl ⟨by rfl, ?_⟩) ?_ ?_
             rotate_left
             ·intro w'
              go_simp
              with_reducible rfl
             rotate_left
             ·simp only [Act.put, List.setIfInBounds_toArray, List.set_cons_zero, List.set_cons_succ, i64_w, i32_w]
              rfl
             refine pure_ (i := 11) (N := some 31) (v := ?_) (a' := ?_) #[true, true, false, false, false, false, true, false, false, false, false, true, false, false, false, false, false] rfl rfl (any_of HT_.out (by kernel_rfl)) (fun _ _ _ h => h) (Or.inl ⟨by rfl, ?_⟩) ?_ ?_
             rotate_left
             ·intro w'
              go_simp
              with_reducible rfl
             rotate_left
             ·simp only [Act.put, List.setIfInBounds_toArray, List.set_cons_zero, List.set_cons_succ, i64_w, i32_w]
              rfl
             refine take_ (i := 2) (N := some 22) (v := ?_) (a' := ?_) #[true, true, true, false, false, false, true, false, false, false, false, true, false, false, false, false, false] rfl rfl (take_ofW HT_.out HW_.out (by kernel_rfl)) (fun _ _ _ h => h) (Or.inl ⟨by rfl, ?_⟩) hHeld ?_ ?_
             rotate_left
             ·rintro w' ⟨s0, s1, s2⟩
              go_simp
              with_reducible rfl
             rotate_left
             ·simp only [Act.put, List.setIfInBounds_toArray, List.set_cons_zero, List.set_cons_succ, i64_w, i32_w]
              rfl
             refine take_ (i := 7) (N := some 27) (v := ?_) (a' := ?_) #[true, true, true, false, false, false, true, true, false, false, false, true, false, false, false, false, false] rfl rfl (take_ofW HT_.out HW_.out (by kernel_rfl)) (fun _ _ _ h => h) (Or.inl ⟨by rfl, ?_⟩) hHeld ?_ ?_
             rotate_left
             ·rintro w' ⟨s0, s1, s2⟩
              go_simp
              with_reducible rfl
             rotate_left
             ·simp only [Act.put, List.setIfInBounds_toArray, List.set_cons_zero, List.set_cons_succ, i64_w, i32_w]
              rfl
             refine take_ (i := 12) (N := some 32) (v := ?_) (a' := ?_) #[true, true, true, false, false, false, true, true, false, false, false, true, true, false, false, false, false] rfl rfl (take_ofW HT_.out HW_.out (by kernel_rfl)) (fun _ _ _ h => h) (Or.inl ⟨by rfl, ?_⟩) hHeld ?_ ?_
             rotate_left
             ·rintro w' ⟨s0, s1, s2⟩
              go_simp
              with_reducible rfl
             rotate_left
             ·simp only [Act.put, List.setIfInBounds_toArray, List.set_cons_zero, List.set_cons_succ, i64_w, i32_w]
              rfl
             refine one_ (i := 3) (N := some 23) #[true, true, true, true, false, false, true, true, false, false, false, true, true, false, false, false, false] rfl rfl (one_of HT_.out (by kernel_rfl)) (by decide) (fun K hK => ?_)
             refine goes_ Tryd.func24 (by kernel_rfl) rfl #[.int .i64 ((rd_T39 l0_1 x16_1).f0)] (by rfl) rfl rfl (by (try simp only [List.map_toArray, List.map_cons, List.map_nil]); first | done | rfl | (simp only [List.length_drop, List.length_take]; rfl)) ?_
             with_reducible refine (impl_Decimal.calls ((rd_T39 l0_1 x16_1).f0) t255 _ (tab_below HTab_.out (by repeat (first | (with_reducible first | exact HB.out | apply below_alloc | apply pw_below_drewN | apply below_drew1 | refine below_set ?_ GE250.out | refine below_set ?_ GE254.out) | exact HB.out))) A14.out).mono ?_
             rintro e w28 ⟨rfl, hb⟩
             refine ⟨_, rfl, ?_⟩
             have n0_ := Aside0.mk (blk_below (g := gb250) (o := .cells #[.int .i64 a0_0, .slice (some ad253) l0_1.length c0_1] 26 (0, 0)) (by (with_reducible repeat (first | refine blk_drewN ?_ _ | refine blk_drew ?_ | refine blk_alloc ?_ _)); exact BK250.out) hb)
             have n1_ := Aside0.mk (blk_below (g := gb254) (o := .cells #[.int .i64 ((rd_T39 l0_1 x16_1).f0), .int .i64 ((rd_T39 l0_1 x16_1).f1), .int .i64 ((rd_T39 l0_1 x16_1).f2)] 39 (0, 0)) (by (with_reducible repeat (first | refine blk_drewN ?_ _ | refine blk_drew ?_ | refine blk_alloc ?_ _)); exact BK254.out) hb)
             have n2_ := Aside0.mk (below_step (by repeat (first | (with_reducible first | exact HB.out | apply below_alloc | apply pw_below_drewN | apply below_drew1 | refine below_set ?_ GE250.out | refine below_set ?_ GE254.out) | exact HB.out)) hb)
             clear BK250
             clear BK254
             clear HB
             have BK250 := n0_
             have BK254 := n1_
             have HB := n2_
             clear n0_ n1_ n2_
             (try clear hb)
             (try clear hb2)
             (try clear hk)
             (try clear hi)
             refine hK.out _ _ ⟨(blk_cell BK254.out 0).trans rfl, (blk_cell BK254.out 1).trans rfl, (blk_cell BK254.out 2).trans rfl⟩ (fun hHeld => ?_)
             clear hK K
             refine norm_ (a' := ?_) ?_ ?_
             rotate_left
             ·show Act.put _ (some 23) _ = _
              simp only [Act.put, List.setIfInBounds_toArray, List.set_cons_zero, List.set_cons_succ, i64_w, i32_w]
              rfl
             refine pure_ (i := 4) (N := some 24) (v := ?_) (a' := ?_) #[true, true, true, true, true, false, true, true, false, false, false, true, true, false, false, false, false] rfl rfl (any_of HT_.out (by kernel_rfl)) (fun _ _ _ h => h) (Or.inl ⟨by rfl, ?_⟩) ?_ ?_
             rotate_left
             ·intro w'
              go_simp
              with_reducible rfl
             rotate_left
             ·simp only [Act.put, List.setIfInBounds_toArray, List.set_cons_zero, List.set_cons_succ, i64_w, i32_w]
              rfl
             refine pure_ (i := 5) (N := some 25) (v := ?_) (a' := ?_) #[true, true, true, true, true, true, true, true, false, false, false, true, true, false, false, false, false] rfl rfl (any_of HT_.out (by kernel_rfl)) (fun _ _ _ h => h) (Or.inl ⟨by rfl, ?_⟩) ?_ ?_
             rotate_left
             ·intro w'
              go_simp
              with_reducible rfl
             rotate_left
             ·simp only [Act.put, List.setIfInBounds_toArray, List.set_cons_zero, List.set_cons_succ, i64_w, i32_w]
              rfl
             refine one_ (i := 8) (N := some 28) #[true, true, true, true, true, true, true, true, true, false, false, true, true, false, false, false, false] rfl rfl (one_of HT_.out (by kernel_rfl)) (by decide) (fun K hK => ?_)
             refine goes_ Tryd.func24 (by kernel_rfl) rfl #[.int .i64 ((rd_T39 l0_1 x16_1).f1)] (by rfl) rfl rfl (by (try simp only [List.map_toArray, List.map_cons, List.map_nil]); first | done | rfl | (simp only [List.length_drop, List.length_take]; rfl)) ?_
             with_reducible refine (impl_Decimal.calls ((rd_T39 l0_1 x16_1).f1) t256 _ (tab_below HTab_.out (by repeat (first | (with_reducible first | exact HB.out | apply below_alloc | apply pw_below_drewN | apply below_drew1 | refine below_set ?_ GE250.out | refine below_set ?_ GE254.out) | exact HB.out))) A17.out).mono ?_
             rintro e w29 ⟨rfl, hb⟩
             refine ⟨_, rfl, ?_⟩
             have n0_ := Aside0.mk (blk_below (g := gb250) (o := .cells #[.int .i64 a0_0, .slice (some ad253) l0_1.length c0_1] 26 (0, 0)) (by (with_reducible repeat (first | refine blk_drewN ?_ _ | refine blk_drew ?_ | refine blk_alloc ?_ _)); exact BK250.out) hb)
             have n1_ := Aside0.mk (blk_below (g := gb254) (o := .cells #[.int .i64 ((rd_T39 l0_1 x16_1).f0), .int .i64 ((rd_T39 l0_1 x16_1).f1), .int .i64 ((rd_T39 l0_1 x16_1).f2)] 39 (0, 0)) (by (with_reducible repeat (first | refine blk_drewN ?_ _ | refine blk_drew ?_ | refine blk_alloc ?_ _)); exact BK254.out) hb)
             have n2_ := Aside0.mk (below_step (by repeat (first | (with_reducible first | exact HB.out | apply below_alloc | apply pw_below_drewN | apply below_drew1 | refine below_set ?_ GE250.out | refine below_set ?_ GE254.out) | exact HB.out)) hb)
             clear BK250
             clear BK254
             clear HB
             have BK250 := n0_
             have BK254 := n1_
             have HB := n2_
             clear n0_ n1_ n2_
             (try clear hb)
             (try clear hb2)
             (try clear hk)
             (try clear hi)
             refine hK.out _ _ ⟨(blk_cell BK254.out 0).trans rfl, (blk_cell BK254.out 1).trans rfl, (blk_cell BK254.out 2).trans rfl⟩ (fun hHeld => ?_)
             clear hK K
             refine norm_ (a' := ?_) ?_ ?_
             rotate_left
             ·show Act.put _ (some 28) _ = _
              simp only [Act.put, List.setIfInBounds_toArray, List.set_cons_zero, List.set_cons_succ, i64_w, i32_w]
              rfl
             refine pure_ (i := 9) (N := some 29) (v := ?_) (a' := ?_) #[true, true, true, true, true, true, true, true, true, true, false, true, true, false, false, false, false] rfl rfl (any_of HT_.out (by kernel_rfl)) (fun _ _ _ h => h) (Or.inl ⟨by rfl, ?_⟩) ?_ ?_
             rotate_left
             ·intro w'
              go_simp
              with_reducible rfl
             rotate_left
             ·simp only [Act.put, List.setIfInBounds_toArray, List.set_cons_zero, List.set_cons_succ, i64_w, i32_w]
              rfl
             refine pure_ (i := 10) (N := some 30) (v := ?_) (a' := ?_) #[true, true, true, true, true, true, true, true, true, true, true, true, true, false, false, false, false] rfl rfl (any_of HT_.out (by kernel_rfl)) (fun _ _ _ h => h) (Or.inl ⟨by rfl, ?_⟩) ?_ ?_
             rotate_left
             ·intro w'
              go_simp
              with_reducible rfl
             rotate_left
             ·simp only [Act.put, List.setIfInBounds_toArray, List.set_cons_zero, List.set_cons_succ, i64_w, i32_w]
              rfl
             refine one_ (i := 13) (N := some 33) #[true, true, true, true, true, true, true, true, true, true, true, true, true, true, false, false, false] rfl rfl (one_of HT_.out (by kernel_rfl)) (by decide) (fun K hK => ?_)
             refine goes_ Tryd.func24 (by kernel_rfl) rfl #[.int .i64 ((rd_T39 l0_1 x16_1).f2)] (by rfl) rfl rfl (by (try simp only [List.map_toArray, List.map_cons, List.map_nil]); first | done | rfl | (simp only [List.length_drop, List.length_take]; rfl)) ?_
             with_reducible refine (impl_Decimal.calls ((rd_T39 l0_1 x16_1).f2) t257 _ (tab_below HTab_.out (by repeat (first | (with_reducible first | exact HB.out | apply below_alloc | apply pw_below_drewN | apply below_drew1 | refine below_set ?_ GE250.out | refine below_set ?_ GE254.out) | exact HB.out))) A20.out).mono ?_
             rintro e w30 ⟨rfl, hb⟩
             refine ⟨_, rfl, ?_⟩
             have n0_ := Aside0.mk (blk_below (g := gb250) (o := .cells #[.int .i64 a0_0, .slice (some ad253) l0_1.length c0_1] 26 (0, 0)) (by (with_reducible repeat (first | refine blk_drewN ?_ _ | refine blk_drew ?_ | refine blk_alloc ?_ _)); exact BK250.out) hb)
             have n1_ := Aside0.mk (blk_below (g := gb254) (o := .cells #[.int .i64 ((rd_T39 l0_1 x16_1).f0), .int .i64 ((rd_T39 l0_1 x16_1).f1), .int .i64 ((rd_T39 l0_1 x16_1).f2)] 39 (0, 0)) (by (with_reducible repeat (first | refine blk_drewN ?_ _ | refine blk_drew ?_ | refine blk_alloc ?_ _)); exact BK254.out) hb)
             have n2_ := Aside0.mk (below_step (by repeat (first | (with_reducible first | exact HB.out | apply below_alloc | apply pw_below_drewN | apply below_drew1 | refine below_set ?_ GE250.out | refine below_set ?_ GE254.out) | exact HB.out)) hb)
             clear BK250
             clear BK254
             clear HB
             have BK250 := n0_
             have BK254 := n1_
             have HB := n2_
             clear n0_ n1_ n2_
             (try clear hb)
             (try clear hb2)
             (try clear hk)
             (try clear hi)
             refine hK.out _ _ ⟨(blk_cell BK254.out 0).trans rfl, (blk_cell BK254.out 1).trans rfl, (blk_cell BK254.out 2).trans rfl⟩ (fun hHeld => ?_)
             clear hK K
             refine norm_ (a' := ?_) ?_ ?_
             rotate_left
             ·show Act.put _ (some 33) _ = _
              simp only [Act.put, List.setIfInBounds_toArray, List.set_cons_zero, List.set_cons_succ, i64_w, i32_w]
              rfl
             refine pure_ (i := 14) (N := some 34) (v := ?_) (a' := ?_) #[true, true, true, true, true, true, true, true, true, true, true, true, true, true, true, false, false] rfl rfl (any_of HT_.out (by kernel_rfl)) (fun _ _ _ h => h) (Or.inl ⟨by rfl, ?_⟩) ?_ ?_
             rotate_left
             ·intro w'
              go_simp
              with_reducible rfl
             rotate_left
             ·simp only [Act.put, List.setIfInBounds_toArray, List.set_cons_zero, List.set_cons_succ, i64_w, i32_w]
              rfl
             refine pure_ (i := 15) (N := some 35) (v := ?_) (a' := ?_) #[true, true, true, true, true, true, true, true, true, true, true, true, true, true, true, true, false] rfl rfl (any_of HT_.out (by kernel_rfl)) (fun _ _ _ h => h) (Or.inl ⟨by rfl, ?_⟩) ?_ ?_
             rotate_left
             ·intro w'
              go_simp
              with_reducible rfl
             rotate_left
             ·simp only [Act.put, List.setIfInBounds_toArray, List.set_cons_zero, List.set_cons_succ, i64_w, i32_w]
              rfl
             refine pure_ (i := 16) (N := some 4) (v := ?_) (a' := ?_) #[true, true, true, true, true, true, true, true, true, true, true, true, true, true, true, true, true] rfl rfl (any_of HT_.out (by kernel_rfl)) (fun _ _ _ h => h) (Or.inl ⟨by rfl, ?_⟩) ?_ ?_
             rotate_left
             ·intro w'
              go_simp
              with_reducible rfl
             rotate_left
             ·simp only [Act.put, List.setIfInBounds_toArray, List.set_cons_zero, List.set_cons_succ, i64_w, i32_w]
              rfl
             refine done_ (done_of HT_.out (by kernel_rfl)) ?_
             try go_wp2
             go_roundg k1
             case measure => have := HK1.out; omega
             case rel => exact ⟨(x4_1 ++ ((((((⟨#[44]⟩ : ByteArray) ++ t255) ++ (⟨#[46]⟩ : ByteArray)) ++ t256) ++ (⟨#[46]⟩ : ByteArray)) ++ t257)), (wrap64 (x16_1 + 1)), (by first | rfl | (simp; done) | (simp [*]; done)), (by first | rfl | (simp; done) | (simp [*]; done)), H', ⟨by have := HK1.out; omega⟩, ⟨by (with_reducible repeat (first | refine blk_drewN ?_ _ | refine blk_drew ?_ | refine blk_alloc ?_ _)); exact BK250.out⟩, ⟨by repeat (first | (with_reducible first | exact HB.out | apply below_alloc | apply pw_below_drewN | apply below_drew1 | refine below_set ?_ GE250.out | refine below_set ?_ GE254.out) | exact HB.out)⟩⟩
            ·rw [if_neg c22] at H
             exact absurd H (by simp)
           ·rw [if_neg c21] at H
            exact absurd H (by simp)
          ·rw [if_neg c19] at H
           exact absurd H (by simp)
         ·rw [if_neg c18] at H
          exact absurd H (by simp)
        ·rw [if_neg c16] at H
         exact absurd H (by simp)
       ·rw [if_neg c15] at H
        exact absurd H (by simp)
      ·rw [if_neg c13] at H
       exact absurd H (by simp)
     ·rw [if_neg c12] at H
      exact absurd H (by simp)
    ·rw [if_neg c11] at H
     have c11b0 : decide (x16_1 < (l0_1.length : Int)) = false := decide_eq_false c11
     clear c11
     simp only [Option.some.injEq, Prod.mk.injEq] at H
     obtain ⟨rfl, rfl⟩ := H
     go_wp2
     go_ret2
     exact ⟨by first | rfl | (simp [errW_none, errW_some] <;> rfl) | (simp [*, errW_none, errW_some] <;> rfl), by repeat (first | (with_reducible first | exact HB.out | apply below_alloc | apply pw_below_drewN | apply below_drew1 | refine below_set ?_ GE250.out) | exact HB.out)⟩
 ·replace c3 := Bool.eq_false_iff.mpr c3
  subst c3
  have H1 : (some ((⟨#[]⟩ : ByteArray), false)) = some (r1, r2) := by rw [if_neg (show ¬ (false = true) by decide)] at H; exact H
  clear H
  have H := H1
  clear H1
  simp only [Option.some.injEq, Prod.mk.injEq] at H
  obtain ⟨rfl, rfl⟩ := H
  go_enter Tryd.func9, Tryd.ntmps9
  go_wp2_with (first | ((with_reducible refine gate_dst (N := 1) rfl ?_); refine box_event ?hg (N := 1) ?hd (cs := #[.int .i64 a0_0, .slice A0_1 l0_1.length c0_1]) (t := 26) ?hr ?_; (case hd => rfl); (case hg => rfl); (case hr => first | (go_simp; done) | (go_simp; rfl)); intro gb250 hg w31 hbox hb; have n0_ := Aside0.mk (below_step (by repeat (first | (with_reducible first | exact HB.out | apply below_alloc | apply pw_below_drewN | apply below_drew1) | exact HB.out)) hb); have n1_ := Aside0.mk (hbox); have n2_ := Aside0.mk ((by rw [hg]; exact (below_size (by repeat (first | (with_reducible first | exact HB.out | apply below_alloc | apply pw_below_drewN | apply below_drew1) | exact HB.out))) : w.heap.size ≤ gb250)); have n3_ := Aside0.mk ((by rw [hg]; exact (below_size (by repeat (first | (with_reducible first | exact HB.out | apply below_alloc | apply pw_below_drewN | apply below_drew1) | exact HB.out))) : w.heap.size ≤ gb250)); clear HB; have HB := n0_; have BK250 := n1_; have GW250 := n2_; have GE250 := n3_; clear n0_ n1_ n2_ n3_; clear hb hbox hg; have hcz32_0 : w31.cell? ⟨gb250, 0, none⟩ = some (.int .i64 a0_0) := (blk_cell BK250.out 0).trans rfl; have hcz32_1 : w31.cell? ⟨gb250, 1, none⟩ = some (.slice A0_1 l0_1.length c0_1) := (blk_cell BK250.out 1).trans rfl; have hfz32_0 := blk_frozen BK250.out 0; have hfz32_1 := blk_frozen BK250.out 1) | ((with_reducible refine gate_callee (f := 15) rfl ?_); refine goesL_ (some 8) rfl rfl Tryd.func15 (by kernel_rfl) rfl #[.agg #[.int .i64 a0_0, .slice A0_1 l0_1.length c0_1]] rfl (by (try simp only [List.map_toArray, List.map_cons, List.map_nil]); first | done | rfl | (simp only [List.length_drop, List.length_take]; rfl)) ?_; (with_reducible refine (impl_ValidDiagram.calls a0_0 _ _ l0_1 false _ ?side1 ?side2 A2.out).mono ?_); (case side1 => repeat (first | exact (Kd.C_below HR0_1.out HB.out) | (with_reducible refine Kd.C_alloc ?_ _) | (with_reducible refine Kd.C_drewN ?_ _) | (with_reducible refine Kd.C_drew ?_))); (case side2 => exact HC0_1.out); rintro e w33 ⟨rfl, hb⟩; refine ⟨_, rfl, ?_⟩; have n0_ := Aside0.mk (blk_below (g := gb250) (o := .cells #[.int .i64 a0_0, .slice A0_1 l0_1.length c0_1] 26 (0, 0)) (by (with_reducible repeat (first | refine blk_drewN ?_ _ | refine blk_drew ?_ | refine blk_alloc ?_ _)); exact BK250.out) hb); have n1_ := Aside0.mk (below_step (by repeat (first | (with_reducible first | exact HB.out | apply below_alloc | apply pw_below_drewN | apply below_drew1 | refine below_set ?_ GE250.out) | exact HB.out)) hb); clear BK250; clear HB; have BK250 := n0_; have HB := n1_; clear n0_ n1_; (try clear hb); (try clear hb2); (try clear hk); (try clear hi)))
  go_ret2
  exact ⟨by first | rfl | (simp [errW_none, errW_some] <;> rfl) | (simp [*, errW_none, errW_some] <;> rfl), by repeat (first | (with_reducible first | exact HB.out | apply below_alloc | apply pw_below_drewN | apply below_drew1 | refine below_set ?_ GE250.out) | exact HB.out)⟩

end Go.Proofs.YtbgokpobaemibaaDoor.Pa

namespace Go.Proofs.YtbgokpobaemibaaDoor.Pa
open Go.RowKit Go.Proofs.YtbgokpobaemibaaDoorW.PrintWords Go.Proofs.YtbgokpobaemibaaDoorW.PrintLast Go.Proofs.YtbgokpobaemibaaDoorW.PrintMore
attribute [local go_sem] max2_int min2_int max_two min_two max_three min_three max_four min_four   -- for this text's walks alone
set_option linter.unusedVariables false
set_option linter.unusedSimpArgs false

/-! ### AUX texts -/
/-- A text cut at a mark. -/
def cutL (c : UInt8) : List UInt8 → List (List UInt8)
 | [] => [[]]
 | b :: l => if b = c then [] :: cutL c l else match cutL c l with
  | [] => [[b]]
  | w :: ws => (b :: w) :: ws
theorem cutL_ne (c : UInt8) : ∀ l, cutL c l ≠ []
 | [] => by simp [cutL]
 | b :: l => by
  unfold cutL
  split
  ·simp
  ·split <;> simp
theorem indexByte_miss (c : UInt8) : ∀ l : List UInt8, Lib.indexByte l c = -1 → l.count c = 0
 | [], _ => rfl
 | b :: l, h => by
  unfold Lib.indexByte at h
  by_cases e : b = c
  ·rw [if_pos (by simpa using e)] at h; cases h
  ·rw [if_neg (by simpa using e)] at h
   by_cases h1 : Lib.indexByte l c = -1
   ·rw [List.count_cons_of_ne e, indexByte_miss c l h1]
   ·rw [if_neg (by simpa using h1)] at h
    have := Lib.indexByte_ge l c
    omega
theorem splitK_cut (c : UInt8) : ∀ l : List UInt8, Lib.splitK [c] 0 (Lib.count l [c]) l = cutL c l
 | [] => by
  rw [Lib.count_one]
  rfl
 | b :: l => by
  have ih := splitK_cut c l
  by_cases e : b = c
  ·subst e
   rw [Lib.count_cons_eq, Nat.add_comm]
   unfold Lib.splitK cutL
   have hi : Lib.index (b :: l) [b] = 0 := by rw [Lib.index_one]; unfold Lib.indexByte; rw [if_pos (by simp)]
   rw [hi, if_neg (by decide), if_pos rfl]
   simp only [List.length_singleton, Int.toNat_zero, Nat.zero_add, List.take_zero, List.drop_succ_cons, List.drop_zero]
   rw [ih]
  ·rw [Lib.count_cons_ne _ _ _ e]
   unfold cutL
   rw [if_neg e, ← ih]
   cases hk : Lib.count l [c] with
   | zero => rfl
   | succ k =>
    have hx : Lib.index l [c] ≠ -1 := by
     intro h
     rw [Lib.index_one] at h
     have := indexByte_miss c l h
     rw [Lib.count_one] at hk
     omega
    have h0 := Lib.indexByte_ge l c
    have h1 : Lib.index (b :: l) [c] = Lib.index l [c] + 1 := by
     rw [Lib.index_one, Lib.index_one] at *
     conv => lhs; unfold Lib.indexByte
     rw [if_neg (by simpa using e), if_neg (by simpa using hx)]
    rw [← Lib.index_one] at h0
    unfold Lib.splitK
    rw [h1, if_neg (by simp; omega), if_neg (by simpa using hx)]
    dsimp only
    rw [show (Lib.index l [c] + 1).toNat = (Lib.index l [c]).toNat + 1 by omega]
    simp only [Nat.add_zero, List.take_succ_cons, List.length_singleton, List.drop_succ_cons]
/-- Words with a mark between them. -/
def joinL (c : UInt8) : List (List UInt8) → List UInt8
 | [] => []
 | [w] => w
 | w :: v :: ws => w ++ c :: joinL c (v :: ws)
theorem cutL_word (c : UInt8) : ∀ w : List UInt8, c ∉ w → cutL c w = [w]
 | [], _ => rfl
 | b :: w, h => by
  unfold cutL
  rw [if_neg (fun e => h (by rw [e]; exact List.mem_cons_self ..)), cutL_word c w (fun q => h (List.mem_cons_of_mem _ q))]
theorem cutL_first (c : UInt8) (r : List UInt8) : ∀ w : List UInt8, c ∉ w → cutL c (w ++ c :: r) = w :: cutL c r
 | [], _ => by
  show cutL c (c :: r) = _
  conv => lhs; unfold cutL
  rw [if_pos rfl]
 | b :: w, h => by
  show cutL c (b :: (w ++ c :: r)) = _
  conv => lhs; unfold cutL
  rw [if_neg (fun e => h (by rw [e]; exact List.mem_cons_self ..)), cutL_first c r w (fun q => h (List.mem_cons_of_mem _ q))]
theorem cutL_join (c : UInt8) : ∀ ws : List (List UInt8), ws ≠ [] → (∀ w ∈ ws, c ∉ w) → cutL c (joinL c ws) = ws
 | [], h, _ => absurd rfl h
 | [w], _, h => cutL_word c w (h w (by simp))
 | w :: v :: ws, _, h => by
  show cutL c (w ++ c :: joinL c (v :: ws)) = _
  rw [cutL_first c _ w (h w (by simp)), cutL_join c (v :: ws) (by simp) (fun x hx => h x (List.mem_cons_of_mem _ hx))]
theorem join_cutL (c : UInt8) : ∀ l : List UInt8, joinL c (cutL c l) = l
 | [] => rfl
 | b :: l => by
  have ih := join_cutL c l
  have hne := cutL_ne c l
  unfold cutL
  by_cases e : b = c
  ·rw [if_pos e]
   cases hq : cutL c l with
   | nil => exact absurd hq hne
   | cons v ws =>
    rw [hq] at ih
    show [] ++ c :: joinL c (v :: ws) = _
    rw [ih, e]
    rfl
  ·rw [if_neg e]
   cases hq : cutL c l with
   | nil => exact absurd hq hne
   | cons v ws =>
    rw [hq] at ih
    cases ws with
    | nil => show b :: v = b :: l; rw [show v = l from ih]
    | cons u us =>
     show b :: (v ++ c :: joinL c (u :: us)) = b :: l
     rw [show v ++ c :: joinL c (u :: us) = l from ih]
/-- Digits read to their number. -/
theorem parseM_append (M : Nat) : ∀ (l1 l2 : List UInt8) (acc : Nat), Lib.parseUintM M acc (l1 ++ l2) = match Lib.parseUintM M acc l1 with
  | .ok a => Lib.parseUintM M a l2
  | .syntax => .syntax
  | .range => .range
 | [], _, _ => rfl
 | c :: l1, l2, acc => by
  simp only [List.cons_append, Lib.parseUintM]
  split
  ·split
   ·rfl
   ·split
    ·rfl
    ·exact parseM_append M l1 l2 _
  ·rfl
theorem parseM_dec (u : Nat) (hu : u ≤ 18446744073709551615) : Lib.parseUintM 18446744073709551615 0 (Lib.decDigits u) = .ok u := by
 induction u using Nat.strongRecOn with
 | _ u ih =>
  have dig : ∀ d, d < 10 → (UInt8.ofNat (48 + d)).toNat = 48 + d := by decide
  unfold Lib.decDigits
  by_cases h : u < 10
  ·rw [dif_pos h]
   unfold Lib.parseUintM
   rw [dig u h, if_pos (by omega), if_neg (by omega), if_neg (by omega)]
   unfold Lib.parseUintM
   congr 1
   omega
  ·rw [dif_neg h, parseM_append, ih (u / 10) (by omega) (by omega)]
   dsimp only
   unfold Lib.parseUintM
   rw [dig (u % 10) (by omega), if_pos (by omega), if_neg (by omega), if_neg (by omega)]
   unfold Lib.parseUintM
   congr 1
   omega
theorem dec_digit (u : Nat) : (∀ b ∈ Lib.decDigits u, 48 ≤ b.toNat ∧ b.toNat ≤ 57) ∧ Lib.decDigits u ≠ [] := by
 induction u using Nat.strongRecOn with
 | _ u ih =>
  have dig : ∀ d, d < 10 → (UInt8.ofNat (48 + d)).toNat = 48 + d := by decide
  unfold Lib.decDigits
  by_cases h : u < 10
  ·rw [dif_pos h]
   refine ⟨fun b hb => ?_, by simp⟩
   obtain rfl := List.mem_singleton.1 hb
   rw [dig u h]
   omega
  ·rw [dif_neg h]
   refine ⟨fun b hb => ?_, by simp⟩
   rcases List.mem_append.1 hb with hb | hb
   ·exact (ih (u / 10) (by omega)).1 b hb
   ·obtain rfl := List.mem_singleton.1 hb
    rw [dig (u % 10) (by omega)]
    omega
theorem itoa_bytes (n : Int) : ∀ b ∈ Lib.itoa n, b.toNat = 45 ∨ (48 ≤ b.toNat ∧ b.toNat ≤ 57) := by
 intro b hb
 unfold Lib.itoa at hb
 split at hb
 ·rcases List.mem_cons.1 hb with rfl | hb
  ·exact .inl rfl
  ·exact .inr ((dec_digit _).1 b hb)
 ·exact .inr ((dec_digit _).1 b hb)
theorem parse_itoa (n : Int) (h0 : -9223372036854775808 ≤ n) (h1 : n ≤ 9223372036854775807) : Lib.parseIntB 64 (Lib.itoa n) = .ok n := by
 have key : ∀ u : Nat, u ≤ 18446744073709551615 → Lib.parseUintB 64 (Lib.decDigits u) = .ok u := by
  intro u hu
  unfold Lib.parseUintB
  rw [if_neg (dec_digit u).2]
  exact parseM_dec u hu
 have e63 : (2 : Nat) ^ (64 - 1) = 9223372036854775808 := by decide
 unfold Lib.itoa
 by_cases hn : n < 0
 ·have c1 : (UInt8.toNat 45 = 43 ∨ UInt8.toNat 45 = 45) := .inr rfl
  have c2 : UInt8.toNat 45 = 45 := rfl
  rw [if_pos hn]
  unfold Lib.parseIntB
  simp only [if_pos c1]
  rw [key _ (by omega)]
  dsimp only
  rw [e63, if_neg (fun h => h.1 c2), if_neg (fun h => by have := h.2; omega), if_pos c2]
  congr 1
  omega
 ·rw [if_neg hn]
  have hne := (dec_digit n.toNat).2
  have hd := (dec_digit n.toNat).1
  have hk := key n.toNat (by omega)
  cases hq : Lib.decDigits n.toNat with
  | nil => exact absurd hq hne
  | cons c r =>
   rw [hq] at hd hk
   have hc := hd c (by simp)
   have c1 : ¬ (c.toNat = 43 ∨ c.toNat = 45) := by omega
   have c2 : ¬ c.toNat = 45 := by omega
   unfold Lib.parseIntB
   simp only [if_neg c1]
   rw [hk]
   dsimp only
   rw [e63, if_neg (fun h => by have := h.2; omega), if_neg (fun h => c2 h.1), if_neg c2]
   congr 1
   omega

end Go.Proofs.YtbgokpobaemibaaDoor.Pa

namespace Go.Proofs.YtbgokpobaemibaaDoor.Pa
open Go.RowKit Go.Proofs.YtbgokpobaemibaaDoorW.PrintWords Go.Proofs.YtbgokpobaemibaaDoorW.PrintLast Go.Proofs.YtbgokpobaemibaaDoorW.PrintMore
attribute [local go_sem] max2_int min2_int max_two min_two max_three min_three max_four min_four   -- for this text's walks alone
set_option linter.unusedVariables false
set_option linter.unusedSimpArgs false

/-! ### AUX readT -/
/-- The number with a text, where there is one. -/
def rdDec (w : List UInt8) : Option Int := match Lib.parseIntB 64 w with
 | .ok v => if Lib.itoa v = w ∧ -1000000000000000 ≤ v ∧ v ≤ 1000000000000000 then some v else none
 | _ => none
theorem rdDec_iff (w : List UInt8) (v : Int) : rdDec w = some v ↔ w = Lib.itoa v ∧ -1000000000000000 ≤ v ∧ v ≤ 1000000000000000 := by
 constructor
 ·intro h
  unfold rdDec at h
  cases hp : Lib.parseIntB 64 w with
  | ok u =>
   rw [hp] at h
   dsimp only at h
   by_cases hc : Lib.itoa u = w ∧ -1000000000000000 ≤ u ∧ u ≤ 1000000000000000
   ·rw [if_pos hc] at h
    obtain rfl := Option.some.inj h
    exact ⟨hc.1.symm, hc.2⟩
   ·rw [if_neg hc] at h; cases h
  | «syntax» => rw [hp] at h; cases h
  | range => rw [hp] at h; cases h
 ·rintro ⟨rfl, h0, h1⟩
  unfold rdDec
  rw [parse_itoa v (by omega) (by omega)]
  dsimp only
  rw [if_pos ⟨rfl, h0, h1⟩]
/-- Three numbers with points between them. -/
def textThree (b : Int × Int × Int) : List UInt8 := joinL 46 [Lib.itoa b.1, Lib.itoa b.2.1, Lib.itoa b.2.2]
def rdThree (w : List UInt8) : Option (Int × Int × Int) := match cutL 46 w with
 | [x, y, z] => (rdDec x).bind fun a => (rdDec y).bind fun b => (rdDec z).bind fun c => some (a, b, c)
 | _ => none
def inThree (b : Int × Int × Int) : Prop := (-1000000000000000 ≤ b.1 ∧ b.1 ≤ 1000000000000000) ∧ (-1000000000000000 ≤ b.2.1 ∧ b.2.1 ≤ 1000000000000000) ∧ (-1000000000000000 ≤ b.2.2 ∧ b.2.2 ≤ 1000000000000000)
theorem itoa_free (c : UInt8) (hc : c.toNat = 44 ∨ c.toNat = 46) (v : Int) : c ∉ Lib.itoa v := fun h => by
 have := itoa_bytes v c h
 omega
theorem rdThree_iff (w : List UInt8) (b : Int × Int × Int) : rdThree w = some b ↔ w = textThree b ∧ inThree b := by
 obtain ⟨a, b, c⟩ := b
 have free : ∀ x ∈ [Lib.itoa a, Lib.itoa b, Lib.itoa c], (46 : UInt8) ∉ x := by
  intro x hx
  simp only [List.mem_cons, List.not_mem_nil, or_false] at hx
  rcases hx with rfl | rfl | rfl <;> exact itoa_free 46 (.inr rfl) _
 constructor
 ·intro h
  unfold rdThree at h
  cases hq : cutL 46 w with
  | nil => rw [hq] at h; cases h
  | cons x t =>
   cases t with
   | nil => rw [hq] at h; cases h
   | cons y t =>
    cases t with
    | nil => rw [hq] at h; cases h
    | cons z t =>
     cases t with
     | cons _ _ => rw [hq] at h; cases h
     | nil =>
      rw [hq] at h
      dsimp only at h
      obtain ⟨a', ha, h⟩ := Option.bind_eq_some_iff.mp h
      obtain ⟨b', hb, h⟩ := Option.bind_eq_some_iff.mp h
      obtain ⟨c', hc, h⟩ := Option.bind_eq_some_iff.mp h
      have h := Option.some.inj h
      simp only [Prod.mk.injEq] at h
      obtain ⟨rfl, rfl, rfl⟩ := h
      have e1 := (rdDec_iff _ _).1 ha
      have e2 := (rdDec_iff _ _).1 hb
      have e3 := (rdDec_iff _ _).1 hc
      refine ⟨?_, e1.2, e2.2, e3.2⟩
      rw [← join_cutL 46 w, hq, e1.1, e2.1, e3.1]
      rfl
 ·rintro ⟨rfl, h1, h2, h3⟩
  unfold rdThree textThree
  rw [cutL_join 46 _ (by simp) free]
  dsimp only
  rw [(rdDec_iff _ _).2 ⟨rfl, h1⟩, (rdDec_iff _ _).2 ⟨rfl, h2⟩, (rdDec_iff _ _).2 ⟨rfl, h3⟩]
  rfl
theorem three_free (b : Int × Int × Int) : (44 : UInt8) ∉ textThree b := by
 intro h
 have e44 : ∀ v, (44 : UInt8) ∉ Lib.itoa v := itoa_free 44 (.inl rfl)
 unfold textThree joinL joinL joinL at h
 simp only [List.mem_append, List.mem_cons] at h
 rcases h with h | h | h | h | h
 ·exact e44 _ h
 ·exact absurd h (by decide)
 ·exact e44 _ h
 ·exact absurd h (by decide)
 ·exact e44 _ h
/-- All words read, or none. -/
def rdAll : List (List UInt8) → Option (List (Int × Int × Int))
 | [] => some []
 | w :: ws => (rdThree w).bind fun b => (rdAll ws).bind fun l => some (b :: l)
theorem rdAll_iff : ∀ (ws : List (List UInt8)) (bs : List (Int × Int × Int)), rdAll ws = some bs ↔ ws = bs.map textThree ∧ ∀ b ∈ bs, inThree b
 | [], bs => by
  constructor
  ·intro h
   obtain rfl := Option.some.inj h
   exact ⟨rfl, by simp⟩
  ·rintro ⟨h, _⟩
   cases bs with
   | nil => rfl
   | cons _ _ => cases h
 | w :: ws, bs => by
  constructor
  ·intro h
   obtain ⟨b, hb, h⟩ := Option.bind_eq_some_iff.mp h
   obtain ⟨l, hl, h⟩ := Option.bind_eq_some_iff.mp h
   obtain rfl := Option.some.inj h
   have e1 := (rdThree_iff _ _).1 hb
   have e2 := (rdAll_iff ws l).1 hl
   refine ⟨by rw [List.map_cons, e1.1, e2.1], fun x hx => ?_⟩
   rcases List.mem_cons.1 hx with rfl | hx
   ·exact e1.2
   ·exact e2.2 x hx
  ·rintro ⟨h, hin⟩
   cases bs with
   | nil => cases h
   | cons b l =>
    rw [List.map_cons] at h
    injection h with h1 h2
    unfold rdAll
    rw [(rdThree_iff _ _).2 ⟨h1, hin b (by simp)⟩, Option.bind_some, (rdAll_iff ws l).2 ⟨h2, fun x hx => hin x (List.mem_cons_of_mem _ hx)⟩]
    rfl
/-- A diagram's text; and a text read. -/
def textD (n : Int) (bs : List (Int × Int × Int)) : List UInt8 := joinL 44 (Lib.itoa n :: bs.map textThree)
def rdD (s : List UInt8) : Option (Int × List (Int × Int × Int)) := match cutL 44 s with
 | [] => none
 | w :: ws => (rdDec w).bind fun n => (rdAll ws).bind fun bs => some (n, bs)
theorem rdD_iff (s : List UInt8) (n : Int) (bs : List (Int × Int × Int)) : rdD s = some (n, bs) ↔ s = textD n bs ∧ (-1000000000000000 ≤ n ∧ n ≤ 1000000000000000) ∧ ∀ b ∈ bs, inThree b := by
 constructor
 ·intro h
  unfold rdD at h
  cases hq : cutL 44 s with
  | nil => exact absurd hq (cutL_ne 44 s)
  | cons w ws =>
   rw [hq] at h
   dsimp only at h
   obtain ⟨n', hn, h⟩ := Option.bind_eq_some_iff.mp h
   obtain ⟨l, hl, h⟩ := Option.bind_eq_some_iff.mp h
   have h := Option.some.inj h
   simp only [Prod.mk.injEq] at h
   obtain ⟨rfl, rfl⟩ := h
   have e1 := (rdDec_iff _ _).1 hn
   have e2 := (rdAll_iff _ _).1 hl
   refine ⟨?_, e1.2, e2.2⟩
   unfold textD
   rw [← e1.1, ← e2.1, ← hq, join_cutL]
 ·rintro ⟨rfl, hn, hb⟩
  unfold rdD textD
  rw [cutL_join 44 _ (by simp) (fun w hw => by
   rcases List.mem_cons.1 hw with rfl | hw
   ·exact itoa_free 44 (.inl rfl) n
   ·obtain ⟨b, _, rfl⟩ := List.mem_map.1 hw
    exact three_free b)]
  dsimp only
  rw [(rdDec_iff _ _).2 ⟨rfl, hn⟩, Option.bind_some, (rdAll_iff _ _).2 ⟨rfl, hb⟩]
  rfl

end Go.Proofs.YtbgokpobaemibaaDoor.Pa

namespace Go.Proofs.YtbgokpobaemibaaDoor.Pa
open Go.RowKit Go.Proofs.YtbgokpobaemibaaDoorW.PrintWords Go.Proofs.YtbgokpobaemibaaDoorW.PrintLast Go.Proofs.YtbgokpobaemibaaDoorW.PrintMore
attribute [local go_sem] max2_int min2_int max_two min_two max_three min_three max_four min_four   -- for this text's walks alone
set_option linter.unusedVariables false
set_option linter.unusedSimpArgs false

/-! ### AUX rdWide -/
/-- What reading numbers wants of the world: the tables and the two errors as they were laid. -/
def ErrAt (w : World) (g : Nat) : Prop := ∃ ev, w.cell? ⟨g, 0, none⟩ = some ev ∧ (ev = .nilIface ∨ ∃ te pe, ev = .iface te pe)
def EnvOk (w : World) : Prop := TabOk w ∧ (∃ m, w.cell? ⟨1, 0, none⟩ = some (.int .i64 m)) ∧ ErrAt w 4 ∧ ErrAt w 5
theorem cell_on {w w1 : World} {p : Addr} {v : Value} (h : w.cell? p = some v) (hb : Below w.heap.size w w1) : w1.cell? p = some v := (hb.cell (World.block_lt_of_cell? w _ h)).trans h
theorem ErrAt.below {w w1 : World} {g : Nat} (h : ErrAt w g) (hb : Below w.heap.size w w1) : ErrAt w1 g := let ⟨ev, h1, h2⟩ := h; ⟨ev, cell_on h1 hb, h2⟩
theorem EnvOk.below {w w1 : World} (h : EnvOk w) (hb : Below w.heap.size w w1) : EnvOk w1 := ⟨tab_below h.1 hb, let ⟨m, hm⟩ := h.2.1; ⟨m, cell_on hm hb⟩, h.2.2.1.below hb, h.2.2.2.below hb⟩
def rdB (s : ByteArray) : Int × Bool := match rdDec s.data.toList with
 | some v => (v, true)
 | none => (0, false)
theorem decB_eq (v : Int) (s : ByteArray) : decB v = s ↔ Lib.itoa v = s.data.toList := by
 constructor
 ·rintro rfl; rfl
 ·intro h
  unfold decB
  rw [h]
theorem bq_false {a b : ByteArray} (h : a ≠ b) : (a.toList == b.toList) = false := by
 cases q : a.toList == b.toList with
 | false => rfl
 | true =>
  exfalso
  have h1 := beq_iff_eq.1 q
  rw [ByteArray.toList_eq, ByteArray.toList_eq] at h1
  exact h (ByteArray.ext (Array.ext' h1))
theorem bq_true {a b : ByteArray} (h : a = b) : (a.toList == b.toList) = true := by subst h; simp
theorem parse_in (l : List UInt8) (v : Int) (h : Lib.parseIntB 64 l = .ok v) : -9223372036854775808 ≤ v ∧ v ≤ 9223372036854775807 := by
 have e63 : (2 : Nat) ^ (64 - 1) = 9223372036854775808 := by decide
 unfold Lib.parseIntB at h
 split at h
 ·cases h
 ·dsimp only at h
  split at h
  ·cases h
  ·cases h
  ·rw [e63] at h
   split at h
   ·cases h
   ·split at h
    ·cases h
    ·injection h with h
     rename_i h1 h2
     split at h <;> omega
set_option maxHeartbeats 8000000 in
set_option maxRecDepth 100000 in
theorem readWide.calls (s : ByteArray) (v : Int) (ok : Bool) (w : World) (he : EnvOk w) (hs : s.size ≤ 281474976710656) (h : rdB s = (v, ok)) :
  Calls Tryd.prog 45 #[.string s, .int .i64 1000000000000000] w fun e w' => e = .returned (.tuple #[.int .i64 v, .bool ok]) ∧ Below w.heap.size w w' := by
 have HE := Aside0.mk he
 have HS := Aside0.mk hs
 clear he hs
 cases hp : Lib.parseIntB 64 s.data.toList with
 | «syntax» =>
  have hq : (0, false) = (v, ok) := by rw [← h]; unfold rdB rdDec; rw [hp]
  injection hq with e1 e2
  subst e1
  subst e2
  obtain ⟨ev, hv, hev⟩ := HE.out.2.2.1
  have HC := Aside0.mk (Tryd.strconv_ParseInt_10_at64_syntax s HS.out hp ev w hv hev)
  clear h hp hv hev
  go_enter Tryd.func45, Tryd.ntmps45
  go_wp2_with (go_at_call 59; refine HC.out.mono ?_; rintro e w1 ⟨G, rfl, _, _, hb⟩; have HB := Aside0.mk hb; clear hb)
  go_ret2
  exact ⟨rfl, HB.out⟩
 | range =>
  have hq : (0, false) = (v, ok) := by rw [← h]; unfold rdB rdDec; rw [hp]
  injection hq with e1 e2
  subst e1
  subst e2
  obtain ⟨ev, hv, hev⟩ := HE.out.2.2.2
  have HC := Aside0.mk (Tryd.strconv_ParseInt_10_at64_range s HS.out hp ev w hv hev)
  clear h hp hv hev
  go_enter Tryd.func45, Tryd.ntmps45
  go_wp2_with (go_at_call 59; refine HC.out.mono ?_; rintro e w1 ⟨G, rfl, _, _, hb⟩; have HB := Aside0.mk hb; clear hb)
  go_ret2
  exact ⟨rfl, HB.out⟩
 | ok u =>
  have hu := parse_in _ _ hp
  have HC : Aside0 (Calls Tryd.prog 59 #[.string s, .int .i64 10, .int .i64 64] w fun e w' => e = .returned (.tuple #[.int .i64 u, .nilIface]) ∧ Below w.heap.size w w') := ⟨(Tryd.strconv_ParseInt_10_at64_ok s (by have := HS.out; omega) u hp w).mono (fun e w' ⟨h1, h2⟩ => ⟨h1, by
   rcases h2 with rfl | ⟨t, rfl⟩
   ·exact Below.refl _ _
   ·exact Lib.bytesWorld_below _ _ _⟩)⟩
  have HD : Aside0 (impl_Decimal.f u = some (decB u)) := ⟨by unfold impl_Decimal.f; rw [if_pos hu]⟩
  have hr : rdB s = if decB u = s ∧ -1000000000000000 ≤ u ∧ u ≤ 1000000000000000 then (u, true) else (0, false) := by
   unfold rdB rdDec
   rw [hp]
   dsimp only
   by_cases hc : decB u = s ∧ -1000000000000000 ≤ u ∧ u ≤ 1000000000000000
   ·rw [if_pos hc, if_pos ⟨(decB_eq _ _).1 hc.1, hc.2⟩]
   ·rw [if_neg hc, if_neg (fun q => hc ⟨(decB_eq _ _).2 q.1, q.2⟩)]
  rw [hr] at h
  clear hr hp
  have HU := Aside0.mk hu
  clear hu
  by_cases c1 : decB u = s
  ·have d3 := bq_true c1
   by_cases c2 : -1000000000000000 ≤ u ∧ u ≤ 1000000000000000
   ·rw [if_pos ⟨c1, c2⟩] at h
    injection h with e1 e2
    subst e1
    subst e2
    have HW : Aside0 (impl_within.f u (-1000000000000000) 1000000000000000 = some true) := ⟨by unfold impl_within.f; rw [if_pos (by omega), decide_eq_true c2.2]⟩
    clear c2
    go_enter Tryd.func45, Tryd.ntmps45
    go_wp2_with (first | (go_at_call 59; refine HC.out.mono ?_; rintro e w1 ⟨rfl, hb⟩; have HB := Aside0.mk hb; clear hb) | (go_at_call 24; refine (impl_Decimal.calls (ht_ := (HE.out.below HB.out).1) (h := HD.out)).mono ?_; rintro e w2 ⟨rfl, hb⟩; have HB2 := Aside0.mk (below_step HB.out hb); clear hb) | (go_at_call 29; refine (impl_within.calls _ _ _ _ _ HW.out).mono ?_; rintro e w3 ⟨rfl, hd⟩; have HB3 := Aside0.mk (below_step HB2.out hd.below); clear hd))
    go_ret2
    exact ⟨rfl, HB3.out⟩
   ·rw [if_neg (fun q => c2 q.2)] at h
    injection h with e1 e2
    subst e1
    subst e2
    have HW : Aside0 (impl_within.f u (-1000000000000000) 1000000000000000 = some false) := ⟨by
     unfold impl_within.f
     by_cases q : u ≥ -1000000000000000
     ·rw [if_pos q, decide_eq_false (fun z => c2 ⟨q, z⟩)]
     ·rw [if_neg q]⟩
    clear c2
    go_enter Tryd.func45, Tryd.ntmps45
    go_wp2_with (first | (go_at_call 59; refine HC.out.mono ?_; rintro e w1 ⟨rfl, hb⟩; have HB := Aside0.mk hb; clear hb) | (go_at_call 24; refine (impl_Decimal.calls (ht_ := (HE.out.below HB.out).1) (h := HD.out)).mono ?_; rintro e w2 ⟨rfl, hb⟩; have HB2 := Aside0.mk (below_step HB.out hb); clear hb) | (go_at_call 29; refine (impl_within.calls _ _ _ _ _ HW.out).mono ?_; rintro e w3 ⟨rfl, hd⟩; have HB3 := Aside0.mk (below_step HB2.out hd.below); clear hd))
    go_ret2
    exact ⟨rfl, HB3.out⟩
  ·have d3 := bq_false c1
   rw [if_neg (fun q => c1 q.1)] at h
   injection h with e1 e2
   subst e1
   subst e2
   go_enter Tryd.func45, Tryd.ntmps45
   go_wp2_with (first | (go_at_call 59; refine HC.out.mono ?_; rintro e w1 ⟨rfl, hb⟩; have HB := Aside0.mk hb; clear hb) | (go_at_call 24; refine (impl_Decimal.calls (ht_ := (HE.out.below HB.out).1) (h := HD.out)).mono ?_; rintro e w2 ⟨rfl, hb⟩; have HB2 := Aside0.mk (below_step HB.out hb); clear hb))
   go_ret2
   exact ⟨rfl, HB2.out⟩

end Go.Proofs.YtbgokpobaemibaaDoor.Pa

namespace Go.Proofs.YtbgokpobaemibaaDoor.Pa
open Go.RowKit Go.Proofs.YtbgokpobaemibaaDoorW.PrintWords Go.Proofs.YtbgokpobaemibaaDoorW.PrintLast Go.Proofs.YtbgokpobaemibaaDoorW.PrintMore
attribute [local go_sem] max2_int min2_int max_two min_two max_three min_three max_four min_four   -- for this text's walks alone
set_option linter.unusedVariables false
set_option linter.unusedSimpArgs false

/-! ### AUX rdThreeN -/
set_option maxHeartbeats 4000000 in
set_option maxRecDepth 100000 in
theorem ReadDecimal.calls (s : ByteArray) (v : Int) (ok : Bool) (w : World) (he : EnvOk w) (hs : s.size ≤ 281474976710656) (h : rdB s = (v, ok)) :
    Calls Tryd.prog 26 #[.string s] w fun e w' => e = .returned (.tuple #[.int .i64 v, .bool ok]) ∧ Below w.heap.size w w' := by
  have HC := Aside0.mk (readWide.calls s v ok w he hs h)
  clear he hs h
  go_enter Tryd.func26, Tryd.ntmps26
  go_wp2_with (go_at_call 45; refine HC.out.mono ?_; rintro e w1 ⟨rfl, hb⟩; have HB := Aside0.mk hb; clear hb)
  go_ret2
  exact ⟨rfl, HB.out⟩
theorem piece_size (sep : ByteArray) (save : Nat) : ∀ (k : Nat) (s x : ByteArray), x ∈ Lib.splitB sep save k s → x.size ≤ s.size
  | 0, s, x, h => by
    obtain rfl := List.mem_singleton.1 h
    exact Nat.le_refl _
  | k + 1, s, x, h => by
    unfold Lib.splitB at h
    split at h
    · obtain rfl := List.mem_singleton.1 h
      exact Nat.le_refl _
    · rcases List.mem_cons.1 h with rfl | h
      · rw [ByteArray.size_extract]; omega
      · have := piece_size sep save k _ x h
        rw [ByteArray.size_extract] at this
        omega
/-- The words of a text. -/
def wordsB (c : UInt8) (s : ByteArray) : List ByteArray := Lib.splitB ⟨#[c]⟩ 0 (Lib.countB s ⟨#[c]⟩) s
theorem wordsB_size {c : UInt8} {s x : ByteArray} (h : x ∈ wordsB c s) : x.size ≤ s.size := piece_size _ _ _ _ _ h
theorem wordsB_cut (c : UInt8) (s : ByteArray) : (wordsB c s).map (·.data.toList) = cutL c s.data.toList := by
  unfold wordsB
  rw [Lib.splitB_data]
  exact splitK_cut c s.data.toList
theorem words_calls (c : UInt8) (s : ByteArray) (w : World) (he : EnvOk w) (hs : s.size < 4294967281) :
    Calls Tryd.prog 25 #[.string s, .string ⟨#[c]⟩] w fun e w' => e = .returned (.slice (some ⟨w.heap.size, 0, none⟩) (wordsB c s).length (wordsB c s).length) ∧ w' = w.alloc (.cells ((wordsB c s).map Value.string).toArray 9) := by
  obtain ⟨m, hm⟩ := he.2.1
  have hlen : (wordsB c s).length = Lib.countB s ⟨#[c]⟩ + 1 := Lib.splitB_all ⟨#[c]⟩ (Nat.le_refl 1) 0 _ s rfl
  have h := Tryd.strings_Split s ⟨#[c]⟩ m w hs hm (Nat.le_refl 1)
  rw [hlen]
  exact h
def rd3 (s : ByteArray) : Int × Int × Int × Bool := match wordsB 46 s with
  | [x, y, z] => ((rdB x).1, (rdB y).1, (rdB z).1, (rdB x).2 && (rdB y).2 && (rdB z).2)
  | _ => (0, 0, 0, false)
set_option maxHeartbeats 8000000 in
set_option maxRecDepth 100000 in
theorem threeNumbers.calls (s : ByteArray) (a b c : Int) (ok : Bool) (w : World) (he : EnvOk w) (hs : s.size < 4294967281) (h : rd3 s = (a, b, c, ok)) :
    Calls Tryd.prog 27 #[.string s] w fun e w' => e = .returned (.tuple #[.int .i64 a, .int .i64 b, .int .i64 c, .bool ok]) ∧ Below w.heap.size w w' := by
  have HC := Aside0.mk (words_calls 46 s w he hs)
  have HE := Aside0.mk he
  have HZ : Aside0 (∀ x ∈ wordsB 46 s, x.size ≤ 281474976710656) := ⟨fun x hx => by have := wordsB_size hx; omega⟩
  clear he hs
  unfold rd3 at h
  generalize wordsB 46 s = ws at h HC HZ
  by_cases h3 : ws.length = 3
  · obtain ⟨x, y, z, rfl⟩ : ∃ x y z, ws = [x, y, z] := by
      match ws, h3 with
      | [x, y, z], _ => exact ⟨x, y, z, rfl⟩
    dsimp only at h
    obtain ⟨a', o1, h1⟩ : ∃ v o, rdB x = (v, o) := ⟨_, _, rfl⟩
    obtain ⟨b', o2, h2⟩ : ∃ v o, rdB y = (v, o) := ⟨_, _, rfl⟩
    obtain ⟨c', o3, h3'⟩ : ∃ v o, rdB z = (v, o) := ⟨_, _, rfl⟩
    rw [h1, h2, h3'] at h
    injection h with e1 h
    injection h with e2 h
    injection h with e3 e4
    subst e1
    subst e2
    subst e3
    subst e4
    have H1 := Aside0.mk h1
    have H2 := Aside0.mk h2
    have H3 := Aside0.mk h3'
    have HC' : Aside0 (Calls Tryd.prog 25 #[.string s, .string ⟨#[46]⟩] w fun e w' => e = .returned (.slice (some ⟨w.heap.size, 0, none⟩) 3 3) ∧ w'.heap[w.heap.size]? = some (.cells #[.string x, .string y, .string z] 9 (0, 0)) ∧ Below w.heap.size w w') := ⟨HC.out.mono (fun e w' ⟨q1, q2⟩ => ⟨q1, by rw [q2]; exact blk_new w _, by rw [q2]; exact below_alloc (Below.refl _ _) _⟩)⟩
    have HZ1 : Aside0 (x.size ≤ 281474976710656 ∧ y.size ≤ 281474976710656 ∧ z.size ≤ 281474976710656) := ⟨HZ.out x (by simp), HZ.out y (by simp), HZ.out z (by simp)⟩
    clear HC HZ h1 h2 h3 h3'
    cases o1 <;> cases o2 <;> cases o3 <;>
      (go_enter Tryd.func27, Tryd.ntmps27
       go_wp2_with (first | (go_at_call 25; refine HC'.out.mono ?_; rintro e w1 ⟨rfl, hk, hb⟩; have HK := Aside0.mk hk; have HB := Aside0.mk hb; have k0 := blk_cell hk 0; have k1 := blk_cell hk 1; have k2 := blk_cell hk 2; clear hk hb) | (go_at_call 26; refine (ReadDecimal.calls x _ _ w1 (HE.out.below HB.out) HZ1.out.1 H1.out).mono ?_; rintro e w2 ⟨rfl, hb⟩; have HB2 := Aside0.mk (below_step HB.out hb); have HK2 := Aside0.mk (blk_below HK.out hb); clear H1 hb k0 k1 k2; have k1 := blk_cell HK2.out 1; have k2 := blk_cell HK2.out 2) | (go_at_call 26; refine (ReadDecimal.calls y _ _ w2 (HE.out.below HB2.out) HZ1.out.2.1 H2.out).mono ?_; rintro e w3 ⟨rfl, hb⟩; have HB3 := Aside0.mk (below_step HB2.out hb); have HK3 := Aside0.mk (blk_below HK2.out hb); clear H2 hb k1 k2; have k2 := blk_cell HK3.out 2) | (go_at_call 26; refine (ReadDecimal.calls z _ _ w3 (HE.out.below HB3.out) HZ1.out.2.2 H3.out).mono ?_; rintro e w4 ⟨rfl, hb⟩; have HB4 := Aside0.mk (below_step HB3.out hb); clear H3 hb k2))
       refine bodyPost_ret (by simp [results, Tryd.f27, go_sem]; rfl) rfl ?_
       exact ⟨rfl, HB4.out⟩)
  · obtain ⟨m, hm⟩ : ∃ m, ws.length = m := ⟨_, rfl⟩
    have hq : (0, 0, 0, false) = (a, b, c, ok) := by
      rw [← h]
      split
      · rename_i x y z
        exact absurd rfl h3
      · rfl
    injection hq with e1 hq
    injection hq with e2 hq
    injection hq with e3 e4
    subst e1
    subst e2
    subst e3
    subst e4
    rw [hm] at HC h3
    have d1 : ((m : Int) == 3) = false := beq_eq_false_iff_ne.mpr (by omega)
    have d2 : ((m : Int) != 3) = true := bne_iff_ne.mpr (by omega)
    have d3 : decide ((m : Int) = 3) = false := decide_eq_false (by omega)
    have d4 : decide (m = 3) = false := decide_eq_false h3
    have HC' : Aside0 (Calls Tryd.prog 25 #[.string s, .string ⟨#[46]⟩] w fun e w' => e = .returned (.slice (some ⟨w.heap.size, 0, none⟩) m m) ∧ Below w.heap.size w w') := ⟨HC.out.mono (fun e w' ⟨q1, q2⟩ => ⟨q1, by rw [q2]; exact below_alloc (Below.refl _ _) _⟩)⟩
    clear h hm HC HZ
    go_enter Tryd.func27, Tryd.ntmps27
    go_wp2_with (go_at_call 25; refine HC'.out.mono ?_; rintro e w1 ⟨rfl, hb⟩; have HB := Aside0.mk hb; clear hb)
    refine bodyPost_ret (by simp [results, Tryd.f27, go_sem]; rfl) rfl ?_
    exact ⟨rfl, HB.out⟩

end Go.Proofs.YtbgokpobaemibaaDoor.Pa

namespace Go.Proofs.YtbgokpobaemibaaDoor.Pa
open Go.RowKit Go.Proofs.YtbgokpobaemibaaDoorW.PrintWords Go.Proofs.YtbgokpobaemibaaDoorW.PrintLast Go.Proofs.YtbgokpobaemibaaDoorW.PrintMore
attribute [local go_sem] max2_int min2_int max_two min_two max_three min_three max_four min_four   -- for this text's walks alone
set_option linter.unusedVariables false
set_option linter.unusedSimpArgs false

/-! ### impl_ReadDiagram: function 10 -/
def rdRows (ws : List ByteArray) : List S39 := ws.map fun x => ⟨(rd3 x).1, (rd3 x).2.1, (rd3 x).2.2.1⟩
def rdOks (ws : List ByteArray) : Bool := ws.all fun x => (rd3 x).2.2.2
def readF (s : ByteArray) : Int × List S39 × Bool := match wordsB 44 s with
  | [] => (0, [], false)
  | x :: ws => if (rdB x).2 = true ∧ rdOks ws = true ∧ diagramOk (rdB x).1 (rdRows ws) = true then ((rdB x).1, rdRows ws, true) else (0, [], false)
def impl_ReadDiagram.f (s : ByteArray) : Option (Int × List S39 × Bool) := if s.size ≤ 2000000 then some (readF s) else none
set_option maxHeartbeats 16000000 in
set_option maxRecDepth 100000 in
theorem impl_ReadDiagram.calls (s : ByteArray) (r1 : Int) (r2 : List S39) (r3 : Bool) (w : World) (ht_ : EnvOk w) (h : impl_ReadDiagram.f s = some (r1, r2, r3)) :
    Calls Tryd.prog 10 #[.string s] w fun e w' => ∃ v1_ : Value, e = .returned (.tuple #[.agg #[.int .i64 r1, v1_], .bool r3]) ∧ Kd.R k39 39 w' w.heap.size (fun _ => True) v1_ r2 ∧ Below w.heap.size w w' := by
  have hu := Tryd.underlying26
  have hu2 := Tryd.underlying39
  have hu3 := Tryd.underlying55
  have HE := Aside0.mk ht_
  clear ht_
  unfold impl_ReadDiagram.f at h
  by_cases hs : s.size ≤ 2000000
  case neg => rw [if_neg hs] at h; cases h
  rw [if_pos hs] at h
  have hf : readF s = (r1, r2, r3) := Option.some.inj h
  have HS := Aside0.mk hs
  have HZ : Aside0 (∀ x ∈ wordsB 44 s, x.size ≤ 2000000) := ⟨fun x hx => by have := wordsB_size hx; omega⟩
  have HM : Aside0 ((wordsB 44 s).length ≤ 2000001) := ⟨by
    have hlen : (wordsB 44 s).length = Lib.countB s ⟨#[44]⟩ + 1 := Lib.splitB_all ⟨#[44]⟩ (Nat.le_refl 1) 0 _ s rfl
    have := Lib.countB_le ⟨#[44]⟩ (Nat.le_refl 1) s.size s (Nat.le_refl _)
    omega⟩
  have HW : Aside0 (∀ w1, EnvOk w1 → Calls Tryd.prog 25 #[.string s, .string ⟨#[44]⟩] w1 fun e w' => e = .returned (.slice (some ⟨w1.heap.size, 0, none⟩) (wordsB 44 s).length (wordsB 44 s).length) ∧ w' = w1.alloc (.cells ((wordsB 44 s).map Value.string).toArray 9)) := ⟨fun w1 h1 => words_calls 44 s w1 h1 (by omega)⟩
  have HNN : Aside0 (wordsB 44 s ≠ []) := ⟨by
    have hlen : (wordsB 44 s).length = Lib.countB s ⟨#[44]⟩ + 1 := Lib.splitB_all ⟨#[44]⟩ (Nat.le_refl 1) 0 _ s rfl
    intro q
    rw [q] at hlen
    simp at hlen⟩
  unfold readF at hf
  clear h hs
  generalize wordsB 44 s = wl at hf HZ HM HW HNN
  cases wl with
  | nil => exact absurd rfl HNN.out
  | cons x ws =>
    dsimp only at hf
    obtain ⟨ev, o1, h1⟩ : ∃ v o, rdB x = (v, o) := ⟨_, _, rfl⟩
    rw [h1] at hf
    dsimp only at hf
    have H1 := Aside0.mk h1
    have HF := Aside0.mk hf
    have HX := Aside0.mk (HZ.out x (by simp))
    have HY : Aside0 (∀ y ∈ ws, y.size ≤ 2000000) := ⟨fun y hy => HZ.out y (List.mem_cons_of_mem _ hy)⟩
    obtain ⟨m, hm⟩ : ∃ m, ws.length = m := ⟨_, rfl⟩
    have HMM : Aside0 (ws.length = m ∧ m ≤ 2000000) := ⟨hm, by have := HM.out; simp at this; omega⟩
    rw [List.length_cons, hm] at HW
    clear h1 hf HZ HM HNN hm
    go_enter Tryd.func10, Tryd.ntmps10
    go_wp2_with (first | ((with_reducible refine gate_dst (N := 2) rfl ?_); refine box_event ?hg (N := 2) ?hd (cs := #[.int .i64 0, .slice none 0 0]) (t := 26) ?hr ?_; (case hd => rfl); (case hg => rfl); (case hr => first | (go_simp; done) | (go_simp; rfl)); intro g2 hg_ w1 hbox_ hb_; have HX_g2 := Aside0.mk hbox_; have HB_w1 := Aside0.mk hb_; have HG_g2 := Aside0.mk hg_; clear hbox_ hb_ hg_) | (go_at_call 25; refine (HW.out w1 (HE.out.below HB_w1.out)).mono ?_; rintro e w2 ⟨rfl, hw2⟩; obtain ⟨gw, hgw⟩ : ∃ gw, gw = w1.heap.size := ⟨_, rfl⟩; have HK : Aside0 (w2.heap[gw]? = some (.cells ((x :: ws).map Value.string).toArray 9 (0, 0))) := ⟨by rw [hw2, hgw]; exact blk_new w1 _⟩; have hb2 : Below w1.heap.size w1 w2 := (by rw [hw2]; exact below_alloc (Below.refl _ _) _); have HB2 := Aside0.mk (below_step HB_w1.out hb2); have HX2 := Aside0.mk (blk_below HX_g2.out hb2); rw [← hgw]; have k0 : w2.cell? ⟨gw, 0, none⟩ = some (.string x) := (blk_cell HK.out 0).trans rfl; clear hw2 hgw hb2) | (go_at_call 26; refine (ReadDecimal.calls x _ _ w2 (HE.out.below HB2.out) (by have := HX.out; omega) H1.out).mono ?_; rintro e w3 ⟨rfl, hb⟩; have HB3 := Aside0.mk (below_step HB2.out hb); have HK3 := Aside0.mk (blk_below HK.out hb); have HX3 := Aside0.mk (blk_below HX2.out hb); clear k0 hb))
    all_goals
      obtain ⟨g7, hg7⟩ : ∃ g7, w3.heap.size = g7 := ⟨_, rfl⟩
      have HG7 : Aside0 ((w3.alloc (.cells #[.int .i64 ev, .slice none 0 0] 26)).heap[g7]? = some (.cells #[.int .i64 ev, .slice none 0 0] 26 (0, 0))) := ⟨by rw [← hg7]; exact blk_new w3 _⟩
      have HGE : Aside0 (w.heap.size ≤ g7) := ⟨by rw [← hg7]; exact below_size HB3.out⟩
      have HK4 : Aside0 ((w3.alloc (.cells #[.int .i64 ev, .slice none 0 0] 26)).heap[gw]? = some (.cells ((x :: ws).map Value.string).toArray 9 (0, 0))) := ⟨blk_below HK3.out (below_alloc (Below.refl _ _) _)⟩
      have HX4 : Aside0 ((w3.alloc (.cells #[.int .i64 ev, .slice none 0 0] 26)).heap[g2]? = some (.cells #[.int .i64 0, .slice none 0 0] 26 (0, 0))) := ⟨blk_below HX3.out (below_alloc (Below.refl _ _) _)⟩
      have HB4 : Aside0 (Below w.heap.size w (w3.alloc (.cells #[.int .i64 ev, .slice none 0 0] 26))) := ⟨below_alloc HB3.out _⟩
      have HGN : Aside0 (g7 ≠ g2) := ⟨by rw [← hg7]; exact Ne.symm (Nat.ne_of_lt (Array.getElem?_eq_some_iff.mp HX3.out).1)⟩
      have HG2 : Aside0 (w.heap.size ≤ g2) := ⟨by rw [HG_g2.out]; exact Nat.le_refl _⟩
      rw [hg7]
      generalize w3.alloc (.cells #[.int .i64 ev, .slice none 0 0] 26) = w4 at HG7 HK4 HX4 HB4 ⊢
      clear hg7 HB3 HK3 HX3 HB2 HK HX2 HW H1 HX HG_g2
      go_loopg [6, 28] (m + 1) (fun kq v6 v28 w' => ∃ (i : Nat) (v : Value) (oo : Bool), v28 = .int .i64 (i : Int) ∧ v6 = .bool oo ∧ Aside0 (i ≤ m ∧ i + kq = m + 1 ∧ oo = (o1 && rdOks (ws.take i))) ∧ Aside0 (w'.heap[g7]? = some (.cells #[.int .i64 ev, v] 26 (0, 0))) ∧ Aside0 (Kd.R k39 39 w' w.heap.size (fun _ => True) v (rdRows (ws.take i))) ∧ Aside0 (w'.heap[gw]? = some (.cells ((x :: ws).map Value.string).toArray 9 (0, 0))) ∧ Aside0 (w'.heap[g2]? = some (.cells #[.int .i64 0, .slice none 0 0] 26 (0, 0))) ∧ Aside0 (Below w.heap.size w w'))
      case' atStart => exact ⟨0, .slice none 0 0, o1, rfl, rfl, ⟨by simp [rdOks]⟩, HG7, ⟨Kd.R_nil _ _ _ _ _⟩, HK4, HX4, HB4⟩
      case' round =>
        obtain ⟨i, v, oo, rfl, rfl, HI, HG, HR, HKW, HXW, HB⟩ := hrel
        clear HG7 HK4 HX4 HB4
        by_cases hi : i < m
        · obtain ⟨y, hy⟩ : ∃ y, ws[i]? = some y := ⟨_, List.getElem?_eq_getElem (by have := HMM.out; omega)⟩
          obtain ⟨a, b, c, o2, h3⟩ : ∃ a b c o, rd3 y = (a, b, c, o) := ⟨_, _, _, _, rfl⟩
          have kc : wr.cell? ⟨gw, 1 + i, none⟩ = some (.string y) := (blk_cell HKW.out (1 + i)).trans (by rw [Nat.add_comm]; simp [hy])
          have HYS : Aside0 (y.size ≤ 2000000) := ⟨HY.out y (List.mem_of_getElem? hy)⟩
          have HROW : Aside0 (rdRows (ws.take (i + 1)) = rdRows (ws.take i) ++ [⟨a, b, c⟩]) := ⟨by unfold rdRows; rw [List.take_add_one, hy, List.map_append]; simp [h3]⟩
          have HOKS : Aside0 (rdOks (ws.take (i + 1)) = (rdOks (ws.take i) && o2)) := ⟨by unfold rdOks; rw [List.take_add_one, hy, List.all_append]; simp [h3]⟩
          have H3 := Aside0.mk h3
          have HI2 := Aside0.mk hi
          have hiw : wrap64 ((i : Int) + 1) = ((i + 1 : Nat) : Int) := by have := HMM.out; unfold wrap64; omega
          have HIW := Aside0.mk hiw
          clear hy h3 hiw
          first | (exfalso; omega) | skip
          all_goals (cases oo <;> cases o2)
          all_goals
            (go_wp2_with (first | (go_at_call 27; refine (threeNumbers.calls y a b c _ wr (EnvOk.below HE.out HB.out) (by have := HYS.out; omega) H3.out).mono ?_; rintro e w5 ⟨rfl, hb⟩; have HB5 := Aside0.mk (below_step HB.out hb); have HG5 := Aside0.mk (blk_below HG.out hb); have HR5 := Aside0.mk (Kd.R_below HR.out hb); have HK5 := Aside0.mk (blk_below HKW.out hb); have HX5 := Aside0.mk (blk_below HXW.out hb); have m1 := blk_cell HG5.out 1; clear hb kc) | ((with_reducible refine gate_builtin (b := .append) (xs := #[.tmp 44, .tmp 49]) rfl ?_); at_builtin; refine Kd.R_append k39 (w0 := w) w.heap.size rfl (.tmp 44) (.tmp 49) 24 39 (.agg #[(.int .i64 0), (.int .i64 0), (.int .i64 0)]) 24 rfl Tryd.underlying24 info39 rfl (by decide) (by omega) v (rdRows (ws.take i)) (⟨a, b, c⟩ : S39) [.int .i64 a, .int .i64 b, .int .i64 c] (fun _ => True) (fun _ => False) rfl rfl (k39_mkM _ _ _ (⟨a, b, c⟩ : S39)) (fun _ hk => hk.elim) (fun _ _ => trivial) HR5.out HB5.out (below_size HB5.out) (by have := HMM.out; have := HI.out; unfold rdRows; rw [List.length_map, List.length_take]; omega) ?_; intro v6' w6 ho hb hg hat; have HR6 := Aside0.mk ho; have HB6 := Aside0.mk hb; have HG6 := Aside0.mk (blk_grown HG5.out hg (Kd.R_ne HR5.out HG5.out (by decide))); have HK6 := Aside0.mk (blk_grown HK5.out hg (Kd.R_ne HR5.out HK5.out (by decide))); have HX6 := Aside0.mk (blk_grown HX5.out hg (Kd.R_ne HR5.out HX5.out (by decide))); obtain ⟨A6, c6, e6⟩ := Kd.R_slice ho; obtain ⟨L6, hL6⟩ : ∃ L, (rdRows (ws.take i) ++ [(⟨a, b, c⟩ : S39)]).length = L := ⟨_, rfl⟩; rw [hL6] at e6; have HL6 := Aside0.mk hL6; clear hL6; subst e6; clear ho hb hg hat m1; have n1 := blk_cell HG6.out 1; have nf := blk_frozen HG6.out 1))
             go_roundg (m - i)
             case' measure => have := HI.out; omega
             case' rel => exact ⟨i + 1, _, _, by rw [HIW.out], rfl, ⟨by have := HI.out; have := HI2.out; refine ⟨by omega, by omega, ?_⟩; rw [HOKS.out, ← Bool.and_assoc, ← HI.out.2.2]; rfl⟩, ⟨blk_put HG6.out 1 _ rfl⟩, ⟨by rw [HROW.out]; exact Kd.R_set HR6.out HG6.out (by intro q hq; have hq : q ∈ [39] := hq; simp at hq; omega) 1 _⟩, ⟨blk_far HK6.out (p := ⟨g7, 1, none⟩) (blk_ne HK6.out HG6.out (by decide)) _⟩, ⟨blk_far HX6.out (p := ⟨g7, 1, none⟩) (Ne.symm HGN.out) _⟩, ⟨below_set HB6.out HGE.out⟩⟩)
        · obtain rfl : i = m := by have := HI.out; omega
          have hoo := HI.out.2.2
          have htk : ws.take i = ws := List.take_of_length_le (by have := HMM.out; omega)
          have hr := HR.out
          rw [htk] at hoo hr
          have HR := Aside0.mk hr
          obtain ⟨Av, cv, ev_⟩ := Kd.R_slice hr
          have HV := Aside0.mk ev_
          have hf := HF.out
          have HOO := Aside0.mk hoo
          have x0 := blk_cell HXW.out 0
          have x1 := blk_cell HXW.out 1
          have y0 := blk_frozen HXW.out 0
          have y1 := blk_frozen HXW.out 1
          have z0 := blk_cell HG.out 0
          have z1 := blk_cell HG.out 1
          clear hr htk hoo HI
          cases oo with
          | false =>
            rw [if_neg (fun q => by have := HOO.out; rw [q.1, q.2.1] at this; cases this)] at hf
            injection hf with e1 hf
            injection hf with e2 e3
            subst e1
            subst e2
            subst e3
            clear HF z0 z1 ev_
            clear x0 x1 y0 y1
            have x0 := blk_cell HXW.out 0
            have x1 := blk_cell HXW.out 1
            have y0 := blk_frozen HXW.out 0
            have y1 := blk_frozen HXW.out 1
            go_wp2
            clear x0 x1 y0 y1
            have HN : Aside0 (((wr.setCell ⟨g2, 0, none⟩ (.int .i64 0)).setCell ⟨g2, 1, none⟩ (.slice none 0 0)).heap[g2]? = some (.cells #[.int .i64 0, .slice none 0 0] 26 (0, 0))) := ⟨blk_put (blk_put HXW.out 0 (.int .i64 0) rfl) 1 (.slice none 0 0) rfl⟩
            have HNB : Aside0 (Below w.heap.size w ((wr.setCell ⟨g2, 0, none⟩ (.int .i64 0)).setCell ⟨g2, 1, none⟩ (.slice none 0 0))) := ⟨below_set (below_set HB.out HG2.out) HG2.out⟩
            generalize (wr.setCell ⟨g2, 0, none⟩ (.int .i64 0)).setCell ⟨g2, 1, none⟩ (.slice none 0 0) = wz at HN HNB  ⊢
            have n0 := blk_cell HN.out 0
            have n1 := blk_cell HN.out 1
            refine bodyPost_ret (v := .tuple #[.agg #[.int .i64 0, .slice none 0 0], .bool false]) (by simp [results, Tryd.f10, go_sem, n0, n1]) rfl ?_
            exact ⟨_, rfl, Kd.R_nil _ _ _ _ _, HNB.out⟩
          | true =>
            obtain ⟨dk, hd⟩ : ∃ dk, diagramOk ev (rdRows ws) = dk := ⟨_, rfl⟩
            have hrd := Kd.R_reads' (ev_ ▸ HR.out)
            have hcall := impl_ValidDiagram.calls ev Av cv (rdRows ws) dk wr hrd.2.2 hrd.2.1 (by unfold impl_ValidDiagram.f; rw [hd])
            obtain ⟨L, hL⟩ : ∃ L, (rdRows ws).length = L := ⟨_, rfl⟩
            rw [hL] at ev_ hcall
            subst ev_
            have HCL := Aside0.mk hcall
            have HD := Aside0.mk hd
            clear hL hrd hcall hd z0 z1 x0 x1 y0 y1
            have z0 := blk_cell HG.out 0
            have z1 := blk_cell HG.out 1
            cases dk with
            | false =>
              rw [if_neg (fun q => by rw [HD.out] at q; cases q.2.2)] at hf
              injection hf with e1 hf
              injection hf with e2 e3
              subst e1
              subst e2
              subst e3
              clear HF
              go_wp2_with (go_at_call 15; refine HCL.out.mono ?_; rintro e w7 ⟨rfl, hb⟩; have HB7 := Aside0.mk (below_step HB.out hb); have HX7 := Aside0.mk (blk_below HXW.out hb); clear hb z0 z1; have x0 := blk_cell HX7.out 0; have x1 := blk_cell HX7.out 1; have y0 := blk_frozen HX7.out 0; have y1 := blk_frozen HX7.out 1)
              all_goals
                clear x0 x1 y0 y1
                have HN : Aside0 (((w7.setCell ⟨g2, 0, none⟩ (.int .i64 0)).setCell ⟨g2, 1, none⟩ (.slice none 0 0)).heap[g2]? = some (.cells #[.int .i64 0, .slice none 0 0] 26 (0, 0))) := ⟨blk_put (blk_put HX7.out 0 (.int .i64 0) rfl) 1 (.slice none 0 0) rfl⟩
                have HNB : Aside0 (Below w.heap.size w ((w7.setCell ⟨g2, 0, none⟩ (.int .i64 0)).setCell ⟨g2, 1, none⟩ (.slice none 0 0))) := ⟨below_set (below_set HB7.out HG2.out) HG2.out⟩
                generalize (w7.setCell ⟨g2, 0, none⟩ (.int .i64 0)).setCell ⟨g2, 1, none⟩ (.slice none 0 0) = wz at HN HNB ⊢
                have n0 := blk_cell HN.out 0
                have n1 := blk_cell HN.out 1
                refine bodyPost_ret (v := .tuple #[.agg #[.int .i64 0, .slice none 0 0], .bool false]) (by simp [results, Tryd.f10, go_sem, n0, n1]) rfl ?_
                exact ⟨_, rfl, Kd.R_nil _ _ _ _ _, HNB.out⟩
            | true =>
              rw [if_pos (by have := HOO.out; simp at this; exact ⟨this.1, this.2, HD.out⟩)] at hf
              injection hf with e1 hf
              injection hf with e2 e3
              subst e1
              subst e2
              subst e3
              clear HF
              go_wp2_with (go_at_call 15; refine HCL.out.mono ?_; rintro e w7 ⟨rfl, hb⟩; have HB7 := Aside0.mk (below_step HB.out hb); have HX7 := Aside0.mk (blk_below HXW.out hb); have HG7 := Aside0.mk (blk_below HG.out hb); have HR7 := Aside0.mk (Kd.R_below HR.out hb); clear hb z0 z1; have z0 := blk_cell HG7.out 0; have z1 := blk_cell HG7.out 1; have x0 := blk_cell HX7.out 0; have x1 := blk_cell HX7.out 1; have y0 := blk_frozen HX7.out 0; have y1 := blk_frozen HX7.out 1)
              all_goals
                clear x0 x1 y0 y1
                have HN : Aside0 (((w7.setCell ⟨g2, 0, none⟩ (.int .i64 ev)).setCell ⟨g2, 1, none⟩ (.slice Av L cv)).heap[g2]? = some (.cells #[.int .i64 ev, .slice Av L cv] 26 (0, 0))) := ⟨blk_put (blk_put HX7.out 0 (.int .i64 ev) rfl) 1 (.slice Av L cv) rfl⟩
                have HNB : Aside0 (Below w.heap.size w ((w7.setCell ⟨g2, 0, none⟩ (.int .i64 ev)).setCell ⟨g2, 1, none⟩ (.slice Av L cv))) := ⟨below_set (below_set HB7.out HG2.out) HG2.out⟩
                have HRZ : Aside0 (Kd.R k39 39 ((w7.setCell ⟨g2, 0, none⟩ (.int .i64 ev)).setCell ⟨g2, 1, none⟩ (.slice Av L cv)) w.heap.size (fun _ => True) (.slice Av L cv) (rdRows ws)) := ⟨Kd.R_set (Kd.R_set HR7.out HX7.out (by intro q hq; have hq : q ∈ [39] := hq; simp at hq; omega) 0 _) (blk_put HX7.out 0 (.int .i64 ev) rfl) (by intro q hq; have hq : q ∈ [39] := hq; simp at hq; omega) 1 _⟩
                generalize (w7.setCell ⟨g2, 0, none⟩ (.int .i64 ev)).setCell ⟨g2, 1, none⟩ (.slice Av L cv) = wz at HN HNB HRZ ⊢
                have n0 := blk_cell HN.out 0
                have n1 := blk_cell HN.out 1
                refine bodyPost_ret (v := .tuple #[.agg #[.int .i64 ev, .slice Av L cv], .bool true]) (by simp [results, Tryd.f10, go_sem, n0, n1]) rfl ?_
                exact ⟨_, rfl, HRZ.out, HNB.out⟩

end Go.Proofs.YtbgokpobaemibaaDoor.Pa

namespace Go.Proofs.YtbgokpobaemibaaDoor.Pa
open Go.RowKit Go.Proofs.YtbgokpobaemibaaDoorW.PrintWords Go.Proofs.YtbgokpobaemibaaDoorW.PrintLast Go.Proofs.YtbgokpobaemibaaDoorW.PrintMore
attribute [local go_sem] max2_int min2_int max_two min_two max_three min_three max_four min_four   -- for this text's walks alone
set_option linter.unusedVariables false
set_option linter.unusedSimpArgs false

/-! ### laws_r8Rows: function 11 -/
mutual
def laws_r8Rows.l0 : Nat → List (List Int) → List (List Int) → Int → Option (Bool)
 | 0, _, _, _ => none
 | k + 1, x0, x1, x5 => if x5 < (x0.length : Int) then (if 0 ≤ x5 then (if x5 < (x1.length : Int) then (if ((rd_L6 x0 x5).length : Int) = ((rd_L6 x1 x5).length : Int) then (laws_r8Rows.l1 k x0 x1 x5 0) else (some false)) else (none)) else (none)) else (some true)
def laws_r8Rows.l1 : Nat → List (List Int) → List (List Int) → Int → Int → Option (Bool)
 | 0, _, _, _, _ => none
 | k + 1, x0, x1, x5, x6 => if 0 ≤ x5 then (if x5 < (x0.length : Int) then (if x6 < ((rd_L6 x0 x5).length : Int) then (if 0 ≤ x6 then (if x5 < (x1.length : Int) then (if x6 < ((rd_L6 x1 x5).length : Int) then (if (rd (rd_L6 x0 x5) x6) = (rd (rd_L6 x1 x5) x6) then (laws_r8Rows.l1 k x0 x1 x5 (wrap64 (x6 + 1))) else (some false)) else (none)) else (none)) else (none)) else (laws_r8Rows.l0 k x0 x1 (wrap64 (x5 + 1)))) else (none)) else (none)
end
def laws_r8Rows.f (k : Nat) (l0 : List (List Int)) (l1 : List (List Int)) : Option (Bool) := if (l0.length : Int) = (l1.length : Int) then (laws_r8Rows.l0 k l0 l1 0) else (some false)
set_option maxHeartbeats 8000000 in
set_option maxRecDepth 100000 in
theorem laws_r8Rows.calls (k : Nat) (A0 : Option Addr) (c0 : Nat) (l0 : List (List Int)) (A1 : Option Addr) (c1 : Nat) (l1 : List (List Int)) (r : Bool) (w : World) (hr0 : Kd.C (Kd.slice 2 (Kd.int .i64)) w A0 l0.length l0) (hc0 : l0.length ≤ c0) (hr1 : Kd.C (Kd.slice 2 (Kd.int .i64)) w A1 l1.length l1) (hc1 : l1.length ≤ c1) (h : laws_r8Rows.f k l0 l1 = some r) :
  Calls Tryd.prog 11 #[.slice A0 l0.length c0, .slice A1 l1.length c1] w fun e w' => e = .returned (.bool r) ∧ Drawn0 w w' := by
 have HR0 := Aside0.mk hr0
 have HC0 := Aside0.mk hc0
 clear hr0 hc0
 have HR1 := Aside0.mk hr1
 have HC1 := Aside0.mk hc1
 clear hr1 hc1
 have H : (if (l0.length : Int) = (l1.length : Int) then (laws_r8Rows.l0 k l0 l1 0) else (some false)) = some r := h
 clear h
 by_cases c3 : (l0.length : Int) = (l1.length : Int)
 ·rw [if_pos c3] at H
  have c3b0 : ((l0.length : Int) == (l1.length : Int)) = true := beq_iff_eq.mpr c3
  have c3b1 : ((l0.length : Int) != (l1.length : Int)) = false := bne_eq_false_iff_eq.mpr c3
  have c3b2 : (l0.length == l1.length) = true := by first | simpa using c3 | (simp at c3 ⊢; omega)
  clear c3
  have H' := Aside0.mk H
  clear H
  go_enter Tryd.func11, Tryd.ntmps11
  go_wp2
  repeat (go_quiet (fail); try go_wp2)
  go_loopg [5] k (fun kq v5 w' => ∃ (x5_1 : Int), v5 = .int .i64 x5_1 ∧ Aside0 (laws_r8Rows.l0 kq l0 l1 x5_1 = some r) ∧ Aside0 (kq ≤ k) ∧ Drawn0 w w')
  case atStart => exact ⟨(0), (by first | rfl | (simp; done) | (simp [*]; done)), H', ⟨Nat.le_refl _⟩, by repeat (first | exact Drawn0.refl _ | apply Drawn0.step)⟩
  case round =>
   clear H'
   try clear c1
   try clear p2
   try clear c3
   try clear c3b0
   try clear c3b1
   try clear c3b2
   obtain ⟨x5_1, rfl, HA, HK1, ⟨m1, rfl⟩⟩ := hrel
   cases gk with
   | zero => exact absurd HA.out (by simp [laws_r8Rows.l0])
   | succ k1 =>
    have H := HA.out
    clear HA
    simp only [laws_r8Rows.l0] at H
    by_cases c4 : x5_1 < (l0.length : Int)
    ·rw [if_pos c4] at H
     have c4b0 : decide (x5_1 < (l0.length : Int)) = true := decide_eq_true c4
     clear c4
     by_cases c5 : 0 ≤ x5_1
     ·rw [if_pos c5] at H
      have c5b0 : decide (0 ≤ x5_1) = true := decide_eq_true c5
      clear c5
      by_cases c6 : x5_1 < (l1.length : Int)
      ·rw [if_pos c6] at H
       have c6b0 : decide (x5_1 < (l1.length : Int)) = true := decide_eq_true c6
       clear c6
       by_cases c7 : ((rd_L6 l0 x5_1).length : Int) = ((rd_L6 l1 x5_1).length : Int)
       ·rw [if_pos c7] at H
        have c7b0 : (((rd_L6 l0 x5_1).length : Int) == ((rd_L6 l1 x5_1).length : Int)) = true := beq_iff_eq.mpr c7
        have c7b1 : (((rd_L6 l0 x5_1).length : Int) != ((rd_L6 l1 x5_1).length : Int)) = false := bne_eq_false_iff_eq.mpr c7
        have c7b2 : ((rd_L6 l0 x5_1).length == (rd_L6 l1 x5_1).length) = true := by first | simpa using c7 | (simp at c7 ⊢; omega)
        clear c7
        have H' := Aside0.mk H
        clear H
        have p275 : 0 ≤ (x5_1 : Int) := of_decide_eq_true (by with_reducible assumption)
        have q275 : x5_1 < (l0.length : Int) := of_decide_eq_true (by with_reducible assumption)
        obtain ⟨ad275, A275_0, c275_0, e275, hx275_0, hl275_0, hi275_0⟩ := at_L6 HR0.out x5_1 p275 q275
        cases e275
        have HR275_0 := Aside0.mk hi275_0
        have HC275_0 := Aside0.mk hl275_0
        clear hi275_0 hl275_0
        replace p275 := eq_true p275
        replace q275 := eq_true q275
        have p276 : 0 ≤ (x5_1 : Int) := of_decide_eq_true (by with_reducible assumption)
        have q276 : x5_1 < (l1.length : Int) := of_decide_eq_true (by with_reducible assumption)
        obtain ⟨ad276, A276_0, c276_0, e276, hx276_0, hl276_0, hi276_0⟩ := at_L6 HR1.out x5_1 p276 q276
        cases e276
        have HR276_0 := Aside0.mk hi276_0
        have HC276_0 := Aside0.mk hl276_0
        clear hi276_0 hl276_0
        replace p276 := eq_true p276
        replace q276 := eq_true q276
        go_wp2
        repeat (go_quiet (fail); try go_wp2)
        go_loopg [6] k1 (fun kq v6 w' => ∃ (x6_2 : Int), v6 = .int .i64 x6_2 ∧ Aside0 (laws_r8Rows.l1 kq l0 l1 x5_1 x6_2 = some r) ∧ Aside0 (kq ≤ k1) ∧ Drawn0 w w')
        case atStart => exact ⟨(0), (by first | rfl | (simp; done) | (simp [*]; done)), H', ⟨Nat.le_refl _⟩, by repeat (first | exact Drawn0.refl _ | apply Drawn0.step)⟩
        case round =>
         clear H'
         try clear c1
         try clear c2
         try clear p2
         try clear q2
         try clear hx2
         try clear c3
         try clear c3b0
         try clear c3b1
         try clear c3b2
         try clear c4
         try clear c4b0
         try clear c5
         try clear c5b0
         try clear c6
         try clear c6b0
         try clear c7
         try clear c7b0
         try clear c7b1
         try clear c7b2
         try clear hx275_0
         try clear hx276_0
         try clear p2
         try clear p275
         try clear p276
         try clear q275
         try clear q276
         obtain ⟨x6_2, rfl, HA, HK2, ⟨m2, rfl⟩⟩ := hrel
         cases gk with
         | zero => exact absurd HA.out (by simp [laws_r8Rows.l1])
         | succ k2 =>
          have H := HA.out
          clear HA
          simp only [laws_r8Rows.l1] at H
          by_cases c8 : 0 ≤ x5_1
          ·rw [if_pos c8] at H
           have c8b0 : decide (0 ≤ x5_1) = true := decide_eq_true c8
           clear c8
           by_cases c9 : x5_1 < (l0.length : Int)
           ·rw [if_pos c9] at H
            have c9b0 : decide (x5_1 < (l0.length : Int)) = true := decide_eq_true c9
            clear c9
            by_cases c10 : x6_2 < ((rd_L6 l0 x5_1).length : Int)
            ·rw [if_pos c10] at H
             have c10b0 : decide (x6_2 < ((rd_L6 l0 x5_1).length : Int)) = true := decide_eq_true c10
             clear c10
             by_cases c11 : 0 ≤ x6_2
             ·rw [if_pos c11] at H
              have c11b0 : decide (0 ≤ x6_2) = true := decide_eq_true c11
              clear c11
              by_cases c12 : x5_1 < (l1.length : Int)
              ·rw [if_pos c12] at H
               have c12b0 : decide (x5_1 < (l1.length : Int)) = true := decide_eq_true c12
               clear c12
               by_cases c13 : x6_2 < ((rd_L6 l1 x5_1).length : Int)
               ·rw [if_pos c13] at H
                have c13b0 : decide (x6_2 < ((rd_L6 l1 x5_1).length : Int)) = true := decide_eq_true c13
                clear c13
                by_cases c14 : (rd (rd_L6 l0 x5_1) x6_2) = (rd (rd_L6 l1 x5_1) x6_2)
                ·rw [if_pos c14] at H
                 have c14b0 : ((rd (rd_L6 l0 x5_1) x6_2) == (rd (rd_L6 l1 x5_1) x6_2)) = true := beq_iff_eq.mpr c14
                 have c14b1 : ((rd (rd_L6 l0 x5_1) x6_2) != (rd (rd_L6 l1 x5_1) x6_2)) = false := bne_eq_false_iff_eq.mpr c14
                 clear c14
                 have H' := Aside0.mk H
                 clear H
                 have p277 : 0 ≤ (x5_1 : Int) := of_decide_eq_true (by with_reducible assumption)
                 have q277 : x5_1 < (l0.length : Int) := of_decide_eq_true (by with_reducible assumption)
                 obtain ⟨ad277, A277_0, c277_0, e277, hx277_0, hl277_0, hi277_0⟩ := at_L6 HR0.out x5_1 p277 q277
                 obtain rfl : ad275 = ad277 := (by injection e277)
                 have HR277_0 := Aside0.mk hi277_0
                 have HC277_0 := Aside0.mk hl277_0
                 clear hi277_0 hl277_0
                 replace p277 := eq_true p277
                 replace q277 := eq_true q277
                 have p278 : 0 ≤ (x5_1 : Int) := of_decide_eq_true (by with_reducible assumption)
                 have q278 : x5_1 < (l0.length : Int) := of_decide_eq_true (by with_reducible assumption)
                 obtain ⟨ad278, A278_0, c278_0, e278, hx278_0, hl278_0, hi278_0⟩ := at_L6 HR0.out x5_1 p278 q278
                 obtain rfl : ad275 = ad278 := (by injection e278)
                 have HR278_0 := Aside0.mk hi278_0
                 have HC278_0 := Aside0.mk hl278_0
                 clear hi278_0 hl278_0
                 replace p278 := eq_true p278
                 replace q278 := eq_true q278
                 have ea_ := Option.some.inj (hx277_0.symm.trans hx278_0)
                 injection ea_ with ea_ en_ ec_
                 subst ea_
                 subst ec_
                 clear en_
                 have p279 : 0 ≤ (x6_2 : Int) := of_decide_eq_true (by with_reducible assumption)
                 have q279 : x6_2 < ((rd_L6 l0 x5_1).length : Int) := of_decide_eq_true (by with_reducible assumption)
                 obtain ⟨ad279, e279, hx279_0⟩ := Kd.at_int HR278_0.out x6_2 p279 q279
                 cases e279
                 replace p279 := eq_true p279
                 replace q279 := eq_true q279
                 have p280 : 0 ≤ (x5_1 : Int) := of_decide_eq_true (by with_reducible assumption)
                 have q280 : x5_1 < (l1.length : Int) := of_decide_eq_true (by with_reducible assumption)
                 obtain ⟨ad280, A280_0, c280_0, e280, hx280_0, hl280_0, hi280_0⟩ := at_L6 HR1.out x5_1 p280 q280
                 obtain rfl : ad276 = ad280 := (by injection e280)
                 have HR280_0 := Aside0.mk hi280_0
                 have HC280_0 := Aside0.mk hl280_0
                 clear hi280_0 hl280_0
                 replace p280 := eq_true p280
                 replace q280 := eq_true q280
                 have p281 : 0 ≤ (x6_2 : Int) := of_decide_eq_true (by with_reducible assumption)
                 have q281 : x6_2 < ((rd_L6 l1 x5_1).length : Int) := of_decide_eq_true (by with_reducible assumption)
                 obtain ⟨ad281, e281, hx281_0⟩ := Kd.at_int HR280_0.out x6_2 p281 q281
                 cases e281
                 replace p281 := eq_true p281
                 replace q281 := eq_true q281
                 go_wp2
                 repeat (go_quiet (fail); try go_wp2)
                 go_roundg k2
                 case measure => have := HK1.out; have := HK2.out; omega
                 case rel => exact ⟨(wrap64 (x6_2 + 1)), (by first | rfl | (simp; done) | (simp [*]; done)), H', ⟨by have := HK1.out; have := HK2.out; omega⟩, by repeat (first | exact Drawn0.refl _ | apply Drawn0.step)⟩
                ·rw [if_neg c14] at H
                 have c14b0 : ((rd (rd_L6 l0 x5_1) x6_2) == (rd (rd_L6 l1 x5_1) x6_2)) = false := beq_eq_false_iff_ne.mpr c14
                 have c14b1 : ((rd (rd_L6 l0 x5_1) x6_2) != (rd (rd_L6 l1 x5_1) x6_2)) = true := bne_iff_ne.mpr c14
                 obtain rfl := Option.some.inj H
                 have p277 : 0 ≤ (x5_1 : Int) := of_decide_eq_true (by with_reducible assumption)
                 have q277 : x5_1 < (l0.length : Int) := of_decide_eq_true (by with_reducible assumption)
                 obtain ⟨ad277, A277_0, c277_0, e277, hx277_0, hl277_0, hi277_0⟩ := at_L6 HR0.out x5_1 p277 q277
                 obtain rfl : ad275 = ad277 := (by injection e277)
                 have HR277_0 := Aside0.mk hi277_0
                 have HC277_0 := Aside0.mk hl277_0
                 clear hi277_0 hl277_0
                 replace p277 := eq_true p277
                 replace q277 := eq_true q277
                 have p278 : 0 ≤ (x5_1 : Int) := of_decide_eq_true (by with_reducible assumption)
                 have q278 : x5_1 < (l0.length : Int) := of_decide_eq_true (by with_reducible assumption)
                 obtain ⟨ad278, A278_0, c278_0, e278, hx278_0, hl278_0, hi278_0⟩ := at_L6 HR0.out x5_1 p278 q278
                 obtain rfl : ad275 = ad278 := (by injection e278)
                 have HR278_0 := Aside0.mk hi278_0
                 have HC278_0 := Aside0.mk hl278_0
                 clear hi278_0 hl278_0
                 replace p278 := eq_true p278
                 replace q278 := eq_true q278
                 have ea_ := Option.some.inj (hx277_0.symm.trans hx278_0)
                 injection ea_ with ea_ en_ ec_
                 subst ea_
                 subst ec_
                 clear en_
                 have p279 : 0 ≤ (x6_2 : Int) := of_decide_eq_true (by with_reducible assumption)
                 have q279 : x6_2 < ((rd_L6 l0 x5_1).length : Int) := of_decide_eq_true (by with_reducible assumption)
                 obtain ⟨ad279, e279, hx279_0⟩ := Kd.at_int HR278_0.out x6_2 p279 q279
                 cases e279
                 replace p279 := eq_true p279
                 replace q279 := eq_true q279
                 have p280 : 0 ≤ (x5_1 : Int) := of_decide_eq_true (by with_reducible assumption)
                 have q280 : x5_1 < (l1.length : Int) := of_decide_eq_true (by with_reducible assumption)
                 obtain ⟨ad280, A280_0, c280_0, e280, hx280_0, hl280_0, hi280_0⟩ := at_L6 HR1.out x5_1 p280 q280
                 obtain rfl : ad276 = ad280 := (by injection e280)
                 have HR280_0 := Aside0.mk hi280_0
                 have HC280_0 := Aside0.mk hl280_0
                 clear hi280_0 hl280_0
                 replace p280 := eq_true p280
                 replace q280 := eq_true q280
                 have p281 : 0 ≤ (x6_2 : Int) := of_decide_eq_true (by with_reducible assumption)
                 have q281 : x6_2 < ((rd_L6 l1 x5_1).length : Int) := of_decide_eq_true (by with_reducible assumption)
                 obtain ⟨ad281, e281, hx281_0⟩ := Kd.at_int HR280_0.out x6_2 p281 q281
                 cases e281
                 replace p281 := eq_true p281
                 replace q281 := eq_true q281
                 go_wp2
                 repeat (go_quiet (fail); try go_wp2)
                 go_ret
                 exact ⟨by first | rfl | (simp; done) | (simp [*]; done), by repeat (first | exact Drawn0.refl _ | apply Drawn0.step)⟩
               ·rw [if_neg c13] at H
                exact absurd H (by simp)
              ·rw [if_neg c12] at H
               exact absurd H (by simp)
             ·rw [if_neg c11] at H
              exact absurd H (by simp)
            ·rw [if_neg c10] at H
             have c10b0 : decide (x6_2 < ((rd_L6 l0 x5_1).length : Int)) = false := decide_eq_false c10
             clear c10
             have H' := Aside0.mk H
             clear H
             have p277 : 0 ≤ (x5_1 : Int) := of_decide_eq_true (by with_reducible assumption)
             have q277 : x5_1 < (l0.length : Int) := of_decide_eq_true (by with_reducible assumption)
             obtain ⟨ad277, A277_0, c277_0, e277, hx277_0, hl277_0, hi277_0⟩ := at_L6 HR0.out x5_1 p277 q277
             obtain rfl : ad275 = ad277 := (by injection e277)
             have HR277_0 := Aside0.mk hi277_0
             have HC277_0 := Aside0.mk hl277_0
             clear hi277_0 hl277_0
             replace p277 := eq_true p277
             replace q277 := eq_true q277
             go_wp2
             repeat (go_quiet (fail); try go_wp2)
             go_roundg k2
             case measure => have := HK1.out; have := HK2.out; omega
             case rel => exact ⟨(wrap64 (x5_1 + 1)), (by first | rfl | (simp; done) | (simp [*]; done)), H', ⟨by have := HK1.out; have := HK2.out; omega⟩, by repeat (first | exact Drawn0.refl _ | apply Drawn0.step)⟩
           ·rw [if_neg c9] at H
            exact absurd H (by simp)
          ·rw [if_neg c8] at H
           exact absurd H (by simp)
       ·rw [if_neg c7] at H
        have c7b0 : (((rd_L6 l0 x5_1).length : Int) == ((rd_L6 l1 x5_1).length : Int)) = false := beq_eq_false_iff_ne.mpr c7
        have c7b1 : (((rd_L6 l0 x5_1).length : Int) != ((rd_L6 l1 x5_1).length : Int)) = true := bne_iff_ne.mpr c7
        have c7b2 : ((rd_L6 l0 x5_1).length == (rd_L6 l1 x5_1).length) = false := by first | simpa using c7 | (simp at c7 ⊢; omega)
        obtain rfl := Option.some.inj H
        have p275 : 0 ≤ (x5_1 : Int) := of_decide_eq_true (by with_reducible assumption)
        have q275 : x5_1 < (l0.length : Int) := of_decide_eq_true (by with_reducible assumption)
        obtain ⟨ad275, A275_0, c275_0, e275, hx275_0, hl275_0, hi275_0⟩ := at_L6 HR0.out x5_1 p275 q275
        cases e275
        have HR275_0 := Aside0.mk hi275_0
        have HC275_0 := Aside0.mk hl275_0
        clear hi275_0 hl275_0
        replace p275 := eq_true p275
        replace q275 := eq_true q275
        have p276 : 0 ≤ (x5_1 : Int) := of_decide_eq_true (by with_reducible assumption)
        have q276 : x5_1 < (l1.length : Int) := of_decide_eq_true (by with_reducible assumption)
        obtain ⟨ad276, A276_0, c276_0, e276, hx276_0, hl276_0, hi276_0⟩ := at_L6 HR1.out x5_1 p276 q276
        cases e276
        have HR276_0 := Aside0.mk hi276_0
        have HC276_0 := Aside0.mk hl276_0
        clear hi276_0 hl276_0
        replace p276 := eq_true p276
        replace q276 := eq_true q276
        go_wp2
        repeat (go_quiet (fail); try go_wp2)
        go_ret
        exact ⟨by first | rfl | (simp; done) | (simp [*]; done), by repeat (first | exact Drawn0.refl _ | apply Drawn0.step)⟩
      ·rw [if_neg c6] at H
       exact absurd H (by simp)
     ·rw [if_neg c5] at H
      exact absurd H (by simp)
    ·rw [if_neg c4] at H
     have c4b0 : decide (x5_1 < (l0.length : Int)) = false := decide_eq_false c4
     clear c4
     obtain rfl := Option.some.inj H
     go_wp2
     repeat (go_quiet (fail); try go_wp2)
     go_ret
     exact ⟨by first | rfl | (simp; done) | (simp [*]; done), by repeat (first | exact Drawn0.refl _ | apply Drawn0.step)⟩
 ·rw [if_neg c3] at H
  have c3b0 : ((l0.length : Int) == (l1.length : Int)) = false := beq_eq_false_iff_ne.mpr c3
  have c3b1 : ((l0.length : Int) != (l1.length : Int)) = true := bne_iff_ne.mpr c3
  have c3b2 : (l0.length == l1.length) = false := by first | simpa using c3 | (simp at c3 ⊢; omega)
  obtain rfl := Option.some.inj H
  go_enter Tryd.func11, Tryd.ntmps11
  go_wp2
  repeat (go_quiet (fail); try go_wp2)
  go_ret
  exact ⟨by first | rfl | (simp; done) | (simp [*]; done), by repeat (first | exact Drawn0.refl _ | apply Drawn0.step)⟩

end Go.Proofs.YtbgokpobaemibaaDoor.Pa

namespace Go.Proofs.YtbgokpobaemibaaDoor.Pa
open Go.RowKit Go.Proofs.YtbgokpobaemibaaDoorW.PrintWords Go.Proofs.YtbgokpobaemibaaDoorW.PrintLast Go.Proofs.YtbgokpobaemibaaDoorW.PrintMore
attribute [local go_sem] max2_int min2_int max_two min_two max_three min_three max_four min_four   -- for this text's walks alone
set_option linter.unusedVariables false
set_option linter.unusedSimpArgs false

/-! ### laws_r8At: function 13 -/
def laws_r8At.f (l0 : List Int) (a1 : Int) (a2 : Int) : Option (Int) := if a2 ≤ 1 then (some 0) else (if a1 ≥ (l0.length : Int) then (some 0) else (if 0 ≤ a1 then (if a1 < (l0.length : Int) then (if a2 = 0 then (none) else (some (Int.tmod (wrap64 (rd l0 a1)) a2))) else (none)) else (none)))
set_option maxHeartbeats 8000000 in
set_option maxRecDepth 100000 in
theorem laws_r8At.calls (A0 : Option Addr) (c0 : Nat) (l0 : List Int) (a1 : Int) (a2 : Int) (r : Int) (w : World) (hr0 : Kd.C (Kd.int .u8) w A0 l0.length l0) (hc0 : l0.length ≤ c0) (h : laws_r8At.f l0 a1 a2 = some r) :
  Calls Tryd.prog 13 #[.slice A0 l0.length c0, .int .i64 a1, .int .i64 a2] w fun e w' => e = .returned (.int .i64 r) ∧ Drawn0 w w' := by
 have HR0 := Aside0.mk hr0
 have HC0 := Aside0.mk hc0
 clear hr0 hc0
 have H : (if a2 ≤ 1 then (some 0) else (if a1 ≥ (l0.length : Int) then (some 0) else (if 0 ≤ a1 then (if a1 < (l0.length : Int) then (if a2 = 0 then (none) else (some (Int.tmod (wrap64 (rd l0 a1)) a2))) else (none)) else (none)))) = some r := h
 clear h
 by_cases c4 : a2 ≤ 1
 ·rw [if_pos c4] at H
  have c4b0 : decide (a2 ≤ 1) = true := decide_eq_true c4
  clear c4
  obtain rfl := Option.some.inj H
  go_enter Tryd.func13, Tryd.ntmps13
  go_wp2
  go_ret
  exact ⟨by first | rfl | (simp; done) | (simp [*]; done), by repeat (first | exact Drawn0.refl _ | apply Drawn0.step)⟩
 ·rw [if_neg c4] at H
  have c4b0 : decide (a2 ≤ 1) = false := decide_eq_false c4
  clear c4
  by_cases c5 : a1 ≥ (l0.length : Int)
  ·rw [if_pos c5] at H
   have c5b0 : decide ((l0.length : Int) ≤ a1) = true := decide_eq_true c5
   clear c5
   obtain rfl := Option.some.inj H
   go_enter Tryd.func13, Tryd.ntmps13
   go_wp2
   go_ret
   exact ⟨by first | rfl | (simp; done) | (simp [*]; done), by repeat (first | exact Drawn0.refl _ | apply Drawn0.step)⟩
  ·rw [if_neg c5] at H
   have c5b0 : decide ((l0.length : Int) ≤ a1) = false := decide_eq_false c5
   clear c5
   by_cases c6 : 0 ≤ a1
   ·rw [if_pos c6] at H
    have c6b0 : decide (0 ≤ a1) = true := decide_eq_true c6
    clear c6
    by_cases c7 : a1 < (l0.length : Int)
    ·rw [if_pos c7] at H
     have c7b0 : decide (a1 < (l0.length : Int)) = true := decide_eq_true c7
     clear c7
     by_cases c8 : a2 = 0
     ·rw [if_pos c8] at H
      exact absurd H (by simp)
     ·rw [if_neg c8] at H
      have c8b0 : (a2 == 0) = false := beq_eq_false_iff_ne.mpr c8
      have c8b1 : (a2 != 0) = true := bne_iff_ne.mpr c8
      obtain rfl := Option.some.inj H
      have p282 : 0 ≤ (a1 : Int) := of_decide_eq_true (by with_reducible assumption)
      have q282 : a1 < (l0.length : Int) := of_decide_eq_true (by with_reducible assumption)
      obtain ⟨ad282, e282, hx282_0⟩ := Kd.at_int HR0.out a1 p282 q282
      cases e282
      replace p282 := eq_true p282
      replace q282 := eq_true q282
      go_enter Tryd.func13, Tryd.ntmps13
      go_wp2
      go_ret
      exact ⟨by first | rfl | (simp; done) | (simp [*]; done), by repeat (first | exact Drawn0.refl _ | apply Drawn0.step)⟩
    ·rw [if_neg c7] at H
     exact absurd H (by simp)
   ·rw [if_neg c6] at H
    exact absurd H (by simp)

end Go.Proofs.YtbgokpobaemibaaDoor.Pa

