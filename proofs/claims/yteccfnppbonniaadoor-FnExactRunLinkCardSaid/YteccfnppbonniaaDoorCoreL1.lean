-- Written for this claim by a program of this session.
import Derived.Test.YteccfnppbonniaaDoorPax0
import Derived.Lib.SlTrimSet
import Derived.Test.YteccfnppbonniaaDoorShelfT
import Derived.Shelf.Abstract
/- Small laws of whole numbers and lists that the plain statements of this seat use. -/
namespace Go.Proofs.YteccfnppbonniaaDoor.Pure
open Go.RowKit Go.Proofs.YteccfnppbonniaaDoor.Pa Go.Proofs.YteccfnppbonniaaDoorW.PrintWords Go.Proofs.YteccfnppbonniaaDoorW.PrintLast
set_option linter.unusedVariables false
set_option linter.unusedSimpArgs false

theorem wrap_id {x : Int} (h0 : -9223372036854775808 ≤ x) (h1 : x ≤ 9223372036854775807) : wrap64 x = x := by
 unfold wrap64
 omega
theorem wf64 {x : Int} (h : (Lit.int .i64 x).wf = true) : -9223372036854775808 ≤ x ∧ x ≤ 9223372036854775807 := by
 simp only [Lit.wf, IntKind.min, IntKind.max, IntKind.signed, IntKind.bits, Bool.and_eq_true, decide_eq_true_eq, if_true] at h
 omega
theorem wf64' {x : Int} (h : -9223372036854775808 ≤ x ∧ x ≤ 9223372036854775807) : (Lit.int .i64 x).wf = true := by
 simp only [Lit.wf, IntKind.min, IntKind.max, IntKind.signed, IntKind.bits, Bool.and_eq_true, decide_eq_true_eq, if_true]
 omega
theorem rd_get {l : List Int} {i : Nat} (h : i < l.length) : rd l (i : Int) = l[i] := by
 unfold rd
 rw [List.getD_eq_getElem?_getD, Int.toNat_natCast, List.getElem?_eq_getElem h]
 rfl
/-- The numbers a, a + 1, .. -/
def numsFrom (a : Int) : Nat → List Int
 | 0 => []
 | n + 1 => a :: numsFrom (a + 1) n
theorem numsFrom_length (a : Int) (n : Nat) : (numsFrom a n).length = n := by
 induction n generalizing a with
 | zero => rfl
 | succ n ih => simp [numsFrom, ih]
theorem ev_intro {α : Type} {f : Nat → Option α} {r : α} (K : Nat) (h : ∀ k, K ≤ k → f k = some r) : Ev f r := ⟨K, h⟩
end Go.Proofs.YteccfnppbonniaaDoor.Pure

namespace Go.Proofs.YteccfnppbonniaaDoor.Pa
open Go.RowKit Go.Proofs.YteccfnppbonniaaDoorW.PrintWords Go.Proofs.YteccfnppbonniaaDoorW.PrintLast Go.Proofs.YteccfnppbonniaaDoorW.PrintMore
attribute [local go_sem] max2_int min2_int max_two min_two max_three min_three max_four min_four   -- for this text's walks alone
set_option linter.unusedVariables false
set_option linter.unusedSimpArgs false

/-! ### spec_l05Steps: function 15 -/
def spec_l05Steps.l0 : Nat → ByteArray → Int → Option (Bool)
 | 0, _, _ => none
 | k + 1, x0, x3 => if x3 < (x0.size : Int) then (if 0 ≤ x3 then (if (bt x0 x3) = 115 then (spec_l05Steps.l0 k x0 (wrap64 (x3 + 1))) else (if (bt x0 x3) = 114 then (spec_l05Steps.l0 k x0 (wrap64 (x3 + 1))) else (some false))) else (none)) else (some (decide ((x0.size : Int) ≤ 300)))
def spec_l05Steps.f (k : Nat) (a0 : ByteArray) : Option (Bool) := spec_l05Steps.l0 k a0 0
theorem spec_l05Steps.mono_l : ∀ k, (∀ y0 y1, LeO (spec_l05Steps.l0 k y0 y1) (spec_l05Steps.l0 (k + 1) y0 y1))
 | 0 => fun _ _ r h => by simp [spec_l05Steps.l0] at h
 | k + 1 => by
  have ih0 := spec_l05Steps.mono_l k
  ·intro y0 y1
   unfold spec_l05Steps.l0
   repeat' first
   | (with_reducible exact ih0 _ _)
   | (with_reducible exact LeO.refl _)
   | (with_reducible exact LeO.none _)
   | (with_reducible refine LeO.ite ?_ ?_)
   | (with_reducible refine LeO.bind ?_ (fun _ => ?_))
   | exact ih0 _ _
   | exact LeO.none _
   | refine LeO.ite ?_ ?_
   | refine LeO.bind ?_ (fun _ => ?_)
theorem spec_l05Steps.mono : ∀ a0 k, LeO (spec_l05Steps.f k a0) (spec_l05Steps.f (k + 1) a0) := by
 intro a0 k
 have ih0 := spec_l05Steps.mono_l k
 unfold spec_l05Steps.f
 repeat' first
   | (with_reducible exact ih0 _ _)
   | (with_reducible exact LeO.refl _)
   | (with_reducible exact LeO.none _)
   | (with_reducible refine LeO.ite ?_ ?_)
   | (with_reducible refine LeO.bind ?_ (fun _ => ?_))
   | exact ih0 _ _
   | exact LeO.none _
   | refine LeO.ite ?_ ?_
   | refine LeO.bind ?_ (fun _ => ?_)
set_option maxHeartbeats 8000000 in
set_option maxRecDepth 100000 in
theorem spec_l05Steps.calls (k : Nat) (a0 : ByteArray) (r : Bool) (w : World) (h : spec_l05Steps.f k a0 = some r) :
  Calls Tryd.prog 15 #[.string a0] w fun e w' => e = .returned (.bool r) ∧ Drawn0 w w' := by
 have H : (spec_l05Steps.l0 k a0 0) = some r := h
 clear h
 have H' := Aside0.mk H
 clear H
 go_enter Tryd.func15, Tryd.ntmps15
 go_wp2
 go_loopg [3] k (fun kq v3 w' => ∃ (x3_1 : Int), v3 = .int .i64 x3_1 ∧ Aside0 (spec_l05Steps.l0 kq a0 x3_1 = some r) ∧ Aside0 (kq ≤ k) ∧ Drawn0 w w')
 case atStart => exact ⟨(0), (by first | rfl | (simp; done) | (simp [*]; done)), H', ⟨Nat.le_refl _⟩, by repeat (first | exact Drawn0.refl _ | apply Drawn0.step)⟩
 case round =>
  clear H'
  try clear c1
  obtain ⟨x3_1, rfl, HA, HK1, ⟨m1, rfl⟩⟩ := hrel
  cases gk with
  | zero => exact absurd HA.out (by simp [spec_l05Steps.l0])
  | succ k1 =>
   have H := HA.out
   clear HA
   simp only [spec_l05Steps.l0] at H
   by_cases c2 : x3_1 < (a0.size : Int)
   ·rw [if_pos c2] at H
    have c2b0 : decide (x3_1 < (a0.size : Int)) = true := decide_eq_true c2
    clear c2
    by_cases c3 : 0 ≤ x3_1
    ·rw [if_pos c3] at H
     have c3b0 : decide (0 ≤ x3_1) = true := decide_eq_true c3
     clear c3
     by_cases c5 : (bt a0 x3_1) = 115
     ·rw [if_pos c5] at H
      have c5b0 : ((bt a0 x3_1) == 115) = true := beq_iff_eq.mpr c5
      have c5b1 : ((bt a0 x3_1) != 115) = false := bne_eq_false_iff_eq.mpr c5
      clear c5
      have H' := Aside0.mk H
      clear H
      have p4 : 0 ≤ (x3_1 : Int) := of_decide_eq_true (by with_reducible assumption)
      have q4 : x3_1 < (a0.size : Int) := of_decide_eq_true (by with_reducible assumption)
      have hx4 := bt_at a0 x3_1
      replace p4 := eq_true p4
      replace q4 := eq_true q4
      go_wp2
      go_roundg k1
      case measure => have := HK1.out; omega
      case rel => exact ⟨(wrap64 (x3_1 + 1)), (by first | rfl | (simp; done) | (simp [*]; done)), H', ⟨by have := HK1.out; omega⟩, by repeat (first | exact Drawn0.refl _ | apply Drawn0.step)⟩
     ·rw [if_neg c5] at H
      have c5b0 : ((bt a0 x3_1) == 115) = false := beq_eq_false_iff_ne.mpr c5
      have c5b1 : ((bt a0 x3_1) != 115) = true := bne_iff_ne.mpr c5
      by_cases c7 : (bt a0 x3_1) = 114
      ·rw [if_pos c7] at H
       have c7b0 : ((bt a0 x3_1) == 114) = true := beq_iff_eq.mpr c7
       have c7b1 : ((bt a0 x3_1) != 114) = false := bne_eq_false_iff_eq.mpr c7
       clear c7
       have H' := Aside0.mk H
       clear H
       have p4 : 0 ≤ (x3_1 : Int) := of_decide_eq_true (by with_reducible assumption)
       have q4 : x3_1 < (a0.size : Int) := of_decide_eq_true (by with_reducible assumption)
       have hx4 := bt_at a0 x3_1
       replace p4 := eq_true p4
       replace q4 := eq_true q4
       have p6 : 0 ≤ (x3_1 : Int) := of_decide_eq_true (by with_reducible assumption)
       have q6 : x3_1 < (a0.size : Int) := of_decide_eq_true (by with_reducible assumption)
       have hx6 := bt_at a0 x3_1
       replace p6 := eq_true p6
       replace q6 := eq_true q6
       go_wp2
       go_roundg k1
       case measure => have := HK1.out; omega
       case rel => exact ⟨(wrap64 (x3_1 + 1)), (by first | rfl | (simp; done) | (simp [*]; done)), H', ⟨by have := HK1.out; omega⟩, by repeat (first | exact Drawn0.refl _ | apply Drawn0.step)⟩
      ·rw [if_neg c7] at H
       have c7b0 : ((bt a0 x3_1) == 114) = false := beq_eq_false_iff_ne.mpr c7
       have c7b1 : ((bt a0 x3_1) != 114) = true := bne_iff_ne.mpr c7
       obtain rfl := Option.some.inj H
       have p4 : 0 ≤ (x3_1 : Int) := of_decide_eq_true (by with_reducible assumption)
       have q4 : x3_1 < (a0.size : Int) := of_decide_eq_true (by with_reducible assumption)
       have hx4 := bt_at a0 x3_1
       replace p4 := eq_true p4
       replace q4 := eq_true q4
       have p6 : 0 ≤ (x3_1 : Int) := of_decide_eq_true (by with_reducible assumption)
       have q6 : x3_1 < (a0.size : Int) := of_decide_eq_true (by with_reducible assumption)
       have hx6 := bt_at a0 x3_1
       replace p6 := eq_true p6
       replace q6 := eq_true q6
       go_wp2
       go_ret
       exact ⟨by first | rfl | (simp; done) | (simp [*]; done), by repeat (first | exact Drawn0.refl _ | apply Drawn0.step)⟩
    ·rw [if_neg c3] at H
     exact absurd H (by simp)
   ·rw [if_neg c2] at H
    have c2b0 : decide (x3_1 < (a0.size : Int)) = false := decide_eq_false c2
    clear c2
    obtain rfl := Option.some.inj H
    go_wp2
    go_ret
    exact ⟨by first | rfl | (simp; done) | (simp [*]; done), by repeat (first | exact Drawn0.refl _ | apply Drawn0.step)⟩

end Go.Proofs.YteccfnppbonniaaDoor.Pa

namespace Go.Proofs.YteccfnppbonniaaDoor.Pa
open Go.RowKit Go.Proofs.YteccfnppbonniaaDoorW.PrintWords Go.Proofs.YteccfnppbonniaaDoorW.PrintLast Go.Proofs.YteccfnppbonniaaDoorW.PrintMore
attribute [local go_sem] max2_int min2_int max_two min_two max_three min_three max_four min_four   -- for this text's walks alone
set_option linter.unusedVariables false
set_option linter.unusedSimpArgs false

/-! ### AUX trimmed -/
theorem dropWhile_all {α : Type} (p : α → Bool) : ∀ l : List α, l.all p = true → l.dropWhile p = []
 | [], _ => rfl
 | a :: l, h => by
  simp only [List.all_cons, Bool.and_eq_true] at h
  rw [List.dropWhile_cons, if_pos h.1]
  exact dropWhile_all p l h.2
theorem all_dropWhile {α : Type} (p : α → Bool) : ∀ l : List α, (l.dropWhile p).all p = true → l.all p = true
 | [], _ => rfl
 | a :: l, h => by
  by_cases ha : p a = true
  ·rw [List.dropWhile_cons, if_pos ha] at h
   simp only [List.all_cons, Bool.and_eq_true]
   exact ⟨ha, all_dropWhile p l h⟩
  ·rw [List.dropWhile_cons, if_neg ha] at h
   exact h
theorem all_of_nil {α : Type} (p : α → Bool) (l : List α) (h : l.dropWhile p = []) : l.all p = true := all_dropWhile p l (by rw [h]; rfl)
theorem all_reverse {α : Type} (p : α → Bool) (l : List α) : l.reverse.all p = l.all p := by
 rw [Bool.eq_iff_iff, List.all_eq_true, List.all_eq_true]
 simp
/-- What Trim leaves is empty exactly where all letters are in the cutset. -/
theorem trimS_nil (l cs : List UInt8) : Lib.trimS l cs = [] ↔ l.all (fun b => cs.contains b) = true := by
 unfold Lib.trimS Lib.trimLeftS Lib.trimRightS
 constructor
 ·intro h
  have h1 := all_of_nil _ _ h
  rw [all_reverse] at h1
  have h2 := all_dropWhile _ _ h1
  rwa [all_reverse] at h2
 ·intro h
  rw [dropWhile_all _ l.reverse (by rw [all_reverse]; exact h)]
  rfl
/-- The text behind a list of letters, and whether it is empty. -/
def txt (l : List UInt8) : ByteArray := ⟨l.toArray⟩
theorem txt_toList (l : List UInt8) : (txt l).toList = l := by
 rw [Lib.toList_data]
 rfl
theorem txt_empty (l : List UInt8) : (txt l).toList.isEmpty = l.isEmpty := by rw [txt_toList]

end Go.Proofs.YteccfnppbonniaaDoor.Pa

namespace Go.Proofs.YteccfnppbonniaaDoor.Pa
open Go.RowKit Go.Proofs.YteccfnppbonniaaDoorW.PrintWords Go.Proofs.YteccfnppbonniaaDoorW.PrintLast Go.Proofs.YteccfnppbonniaaDoorW.PrintMore
attribute [local go_sem] max2_int min2_int max_two min_two max_three min_three max_four min_four   -- for this text's walks alone
set_option linter.unusedVariables false
set_option linter.unusedSimpArgs false

/-! ### impl_isOrder: function 19 -/
/-- The letters of an order. -/
def orderB (l : List UInt8) : Bool := l.all fun b => [(114 : UInt8), 115].contains b
def isOrderB (s : ByteArray) : Bool := decide (s.size ≤ 300) && orderB s.data.toList
def impl_isOrder.f (a0 : ByteArray) : Option (Bool) := some (isOrderB a0)
set_option maxHeartbeats 2000000 in
set_option maxRecDepth 100000 in
theorem impl_isOrder.calls (a0 : ByteArray) (r : Bool) (w : World) (h : impl_isOrder.f a0 = some r) :
  Calls Tryd.prog 19 #[.string a0] w fun e w' => e = .returned (.bool r) ∧ Below w.heap.size w w' := by
 obtain rfl := Option.some.inj h
 clear h
 by_cases hl : a0.size ≤ 300
 ·have c1 : decide ((a0.size : Int) ≤ 300) = true := decide_eq_true (by omega)
  have c2 : decide (a0.size ≤ 300) = true := decide_eq_true hl
  have HT := Aside0.mk (Any.strings_Trim_laid Tryd.lays160 (by kernel_rfl) a0 ⟨#[114, 115]⟩ w (by omega) (by decide) (ascii_of_all (by decide)))
  have HE : Aside0 (isOrderB a0 = orderB a0.data.toList) := ⟨by unfold isOrderB; rw [c2]; rfl⟩
  have HN : Aside0 ((txt (Lib.trimS a0.data.toList [114, 115])).toList.isEmpty = orderB a0.data.toList) := ⟨by
   rw [txt_empty, Bool.eq_iff_iff, List.isEmpty_iff]
   exact trimS_nil _ _⟩
  replace HT : Aside0 (Calls Tryd.prog 33 #[.string a0, .string ⟨#[114, 115]⟩] w fun e w' => e = .returned (.string (txt (Lib.trimS a0.data.toList [114, 115]))) ∧ Below w.heap.size w w') := HT
  clear hl
  generalize isOrderB a0 = q at HE ⊢
  generalize txt (Lib.trimS a0.data.toList [114, 115]) = t at HT HN
  generalize orderB a0.data.toList = q1 at HE HN
  cases q1 with
  | true =>
   have n1 := HN.out
   go_enter Tryd.func19, Tryd.ntmps19
   go_wp2_with (go_at_call 33; refine HT.out.mono ?_; rintro e w' ⟨rfl, hb'⟩)
   go_ret
   exact ⟨by rw [HE.out]; rfl, hb'⟩
  | false =>
   have n1 := HN.out
   go_enter Tryd.func19, Tryd.ntmps19
   go_wp2_with (go_at_call 33; refine HT.out.mono ?_; rintro e w' ⟨rfl, hb'⟩)
   go_ret
   exact ⟨by rw [HE.out]; rfl, hb'⟩
 ·have c1 : decide ((a0.size : Int) ≤ 300) = false := decide_eq_false (by omega)
  have c2 : decide (a0.size ≤ 300) = false := decide_eq_false hl
  have HE : Aside0 (isOrderB a0 = false) := ⟨by unfold isOrderB; rw [c2]; rfl⟩
  clear hl
  generalize isOrderB a0 = q at HE ⊢
  go_enter Tryd.func19, Tryd.ntmps19
  go_wp2
  go_ret
  exact ⟨by rw [HE.out]; rfl, Below.refl _ _⟩

end Go.Proofs.YteccfnppbonniaaDoor.Pa

/- The letters of an order, as the program and the reference read them. -/
namespace Go.Proofs.YteccfnppbonniaaDoor.Pure
open Go.RowKit Go.Proofs.YteccfnppbonniaaDoor.Pa Go.Proofs.YteccfnppbonniaaDoorW.PrintWords Go.Proofs.YteccfnppbonniaaDoorW.PrintLast
set_option linter.unusedVariables false
set_option linter.unusedSimpArgs false

theorem bt_get (s : ByteArray) (i : Nat) (h : i < s.data.toList.length) : bt s (i : Int) = ((s.data.toList[i]).toNat : Int) := by
 have h' : i < s.size := by simpa using h
 unfold bt
 rw [Int.toNat_natCast, dif_pos h']
 simp [ByteArray.getElem_eq_getElem_data]
theorem size_list (s : ByteArray) : s.size = s.data.toList.length := by simp
theorem in_letters (b : UInt8) : [(114 : UInt8), 115].contains b = ((b.toNat : Int) == 115 || (b.toNat : Int) == 114) := by
 have h48 : (b == 114) = ((b.toNat : Int) == 114) := by
  rw [Bool.eq_iff_iff, beq_iff_eq, beq_iff_eq, ← UInt8.toNat_inj]
  simp
  omega
 have h49 : (b == 115) = ((b.toNat : Int) == 115) := by
  rw [Bool.eq_iff_iff, beq_iff_eq, beq_iff_eq, ← UInt8.toNat_inj]
  simp
  omega
 simp only [List.contains, List.elem, h48, h49]
 cases ((b.toNat : Int) == 114) <;> cases ((b.toNat : Int) == 115) <;> rfl
theorem order_bt {s : ByteArray} (h : orderB s.data.toList = true) {i : Nat} (hi : i < s.size) : bt s (i : Int) = 115 ∨ bt s (i : Int) = 114 := by
 have hl : i < s.data.toList.length := by rw [← size_list]; exact hi
 rw [bt_get s i hl]
 have := List.all_eq_true.1 h _ (List.getElem_mem hl)
 rw [in_letters] at this
 simpa using this
theorem steps_loop (s : ByteArray) (hs : s.size ≤ 140737488351232) : ∀ d i k, s.size - i = d → i ≤ s.size → d < k →
  spec_l05Steps.l0 k s (i : Int) = some ((s.data.toList.drop i).all (fun b => [(114 : UInt8), 115].contains b) && decide (s.size ≤ 300))
 | 0, i, k, hd, hi, hk => by
  obtain rfl : i = s.size := by omega
  obtain ⟨k, rfl⟩ : ∃ m, k = m + 1 := ⟨k - 1, by omega⟩
  simp only [spec_l05Steps.l0]
  rw [if_neg (by omega), List.drop_of_length_le (by rw [← size_list]; exact Nat.le_refl _)]
  simp
  omega
 | d + 1, i, k, hd, hi, hk => by
  obtain ⟨k, rfl⟩ : ∃ m, k = m + 1 := ⟨k - 1, by omega⟩
  have hl : i < s.data.toList.length := by rw [← size_list]; omega
  have hw : wrap64 ((i : Int) + 1) = ((i + 1 : Nat) : Int) := by rw [wrap_id (by omega) (by omega)]; omega
  simp only [spec_l05Steps.l0]
  rw [if_pos (by omega), if_pos (by omega), hw, steps_loop s hs d (i + 1) k (by omega) (by omega) (by omega), List.drop_eq_getElem_cons hl, List.all_cons, in_letters, bt_get s i hl]
  by_cases h1 : ((s.data.toList[i].toNat : Int)) = 115
  ·rw [if_pos h1, h1]; rfl
  ·rw [if_neg h1]
   by_cases h2 : ((s.data.toList[i].toNat : Int)) = 114
   ·rw [if_pos h2, h2]; rfl
   ·rw [if_neg h2, beq_eq_false_iff_ne.2 h1, beq_eq_false_iff_ne.2 h2]; rfl
theorem steps_tells (s : ByteArray) (hs : s.size ≤ 140737488351232) (k : Nat) (hk : s.size < k) : spec_l05Steps.f k s = some (isOrderB s) := by
 have h := steps_loop s hs s.size 0 k (by omega) (by omega) hk
 rw [List.drop_zero] at h
 refine Eq.trans h ?_
 unfold isOrderB orderB
 rw [Bool.and_comm]
theorem order_is {s : ByteArray} (h : isOrderB s = true) : s.size ≤ 300 ∧ orderB s.data.toList = true := by
 unfold isOrderB at h
 rw [Bool.and_eq_true, decide_eq_true_eq] at h
 exact h
end Go.Proofs.YteccfnppbonniaaDoor.Pure

namespace Go.Proofs.YteccfnppbonniaaDoor.Pa
open Go.RowKit Go.Proofs.YteccfnppbonniaaDoorW.PrintWords Go.Proofs.YteccfnppbonniaaDoorW.PrintLast Go.Proofs.YteccfnppbonniaaDoorW.PrintMore
attribute [local go_sem] max2_int min2_int max_two min_two max_three min_three max_four min_four   -- for this text's walks alone
set_option linter.unusedVariables false
set_option linter.unusedSimpArgs false

/-! ### AUX keepX -/
theorem keepX {w w' : World} {gq : Nat} (gx : Nat) {o : Obj} (hk : KeepBut w w' gq none) (h1 : w.heap[gq]? = some o) (h2 : w'.heap[gq]? = some o) : Kept w w' (fun b => b = gx) :=
 ⟨hk.1, fun i hi _ => by
  by_cases c : i = gq
  ·subst c; rw [h1, h2]
  ·exact hk.2 i hi c (by simp)⟩
theorem below_keptX {w0 w w' : World} {gx : Nat} (h : Below w0.heap.size w0 w) (hz : Below 0 w w') (hk : Kept w w' (fun b => b = gx)) (hg : w0.heap.size ≤ gx) : Below w0.heap.size w0 w' :=
 ⟨hz.os.trans h.os, hz.tape.trans h.tape, hz.output.trans h.output, Nat.le_trans h.size hz.size, fun i hi => (hk.2 i (Nat.lt_of_lt_of_le hi h.size) (by omega)).trans (h.block i hi)⟩

end Go.Proofs.YteccfnppbonniaaDoor.Pa

namespace Go.Proofs.YteccfnppbonniaaDoor.Pa
open Go.RowKit Go.Proofs.YteccfnppbonniaaDoorW.PrintWords Go.Proofs.YteccfnppbonniaaDoorW.PrintLast Go.Proofs.YteccfnppbonniaaDoorW.PrintMore
attribute [local go_sem] max2_int min2_int max_two min_two max_three min_three max_four min_four   -- for this text's walks alone
set_option linter.unusedVariables false
set_option linter.unusedSimpArgs false

/-! ### impl_within: function 32 -/
def impl_within.f (a0 : Int) (a1 : Int) (a2 : Int) : Option (Bool) := if a0 ≥ a1 then (some (decide (a0 ≤ a2))) else (some false)
set_option maxHeartbeats 8000000 in
set_option maxRecDepth 100000 in
theorem impl_within.calls (a0 : Int) (a1 : Int) (a2 : Int) (r : Bool) (w : World) (h : impl_within.f a0 a1 a2 = some r) :
  Calls Tryd.prog 32 #[.int .i64 a0, .int .i64 a1, .int .i64 a2] w fun e w' => e = .returned (.bool r) ∧ Drawn0 w w' := by
 have H : (if a0 ≥ a1 then (some (decide (a0 ≤ a2))) else (some false)) = some r := h
 clear h
 by_cases c4 : a0 ≥ a1
 ·rw [if_pos c4] at H
  have c4b0 : decide (a1 ≤ a0) = true := decide_eq_true c4
  clear c4
  obtain rfl := Option.some.inj H
  go_enter Tryd.func32, Tryd.ntmps32
  go_wp2
  go_ret
  exact ⟨by first | rfl | (simp; done) | (simp [*]; done), by repeat (first | exact Drawn0.refl _ | apply Drawn0.step)⟩
 ·rw [if_neg c4] at H
  have c4b0 : decide (a1 ≤ a0) = false := decide_eq_false c4
  clear c4
  obtain rfl := Option.some.inj H
  go_enter Tryd.func32, Tryd.ntmps32
  go_wp2
  go_ret
  exact ⟨by first | rfl | (simp; done) | (simp [*]; done), by repeat (first | exact Drawn0.refl _ | apply Drawn0.step)⟩

end Go.Proofs.YteccfnppbonniaaDoor.Pa

namespace Go.Proofs.YteccfnppbonniaaDoor.Pa
open Go.RowKit Go.Proofs.YteccfnppbonniaaDoorW.PrintWords Go.Proofs.YteccfnppbonniaaDoorW.PrintLast Go.Proofs.YteccfnppbonniaaDoorW.PrintMore
attribute [local go_sem] max2_int min2_int max_two min_two max_three min_three max_four min_four   -- for this text's walks alone
set_option linter.unusedVariables false
set_option linter.unusedSimpArgs false

/-! ### impl_ValidLink: function 25 -/
def impl_ValidLink.f (a0_0 : Int) (a0_1 : Int) (a0_2 : Int) (a0_3 : Int) : Option (Bool) := if a0_0 = 2 then ((impl_within.f a0_1 0 2).bind fun t159 => (if t159 = true then ((impl_within.f a0_2 0 2).bind fun t160 => (if t160 = true then ((impl_within.f a0_3 0 4).bind fun t161 => (some t161)) else (some false))) else (some false))) else (if a0_0 = 4 then ((impl_within.f a0_1 0 2).bind fun t162 => (if t162 = true then ((impl_within.f a0_2 0 2).bind fun t163 => (if t163 = true then ((impl_within.f a0_3 0 4).bind fun t164 => (some t164)) else (some false))) else (some false))) else (some false))
set_option maxHeartbeats 8000000 in
set_option maxRecDepth 100000 in
theorem impl_ValidLink.calls (a0_0 : Int) (a0_1 : Int) (a0_2 : Int) (a0_3 : Int) (r : Bool) (w : World) (h : impl_ValidLink.f a0_0 a0_1 a0_2 a0_3 = some r) :
  Calls Tryd.prog 25 #[.agg #[.int .i64 a0_0, .int .i64 a0_1, .int .i64 a0_2, .int .i64 a0_3]] w fun e w' => e = .returned (.bool r) ∧ Below w.heap.size w w' := by
 have hu36 := Tryd.underlying36
 have HB := Aside0.mk (Below.refl w.heap.size w)
 have H : (if a0_0 = 2 then ((impl_within.f a0_1 0 2).bind fun t159 => (if t159 = true then ((impl_within.f a0_2 0 2).bind fun t160 => (if t160 = true then ((impl_within.f a0_3 0 4).bind fun t161 => (some t161)) else (some false))) else (some false))) else (if a0_0 = 4 then ((impl_within.f a0_1 0 2).bind fun t162 => (if t162 = true then ((impl_within.f a0_2 0 2).bind fun t163 => (if t163 = true then ((impl_within.f a0_3 0 4).bind fun t164 => (some t164)) else (some false))) else (some false))) else (some false))) = some r := h
 clear h
 by_cases c2 : a0_0 = 2
 ·rw [if_pos c2] at H
  have c2b0 : (a0_0 == 2) = true := beq_iff_eq.mpr c2
  have c2b1 : (a0_0 != 2) = false := bne_eq_false_iff_eq.mpr c2
  clear c2
  replace H := Option.bind_eq_some_iff.mp H
  obtain ⟨t159, A30, H⟩ := H
  replace H : (if t159 = true then ((impl_within.f a0_2 0 2).bind fun t160 => (if t160 = true then ((impl_within.f a0_3 0 4).bind fun t161 => (some t161)) else (some false))) else (some false)) = some r := H
  have A3 := Aside0.mk A30
  clear A30
  by_cases c4 : t159 = true
  ·subst c4
   have H1 : ((impl_within.f a0_2 0 2).bind fun t160 => (if t160 = true then ((impl_within.f a0_3 0 4).bind fun t161 => (some t161)) else (some false))) = some r := by rw [if_pos rfl] at H; exact H
   clear H
   have H := H1
   clear H1
   replace H := Option.bind_eq_some_iff.mp H
   obtain ⟨t160, A50, H⟩ := H
   replace H : (if t160 = true then ((impl_within.f a0_3 0 4).bind fun t161 => (some t161)) else (some false)) = some r := H
   have A5 := Aside0.mk A50
   clear A50
   by_cases c6 : t160 = true
   ·subst c6
    have H1 : ((impl_within.f a0_3 0 4).bind fun t161 => (some t161)) = some r := by rw [if_pos rfl] at H; exact H
    clear H
    have H := H1
    clear H1
    replace H := Option.bind_eq_some_iff.mp H
    obtain ⟨t161, A70, H⟩ := H
    replace H : (some t161) = some r := H
    have A7 := Aside0.mk A70
    clear A70
    obtain rfl := Option.some.inj H
    go_enter Tryd.func25, Tryd.ntmps25
    go_wp2_with (first | ((with_reducible refine gate_dst (N := 1) rfl ?_); refine box_event ?hg (N := 1) ?hd (cs := #[.int .i64 a0_0, .int .i64 a0_1, .int .i64 a0_2, .int .i64 a0_3]) (t := 36) ?hr ?_; (case hd => rfl); (case hg => rfl); (case hr => first | (go_simp; done) | (go_simp; rfl)); intro gb158 hg w8 hbox hb; have n0_ := Aside0.mk (below_step (by repeat (first | (with_reducible first | exact HB.out | apply below_alloc | apply pw_below_drewN | apply below_drew1) | exact HB.out)) hb); have n1_ := Aside0.mk (hbox); have n2_ := Aside0.mk ((by rw [hg]; exact (below_size (by repeat (first | (with_reducible first | exact HB.out | apply below_alloc | apply pw_below_drewN | apply below_drew1) | exact HB.out))) : w.heap.size ≤ gb158)); have n3_ := Aside0.mk ((by rw [hg]; exact (below_size (by repeat (first | (with_reducible first | exact HB.out | apply below_alloc | apply pw_below_drewN | apply below_drew1) | exact HB.out))) : w.heap.size ≤ gb158)); clear HB; have HB := n0_; have BK158 := n1_; have GW158 := n2_; have GE158 := n3_; clear n0_ n1_ n2_ n3_; clear hb hbox hg; have hcz9_0 : w8.cell? ⟨gb158, 0, none⟩ = some (.int .i64 a0_0) := (blk_cell BK158.out 0).trans rfl; have hcz9_1 : w8.cell? ⟨gb158, 1, none⟩ = some (.int .i64 a0_1) := (blk_cell BK158.out 1).trans rfl; have hcz9_2 : w8.cell? ⟨gb158, 2, none⟩ = some (.int .i64 a0_2) := (blk_cell BK158.out 2).trans rfl; have hcz9_3 : w8.cell? ⟨gb158, 3, none⟩ = some (.int .i64 a0_3) := (blk_cell BK158.out 3).trans rfl; have hfz9_0 := blk_frozen BK158.out 0; have hfz9_1 := blk_frozen BK158.out 1; have hfz9_2 := blk_frozen BK158.out 2; have hfz9_3 := blk_frozen BK158.out 3) | (go_at_call 32; (with_reducible refine (impl_within.calls a0_1 0 2 true _ A3.out).mono ?_); rintro e w' ⟨rfl, ⟨nd, rfl⟩⟩) | (go_at_call 32; (with_reducible refine (impl_within.calls a0_2 0 2 true _ A5.out).mono ?_); rintro e w' ⟨rfl, ⟨nd, rfl⟩⟩) | (go_at_call 32; (with_reducible refine (impl_within.calls a0_3 0 4 t161 _ A7.out).mono ?_); rintro e w' ⟨rfl, ⟨nd, rfl⟩⟩))
    go_ret
    exact ⟨by first | rfl | (simp [errW_none, errW_some] <;> rfl) | (simp [*, errW_none, errW_some] <;> rfl), by repeat (first | (with_reducible first | exact HB.out | apply below_alloc | apply pw_below_drewN | apply below_drew1 | refine below_set ?_ GE158.out) | exact HB.out)⟩
   ·replace c6 := Bool.eq_false_iff.mpr c6
    subst c6
    have H1 : (some false) = some r := by rw [if_neg (show ¬ (false = true) by decide)] at H; exact H
    clear H
    have H := H1
    clear H1
    obtain rfl := Option.some.inj H
    go_enter Tryd.func25, Tryd.ntmps25
    go_wp2_with (first | ((with_reducible refine gate_dst (N := 1) rfl ?_); refine box_event ?hg (N := 1) ?hd (cs := #[.int .i64 a0_0, .int .i64 a0_1, .int .i64 a0_2, .int .i64 a0_3]) (t := 36) ?hr ?_; (case hd => rfl); (case hg => rfl); (case hr => first | (go_simp; done) | (go_simp; rfl)); intro gb158 hg w10 hbox hb; have n0_ := Aside0.mk (below_step (by repeat (first | (with_reducible first | exact HB.out | apply below_alloc | apply pw_below_drewN | apply below_drew1) | exact HB.out)) hb); have n1_ := Aside0.mk (hbox); have n2_ := Aside0.mk ((by rw [hg]; exact (below_size (by repeat (first | (with_reducible first | exact HB.out | apply below_alloc | apply pw_below_drewN | apply below_drew1) | exact HB.out))) : w.heap.size ≤ gb158)); have n3_ := Aside0.mk ((by rw [hg]; exact (below_size (by repeat (first | (with_reducible first | exact HB.out | apply below_alloc | apply pw_below_drewN | apply below_drew1) | exact HB.out))) : w.heap.size ≤ gb158)); clear HB; have HB := n0_; have BK158 := n1_; have GW158 := n2_; have GE158 := n3_; clear n0_ n1_ n2_ n3_; clear hb hbox hg; have hcz11_0 : w10.cell? ⟨gb158, 0, none⟩ = some (.int .i64 a0_0) := (blk_cell BK158.out 0).trans rfl; have hcz11_1 : w10.cell? ⟨gb158, 1, none⟩ = some (.int .i64 a0_1) := (blk_cell BK158.out 1).trans rfl; have hcz11_2 : w10.cell? ⟨gb158, 2, none⟩ = some (.int .i64 a0_2) := (blk_cell BK158.out 2).trans rfl; have hcz11_3 : w10.cell? ⟨gb158, 3, none⟩ = some (.int .i64 a0_3) := (blk_cell BK158.out 3).trans rfl; have hfz11_0 := blk_frozen BK158.out 0; have hfz11_1 := blk_frozen BK158.out 1; have hfz11_2 := blk_frozen BK158.out 2; have hfz11_3 := blk_frozen BK158.out 3) | (go_at_call 32; (with_reducible refine (impl_within.calls a0_1 0 2 true _ A3.out).mono ?_); rintro e w' ⟨rfl, ⟨nd, rfl⟩⟩) | (go_at_call 32; (with_reducible refine (impl_within.calls a0_2 0 2 false _ A5.out).mono ?_); rintro e w' ⟨rfl, ⟨nd, rfl⟩⟩))
    go_ret
    exact ⟨by first | rfl | (simp [errW_none, errW_some] <;> rfl) | (simp [*, errW_none, errW_some] <;> rfl), by repeat (first | (with_reducible first | exact HB.out | apply below_alloc | apply pw_below_drewN | apply below_drew1 | refine below_set ?_ GE158.out) | exact HB.out)⟩
  ·replace c4 := Bool.eq_false_iff.mpr c4
   subst c4
   have H1 : (some false) = some r := by rw [if_neg (show ¬ (false = true) by decide)] at H; exact H
   clear H
   have H := H1
   clear H1
   obtain rfl := Option.some.inj H
   go_enter Tryd.func25, Tryd.ntmps25
   go_wp2_with (first | ((with_reducible refine gate_dst (N := 1) rfl ?_); refine box_event ?hg (N := 1) ?hd (cs := #[.int .i64 a0_0, .int .i64 a0_1, .int .i64 a0_2, .int .i64 a0_3]) (t := 36) ?hr ?_; (case hd => rfl); (case hg => rfl); (case hr => first | (go_simp; done) | (go_simp; rfl)); intro gb158 hg w12 hbox hb; have n0_ := Aside0.mk (below_step (by repeat (first | (with_reducible first | exact HB.out | apply below_alloc | apply pw_below_drewN | apply below_drew1) | exact HB.out)) hb); have n1_ := Aside0.mk (hbox); have n2_ := Aside0.mk ((by rw [hg]; exact (below_size (by repeat (first | (with_reducible first | exact HB.out | apply below_alloc | apply pw_below_drewN | apply below_drew1) | exact HB.out))) : w.heap.size ≤ gb158)); have n3_ := Aside0.mk ((by rw [hg]; exact (below_size (by repeat (first | (with_reducible first | exact HB.out | apply below_alloc | apply pw_below_drewN | apply below_drew1) | exact HB.out))) : w.heap.size ≤ gb158)); clear HB; have HB := n0_; have BK158 := n1_; have GW158 := n2_; have GE158 := n3_; clear n0_ n1_ n2_ n3_; clear hb hbox hg; have hcz13_0 : w12.cell? ⟨gb158, 0, none⟩ = some (.int .i64 a0_0) := (blk_cell BK158.out 0).trans rfl; have hcz13_1 : w12.cell? ⟨gb158, 1, none⟩ = some (.int .i64 a0_1) := (blk_cell BK158.out 1).trans rfl; have hcz13_2 : w12.cell? ⟨gb158, 2, none⟩ = some (.int .i64 a0_2) := (blk_cell BK158.out 2).trans rfl; have hcz13_3 : w12.cell? ⟨gb158, 3, none⟩ = some (.int .i64 a0_3) := (blk_cell BK158.out 3).trans rfl; have hfz13_0 := blk_frozen BK158.out 0; have hfz13_1 := blk_frozen BK158.out 1; have hfz13_2 := blk_frozen BK158.out 2; have hfz13_3 := blk_frozen BK158.out 3) | (go_at_call 32; (with_reducible refine (impl_within.calls a0_1 0 2 false _ A3.out).mono ?_); rintro e w' ⟨rfl, ⟨nd, rfl⟩⟩))
   go_ret
   exact ⟨by first | rfl | (simp [errW_none, errW_some] <;> rfl) | (simp [*, errW_none, errW_some] <;> rfl), by repeat (first | (with_reducible first | exact HB.out | apply below_alloc | apply pw_below_drewN | apply below_drew1 | refine below_set ?_ GE158.out) | exact HB.out)⟩
 ·rw [if_neg c2] at H
  have c2b0 : (a0_0 == 2) = false := beq_eq_false_iff_ne.mpr c2
  have c2b1 : (a0_0 != 2) = true := bne_iff_ne.mpr c2
  by_cases c14 : a0_0 = 4
  ·rw [if_pos c14] at H
   have c14b0 : (a0_0 == 4) = true := beq_iff_eq.mpr c14
   have c14b1 : (a0_0 != 4) = false := bne_eq_false_iff_eq.mpr c14
   clear c14
   replace H := Option.bind_eq_some_iff.mp H
   obtain ⟨t162, A150, H⟩ := H
   replace H : (if t162 = true then ((impl_within.f a0_2 0 2).bind fun t163 => (if t163 = true then ((impl_within.f a0_3 0 4).bind fun t164 => (some t164)) else (some false))) else (some false)) = some r := H
   have A15 := Aside0.mk A150
   clear A150
   by_cases c16 : t162 = true
   ·subst c16
    have H1 : ((impl_within.f a0_2 0 2).bind fun t163 => (if t163 = true then ((impl_within.f a0_3 0 4).bind fun t164 => (some t164)) else (some false))) = some r := by rw [if_pos rfl] at H; exact H
    clear H
    have H := H1
    clear H1
    replace H := Option.bind_eq_some_iff.mp H
    obtain ⟨t163, A170, H⟩ := H
    replace H : (if t163 = true then ((impl_within.f a0_3 0 4).bind fun t164 => (some t164)) else (some false)) = some r := H
    have A17 := Aside0.mk A170
    clear A170
    by_cases c18 : t163 = true
    ·subst c18
     have H1 : ((impl_within.f a0_3 0 4).bind fun t164 => (some t164)) = some r := by rw [if_pos rfl] at H; exact H
     clear H
     have H := H1
     clear H1
     replace H := Option.bind_eq_some_iff.mp H
     obtain ⟨t164, A190, H⟩ := H
     replace H : (some t164) = some r := H
     have A19 := Aside0.mk A190
     clear A190
     obtain rfl := Option.some.inj H
     go_enter Tryd.func25, Tryd.ntmps25
     go_wp2_with (first | ((with_reducible refine gate_dst (N := 1) rfl ?_); refine box_event ?hg (N := 1) ?hd (cs := #[.int .i64 a0_0, .int .i64 a0_1, .int .i64 a0_2, .int .i64 a0_3]) (t := 36) ?hr ?_; (case hd => rfl); (case hg => rfl); (case hr => first | (go_simp; done) | (go_simp; rfl)); intro gb158 hg w20 hbox hb; have n0_ := Aside0.mk (below_step (by repeat (first | (with_reducible first | exact HB.out | apply below_alloc | apply pw_below_drewN | apply below_drew1) | exact HB.out)) hb); have n1_ := Aside0.mk (hbox); have n2_ := Aside0.mk ((by rw [hg]; exact (below_size (by repeat (first | (with_reducible first | exact HB.out | apply below_alloc | apply pw_below_drewN | apply below_drew1) | exact HB.out))) : w.heap.size ≤ gb158)); have n3_ := Aside0.mk ((by rw [hg]; exact (below_size (by repeat (first | (with_reducible first | exact HB.out | apply below_alloc | apply pw_below_drewN | apply below_drew1) | exact HB.out))) : w.heap.size ≤ gb158)); clear HB; have HB := n0_; have BK158 := n1_; have GW158 := n2_; have GE158 := n3_; clear n0_ n1_ n2_ n3_; clear hb hbox hg; have hcz21_0 : w20.cell? ⟨gb158, 0, none⟩ = some (.int .i64 a0_0) := (blk_cell BK158.out 0).trans rfl; have hcz21_1 : w20.cell? ⟨gb158, 1, none⟩ = some (.int .i64 a0_1) := (blk_cell BK158.out 1).trans rfl; have hcz21_2 : w20.cell? ⟨gb158, 2, none⟩ = some (.int .i64 a0_2) := (blk_cell BK158.out 2).trans rfl; have hcz21_3 : w20.cell? ⟨gb158, 3, none⟩ = some (.int .i64 a0_3) := (blk_cell BK158.out 3).trans rfl; have hfz21_0 := blk_frozen BK158.out 0; have hfz21_1 := blk_frozen BK158.out 1; have hfz21_2 := blk_frozen BK158.out 2; have hfz21_3 := blk_frozen BK158.out 3) | (go_at_call 32; (with_reducible refine (impl_within.calls a0_1 0 2 true _ A15.out).mono ?_); rintro e w' ⟨rfl, ⟨nd, rfl⟩⟩) | (go_at_call 32; (with_reducible refine (impl_within.calls a0_2 0 2 true _ A17.out).mono ?_); rintro e w' ⟨rfl, ⟨nd, rfl⟩⟩) | (go_at_call 32; (with_reducible refine (impl_within.calls a0_3 0 4 t164 _ A19.out).mono ?_); rintro e w' ⟨rfl, ⟨nd, rfl⟩⟩))
     go_ret
     exact ⟨by first | rfl | (simp [errW_none, errW_some] <;> rfl) | (simp [*, errW_none, errW_some] <;> rfl), by repeat (first | (with_reducible first | exact HB.out | apply below_alloc | apply pw_below_drewN | apply below_drew1 | refine below_set ?_ GE158.out) | exact HB.out)⟩
    ·replace c18 := Bool.eq_false_iff.mpr c18
     subst c18
     have H1 : (some false) = some r := by rw [if_neg (show ¬ (false = true) by decide)] at H; exact H
     clear H
     have H := H1
     clear H1
     obtain rfl := Option.some.inj H
     go_enter Tryd.func25, Tryd.ntmps25
     go_wp2_with (first | ((with_reducible refine gate_dst (N := 1) rfl ?_); refine box_event ?hg (N := 1) ?hd (cs := #[.int .i64 a0_0, .int .i64 a0_1, .int .i64 a0_2, .int .i64 a0_3]) (t := 36) ?hr ?_; (case hd => rfl); (case hg => rfl); (case hr => first | (go_simp; done) | (go_simp; rfl)); intro gb158 hg w22 hbox hb; have n0_ := Aside0.mk (below_step (by repeat (first | (with_reducible first | exact HB.out | apply below_alloc | apply pw_below_drewN | apply below_drew1) | exact HB.out)) hb); have n1_ := Aside0.mk (hbox); have n2_ := Aside0.mk ((by rw [hg]; exact (below_size (by repeat (first | (with_reducible first | exact HB.out | apply below_alloc | apply pw_below_drewN | apply below_drew1) | exact HB.out))) : w.heap.size ≤ gb158)); have n3_ := Aside0.mk ((by rw [hg]; exact (below_size (by repeat (first | (with_reducible first | exact HB.out | apply below_alloc | apply pw_below_drewN | apply below_drew1) | exact HB.out))) : w.heap.size ≤ gb158)); clear HB; have HB := n0_; have BK158 := n1_; have GW158 := n2_; have GE158 := n3_; clear n0_ n1_ n2_ n3_; clear hb hbox hg; have hcz23_0 : w22.cell? ⟨gb158, 0, none⟩ = some (.int .i64 a0_0) := (blk_cell BK158.out 0).trans rfl; have hcz23_1 : w22.cell? ⟨gb158, 1, none⟩ = some (.int .i64 a0_1) := (blk_cell BK158.out 1).trans rfl; have hcz23_2 : w22.cell? ⟨gb158, 2, none⟩ = some (.int .i64 a0_2) := (blk_cell BK158.out 2).trans rfl; have hcz23_3 : w22.cell? ⟨gb158, 3, none⟩ = some (.int .i64 a0_3) := (blk_cell BK158.out 3).trans rfl; have hfz23_0 := blk_frozen BK158.out 0; have hfz23_1 := blk_frozen BK158.out 1; have hfz23_2 := blk_frozen BK158.out 2; have hfz23_3 := blk_frozen BK158.out 3) | (go_at_call 32; (with_reducible refine (impl_within.calls a0_1 0 2 true _ A15.out).mono ?_); rintro e w' ⟨rfl, ⟨nd, rfl⟩⟩) | (go_at_call 32; (with_reducible refine (impl_within.calls a0_2 0 2 false _ A17.out).mono ?_); rintro e w' ⟨rfl, ⟨nd, rfl⟩⟩))
     go_ret
     exact ⟨by first | rfl | (simp [errW_none, errW_some] <;> rfl) | (simp [*, errW_none, errW_some] <;> rfl), by repeat (first | (with_reducible first | exact HB.out | apply below_alloc | apply pw_below_drewN | apply below_drew1 | refine below_set ?_ GE158.out) | exact HB.out)⟩
   ·replace c16 := Bool.eq_false_iff.mpr c16
    subst c16
    have H1 : (some false) = some r := by rw [if_neg (show ¬ (false = true) by decide)] at H; exact H
    clear H
    have H := H1
    clear H1
    obtain rfl := Option.some.inj H
    go_enter Tryd.func25, Tryd.ntmps25
    go_wp2_with (first | ((with_reducible refine gate_dst (N := 1) rfl ?_); refine box_event ?hg (N := 1) ?hd (cs := #[.int .i64 a0_0, .int .i64 a0_1, .int .i64 a0_2, .int .i64 a0_3]) (t := 36) ?hr ?_; (case hd => rfl); (case hg => rfl); (case hr => first | (go_simp; done) | (go_simp; rfl)); intro gb158 hg w24 hbox hb; have n0_ := Aside0.mk (below_step (by repeat (first | (with_reducible first | exact HB.out | apply below_alloc | apply pw_below_drewN | apply below_drew1) | exact HB.out)) hb); have n1_ := Aside0.mk (hbox); have n2_ := Aside0.mk ((by rw [hg]; exact (below_size (by repeat (first | (with_reducible first | exact HB.out | apply below_alloc | apply pw_below_drewN | apply below_drew1) | exact HB.out))) : w.heap.size ≤ gb158)); have n3_ := Aside0.mk ((by rw [hg]; exact (below_size (by repeat (first | (with_reducible first | exact HB.out | apply below_alloc | apply pw_below_drewN | apply below_drew1) | exact HB.out))) : w.heap.size ≤ gb158)); clear HB; have HB := n0_; have BK158 := n1_; have GW158 := n2_; have GE158 := n3_; clear n0_ n1_ n2_ n3_; clear hb hbox hg; have hcz25_0 : w24.cell? ⟨gb158, 0, none⟩ = some (.int .i64 a0_0) := (blk_cell BK158.out 0).trans rfl; have hcz25_1 : w24.cell? ⟨gb158, 1, none⟩ = some (.int .i64 a0_1) := (blk_cell BK158.out 1).trans rfl; have hcz25_2 : w24.cell? ⟨gb158, 2, none⟩ = some (.int .i64 a0_2) := (blk_cell BK158.out 2).trans rfl; have hcz25_3 : w24.cell? ⟨gb158, 3, none⟩ = some (.int .i64 a0_3) := (blk_cell BK158.out 3).trans rfl; have hfz25_0 := blk_frozen BK158.out 0; have hfz25_1 := blk_frozen BK158.out 1; have hfz25_2 := blk_frozen BK158.out 2; have hfz25_3 := blk_frozen BK158.out 3) | (go_at_call 32; (with_reducible refine (impl_within.calls a0_1 0 2 false _ A15.out).mono ?_); rintro e w' ⟨rfl, ⟨nd, rfl⟩⟩))
    go_ret
    exact ⟨by first | rfl | (simp [errW_none, errW_some] <;> rfl) | (simp [*, errW_none, errW_some] <;> rfl), by repeat (first | (with_reducible first | exact HB.out | apply below_alloc | apply pw_below_drewN | apply below_drew1 | refine below_set ?_ GE158.out) | exact HB.out)⟩
  ·rw [if_neg c14] at H
   have c14b0 : (a0_0 == 4) = false := beq_eq_false_iff_ne.mpr c14
   have c14b1 : (a0_0 != 4) = true := bne_iff_ne.mpr c14
   obtain rfl := Option.some.inj H
   go_enter Tryd.func25, Tryd.ntmps25
   go_wp2_with (first | ((with_reducible refine gate_dst (N := 1) rfl ?_); refine box_event ?hg (N := 1) ?hd (cs := #[.int .i64 a0_0, .int .i64 a0_1, .int .i64 a0_2, .int .i64 a0_3]) (t := 36) ?hr ?_; (case hd => rfl); (case hg => rfl); (case hr => first | (go_simp; done) | (go_simp; rfl)); intro gb158 hg w26 hbox hb; have n0_ := Aside0.mk (below_step (by repeat (first | (with_reducible first | exact HB.out | apply below_alloc | apply pw_below_drewN | apply below_drew1) | exact HB.out)) hb); have n1_ := Aside0.mk (hbox); have n2_ := Aside0.mk ((by rw [hg]; exact (below_size (by repeat (first | (with_reducible first | exact HB.out | apply below_alloc | apply pw_below_drewN | apply below_drew1) | exact HB.out))) : w.heap.size ≤ gb158)); have n3_ := Aside0.mk ((by rw [hg]; exact (below_size (by repeat (first | (with_reducible first | exact HB.out | apply below_alloc | apply pw_below_drewN | apply below_drew1) | exact HB.out))) : w.heap.size ≤ gb158)); clear HB; have HB := n0_; have BK158 := n1_; have GW158 := n2_; have GE158 := n3_; clear n0_ n1_ n2_ n3_; clear hb hbox hg; have hcz27_0 : w26.cell? ⟨gb158, 0, none⟩ = some (.int .i64 a0_0) := (blk_cell BK158.out 0).trans rfl; have hcz27_1 : w26.cell? ⟨gb158, 1, none⟩ = some (.int .i64 a0_1) := (blk_cell BK158.out 1).trans rfl; have hcz27_2 : w26.cell? ⟨gb158, 2, none⟩ = some (.int .i64 a0_2) := (blk_cell BK158.out 2).trans rfl; have hcz27_3 : w26.cell? ⟨gb158, 3, none⟩ = some (.int .i64 a0_3) := (blk_cell BK158.out 3).trans rfl; have hfz27_0 := blk_frozen BK158.out 0; have hfz27_1 := blk_frozen BK158.out 1; have hfz27_2 := blk_frozen BK158.out 2; have hfz27_3 := blk_frozen BK158.out 3))
   go_ret
   exact ⟨by first | rfl | (simp [errW_none, errW_some] <;> rfl) | (simp [*, errW_none, errW_some] <;> rfl), by repeat (first | (with_reducible first | exact HB.out | apply below_alloc | apply pw_below_drewN | apply below_drew1 | refine below_set ?_ GE158.out) | exact HB.out)⟩

end Go.Proofs.YteccfnppbonniaaDoor.Pa

namespace Go.Proofs.YteccfnppbonniaaDoor.Pa
open Go.RowKit Go.Proofs.YteccfnppbonniaaDoorW.PrintWords Go.Proofs.YteccfnppbonniaaDoorW.PrintLast Go.Proofs.YteccfnppbonniaaDoorW.PrintMore
attribute [local go_sem] max2_int min2_int max_two min_two max_three min_three max_four min_four   -- for this text's walks alone
set_option linter.unusedVariables false
set_option linter.unusedSimpArgs false

/-! ### AUX linkA -/
/-- What a side sees. -/
def seesP (l1 s0 s1 set : Int) : Option Int := if l1 = 0 then some set else if l1 = 1 then some s0 else if l1 = 2 then some s1 else none
set_option maxHeartbeats 4000000 in
set_option maxRecDepth 100000 in
theorem sees.calls (l0 l1 l2 l3 s0 s1 set r : Int) (w : World) (h : seesP l1 s0 s1 set = some r) :
  Calls Tryd.prog 37 #[.agg #[.int .i64 l0, .int .i64 l1, .int .i64 l2, .int .i64 l3], .agg #[.int .i64 s0, .int .i64 s1], .int .i64 set] w fun e w' => e = .returned (.int .i64 r) ∧ Below w.heap.size w w' := by
 have hu := Tryd.underlying36
 have hu2 := Tryd.underlying61
 unfold seesP at h
 by_cases h0 : l1 = 0
 ·subst h0
  rw [if_pos rfl] at h
  obtain rfl := Option.some.inj h
  go_enter Tryd.func37, Tryd.ntmps37
  go_wp2_with (first | ((with_reducible refine gate_dst (N := 3) rfl ?_); refine box_event ?hg (N := 3) ?hd (cs := #[.int .i64 l0, .int .i64 0, .int .i64 l2, .int .i64 l3]) (t := 36) ?hr ?_; (case hd => rfl); (case hg => rfl); (case hr => first | (go_simp; done) | (go_simp; rfl)); intro gl hg_ w1 hbox_ hb_; have HX_gl := Aside0.mk hbox_; have HB_w1 := Aside0.mk hb_; have HG_gl := Aside0.mk hg_; clear hbox_ hb_ hg_) | ((with_reducible refine gate_dst (N := 4) rfl ?_); refine box_event ?hg (N := 4) ?hd (cs := #[.int .i64 s0, .int .i64 s1]) (t := 61) ?hr ?_; (case hd => rfl); (case hg => rfl); (case hr => first | (go_simp; done) | (go_simp; rfl)); intro gs hg_ w2 hbox_ hb_; have HX_gs := Aside0.mk hbox_; have HB_w2 := Aside0.mk hb_; have HG_gs := Aside0.mk hg_; clear hbox_ hb_ hg_; have b1 := blk_cell (blk_below HX_gl.out HB_w2.out) 1; have k0 := blk_cell HX_gs.out 0; have k1 := blk_cell HX_gs.out 1))
  go_ret
  exact ⟨rfl, below_step HB_w1.out HB_w2.out⟩
 rw [if_neg h0] at h
 by_cases h1 : l1 = 1
 ·subst h1
  rw [if_pos rfl] at h
  obtain rfl := Option.some.inj h
  clear h0
  go_enter Tryd.func37, Tryd.ntmps37
  go_wp2_with (first | ((with_reducible refine gate_dst (N := 3) rfl ?_); refine box_event ?hg (N := 3) ?hd (cs := #[.int .i64 l0, .int .i64 1, .int .i64 l2, .int .i64 l3]) (t := 36) ?hr ?_; (case hd => rfl); (case hg => rfl); (case hr => first | (go_simp; done) | (go_simp; rfl)); intro gl hg_ w1 hbox_ hb_; have HX_gl := Aside0.mk hbox_; have HB_w1 := Aside0.mk hb_; have HG_gl := Aside0.mk hg_; clear hbox_ hb_ hg_) | ((with_reducible refine gate_dst (N := 4) rfl ?_); refine box_event ?hg (N := 4) ?hd (cs := #[.int .i64 s0, .int .i64 s1]) (t := 61) ?hr ?_; (case hd => rfl); (case hg => rfl); (case hr => first | (go_simp; done) | (go_simp; rfl)); intro gs hg_ w2 hbox_ hb_; have HX_gs := Aside0.mk hbox_; have HB_w2 := Aside0.mk hb_; have HG_gs := Aside0.mk hg_; clear hbox_ hb_ hg_; have b1 := blk_cell (blk_below HX_gl.out HB_w2.out) 1; have k0 := blk_cell HX_gs.out 0; have k1 := blk_cell HX_gs.out 1))
  go_ret
  exact ⟨rfl, below_step HB_w1.out HB_w2.out⟩
 rw [if_neg h1] at h
 by_cases h2 : l1 = 2
 ·subst h2
  rw [if_pos rfl] at h
  obtain rfl := Option.some.inj h
  clear h0 h1
  go_enter Tryd.func37, Tryd.ntmps37
  go_wp2_with (first | ((with_reducible refine gate_dst (N := 3) rfl ?_); refine box_event ?hg (N := 3) ?hd (cs := #[.int .i64 l0, .int .i64 2, .int .i64 l2, .int .i64 l3]) (t := 36) ?hr ?_; (case hd => rfl); (case hg => rfl); (case hr => first | (go_simp; done) | (go_simp; rfl)); intro gl hg_ w1 hbox_ hb_; have HX_gl := Aside0.mk hbox_; have HB_w1 := Aside0.mk hb_; have HG_gl := Aside0.mk hg_; clear hbox_ hb_ hg_) | ((with_reducible refine gate_dst (N := 4) rfl ?_); refine box_event ?hg (N := 4) ?hd (cs := #[.int .i64 s0, .int .i64 s1]) (t := 61) ?hr ?_; (case hd => rfl); (case hg => rfl); (case hr => first | (go_simp; done) | (go_simp; rfl)); intro gs hg_ w2 hbox_ hb_; have HX_gs := Aside0.mk hbox_; have HB_w2 := Aside0.mk hb_; have HG_gs := Aside0.mk hg_; clear hbox_ hb_ hg_; have b1 := blk_cell (blk_below HX_gl.out HB_w2.out) 1; have k0 := blk_cell HX_gs.out 0; have k1 := blk_cell HX_gs.out 1))
  go_ret
  exact ⟨rfl, below_step HB_w1.out HB_w2.out⟩
 ·rw [if_neg h2] at h
  cases h
set_option maxHeartbeats 4000000 in
set_option maxRecDepth 100000 in
theorem startOfLink.calls (w : World) :
  Calls Tryd.prog 26 #[] w fun e w' => e = .returned (.agg #[.int .i64 0, .int .i64 0, .int .i64 0, .int .i64 (-1), .bool false, .int .i64 0, .int .i64 0, .int .i64 0, .int .i64 0, .int .i64 0, .int .i64 0]) ∧ Below w.heap.size w w' := by
 have hu := Tryd.underlying63
 go_enter Tryd.func26, Tryd.ntmps26
 go_wp2_with ((with_reducible refine gate_dst (N := 0) rfl ?_); refine box_event ?hg (N := 0) ?hd (cs := #[.int .i64 0, .int .i64 0, .int .i64 0, .int .i64 0, .bool false, .int .i64 0, .int .i64 0, .int .i64 0, .int .i64 0, .int .i64 0, .int .i64 0]) (t := 63) ?hr ?_; (case hd => rfl); (case hg => rfl); (case hr => first | (go_simp; done) | (go_simp; rfl)); intro gr hg_ w1 hbox_ hb_; have HX_gr := Aside0.mk hbox_; have HB_w1 := Aside0.mk hb_; have HG_gr := Aside0.mk hg_; clear hbox_ hb_ hg_; have k0 : w1.cell? ⟨gr, 0, none⟩ = some (.int .i64 0) := (blk_cell HX_gr.out 0).trans rfl; have f0 := blk_frozen HX_gr.out 0; have k1 : w1.cell? ⟨gr, 1, none⟩ = some (.int .i64 0) := (blk_cell HX_gr.out 1).trans rfl; have f1 := blk_frozen HX_gr.out 1; have k2 : w1.cell? ⟨gr, 2, none⟩ = some (.int .i64 0) := (blk_cell HX_gr.out 2).trans rfl; have f2 := blk_frozen HX_gr.out 2; have k3 : w1.cell? ⟨gr, 3, none⟩ = some (.int .i64 0) := (blk_cell HX_gr.out 3).trans rfl; have f3 := blk_frozen HX_gr.out 3; have k4 : w1.cell? ⟨gr, 4, none⟩ = some (.bool false) := (blk_cell HX_gr.out 4).trans rfl; have f4 := blk_frozen HX_gr.out 4; have k5 : w1.cell? ⟨gr, 5, none⟩ = some (.int .i64 0) := (blk_cell HX_gr.out 5).trans rfl; have f5 := blk_frozen HX_gr.out 5; have k6 : w1.cell? ⟨gr, 6, none⟩ = some (.int .i64 0) := (blk_cell HX_gr.out 6).trans rfl; have f6 := blk_frozen HX_gr.out 6; have k7 : w1.cell? ⟨gr, 7, none⟩ = some (.int .i64 0) := (blk_cell HX_gr.out 7).trans rfl; have f7 := blk_frozen HX_gr.out 7; have k8 : w1.cell? ⟨gr, 8, none⟩ = some (.int .i64 0) := (blk_cell HX_gr.out 8).trans rfl; have f8 := blk_frozen HX_gr.out 8; have k9 : w1.cell? ⟨gr, 9, none⟩ = some (.int .i64 0) := (blk_cell HX_gr.out 9).trans rfl; have f9 := blk_frozen HX_gr.out 9; have k10 : w1.cell? ⟨gr, 10, none⟩ = some (.int .i64 0) := (blk_cell HX_gr.out 10).trans rfl; have f10 := blk_frozen HX_gr.out 10)
 refine bodyPost_ret (results_cell_row rfl _ _ gr 63 #[.int .i64 0, .int .i64 0, .int .i64 0, .int .i64 (-1), .bool false, .int .i64 0, .int .i64 0, .int .i64 0, .int .i64 0, .int .i64 0, .int .i64 0] (0, 0) _ rfl (blk_put (cs := #[.int .i64 0, .int .i64 0, .int .i64 0, .int .i64 (-1), .bool false, .int .i64 0, .int .i64 0, .int .i64 0, .int .i64 0, .int .i64 0, .int .i64 0]) (cs' := #[.int .i64 0, .int .i64 0, .int .i64 0, .int .i64 (-1), .bool false, .int .i64 0, .int .i64 0, .int .i64 0, .int .i64 0, .int .i64 0, .int .i64 0]) (blk_put (cs := #[.int .i64 0, .int .i64 0, .int .i64 0, .int .i64 (-1), .bool false, .int .i64 0, .int .i64 0, .int .i64 0, .int .i64 0, .int .i64 0, .int .i64 0]) (cs' := #[.int .i64 0, .int .i64 0, .int .i64 0, .int .i64 (-1), .bool false, .int .i64 0, .int .i64 0, .int .i64 0, .int .i64 0, .int .i64 0, .int .i64 0]) (blk_put (cs := #[.int .i64 0, .int .i64 0, .int .i64 0, .int .i64 (-1), .bool false, .int .i64 0, .int .i64 0, .int .i64 0, .int .i64 0, .int .i64 0, .int .i64 0]) (cs' := #[.int .i64 0, .int .i64 0, .int .i64 0, .int .i64 (-1), .bool false, .int .i64 0, .int .i64 0, .int .i64 0, .int .i64 0, .int .i64 0, .int .i64 0]) (blk_put (cs := #[.int .i64 0, .int .i64 0, .int .i64 0, .int .i64 (-1), .bool false, .int .i64 0, .int .i64 0, .int .i64 0, .int .i64 0, .int .i64 0, .int .i64 0]) (cs' := #[.int .i64 0, .int .i64 0, .int .i64 0, .int .i64 (-1), .bool false, .int .i64 0, .int .i64 0, .int .i64 0, .int .i64 0, .int .i64 0, .int .i64 0]) (blk_put (cs := #[.int .i64 0, .int .i64 0, .int .i64 0, .int .i64 (-1), .bool false, .int .i64 0, .int .i64 0, .int .i64 0, .int .i64 0, .int .i64 0, .int .i64 0]) (cs' := #[.int .i64 0, .int .i64 0, .int .i64 0, .int .i64 (-1), .bool false, .int .i64 0, .int .i64 0, .int .i64 0, .int .i64 0, .int .i64 0, .int .i64 0]) (blk_put (cs := #[.int .i64 0, .int .i64 0, .int .i64 0, .int .i64 (-1), .bool false, .int .i64 0, .int .i64 0, .int .i64 0, .int .i64 0, .int .i64 0, .int .i64 0]) (cs' := #[.int .i64 0, .int .i64 0, .int .i64 0, .int .i64 (-1), .bool false, .int .i64 0, .int .i64 0, .int .i64 0, .int .i64 0, .int .i64 0, .int .i64 0]) (blk_put (cs := #[.int .i64 0, .int .i64 0, .int .i64 0, .int .i64 (-1), .bool false, .int .i64 0, .int .i64 0, .int .i64 0, .int .i64 0, .int .i64 0, .int .i64 0]) (cs' := #[.int .i64 0, .int .i64 0, .int .i64 0, .int .i64 (-1), .bool false, .int .i64 0, .int .i64 0, .int .i64 0, .int .i64 0, .int .i64 0, .int .i64 0]) (blk_put (cs := #[.int .i64 0, .int .i64 0, .int .i64 0, .int .i64 0, .bool false, .int .i64 0, .int .i64 0, .int .i64 0, .int .i64 0, .int .i64 0, .int .i64 0]) (cs' := #[.int .i64 0, .int .i64 0, .int .i64 0, .int .i64 (-1), .bool false, .int .i64 0, .int .i64 0, .int .i64 0, .int .i64 0, .int .i64 0, .int .i64 0]) (blk_put (cs := #[.int .i64 0, .int .i64 0, .int .i64 0, .int .i64 0, .bool false, .int .i64 0, .int .i64 0, .int .i64 0, .int .i64 0, .int .i64 0, .int .i64 0]) (cs' := #[.int .i64 0, .int .i64 0, .int .i64 0, .int .i64 0, .bool false, .int .i64 0, .int .i64 0, .int .i64 0, .int .i64 0, .int .i64 0, .int .i64 0]) (blk_put (cs := #[.int .i64 0, .int .i64 0, .int .i64 0, .int .i64 0, .bool false, .int .i64 0, .int .i64 0, .int .i64 0, .int .i64 0, .int .i64 0, .int .i64 0]) (cs' := #[.int .i64 0, .int .i64 0, .int .i64 0, .int .i64 0, .bool false, .int .i64 0, .int .i64 0, .int .i64 0, .int .i64 0, .int .i64 0, .int .i64 0]) (blk_put (cs := #[.int .i64 0, .int .i64 0, .int .i64 0, .int .i64 0, .bool false, .int .i64 0, .int .i64 0, .int .i64 0, .int .i64 0, .int .i64 0, .int .i64 0]) (cs' := #[.int .i64 0, .int .i64 0, .int .i64 0, .int .i64 0, .bool false, .int .i64 0, .int .i64 0, .int .i64 0, .int .i64 0, .int .i64 0, .int .i64 0]) HX_gr.out 0 (.int .i64 0) rfl) 1 (.int .i64 0) rfl) 2 (.int .i64 0) rfl) 3 (.int .i64 (-1)) rfl) 4 (.bool false) rfl) 5 (.int .i64 0) rfl) 6 (.int .i64 0) rfl) 7 (.int .i64 0) rfl) 8 (.int .i64 0) rfl) 9 (.int .i64 0) rfl) 10 (.int .i64 0) rfl) Tryd.underlying63 rfl (by kernel_rfl)) rfl ?_
 have hg := HG_gr.out
 exact ⟨rfl, by repeat (first | (with_reducible exact HB_w1.out) | refine below_set ?_ (by omega))⟩
set_option maxHeartbeats 4000000 in
set_option maxRecDepth 100000 in
theorem moveOn.calls (s0 s1 set : Int) (w : World) :
  Calls Tryd.prog 39 #[.agg #[.int .i64 s0, .int .i64 s1], .int .i64 set] w fun e w' => e = .returned (.agg #[.int .i64 set, .int .i64 s0]) ∧ Below w.heap.size w w' := by
 have hu := Tryd.underlying61
 go_enter Tryd.func39, Tryd.ntmps39
 go_wp2_with (first | ((with_reducible refine gate_dst (N := 2) rfl ?_); refine box_event ?hg (N := 2) ?hd (cs := #[.int .i64 s0, .int .i64 s1]) (t := 61) ?hr ?_; (case hd => rfl); (case hg => rfl); (case hr => first | (go_simp; done) | (go_simp; rfl)); intro gs hg_ w1 hbox_ hb_; have HX_gs := Aside0.mk hbox_; have HB_w1 := Aside0.mk hb_; have HG_gs := Aside0.mk hg_; clear hbox_ hb_ hg_) | ((with_reducible refine gate_dst (N := 4) rfl ?_); refine box_event ?hg (N := 4) ?hd (cs := #[.int .i64 0, .int .i64 0]) (t := 61) ?hr ?_; (case hd => rfl); (case hg => rfl); (case hr => first | (go_simp; done) | (go_simp; rfl)); intro gr hg_ w2 hbox_ hb_; have HX_gr := Aside0.mk hbox_; have HB_w2 := Aside0.mk hb_; have HG_gr := Aside0.mk hg_; clear hbox_ hb_ hg_; have HS := Aside0.mk (blk_below HX_gs.out HB_w2.out); have HB := Aside0.mk (below_step HB_w1.out HB_w2.out); have k0 := blk_cell HS.out 0; have k1 := blk_cell HS.out 1; have f0 := blk_frozen HS.out 0; have f1 := blk_frozen HS.out 1))
 have hls := blk_lt HX_gs.out
 have hgr := HG_gr.out
 have hgs := HG_gs.out
 have hz1 := HB_w1.out.size
 have HNE : gs ≠ gr := by omega
 have HGE := Aside0.mk (And.intro (show w.heap.size ≤ gs by omega) (show w.heap.size ≤ gr by omega))
 have HN2 := Aside0.mk HNE
 clear hls hgr hgs hz1 HNE HG_gr HG_gs HB_w1 HB_w2 HX_gs
 refine wp_loop_rounds 2 ?_
 rw [rounds_succ]
 go_wp2
 clear k0 k1 f0 f1
 replace HB := Aside0.mk (below_set (j := 1) (v := .int .i64 s0) HB.out HGE.out.1)
 have HR := Aside0.mk (blk_far HX_gr.out (p := ⟨gs, 1, none⟩) (Ne.symm HN2.out) (.int .i64 s0))
 replace HS := Aside0.mk (blk_put HS.out 1 (.int .i64 s0) rfl)
 generalize w2.setCell ⟨gs, 1, none⟩ (.int .i64 s0) = w3 at HB HS HR ⊢
 have k0 : w3.cell? ⟨gs, 0, none⟩ = some (.int .i64 s0) := (blk_cell HS.out 0).trans rfl; have k1 : w3.cell? ⟨gs, 1, none⟩ = some (.int .i64 s0) := (blk_cell HS.out 1).trans rfl; have f0 := blk_frozen HS.out 0; have f1 := blk_frozen HS.out 1
 have r0 : w3.cell? ⟨gr, 0, none⟩ = some (.int .i64 0) := (blk_cell HR.out 0).trans rfl; have r1 : w3.cell? ⟨gr, 1, none⟩ = some (.int .i64 0) := (blk_cell HR.out 1).trans rfl; have fr0 := blk_frozen HR.out 0; have fr1 := blk_frozen HR.out 1
 have hne := HN2.out; have hne2 := Ne.symm HN2.out
 rw [rounds_succ]
 go_wp2
 refine bodyPost_ret (results_cell_row rfl _ _ gr 61 #[.int .i64 set, .int .i64 s0] (0, 0) _ rfl (blk_put (cs := #[.int .i64 set, .int .i64 0]) (cs' := #[.int .i64 set, .int .i64 s0]) (blk_put (cs := #[.int .i64 0, .int .i64 0]) (cs' := #[.int .i64 set, .int .i64 0]) (blk_far HR.out (p := ⟨gs, 0, none⟩) hne2 (.int .i64 set)) 0 (.int .i64 set) rfl) 1 (.int .i64 s0) rfl) Tryd.underlying61 rfl (by kernel_rfl)) rfl ?_
 exact ⟨rfl, below_set (below_set (below_set HB.out HGE.out.1) HGE.out.2) HGE.out.2⟩
/-- What a state is behind the sending of the next word: the place, whether a word is on its way, it, how long. -/
def sendP (skew x0 x3 : Int) (x4 : Bool) (x5 x6 : Int) : Int × Bool × Int × Int := if skew = 0 then (x0, x4, x5, x6) else (x3, true, x0, 0)
set_option maxHeartbeats 4000000 in
set_option maxRecDepth 100000 in
theorem send.calls (gx : Nat) (x0 x1 x2 x3 x5 x6 x7 x8 x9 x10 l0 l1 l2 l3 y3 y5 y6 : Int) (x4 y4 : Bool) (w : World) (hx : w.heap[gx]? = some (.cells #[.int .i64 x0, .int .i64 x1, .int .i64 x2, .int .i64 x3, .bool x4, .int .i64 x5, .int .i64 x6, .int .i64 x7, .int .i64 x8, .int .i64 x9, .int .i64 x10] 63 (0, 0))) (h : sendP l2 x0 x3 x4 x5 x6 = (y3, y4, y5, y6)) :
  Calls Tryd.prog 38 #[.pointer (some ⟨gx, 0, none⟩), .agg #[.int .i64 l0, .int .i64 l1, .int .i64 l2, .int .i64 l3]] w fun e w' => e = .returned (.tuple #[]) ∧ w'.heap[gx]? = some (.cells #[.int .i64 (wrap64 (x0 + 1)), .int .i64 x1, .int .i64 x2, .int .i64 y3, .bool y4, .int .i64 y5, .int .i64 y6, .int .i64 x7, .int .i64 x8, .int .i64 x9, .int .i64 x10] 63 (0, 0)) ∧ Kept w w' (fun b => b = gx) ∧ Below 0 w w' := by
 have hu := Tryd.underlying63
 have hu2 := Tryd.underlying36
 have HX := Aside0.mk hx
 clear hx
 unfold sendP at h
 by_cases hz : l2 = 0
 ·subst hz
  rw [if_pos rfl] at h
  simp only [Prod.mk.injEq] at h
  obtain ⟨rfl, rfl, rfl, rfl⟩ := h
  go_enter Tryd.func38, Tryd.ntmps38
  go_wp2_with ((with_reducible refine gate_dst (N := 3) rfl ?_); refine box_event ?hg (N := 3) ?hd (cs := #[.int .i64 l0, .int .i64 l1, .int .i64 0, .int .i64 l3]) (t := 36) ?hr ?_; (case hd => rfl); (case hg => rfl); (case hr => first | (go_simp; done) | (go_simp; rfl)); intro gl hg_ w1 hbox_ hb_; have HX_gl := Aside0.mk hbox_; have HB_w1 := Aside0.mk hb_; have HG_gl := Aside0.mk hg_; clear hbox_ hb_ hg_; replace HX := Aside0.mk (blk_below HX.out HB_w1.out); have b2 := blk_cell HX_gl.out 2; have c0 : w1.cell? ⟨gx, 0, none⟩ = some (.int .i64 x0) := (blk_cell HX.out 0).trans rfl; have f0 := blk_frozen HX.out 0; have c3 : w1.cell? ⟨gx, 3, none⟩ = some (.int .i64 x3) := (blk_cell HX.out 3).trans rfl; have f3 := blk_frozen HX.out 3; have c4 : w1.cell? ⟨gx, 4, none⟩ = some (.bool x4) := (blk_cell HX.out 4).trans rfl; have f4 := blk_frozen HX.out 4; have c5 : w1.cell? ⟨gx, 5, none⟩ = some (.int .i64 x5) := (blk_cell HX.out 5).trans rfl; have f5 := blk_frozen HX.out 5; have c6 : w1.cell? ⟨gx, 6, none⟩ = some (.int .i64 x6) := (blk_cell HX.out 6).trans rfl; have f6 := blk_frozen HX.out 6)
  go_end0
  exact ⟨rfl, (blk_put (cs := #[.int .i64 x0, .int .i64 x1, .int .i64 x2, .int .i64 x0, .bool x4, .int .i64 x5, .int .i64 x6, .int .i64 x7, .int .i64 x8, .int .i64 x9, .int .i64 x10]) (cs' := #[.int .i64 (wrap64 (x0 + 1)), .int .i64 x1, .int .i64 x2, .int .i64 x0, .bool x4, .int .i64 x5, .int .i64 x6, .int .i64 x7, .int .i64 x8, .int .i64 x9, .int .i64 x10]) (blk_put (cs := #[.int .i64 x0, .int .i64 x1, .int .i64 x2, .int .i64 x3, .bool x4, .int .i64 x5, .int .i64 x6, .int .i64 x7, .int .i64 x8, .int .i64 x9, .int .i64 x10]) (cs' := #[.int .i64 x0, .int .i64 x1, .int .i64 x2, .int .i64 x0, .bool x4, .int .i64 x5, .int .i64 x6, .int .i64 x7, .int .i64 x8, .int .i64 x9, .int .i64 x10]) HX.out 3 (.int .i64 x0) rfl) 0 (.int .i64 (wrap64 (x0 + 1))) rfl), Kept.setCell (Kept.setCell (Kept.of_below HB_w1.out (fun b => b = gx)) (p := ⟨gx, 3, none⟩) (.inl rfl) (.int .i64 x0)) (p := ⟨gx, 0, none⟩) (.inl rfl) (.int .i64 (wrap64 (x0 + 1))), Below.setCell (Below.setCell ((Below.mono HB_w1.out (Nat.zero_le _))) (p := ⟨gx, 3, none⟩) (Nat.zero_le _) (.int .i64 x0)) (p := ⟨gx, 0, none⟩) (Nat.zero_le _) (.int .i64 (wrap64 (x0 + 1)))⟩
 ·rw [if_neg hz] at h
  simp only [Prod.mk.injEq] at h
  obtain ⟨rfl, rfl, rfl, rfl⟩ := h
  have z1 : (l2 == 0) = false := beq_eq_false_iff_ne.mpr hz
  have z2 : decide (l2 = 0) = false := decide_eq_false hz
  clear hz
  go_enter Tryd.func38, Tryd.ntmps38
  go_wp2_with ((with_reducible refine gate_dst (N := 3) rfl ?_); refine box_event ?hg (N := 3) ?hd (cs := #[.int .i64 l0, .int .i64 l1, .int .i64 l2, .int .i64 l3]) (t := 36) ?hr ?_; (case hd => rfl); (case hg => rfl); (case hr => first | (go_simp; done) | (go_simp; rfl)); intro gl hg_ w1 hbox_ hb_; have HX_gl := Aside0.mk hbox_; have HB_w1 := Aside0.mk hb_; have HG_gl := Aside0.mk hg_; clear hbox_ hb_ hg_; replace HX := Aside0.mk (blk_below HX.out HB_w1.out); have b2 := blk_cell HX_gl.out 2; have c0 : w1.cell? ⟨gx, 0, none⟩ = some (.int .i64 x0) := (blk_cell HX.out 0).trans rfl; have f0 := blk_frozen HX.out 0; have c3 : w1.cell? ⟨gx, 3, none⟩ = some (.int .i64 x3) := (blk_cell HX.out 3).trans rfl; have f3 := blk_frozen HX.out 3; have c4 : w1.cell? ⟨gx, 4, none⟩ = some (.bool x4) := (blk_cell HX.out 4).trans rfl; have f4 := blk_frozen HX.out 4; have c5 : w1.cell? ⟨gx, 5, none⟩ = some (.int .i64 x5) := (blk_cell HX.out 5).trans rfl; have f5 := blk_frozen HX.out 5; have c6 : w1.cell? ⟨gx, 6, none⟩ = some (.int .i64 x6) := (blk_cell HX.out 6).trans rfl; have f6 := blk_frozen HX.out 6)
  go_end0
  exact ⟨rfl, (blk_put (cs := #[.int .i64 x0, .int .i64 x1, .int .i64 x2, .int .i64 x3, .bool true, .int .i64 x0, .int .i64 0, .int .i64 x7, .int .i64 x8, .int .i64 x9, .int .i64 x10]) (cs' := #[.int .i64 (wrap64 (x0 + 1)), .int .i64 x1, .int .i64 x2, .int .i64 x3, .bool true, .int .i64 x0, .int .i64 0, .int .i64 x7, .int .i64 x8, .int .i64 x9, .int .i64 x10]) (blk_put (cs := #[.int .i64 x0, .int .i64 x1, .int .i64 x2, .int .i64 x3, .bool true, .int .i64 x0, .int .i64 x6, .int .i64 x7, .int .i64 x8, .int .i64 x9, .int .i64 x10]) (cs' := #[.int .i64 x0, .int .i64 x1, .int .i64 x2, .int .i64 x3, .bool true, .int .i64 x0, .int .i64 0, .int .i64 x7, .int .i64 x8, .int .i64 x9, .int .i64 x10]) (blk_put (cs := #[.int .i64 x0, .int .i64 x1, .int .i64 x2, .int .i64 x3, .bool true, .int .i64 x5, .int .i64 x6, .int .i64 x7, .int .i64 x8, .int .i64 x9, .int .i64 x10]) (cs' := #[.int .i64 x0, .int .i64 x1, .int .i64 x2, .int .i64 x3, .bool true, .int .i64 x0, .int .i64 x6, .int .i64 x7, .int .i64 x8, .int .i64 x9, .int .i64 x10]) (blk_put (cs := #[.int .i64 x0, .int .i64 x1, .int .i64 x2, .int .i64 x3, .bool x4, .int .i64 x5, .int .i64 x6, .int .i64 x7, .int .i64 x8, .int .i64 x9, .int .i64 x10]) (cs' := #[.int .i64 x0, .int .i64 x1, .int .i64 x2, .int .i64 x3, .bool true, .int .i64 x5, .int .i64 x6, .int .i64 x7, .int .i64 x8, .int .i64 x9, .int .i64 x10]) HX.out 4 (.bool true) rfl) 5 (.int .i64 x0) rfl) 6 (.int .i64 0) rfl) 0 (.int .i64 (wrap64 (x0 + 1))) rfl), Kept.setCell (Kept.setCell (Kept.setCell (Kept.setCell (Kept.of_below HB_w1.out (fun b => b = gx)) (p := ⟨gx, 4, none⟩) (.inl rfl) (.bool true)) (p := ⟨gx, 5, none⟩) (.inl rfl) (.int .i64 x0)) (p := ⟨gx, 6, none⟩) (.inl rfl) (.int .i64 0)) (p := ⟨gx, 0, none⟩) (.inl rfl) (.int .i64 (wrap64 (x0 + 1))), Below.setCell (Below.setCell (Below.setCell (Below.setCell ((Below.mono HB_w1.out (Nat.zero_le _))) (p := ⟨gx, 4, none⟩) (Nat.zero_le _) (.bool true)) (p := ⟨gx, 5, none⟩) (Nat.zero_le _) (.int .i64 x0)) (p := ⟨gx, 6, none⟩) (Nat.zero_le _) (.int .i64 0)) (p := ⟨gx, 0, none⟩) (Nat.zero_le _) (.int .i64 (wrap64 (x0 + 1)))⟩

end Go.Proofs.YteccfnppbonniaaDoor.Pa

namespace Go.Proofs.YteccfnppbonniaaDoor.Pa
open Go.RowKit Go.Proofs.YteccfnppbonniaaDoorW.PrintWords Go.Proofs.YteccfnppbonniaaDoorW.PrintLast Go.Proofs.YteccfnppbonniaaDoorW.PrintMore
attribute [local go_sem] max2_int min2_int max_two min_two max_three min_three max_four min_four   -- for this text's walks alone
set_option linter.unusedVariables false
set_option linter.unusedSimpArgs false

/-! ### AUX linkB -/
def linkSend.T5 : Bool × List (List Nat × List Nat) := (true, [([], []), ([], []), ([1], [1]), ([2], [2]), ([3], [3]), ([], []), ([5], [5]), ([6], [6]), ([7], [7]), ([0, 4, 8], [0, 4, 8]), ([9, 9, 0, 1, 2, 3, 4, 5, 6, 7, 8, 9], [9])])
def linkSend.B5 : List Nat := [0, 0, 2, 6, 14, 0, 32, 96, 224, 511, 1023]
theorem linkSend.tab5 : rtab .any (opsOf Tryd.f27 5) = linkSend.T5 := by kernel_rfl
theorem linkSend.bits5 : waitsOk linkSend.T5.2 linkSend.B5 = true := by kernel_rfl
def linkSend.T14 : Bool × List (List Nat × List Nat) := (true, [([], []), ([], []), ([1], [1]), ([2], [2]), ([3], [3]), ([], []), ([5], [5]), ([6], [6]), ([7], [7]), ([4, 8], [4, 8]), ([0, 0, 1, 2, 3, 4, 5, 6, 7, 8, 9], [0]), ([10, 0, 1, 2, 3, 4, 5, 6, 7, 8, 9], [10]), ([11, 9, 9, 0, 1, 2, 3, 4, 5, 6, 7, 8, 9], [9, 11])])
def linkSend.B14 : List Nat := [0, 0, 2, 6, 14, 0, 32, 96, 224, 510, 1023, 2047, 4095]
theorem linkSend.tab14 : rtab .any (opsOf Tryd.f27 14) = linkSend.T14 := by kernel_rfl
theorem linkSend.bits14 : waitsOk linkSend.T14.2 linkSend.B14 = true := by kernel_rfl
/-- What is on its way comes on, behind a step of the sender. -/
def advP (skew x3 : Int) (x4 : Bool) (x5 x6 : Int) : Int × Bool × Int × Int := if x4 = true then (if wrap64 (x6 + 1) = skew then (x5, false, 0, 0) else (x3, x4, x5, wrap64 (x6 + 1))) else (x3, x4, x5, x6)
/-- What the sender does. -/
def actP (l0 l2 l3 sn x0 x1 a3 : Int) (a4 : Bool) (a5 a6 : Int) : Option (Int × Int × Int × Bool × Int × Int) :=
 if l0 = 2 then (if sn = x1 then (if x0 < l3 then some (wrap64 (x0 + 1), wrap64 (1 - x1), sendP l2 x0 a3 a4 a5 a6) else some (x0, x1, a3, a4, a5, a6)) else some (x0, x1, a3, a4, a5, a6))
 else if l0 = 4 then (if x1 = 0 then (if sn = 0 then (if x0 < l3 then some (wrap64 (x0 + 1), 1, sendP l2 x0 a3 a4 a5 a6) else some (x0, x1, a3, a4, a5, a6)) else some (x0, x1, a3, a4, a5, a6)) else if x1 = 1 then (if sn = 1 then some (x0, 0, a3, a4, a5, a6) else some (x0, x1, a3, a4, a5, a6)) else none)
 else none
set_option maxHeartbeats 12000000 in
set_option maxRecDepth 100000 in
theorem stepSender.calls (gx : Nat) (x0 x1 x2 x3 x5 x6 x7 x8 x9 x10 l0 l1 l2 l3 : Int) (x4 : Bool) (sn a3 a5 a6 z0 z1 z3 z5 z6 : Int) (a4 z4 : Bool) (w : World) (hx : w.heap[gx]? = some (.cells #[.int .i64 x0, .int .i64 x1, .int .i64 x2, .int .i64 x3, .bool x4, .int .i64 x5, .int .i64 x6, .int .i64 x7, .int .i64 x8, .int .i64 x9, .int .i64 x10] 63 (0, 0))) (ha : advP l2 x3 x4 x5 x6 = (a3, a4, a5, a6)) (hs : seesP l1 x7 x8 x2 = some sn) (hc : actP l0 l2 l3 sn x0 x1 a3 a4 a5 a6 = some (z0, z1, z3, z4, z5, z6)) :
  Calls Tryd.prog 27 #[.pointer (some ⟨gx, 0, none⟩), .agg #[.int .i64 l0, .int .i64 l1, .int .i64 l2, .int .i64 l3]] w fun e w' => e = .returned (.tuple #[]) ∧ w'.heap[gx]? = some (.cells #[.int .i64 z0, .int .i64 z1, .int .i64 x2, .int .i64 z3, .bool z4, .int .i64 z5, .int .i64 z6, .int .i64 x2, .int .i64 x7, .int .i64 x9, .int .i64 x10] 63 (0, 0)) ∧ Kept w w' (fun b => b = gx) ∧ Below 0 w w' := by
 have hu := Tryd.underlying63
 have hu2 := Tryd.underlying36
 have hu3 := Tryd.underlying61
 have hu4 := Tryd.underlying4
 have HX := Aside0.mk hx
 clear hx
 have HSN := Aside0.mk hs
 have HC := Aside0.mk hc
 clear hs hc
 unfold advP at ha
 have hx4 : x4 = true ∨ x4 = false := by cases x4 <;> simp
 rcases hx4 with h4 | h4
 case' inr =>
  rw [if_neg (by rw [h4]; decide)] at ha
  simp only [Prod.mk.injEq] at ha
  have EA := Aside0.mk ha
  clear ha
  have H4 := Aside0.mk h4
  clear h4
  go_enter Tryd.func27, Tryd.ntmps27
  go_wp2_with ((with_reducible refine gate_dst (N := 3) rfl ?_); refine box_event ?hg (N := 3) ?hd (cs := #[.int .i64 l0, .int .i64 l1, .int .i64 l2, .int .i64 l3]) (t := 36) ?hr ?_; (case hd => rfl); (case hg => rfl); (case hr => first | (go_simp; done) | (go_simp; rfl)); intro gl hg_ w1 hbox_ hb_; have HX_gl := Aside0.mk hbox_; have HB_w1 := Aside0.mk hb_; have HG_gl := Aside0.mk hg_; clear hbox_ hb_ hg_; have hx1_ := blk_below HX.out HB_w1.out; have c4 : w1.cell? ⟨gx, 4, none⟩ = some (.bool false) := (by rw [← H4.out]; exact blk_cell hx1_ 4); clear hx1_)
  have HNE : Aside0 (gl ≠ gx) := ⟨by have h1 := blk_lt HX.out; have h2 := HG_gl.out; omega⟩
  have KP : Aside0 (Kept w w1 (fun b => b = gx)) := ⟨Kept.of_below HB_w1.out _⟩
  have HZ : Aside0 (Below 0 w w1) := ⟨Below.mono HB_w1.out (Nat.zero_le _)⟩
  replace HX := Aside0.mk (blk_below HX.out HB_w1.out)
  have HL := HX_gl
  clear HG_gl HB_w1 HX_gl
  clear c4
  obtain ⟨e3, e4, e5, e6⟩ := EA.out
  clear EA
  have HX' : Aside0 (w1.heap[gx]? = some (.cells #[.int .i64 x0, .int .i64 x1, .int .i64 x2, .int .i64 a3, .bool a4, .int .i64 a5, .int .i64 a6, .int .i64 x7, .int .i64 x8, .int .i64 x9, .int .i64 x10] 63 (0, 0))) := ⟨by rw [← e3, ← e4, ← e5, ← e6]; exact HX.out⟩
  clear HX e3 e4 e5 e6
  have HX := HX'
  clear HX'
 case' inl =>
  rw [if_pos h4] at ha
  have H4 := Aside0.mk h4
  clear h4
  have hsk : wrap64 (x6 + 1) = l2 ∨ ¬ wrap64 (x6 + 1) = l2 := Classical.em _
  rcases hsk with h6 | h6
 case' inl.inl =>
  rw [if_pos h6] at ha
  simp only [Prod.mk.injEq] at ha
  have EA := Aside0.mk ha
  clear ha
  have H6 := Aside0.mk h6
  clear h6
  go_enter Tryd.func27, Tryd.ntmps27
  go_wp2_with ((with_reducible refine gate_dst (N := 3) rfl ?_); refine box_event ?hg (N := 3) ?hd (cs := #[.int .i64 l0, .int .i64 l1, .int .i64 l2, .int .i64 l3]) (t := 36) ?hr ?_; (case hd => rfl); (case hg => rfl); (case hr => first | (go_simp; done) | (go_simp; rfl)); intro gl hg_ w1 hbox_ hb_; have HX_gl := Aside0.mk hbox_; have HB_w1 := Aside0.mk hb_; have HG_gl := Aside0.mk hg_; clear hbox_ hb_ hg_; have hx1_ := blk_below HX.out HB_w1.out; have c4 : w1.cell? ⟨gx, 4, none⟩ = some (.bool true) := (by rw [← H4.out]; exact blk_cell hx1_ 4); have c6 := blk_cell hx1_ 6; have f6 := blk_frozen hx1_ 6; clear hx1_)
  have HNE : Aside0 (gl ≠ gx) := ⟨by have h1 := blk_lt HX.out; have h2 := HG_gl.out; omega⟩
  have KP : Aside0 (Kept w w1 (fun b => b = gx)) := ⟨Kept.of_below HB_w1.out _⟩
  have HZ : Aside0 (Below 0 w w1) := ⟨Below.mono HB_w1.out (Nat.zero_le _)⟩
  replace HX := Aside0.mk (blk_below HX.out HB_w1.out)
  have HL := HX_gl
  clear HG_gl HB_w1 HX_gl
  clear c4 c6 f6
  replace KP := Aside0.mk (Kept.setCell KP.out (p := ⟨gx, 6, none⟩) (.inl rfl) (.int .i64 (wrap64 (x6 + 1))))
  replace HZ := Aside0.mk (Below.setCell HZ.out (p := ⟨gx, 6, none⟩) (Nat.zero_le _) (.int .i64 (wrap64 (x6 + 1))))
  replace HL := Aside0.mk (blk_far HL.out (p := ⟨gx, 6, none⟩) HNE.out (.int .i64 (wrap64 (x6 + 1))))
  replace HX := Aside0.mk (blk_put (cs := #[.int .i64 x0, .int .i64 x1, .int .i64 x2, .int .i64 x3, .bool x4, .int .i64 x5, .int .i64 x6, .int .i64 x7, .int .i64 x8, .int .i64 x9, .int .i64 x10]) (cs' := #[.int .i64 x0, .int .i64 x1, .int .i64 x2, .int .i64 x3, .bool x4, .int .i64 x5, .int .i64 (wrap64 (x6 + 1)), .int .i64 x7, .int .i64 x8, .int .i64 x9, .int .i64 x10]) HX.out 6 (.int .i64 (wrap64 (x6 + 1))) rfl)
  generalize (w1.setCell ⟨gx, 6, none⟩ (.int .i64 (wrap64 (x6 + 1)))) = w2 at KP HX HL HZ ⊢
  have c6 : w2.cell? ⟨gx, 6, none⟩ = some (.int .i64 (wrap64 (x6 + 1))) := (blk_cell HX.out 6).trans rfl
  have d2 : w2.cell? ⟨gl, 2, none⟩ = some (.int .i64 l2) := (blk_cell HL.out 2).trans rfl
  have q6 : (wrap64 (x6 + 1) == l2) = true := beq_iff_eq.mpr H6.out
  go_quiet (fail)
  have hb := pw_below_drewN (Below.refl w2.heap.size w2) nq
  replace KP := Aside0.mk (Kept.then_ KP.out (Kept.of_below hb (fun b => b = gx)) (fun b hb => .inl hb)); replace HX := Aside0.mk (blk_below HX.out hb); replace HL := Aside0.mk (blk_below HL.out hb); replace HZ := Aside0.mk (Below.trans HZ.out (Below.mono hb (Nat.zero_le _)))
  clear hb
  generalize w2.drewN nq = w3 at KP HX HL HZ ⊢
  clear c6 d2
  have c3 : w3.cell? ⟨gx, 3, none⟩ = some (.int .i64 x3) := (blk_cell HX.out 3).trans rfl
  have c4 : w3.cell? ⟨gx, 4, none⟩ = some (.bool x4) := (blk_cell HX.out 4).trans rfl
  have c5 : w3.cell? ⟨gx, 5, none⟩ = some (.int .i64 x5) := (blk_cell HX.out 5).trans rfl
  have c6 : w3.cell? ⟨gx, 6, none⟩ = some (.int .i64 (wrap64 (x6 + 1))) := (blk_cell HX.out 6).trans rfl
  have f3 := blk_frozen HX.out 3
  have f4 := blk_frozen HX.out 4
  have f5 := blk_frozen HX.out 5
  have f6 := blk_frozen HX.out 6
  go_wp2_with (fail)
  clear c3 c4 c5 c6 f3 f4 f5 f6
  replace KP := Aside0.mk (Kept.setCell KP.out (p := ⟨gx, 3, none⟩) (.inl rfl) (.int .i64 x5))
  replace HZ := Aside0.mk (Below.setCell HZ.out (p := ⟨gx, 3, none⟩) (Nat.zero_le _) (.int .i64 x5))
  replace HL := Aside0.mk (blk_far HL.out (p := ⟨gx, 3, none⟩) HNE.out (.int .i64 x5))
  replace HX := Aside0.mk (blk_put (cs := #[.int .i64 x0, .int .i64 x1, .int .i64 x2, .int .i64 x3, .bool x4, .int .i64 x5, .int .i64 (wrap64 (x6 + 1)), .int .i64 x7, .int .i64 x8, .int .i64 x9, .int .i64 x10]) (cs' := #[.int .i64 x0, .int .i64 x1, .int .i64 x2, .int .i64 x5, .bool x4, .int .i64 x5, .int .i64 (wrap64 (x6 + 1)), .int .i64 x7, .int .i64 x8, .int .i64 x9, .int .i64 x10]) HX.out 3 (.int .i64 x5) rfl)
  replace KP := Aside0.mk (Kept.setCell KP.out (p := ⟨gx, 4, none⟩) (.inl rfl) (.bool false))
  replace HZ := Aside0.mk (Below.setCell HZ.out (p := ⟨gx, 4, none⟩) (Nat.zero_le _) (.bool false))
  replace HL := Aside0.mk (blk_far HL.out (p := ⟨gx, 4, none⟩) HNE.out (.bool false))
  replace HX := Aside0.mk (blk_put (cs := #[.int .i64 x0, .int .i64 x1, .int .i64 x2, .int .i64 x5, .bool x4, .int .i64 x5, .int .i64 (wrap64 (x6 + 1)), .int .i64 x7, .int .i64 x8, .int .i64 x9, .int .i64 x10]) (cs' := #[.int .i64 x0, .int .i64 x1, .int .i64 x2, .int .i64 x5, .bool false, .int .i64 x5, .int .i64 (wrap64 (x6 + 1)), .int .i64 x7, .int .i64 x8, .int .i64 x9, .int .i64 x10]) HX.out 4 (.bool false) rfl)
  replace KP := Aside0.mk (Kept.setCell KP.out (p := ⟨gx, 5, none⟩) (.inl rfl) (.int .i64 0))
  replace HZ := Aside0.mk (Below.setCell HZ.out (p := ⟨gx, 5, none⟩) (Nat.zero_le _) (.int .i64 0))
  replace HL := Aside0.mk (blk_far HL.out (p := ⟨gx, 5, none⟩) HNE.out (.int .i64 0))
  replace HX := Aside0.mk (blk_put (cs := #[.int .i64 x0, .int .i64 x1, .int .i64 x2, .int .i64 x5, .bool false, .int .i64 x5, .int .i64 (wrap64 (x6 + 1)), .int .i64 x7, .int .i64 x8, .int .i64 x9, .int .i64 x10]) (cs' := #[.int .i64 x0, .int .i64 x1, .int .i64 x2, .int .i64 x5, .bool false, .int .i64 0, .int .i64 (wrap64 (x6 + 1)), .int .i64 x7, .int .i64 x8, .int .i64 x9, .int .i64 x10]) HX.out 5 (.int .i64 0) rfl)
  replace KP := Aside0.mk (Kept.setCell KP.out (p := ⟨gx, 6, none⟩) (.inl rfl) (.int .i64 0))
  replace HZ := Aside0.mk (Below.setCell HZ.out (p := ⟨gx, 6, none⟩) (Nat.zero_le _) (.int .i64 0))
  replace HL := Aside0.mk (blk_far HL.out (p := ⟨gx, 6, none⟩) HNE.out (.int .i64 0))
  replace HX := Aside0.mk (blk_put (cs := #[.int .i64 x0, .int .i64 x1, .int .i64 x2, .int .i64 x5, .bool false, .int .i64 0, .int .i64 (wrap64 (x6 + 1)), .int .i64 x7, .int .i64 x8, .int .i64 x9, .int .i64 x10]) (cs' := #[.int .i64 x0, .int .i64 x1, .int .i64 x2, .int .i64 x5, .bool false, .int .i64 0, .int .i64 0, .int .i64 x7, .int .i64 x8, .int .i64 x9, .int .i64 x10]) HX.out 6 (.int .i64 0) rfl)
  generalize ((((w3.setCell ⟨gx, 3, none⟩ (.int .i64 x5)).setCell ⟨gx, 4, none⟩ (.bool false)).setCell ⟨gx, 5, none⟩ (.int .i64 0)).setCell ⟨gx, 6, none⟩ (.int .i64 0)) = w1 at KP HX HL HZ ⊢
  obtain ⟨e3, e4, e5, e6⟩ := EA.out
  clear EA
  have HX' : Aside0 (w1.heap[gx]? = some (.cells #[.int .i64 x0, .int .i64 x1, .int .i64 x2, .int .i64 a3, .bool a4, .int .i64 a5, .int .i64 a6, .int .i64 x7, .int .i64 x8, .int .i64 x9, .int .i64 x10] 63 (0, 0))) := ⟨by rw [← e3, ← e4, ← e5, ← e6]; exact HX.out⟩
  clear HX e3 e4 e5 e6
  have HX := HX'
  clear HX'
  clear H6 q6
 case' inl.inr =>
  rw [if_neg h6] at ha
  simp only [Prod.mk.injEq] at ha
  have EA := Aside0.mk ha
  clear ha
  have H6 := Aside0.mk h6
  clear h6
  go_enter Tryd.func27, Tryd.ntmps27
  go_wp2_with ((with_reducible refine gate_dst (N := 3) rfl ?_); refine box_event ?hg (N := 3) ?hd (cs := #[.int .i64 l0, .int .i64 l1, .int .i64 l2, .int .i64 l3]) (t := 36) ?hr ?_; (case hd => rfl); (case hg => rfl); (case hr => first | (go_simp; done) | (go_simp; rfl)); intro gl hg_ w1 hbox_ hb_; have HX_gl := Aside0.mk hbox_; have HB_w1 := Aside0.mk hb_; have HG_gl := Aside0.mk hg_; clear hbox_ hb_ hg_; have hx1_ := blk_below HX.out HB_w1.out; have c4 : w1.cell? ⟨gx, 4, none⟩ = some (.bool true) := (by rw [← H4.out]; exact blk_cell hx1_ 4); have c6 := blk_cell hx1_ 6; have f6 := blk_frozen hx1_ 6; clear hx1_)
  have HNE : Aside0 (gl ≠ gx) := ⟨by have h1 := blk_lt HX.out; have h2 := HG_gl.out; omega⟩
  have KP : Aside0 (Kept w w1 (fun b => b = gx)) := ⟨Kept.of_below HB_w1.out _⟩
  have HZ : Aside0 (Below 0 w w1) := ⟨Below.mono HB_w1.out (Nat.zero_le _)⟩
  replace HX := Aside0.mk (blk_below HX.out HB_w1.out)
  have HL := HX_gl
  clear HG_gl HB_w1 HX_gl
  clear c4 c6 f6
  replace KP := Aside0.mk (Kept.setCell KP.out (p := ⟨gx, 6, none⟩) (.inl rfl) (.int .i64 (wrap64 (x6 + 1))))
  replace HZ := Aside0.mk (Below.setCell HZ.out (p := ⟨gx, 6, none⟩) (Nat.zero_le _) (.int .i64 (wrap64 (x6 + 1))))
  replace HL := Aside0.mk (blk_far HL.out (p := ⟨gx, 6, none⟩) HNE.out (.int .i64 (wrap64 (x6 + 1))))
  replace HX := Aside0.mk (blk_put (cs := #[.int .i64 x0, .int .i64 x1, .int .i64 x2, .int .i64 x3, .bool x4, .int .i64 x5, .int .i64 x6, .int .i64 x7, .int .i64 x8, .int .i64 x9, .int .i64 x10]) (cs' := #[.int .i64 x0, .int .i64 x1, .int .i64 x2, .int .i64 x3, .bool x4, .int .i64 x5, .int .i64 (wrap64 (x6 + 1)), .int .i64 x7, .int .i64 x8, .int .i64 x9, .int .i64 x10]) HX.out 6 (.int .i64 (wrap64 (x6 + 1))) rfl)
  generalize (w1.setCell ⟨gx, 6, none⟩ (.int .i64 (wrap64 (x6 + 1)))) = w2 at KP HX HL HZ ⊢
  have c6 : w2.cell? ⟨gx, 6, none⟩ = some (.int .i64 (wrap64 (x6 + 1))) := (blk_cell HX.out 6).trans rfl
  have d2 : w2.cell? ⟨gl, 2, none⟩ = some (.int .i64 l2) := (blk_cell HL.out 2).trans rfl
  have q6 : (wrap64 (x6 + 1) == l2) = false := beq_eq_false_iff_ne.mpr H6.out
  go_quiet (fail)
  have hb := pw_below_drewN (Below.refl w2.heap.size w2) nq
  replace KP := Aside0.mk (Kept.then_ KP.out (Kept.of_below hb (fun b => b = gx)) (fun b hb => .inl hb)); replace HX := Aside0.mk (blk_below HX.out hb); replace HL := Aside0.mk (blk_below HL.out hb); replace HZ := Aside0.mk (Below.trans HZ.out (Below.mono hb (Nat.zero_le _)))
  clear hb
  generalize w2.drewN nq = w1 at KP HX HL HZ ⊢
  clear c6 d2
  go_wp2_with (fail)
  obtain ⟨e3, e4, e5, e6⟩ := EA.out
  clear EA
  have HX' : Aside0 (w1.heap[gx]? = some (.cells #[.int .i64 x0, .int .i64 x1, .int .i64 x2, .int .i64 a3, .bool a4, .int .i64 a5, .int .i64 a6, .int .i64 x7, .int .i64 x8, .int .i64 x9, .int .i64 x10] 63 (0, 0))) := ⟨by rw [← e3, ← e4, ← e5, ← e6]; exact HX.out⟩
  clear HX e3 e4 e5 e6
  have HX := HX'
  clear HX'
  clear H6 q6
 all_goals
  clear H4
  have hb : Below w1.heap.size w1 w1.drew := below_drew1 (Below.refl _ _)
  replace KP := Aside0.mk (Kept.then_ KP.out (Kept.of_below hb (fun b => b = gx)) (fun b hb => .inl hb)); replace HX := Aside0.mk (blk_below HX.out hb); replace HL := Aside0.mk (blk_below HL.out hb); replace HZ := Aside0.mk (Below.trans HZ.out (Below.mono hb (Nat.zero_le _)))
  clear hb
  refine start_ (n := 11) (S := fun w' => True) (ds := []) #[false, false, false, false, false, false, false, false, false, false, false] (by kernel_rfl) rfl rfl trivial (fun hHeld => ?_)
  refine with_tabW linkSend.tab5 linkSend.bits5 (fun HT_ HW_ => ?_)
  generalize w1.drew = wk_ at KP HX HL HZ hHeld ⊢
  refine pure_ (i := 1) (N := some 40) (v := ?_) (a' := ?_) #[false, true, false, false, false, false, false, false, false, false, false] rfl rfl (any_of HT_.out (by kernel_rfl)) (fun _ _ _ h => h) (Or.inl ⟨by rfl, ?_⟩) ?_ ?_
  rotate_left
  ·intro w'
   go_simp
   with_reducible rfl
  rotate_left
  ·simp only [Act.put, List.setIfInBounds_toArray, List.set_cons_zero, List.set_cons_succ, i64_w, i32_w]
   rfl
  refine pure_ (i := 5) (N := some 44) (v := ?_) (a' := ?_) #[false, true, false, false, false, true, false, false, false, false, false] rfl rfl (any_of HT_.out (by kernel_rfl)) (fun _ _ _ h => h) (Or.inl ⟨by rfl, ?_⟩) ?_ ?_
  rotate_left
  ·intro w'
   go_simp
   with_reducible rfl
  rotate_left
  ·simp only [Act.put, List.setIfInBounds_toArray, List.set_cons_zero, List.set_cons_succ, i64_w, i32_w]
   rfl
  refine inv_at [0, 2, 3, 4, 6, 7, 8, 9, 10] (fun a0_ b a w' => a = putSel a0_ b [(0, 39, .agg #[.int .i64 l0, .int .i64 l1, .int .i64 l2, .int .i64 l3]), (2, 41, .pointer (some ⟨gx, 0, none⟩)), (3, 42, .pointer (some ⟨gx, 7, none⟩)), (4, 43, .agg #[.int .i64 x7, .int .i64 x8]), (6, 45, .pointer (some ⟨gx, 0, none⟩)), (7, 46, .pointer (some ⟨gx, 2, none⟩)), (8, 47, .int .i64 x2), (9, 48, .int .i64 sn), (10, 4, .int .i64 sn)] ∧ (Below 0 w w') ∧ (Kept w w' (fun b => b = gx)) ∧ (w'.heap[gx]? = some (.cells #[.int .i64 x0, .int .i64 x1, .int .i64 x2, .int .i64 a3, .bool a4, .int .i64 a5, .int .i64 a6, .int .i64 x7, .int .i64 x8, .int .i64 x9, .int .i64 x10] 63 (0, 0))) ∧ (w'.heap[gl]? = some (.cells #[.int .i64 l0, .int .i64 l1, .int .i64 l2, .int .i64 l3] 36 (0, 0)))) HT_.out HW_.out (by kernel_rfl) (by kernel_rfl) ?_ ?_ ?_
  ·exact ⟨by simp only [putSel, Bool.false_eq_true, if_false], HZ.out, KP.out, HX.out, HL.out⟩
  ·skip
   clear HL HX HZ KP
   refine steps_cons ?_ ?_
   ·rintro b a w' ⟨ha, Q_HZ, Q_KP, Q_HX, Q_HL⟩ hb_ hon hoff
    refine ⟨_, rfl, fun K hK => ?_⟩
    have e3 : a.tmps[3]? = some (.pointer (some ⟨gl, 0, none⟩)) := by rw [ha]; exact (putSel_off rfl).trans rfl
    replace ha := Aside0.mk ha
    have HZ := Aside0.mk Q_HZ
    have KP := Aside0.mk Q_KP
    have HX := Aside0.mk Q_HX
    have HL := Aside0.mk Q_HL
    have hc0_ : w'.cell? ⟨gl, 0, none⟩ = some (.int .i64 l0) := (blk_cell HL.out 0).trans rfl
    have hc1_ : w'.cell? ⟨gl, 1, none⟩ = some (.int .i64 l1) := (blk_cell HL.out 1).trans rfl
    have hc2_ : w'.cell? ⟨gl, 2, none⟩ = some (.int .i64 l2) := (blk_cell HL.out 2).trans rfl
    have hc3_ : w'.cell? ⟨gl, 3, none⟩ = some (.int .i64 l3) := (blk_cell HL.out 3).trans rfl
    refine value_ (w1 := w') (v := .agg #[.int .i64 l0, .int .i64 l1, .int .i64 l2, .int .i64 l3]) (by rfl) rfl ?_ ?_
    ·go_simp
     (try simp only [i64_w])
     try rfl
    refine hK.out _ _ ⟨(by rw [ha.out]; exact putSel_upk 0 hb_ rfl rfl rfl), Q_HZ, Q_KP, Q_HX, Q_HL⟩
   refine steps_cons ?_ ?_
   ·rintro b a w' ⟨ha, Q_HZ, Q_KP, Q_HX, Q_HL⟩ hb_ hon hoff
    refine ⟨_, rfl, fun K hK => ?_⟩
    have e40 : a.tmps[40]? = some (.pointer (some ⟨gx, 0, none⟩)) := by rw [ha]; exact (putSel_off rfl).trans rfl
    replace ha := Aside0.mk ha
    have HZ := Aside0.mk Q_HZ
    have KP := Aside0.mk Q_KP
    have HX := Aside0.mk Q_HX
    have HL := Aside0.mk Q_HL
    refine value_ (w1 := w') (v := .pointer (some ⟨gx, 0, none⟩)) (by rfl) rfl ?_ ?_
    ·go_simp
     (try simp only [i64_w])
     try rfl
    refine hK.out _ _ ⟨(by rw [ha.out]; exact putSel_upk 1 hb_ rfl rfl rfl), Q_HZ, Q_KP, Q_HX, Q_HL⟩
   refine steps_cons ?_ ?_
   ·rintro b a w' ⟨ha, Q_HZ, Q_KP, Q_HX, Q_HL⟩ hb_ hon hoff
    refine ⟨_, rfl, fun K hK => ?_⟩
    have e41 : a.tmps[41]? = some (.pointer (some ⟨gx, 0, none⟩)) := by rw [ha]; exact putSel_on (e := (2, 41, .pointer (some ⟨gx, 0, none⟩))) 1 rfl rfl (hon 2 (by kernel_rfl)) rfl
    replace ha := Aside0.mk ha
    have HZ := Aside0.mk Q_HZ
    have KP := Aside0.mk Q_KP
    have HX := Aside0.mk Q_HX
    have HL := Aside0.mk Q_HL
    refine value_ (w1 := w') (v := .pointer (some ⟨gx, 7, none⟩)) (by rfl) rfl ?_ ?_
    ·go_simp
     (try simp only [i64_w])
     try rfl
    refine hK.out _ _ ⟨(by rw [ha.out]; exact putSel_upk 2 hb_ rfl rfl rfl), Q_HZ, Q_KP, Q_HX, Q_HL⟩
   refine steps_cons ?_ ?_
   ·rintro b a w' ⟨ha, Q_HZ, Q_KP, Q_HX, Q_HL⟩ hb_ hon hoff
    refine ⟨_, rfl, fun K hK => ?_⟩
    have e42 : a.tmps[42]? = some (.pointer (some ⟨gx, 7, none⟩)) := by rw [ha]; exact putSel_on (e := (3, 42, .pointer (some ⟨gx, 7, none⟩))) 2 rfl rfl (hon 3 (by kernel_rfl)) rfl
    replace ha := Aside0.mk ha
    have HZ := Aside0.mk Q_HZ
    have KP := Aside0.mk Q_KP
    have HX := Aside0.mk Q_HX
    have HL := Aside0.mk Q_HL
    have hc7_ : w'.cell? ⟨gx, 7, none⟩ = some (.int .i64 x7) := (blk_cell HX.out 7).trans rfl
    have hc8_ : w'.cell? ⟨gx, 8, none⟩ = some (.int .i64 x8) := (blk_cell HX.out 8).trans rfl
    refine value_ (w1 := w') (v := .agg #[.int .i64 x7, .int .i64 x8]) (by rfl) rfl ?_ ?_
    ·go_simp
     (try simp only [i64_w])
     try rfl
    refine hK.out _ _ ⟨(by rw [ha.out]; exact putSel_upk 3 hb_ rfl rfl rfl), Q_HZ, Q_KP, Q_HX, Q_HL⟩
   refine steps_cons ?_ ?_
   ·rintro b a w' ⟨ha, Q_HZ, Q_KP, Q_HX, Q_HL⟩ hb_ hon hoff
    refine ⟨_, rfl, fun K hK => ?_⟩
    have e44 : a.tmps[44]? = some (.pointer (some ⟨gx, 0, none⟩)) := by rw [ha]; exact (putSel_off rfl).trans rfl
    replace ha := Aside0.mk ha
    have HZ := Aside0.mk Q_HZ
    have KP := Aside0.mk Q_KP
    have HX := Aside0.mk Q_HX
    have HL := Aside0.mk Q_HL
    refine value_ (w1 := w') (v := .pointer (some ⟨gx, 0, none⟩)) (by rfl) rfl ?_ ?_
    ·go_simp
     (try simp only [i64_w])
     try rfl
    refine hK.out _ _ ⟨(by rw [ha.out]; exact putSel_upk 4 hb_ rfl rfl rfl), Q_HZ, Q_KP, Q_HX, Q_HL⟩
   refine steps_cons ?_ ?_
   ·rintro b a w' ⟨ha, Q_HZ, Q_KP, Q_HX, Q_HL⟩ hb_ hon hoff
    refine ⟨_, rfl, fun K hK => ?_⟩
    have e45 : a.tmps[45]? = some (.pointer (some ⟨gx, 0, none⟩)) := by rw [ha]; exact putSel_on (e := (6, 45, .pointer (some ⟨gx, 0, none⟩))) 4 rfl rfl (hon 6 (by kernel_rfl)) rfl
    replace ha := Aside0.mk ha
    have HZ := Aside0.mk Q_HZ
    have KP := Aside0.mk Q_KP
    have HX := Aside0.mk Q_HX
    have HL := Aside0.mk Q_HL
    refine value_ (w1 := w') (v := .pointer (some ⟨gx, 2, none⟩)) (by rfl) rfl ?_ ?_
    ·go_simp
     (try simp only [i64_w])
     try rfl
    refine hK.out _ _ ⟨(by rw [ha.out]; exact putSel_upk 5 hb_ rfl rfl rfl), Q_HZ, Q_KP, Q_HX, Q_HL⟩
   refine steps_cons ?_ ?_
   ·rintro b a w' ⟨ha, Q_HZ, Q_KP, Q_HX, Q_HL⟩ hb_ hon hoff
    refine ⟨_, rfl, fun K hK => ?_⟩
    have e46 : a.tmps[46]? = some (.pointer (some ⟨gx, 2, none⟩)) := by rw [ha]; exact putSel_on (e := (7, 46, .pointer (some ⟨gx, 2, none⟩))) 5 rfl rfl (hon 7 (by kernel_rfl)) rfl
    replace ha := Aside0.mk ha
    have HZ := Aside0.mk Q_HZ
    have KP := Aside0.mk Q_KP
    have HX := Aside0.mk Q_HX
    have HL := Aside0.mk Q_HL
    have hc2_ : w'.cell? ⟨gx, 2, none⟩ = some (.int .i64 x2) := (blk_cell HX.out 2).trans rfl
    refine value_ (w1 := w') (v := .int .i64 x2) (by rfl) rfl ?_ ?_
    ·go_simp
     (try simp only [i64_w])
     try rfl
    refine hK.out _ _ ⟨(by rw [ha.out]; exact putSel_upk 6 hb_ rfl rfl rfl), Q_HZ, Q_KP, Q_HX, Q_HL⟩
   refine steps_cons ?_ ?_
   ·rintro b a w' ⟨ha, Q_HZ, Q_KP, Q_HX, Q_HL⟩ hb_ hon hoff
    refine ⟨_, rfl, fun K hK => ?_⟩
    have e39 : a.tmps[39]? = some (.agg #[.int .i64 l0, .int .i64 l1, .int .i64 l2, .int .i64 l3]) := by rw [ha]; exact putSel_on (e := (0, 39, .agg #[.int .i64 l0, .int .i64 l1, .int .i64 l2, .int .i64 l3])) 0 rfl rfl (hon 0 (by kernel_rfl)) rfl
    have e43 : a.tmps[43]? = some (.agg #[.int .i64 x7, .int .i64 x8]) := by rw [ha]; exact putSel_on (e := (4, 43, .agg #[.int .i64 x7, .int .i64 x8])) 3 rfl rfl (hon 4 (by kernel_rfl)) rfl
    have e47 : a.tmps[47]? = some (.int .i64 x2) := by rw [ha]; exact putSel_on (e := (8, 47, .int .i64 x2)) 6 rfl rfl (hon 8 (by kernel_rfl)) rfl
    replace ha := Aside0.mk ha
    have HZ := Aside0.mk Q_HZ
    have KP := Aside0.mk Q_KP
    have HX := Aside0.mk Q_HX
    have HL := Aside0.mk Q_HL
    refine goes_ Tryd.func37 (by kernel_rfl) rfl #[.agg #[.int .i64 l0, .int .i64 l1, .int .i64 l2, .int .i64 l3], .agg #[.int .i64 x7, .int .i64 x8], .int .i64 x2] (by rfl) rfl rfl (by first | (simp only [List.map_toArray, List.map_cons, List.map_nil, Act.eval, Array.getD_eq_getD_getElem?, Option.getD_some, e39, e43, e47]; done) | (simp only [List.map_toArray, List.map_cons, List.map_nil, Act.eval, Array.getD_eq_getD_getElem?, Option.getD_some, e39, e43, e47]; rfl)) ?_
    refine (sees.calls l0 l1 l2 l3 x7 x8 x2 sn w' HSN.out).mono ?_
    rintro e w5 ⟨rfl, hb⟩
    refine ⟨_, rfl, ?_⟩
    refine hK.out _ _ ⟨(by rw [ha.out]; exact putSel_upk 7 hb_ rfl rfl rfl), Below.trans HZ.out (Below.mono hb (Nat.zero_le _)), Kept.then_ KP.out (Kept.of_below hb (fun b => b = gx)) (fun b hb => .inl hb), blk_below HX.out hb, blk_below HL.out hb⟩
   refine steps_cons ?_ ?_
   ·rintro b a w' ⟨ha, Q_HZ, Q_KP, Q_HX, Q_HL⟩ hb_ hon hoff
    refine ⟨_, rfl, fun K hK => ?_⟩
    have e48 : a.tmps[48]? = some (.int .i64 sn) := by rw [ha]; exact putSel_on (e := (9, 48, .int .i64 sn)) 7 rfl rfl (hon 9 (by kernel_rfl)) rfl
    replace ha := Aside0.mk ha
    have HZ := Aside0.mk Q_HZ
    have KP := Aside0.mk Q_KP
    have HX := Aside0.mk Q_HX
    have HL := Aside0.mk Q_HL
    refine value_ (w1 := w') (v := .int .i64 sn) (by rfl) rfl ?_ ?_
    ·go_simp
     (try simp only [i64_w])
     try rfl
    refine hK.out _ _ ⟨(by rw [ha.out]; exact putSel_upk 8 hb_ rfl rfl rfl), Q_HZ, Q_KP, Q_HX, Q_HL⟩
   exact steps_nil
  rintro b a w5 hall ⟨ha, Q_HZ, Q_KP, Q_HX, Q_HL⟩
  clear HL HX HZ KP
  have hb0_ := hall 0 (by kernel_rfl)
  have hb2_ := hall 2 (by kernel_rfl)
  have hb3_ := hall 3 (by kernel_rfl)
  have hb4_ := hall 4 (by kernel_rfl)
  have hb6_ := hall 6 (by kernel_rfl)
  have hb7_ := hall 7 (by kernel_rfl)
  have hb8_ := hall 8 (by kernel_rfl)
  have hb9_ := hall 9 (by kernel_rfl)
  have hb10_ := hall 10 (by kernel_rfl)
  subst ha
  simp only [putSel, hb0_, hb2_, hb3_, hb4_, hb6_, hb7_, hb8_, hb9_, hb10_, if_true, Act.put, List.setIfInBounds_toArray, List.set_cons_zero, List.set_cons_succ]
  have HZ := Aside0.mk Q_HZ
  clear Q_HZ
  have KP := Aside0.mk Q_KP
  clear Q_KP
  have HX := Aside0.mk Q_HX
  clear Q_HX
  have HL := Aside0.mk Q_HL
  clear Q_HL
  clear hall hb0_ hb2_ hb3_ hb4_ hb6_ hb7_ hb8_ hb9_ hb10_
  have hc := HC.out
  clear HC
  unfold actP at hc
  have c0 : w5.cell? ⟨gx, 0, none⟩ = some (.int .i64 x0) := (blk_cell HX.out 0).trans rfl
  have c1 : w5.cell? ⟨gx, 1, none⟩ = some (.int .i64 x1) := (blk_cell HX.out 1).trans rfl
  have d0 : w5.cell? ⟨gl, 0, none⟩ = some (.int .i64 l0) := (blk_cell HL.out 0).trans rfl
  have d3 : w5.cell? ⟨gl, 3, none⟩ = some (.int .i64 l3) := (blk_cell HL.out 3).trans rfl
  go_wp2_with (fail)
  have hl0 : l0 = 2 ∨ ¬ l0 = 2 := Classical.em _
  rcases hl0 with h0 | h0
  focus
   rw [if_pos h0] at hc
   have p1 : (l0 == 2) = true := beq_iff_eq.mpr h0
   have p2 : (l0 == 4) = false := beq_eq_false_iff_ne.mpr (by omega)
   have hsn : (sn = x1 ∧ x0 < l3) ∨ (sn = x1 ∧ ¬ x0 < l3) ∨ ¬ sn = x1 := by rcases Classical.em (sn = x1) with h | h <;> rcases Classical.em (x0 < l3) with h' | h' <;> simp [h, h']
   rcases hsn with ⟨h1, h2⟩ | ⟨h1, h2⟩ | h1
   focus
    rw [if_pos h1, if_pos h2] at hc
    simp only [Option.some.injEq, Prod.mk.injEq] at hc
    obtain ⟨e0, e1, hq_⟩ := hc
    have EE := Aside0.mk (And.intro e0 e1)
    have EQ := Aside0.mk hq_
    clear e0 e1 hq_
    have q1 : (sn == x1) = true := beq_iff_eq.mpr h1
    have q2 : decide (x0 < l3) = true := decide_eq_true h2
    clear h0 h1 h2
    skip
    go_quiet (fail)
    have hb := pw_below_drewN (Below.refl w5.heap.size w5) nq
    replace KP := Aside0.mk (Kept.then_ KP.out (Kept.of_below hb (fun b => b = gx)) (fun b hb => .inl hb)); replace HX := Aside0.mk (blk_below HX.out hb); replace HL := Aside0.mk (blk_below HL.out hb); replace HZ := Aside0.mk (Below.trans HZ.out (Below.mono hb (Nat.zero_le _)))
    clear hb
    generalize w5.drewN nq = w6 at KP HX HL HZ ⊢
    clear c0 c1 d0 d3
    have c0 : w6.cell? ⟨gx, 0, none⟩ = some (.int .i64 x0) := (blk_cell HX.out 0).trans rfl
    have c1 : w6.cell? ⟨gx, 1, none⟩ = some (.int .i64 x1) := (blk_cell HX.out 1).trans rfl
    have d0 : w6.cell? ⟨gl, 0, none⟩ = some (.int .i64 l0) := (blk_cell HL.out 0).trans rfl
    have d3 : w6.cell? ⟨gl, 3, none⟩ = some (.int .i64 l3) := (blk_cell HL.out 3).trans rfl
    have f1 := blk_frozen HX.out 1
    have d1 : w6.cell? ⟨gl, 1, none⟩ = some (.int .i64 l1) := (blk_cell HL.out 1).trans rfl
    have d2 : w6.cell? ⟨gl, 2, none⟩ = some (.int .i64 l2) := (blk_cell HL.out 2).trans rfl
    have hne_ := HNE.out
    go_wp2_with (fail)
    clear c0 c1 d0 d1 d2 d3 f1
    replace KP := Aside0.mk (Kept.setCell KP.out (p := ⟨gx, 1, none⟩) (.inl rfl) (.int .i64 (wrap64 (1 - x1))))
    replace HZ := Aside0.mk (Below.setCell HZ.out (p := ⟨gx, 1, none⟩) (Nat.zero_le _) (.int .i64 (wrap64 (1 - x1))))
    replace HL := Aside0.mk (blk_far HL.out (p := ⟨gx, 1, none⟩) HNE.out (.int .i64 (wrap64 (1 - x1))))
    replace HX := Aside0.mk (blk_put (cs := #[.int .i64 x0, .int .i64 x1, .int .i64 x2, .int .i64 a3, .bool a4, .int .i64 a5, .int .i64 a6, .int .i64 x7, .int .i64 x8, .int .i64 x9, .int .i64 x10]) (cs' := #[.int .i64 x0, .int .i64 (wrap64 (1 - x1)), .int .i64 x2, .int .i64 a3, .bool a4, .int .i64 a5, .int .i64 a6, .int .i64 x7, .int .i64 x8, .int .i64 x9, .int .i64 x10]) HX.out 1 (.int .i64 (wrap64 (1 - x1))) rfl)
    generalize (w6.setCell ⟨gx, 1, none⟩ (.int .i64 (wrap64 (1 - x1)))) = w8 at KP HX HL HZ ⊢
    refine (send.calls gx x0 ((wrap64 (1 - x1))) x2 a3 a5 a6 x7 x8 x9 x10 l0 l1 l2 l3 z3 z5 z6 a4 z4 w8 HX.out EQ.out).mono ?_
    rintro e w9 ⟨rfl, hx5, hk5, hz5⟩
    replace KP := Aside0.mk (Kept.then_ KP.out hk5 (fun b hb => .inl hb))
    replace HL := Aside0.mk (blk_kept HL.out hk5 HNE.out)
    replace HZ := Aside0.mk (Below.trans HZ.out hz5)
    replace HX := Aside0.mk hx5
    clear hx5 hk5 hz5
    go_wp2_with (fail)
    obtain ⟨e0, e1⟩ := EE.out
    clear EE
    have HX' : Aside0 (w9.heap[gx]? = some (.cells #[.int .i64 z0, .int .i64 z1, .int .i64 x2, .int .i64 z3, .bool z4, .int .i64 z5, .int .i64 z6, .int .i64 x7, .int .i64 x8, .int .i64 x9, .int .i64 x10] 63 (0, 0))) := ⟨by rw [← e0, ← e1]; exact HX.out⟩
    clear HX
    have HX := HX'
    clear HX'
    clear p1 p2 q1 q2 e0 e1 EQ hne_
   rotate_left
   focus
    rw [if_pos h1, if_neg h2] at hc
    have q1 : (sn == x1) = true := beq_iff_eq.mpr h1
    have q2 : decide (x0 < l3) = false := decide_eq_false h2
    clear h0 h1 h2
    simp only [Option.some.injEq, Prod.mk.injEq] at hc
    have EC := Aside0.mk hc
    clear hc
    go_quiet (fail)
    have hb := pw_below_drewN (Below.refl w5.heap.size w5) nq
    replace KP := Aside0.mk (Kept.then_ KP.out (Kept.of_below hb (fun b => b = gx)) (fun b hb => .inl hb)); replace HX := Aside0.mk (blk_below HX.out hb); replace HL := Aside0.mk (blk_below HL.out hb); replace HZ := Aside0.mk (Below.trans HZ.out (Below.mono hb (Nat.zero_le _)))
    clear hb
    generalize w5.drewN nq = w6 at KP HX HL HZ ⊢
    clear c0 c1 d0 d3
    have c0 : w6.cell? ⟨gx, 0, none⟩ = some (.int .i64 x0) := (blk_cell HX.out 0).trans rfl
    have c1 : w6.cell? ⟨gx, 1, none⟩ = some (.int .i64 x1) := (blk_cell HX.out 1).trans rfl
    have d0 : w6.cell? ⟨gl, 0, none⟩ = some (.int .i64 l0) := (blk_cell HL.out 0).trans rfl
    have d3 : w6.cell? ⟨gl, 3, none⟩ = some (.int .i64 l3) := (blk_cell HL.out 3).trans rfl
    go_wp2_with (fail)
    go_quiet (fail)
    have hb := pw_below_drewN (Below.refl w6.heap.size w6) nq
    replace KP := Aside0.mk (Kept.then_ KP.out (Kept.of_below hb (fun b => b = gx)) (fun b hb => .inl hb)); replace HX := Aside0.mk (blk_below HX.out hb); replace HL := Aside0.mk (blk_below HL.out hb); replace HZ := Aside0.mk (Below.trans HZ.out (Below.mono hb (Nat.zero_le _)))
    clear hb
    generalize w6.drewN nq = w9 at KP HX HL HZ ⊢
    clear c0 c1 d0 d3
    have c0 : w9.cell? ⟨gx, 0, none⟩ = some (.int .i64 x0) := (blk_cell HX.out 0).trans rfl
    have c1 : w9.cell? ⟨gx, 1, none⟩ = some (.int .i64 x1) := (blk_cell HX.out 1).trans rfl
    have d0 : w9.cell? ⟨gl, 0, none⟩ = some (.int .i64 l0) := (blk_cell HL.out 0).trans rfl
    have d3 : w9.cell? ⟨gl, 3, none⟩ = some (.int .i64 l3) := (blk_cell HL.out 3).trans rfl
    go_wp2_with (fail)
    clear c0 c1 d0 d3
    obtain ⟨e0, e1, e3, e4, e5, e6⟩ := EC.out
    clear EC
    have HX' : Aside0 (w9.heap[gx]? = some (.cells #[.int .i64 z0, .int .i64 z1, .int .i64 x2, .int .i64 z3, .bool z4, .int .i64 z5, .int .i64 z6, .int .i64 x7, .int .i64 x8, .int .i64 x9, .int .i64 x10] 63 (0, 0))) := ⟨by rw [← e0, ← e1, ← e3, ← e4, ← e5, ← e6]; exact HX.out⟩
    clear HX
    have HX := HX'
    clear HX'
    clear p1 p2 q1 q2 e0 e1 e3 e4 e5 e6
   rotate_left
   focus
    rw [if_neg h1] at hc
    have q1 : (sn == x1) = false := beq_eq_false_iff_ne.mpr h1
    clear h0 h1
    simp only [Option.some.injEq, Prod.mk.injEq] at hc
    have EC := Aside0.mk hc
    clear hc
    go_quiet (fail)
    have hb := pw_below_drewN (Below.refl w5.heap.size w5) nq
    replace KP := Aside0.mk (Kept.then_ KP.out (Kept.of_below hb (fun b => b = gx)) (fun b hb => .inl hb)); replace HX := Aside0.mk (blk_below HX.out hb); replace HL := Aside0.mk (blk_below HL.out hb); replace HZ := Aside0.mk (Below.trans HZ.out (Below.mono hb (Nat.zero_le _)))
    clear hb
    generalize w5.drewN nq = w6 at KP HX HL HZ ⊢
    clear c0 c1 d0 d3
    have c0 : w6.cell? ⟨gx, 0, none⟩ = some (.int .i64 x0) := (blk_cell HX.out 0).trans rfl
    have c1 : w6.cell? ⟨gx, 1, none⟩ = some (.int .i64 x1) := (blk_cell HX.out 1).trans rfl
    have d0 : w6.cell? ⟨gl, 0, none⟩ = some (.int .i64 l0) := (blk_cell HL.out 0).trans rfl
    have d3 : w6.cell? ⟨gl, 3, none⟩ = some (.int .i64 l3) := (blk_cell HL.out 3).trans rfl
    go_wp2_with (fail)
    go_quiet (fail)
    have hb := pw_below_drewN (Below.refl w6.heap.size w6) nq
    replace KP := Aside0.mk (Kept.then_ KP.out (Kept.of_below hb (fun b => b = gx)) (fun b hb => .inl hb)); replace HX := Aside0.mk (blk_below HX.out hb); replace HL := Aside0.mk (blk_below HL.out hb); replace HZ := Aside0.mk (Below.trans HZ.out (Below.mono hb (Nat.zero_le _)))
    clear hb
    generalize w6.drewN nq = w9 at KP HX HL HZ ⊢
    clear c0 c1 d0 d3
    have c0 : w9.cell? ⟨gx, 0, none⟩ = some (.int .i64 x0) := (blk_cell HX.out 0).trans rfl
    have c1 : w9.cell? ⟨gx, 1, none⟩ = some (.int .i64 x1) := (blk_cell HX.out 1).trans rfl
    have d0 : w9.cell? ⟨gl, 0, none⟩ = some (.int .i64 l0) := (blk_cell HL.out 0).trans rfl
    have d3 : w9.cell? ⟨gl, 3, none⟩ = some (.int .i64 l3) := (blk_cell HL.out 3).trans rfl
    go_wp2_with (fail)
    clear c0 c1 d0 d3
    obtain ⟨e0, e1, e3, e4, e5, e6⟩ := EC.out
    clear EC
    have HX' : Aside0 (w9.heap[gx]? = some (.cells #[.int .i64 z0, .int .i64 z1, .int .i64 x2, .int .i64 z3, .bool z4, .int .i64 z5, .int .i64 z6, .int .i64 x7, .int .i64 x8, .int .i64 x9, .int .i64 x10] 63 (0, 0))) := ⟨by rw [← e0, ← e1, ← e3, ← e4, ← e5, ← e6]; exact HX.out⟩
    clear HX
    have HX := HX'
    clear HX'
    clear p1 p2 q1 e0 e1 e3 e4 e5 e6
   rotate_left
  rotate_left 3
  focus
   rw [if_neg h0] at hc
   have p1 : (l0 == 2) = false := beq_eq_false_iff_ne.mpr h0
   have hl4 : l0 = 4 := by rcases Classical.em (l0 = 4) with h | h; exact h; rw [if_neg h] at hc; cases hc
   rw [if_pos hl4] at hc
   have p2 : (l0 == 4) = true := beq_iff_eq.mpr hl4
   clear h0 hl4
   have hx1 : x1 = 0 ∨ x1 = 1 := by rcases Classical.em (x1 = 0) with h | h; exact Or.inl h; rcases Classical.em (x1 = 1) with h' | h'; exact Or.inr h'; rw [if_neg h, if_neg h'] at hc; cases hc
   rcases hx1 with h1 | h1
   focus
    rw [if_pos h1] at hc
    have r1 : (x1 == 0) = true := beq_iff_eq.mpr h1
    have r2 : (x1 == 1) = false := beq_eq_false_iff_ne.mpr (by omega)
    have hsn : (sn = 0 ∧ x0 < l3) ∨ (sn = 0 ∧ ¬ x0 < l3) ∨ ¬ sn = 0 := by rcases Classical.em (sn = 0) with h | h <;> rcases Classical.em (x0 < l3) with h' | h' <;> simp [h, h']
    rcases hsn with ⟨h2, h3⟩ | ⟨h2, h3⟩ | h2
    focus
     rw [if_pos h2, if_pos h3] at hc
     simp only [Option.some.injEq, Prod.mk.injEq] at hc
     obtain ⟨e0, e1, hq_⟩ := hc
     have EE := Aside0.mk (And.intro e0 e1)
     have EQ := Aside0.mk hq_
     clear e0 e1 hq_
     have q1 : (sn == 0) = true := beq_iff_eq.mpr h2
     have q2 : decide (x0 < l3) = true := decide_eq_true h3
     clear h1 h2 h3
     go_quiet (fail)
     have hb := pw_below_drewN (Below.refl w5.heap.size w5) nq
     replace KP := Aside0.mk (Kept.then_ KP.out (Kept.of_below hb (fun b => b = gx)) (fun b hb => .inl hb)); replace HX := Aside0.mk (blk_below HX.out hb); replace HL := Aside0.mk (blk_below HL.out hb); replace HZ := Aside0.mk (Below.trans HZ.out (Below.mono hb (Nat.zero_le _)))
     clear hb
     generalize w5.drewN nq = w6 at KP HX HL HZ ⊢
     clear c0 c1 d0 d3
     have c0 : w6.cell? ⟨gx, 0, none⟩ = some (.int .i64 x0) := (blk_cell HX.out 0).trans rfl
     have c1 : w6.cell? ⟨gx, 1, none⟩ = some (.int .i64 x1) := (blk_cell HX.out 1).trans rfl
     have d0 : w6.cell? ⟨gl, 0, none⟩ = some (.int .i64 l0) := (blk_cell HL.out 0).trans rfl
     have d3 : w6.cell? ⟨gl, 3, none⟩ = some (.int .i64 l3) := (blk_cell HL.out 3).trans rfl
     go_wp2_with (fail)
     go_quiet (fail)
     have hb := pw_below_drewN (Below.refl w6.heap.size w6) nq
     replace KP := Aside0.mk (Kept.then_ KP.out (Kept.of_below hb (fun b => b = gx)) (fun b hb => .inl hb)); replace HX := Aside0.mk (blk_below HX.out hb); replace HL := Aside0.mk (blk_below HL.out hb); replace HZ := Aside0.mk (Below.trans HZ.out (Below.mono hb (Nat.zero_le _)))
     clear hb
     generalize w6.drewN nq = w7 at KP HX HL HZ ⊢
     clear c0 c1 d0 d3
     have c0 : w7.cell? ⟨gx, 0, none⟩ = some (.int .i64 x0) := (blk_cell HX.out 0).trans rfl
     have c1 : w7.cell? ⟨gx, 1, none⟩ = some (.int .i64 x1) := (blk_cell HX.out 1).trans rfl
     have d0 : w7.cell? ⟨gl, 0, none⟩ = some (.int .i64 l0) := (blk_cell HL.out 0).trans rfl
     have d3 : w7.cell? ⟨gl, 3, none⟩ = some (.int .i64 l3) := (blk_cell HL.out 3).trans rfl
     have f1 := blk_frozen HX.out 1
     have d1 : w7.cell? ⟨gl, 1, none⟩ = some (.int .i64 l1) := (blk_cell HL.out 1).trans rfl
     have d2 : w7.cell? ⟨gl, 2, none⟩ = some (.int .i64 l2) := (blk_cell HL.out 2).trans rfl
     have hne_ := HNE.out
     go_wp2_with (fail)
     clear c0 c1 d0 d1 d2 d3 f1
     replace KP := Aside0.mk (Kept.setCell KP.out (p := ⟨gx, 1, none⟩) (.inl rfl) (.int .i64 1))
     replace HZ := Aside0.mk (Below.setCell HZ.out (p := ⟨gx, 1, none⟩) (Nat.zero_le _) (.int .i64 1))
     replace HL := Aside0.mk (blk_far HL.out (p := ⟨gx, 1, none⟩) HNE.out (.int .i64 1))
     replace HX := Aside0.mk (blk_put (cs := #[.int .i64 x0, .int .i64 x1, .int .i64 x2, .int .i64 a3, .bool a4, .int .i64 a5, .int .i64 a6, .int .i64 x7, .int .i64 x8, .int .i64 x9, .int .i64 x10]) (cs' := #[.int .i64 x0, .int .i64 1, .int .i64 x2, .int .i64 a3, .bool a4, .int .i64 a5, .int .i64 a6, .int .i64 x7, .int .i64 x8, .int .i64 x9, .int .i64 x10]) HX.out 1 (.int .i64 1) rfl)
     generalize (w7.setCell ⟨gx, 1, none⟩ (.int .i64 1)) = w8 at KP HX HL HZ ⊢
     refine (send.calls gx x0 (1) x2 a3 a5 a6 x7 x8 x9 x10 l0 l1 l2 l3 z3 z5 z6 a4 z4 w8 HX.out EQ.out).mono ?_
     rintro e w9 ⟨rfl, hx5, hk5, hz5⟩
     replace KP := Aside0.mk (Kept.then_ KP.out hk5 (fun b hb => .inl hb))
     replace HL := Aside0.mk (blk_kept HL.out hk5 HNE.out)
     replace HZ := Aside0.mk (Below.trans HZ.out hz5)
     replace HX := Aside0.mk hx5
     clear hx5 hk5 hz5
     go_wp2_with (fail)
     obtain ⟨e0, e1⟩ := EE.out
     clear EE
     have HX' : Aside0 (w9.heap[gx]? = some (.cells #[.int .i64 z0, .int .i64 z1, .int .i64 x2, .int .i64 z3, .bool z4, .int .i64 z5, .int .i64 z6, .int .i64 x7, .int .i64 x8, .int .i64 x9, .int .i64 x10] 63 (0, 0))) := ⟨by rw [← e0, ← e1]; exact HX.out⟩
     clear HX
     have HX := HX'
     clear HX'
     clear p1 p2 r1 r2 q1 q2 e0 e1 EQ hne_
    rotate_left
    focus
     rw [if_pos h2, if_neg h3] at hc
     have q1 : (sn == 0) = true := beq_iff_eq.mpr h2
     have q2 : decide (x0 < l3) = false := decide_eq_false h3
     clear h1 h2 h3
     simp only [Option.some.injEq, Prod.mk.injEq] at hc
     have EC := Aside0.mk hc
     clear hc
     go_quiet (fail)
     have hb := pw_below_drewN (Below.refl w5.heap.size w5) nq
     replace KP := Aside0.mk (Kept.then_ KP.out (Kept.of_below hb (fun b => b = gx)) (fun b hb => .inl hb)); replace HX := Aside0.mk (blk_below HX.out hb); replace HL := Aside0.mk (blk_below HL.out hb); replace HZ := Aside0.mk (Below.trans HZ.out (Below.mono hb (Nat.zero_le _)))
     clear hb
     generalize w5.drewN nq = w6 at KP HX HL HZ ⊢
     clear c0 c1 d0 d3
     have c0 : w6.cell? ⟨gx, 0, none⟩ = some (.int .i64 x0) := (blk_cell HX.out 0).trans rfl
     have c1 : w6.cell? ⟨gx, 1, none⟩ = some (.int .i64 x1) := (blk_cell HX.out 1).trans rfl
     have d0 : w6.cell? ⟨gl, 0, none⟩ = some (.int .i64 l0) := (blk_cell HL.out 0).trans rfl
     have d3 : w6.cell? ⟨gl, 3, none⟩ = some (.int .i64 l3) := (blk_cell HL.out 3).trans rfl
     go_wp2_with (fail)
     go_quiet (fail)
     have hb := pw_below_drewN (Below.refl w6.heap.size w6) nq
     replace KP := Aside0.mk (Kept.then_ KP.out (Kept.of_below hb (fun b => b = gx)) (fun b hb => .inl hb)); replace HX := Aside0.mk (blk_below HX.out hb); replace HL := Aside0.mk (blk_below HL.out hb); replace HZ := Aside0.mk (Below.trans HZ.out (Below.mono hb (Nat.zero_le _)))
     clear hb
     generalize w6.drewN nq = w9 at KP HX HL HZ ⊢
     clear c0 c1 d0 d3
     have c0 : w9.cell? ⟨gx, 0, none⟩ = some (.int .i64 x0) := (blk_cell HX.out 0).trans rfl
     have c1 : w9.cell? ⟨gx, 1, none⟩ = some (.int .i64 x1) := (blk_cell HX.out 1).trans rfl
     have d0 : w9.cell? ⟨gl, 0, none⟩ = some (.int .i64 l0) := (blk_cell HL.out 0).trans rfl
     have d3 : w9.cell? ⟨gl, 3, none⟩ = some (.int .i64 l3) := (blk_cell HL.out 3).trans rfl
     go_wp2_with (fail)
     clear c0 c1 d0 d3
     obtain ⟨e0, e1, e3, e4, e5, e6⟩ := EC.out
     clear EC
     have HX' : Aside0 (w9.heap[gx]? = some (.cells #[.int .i64 z0, .int .i64 z1, .int .i64 x2, .int .i64 z3, .bool z4, .int .i64 z5, .int .i64 z6, .int .i64 x7, .int .i64 x8, .int .i64 x9, .int .i64 x10] 63 (0, 0))) := ⟨by rw [← e0, ← e1, ← e3, ← e4, ← e5, ← e6]; exact HX.out⟩
     clear HX
     have HX := HX'
     clear HX'
     clear p1 p2 r1 r2 q1 q2 e0 e1 e3 e4 e5 e6
    rotate_left
    focus
     rw [if_neg h2] at hc
     have q1 : (sn == 0) = false := beq_eq_false_iff_ne.mpr h2
     clear h1 h2
     simp only [Option.some.injEq, Prod.mk.injEq] at hc
     have EC := Aside0.mk hc
     clear hc
     go_quiet (fail)
     have hb := pw_below_drewN (Below.refl w5.heap.size w5) nq
     replace KP := Aside0.mk (Kept.then_ KP.out (Kept.of_below hb (fun b => b = gx)) (fun b hb => .inl hb)); replace HX := Aside0.mk (blk_below HX.out hb); replace HL := Aside0.mk (blk_below HL.out hb); replace HZ := Aside0.mk (Below.trans HZ.out (Below.mono hb (Nat.zero_le _)))
     clear hb
     generalize w5.drewN nq = w6 at KP HX HL HZ ⊢
     clear c0 c1 d0 d3
     have c0 : w6.cell? ⟨gx, 0, none⟩ = some (.int .i64 x0) := (blk_cell HX.out 0).trans rfl
     have c1 : w6.cell? ⟨gx, 1, none⟩ = some (.int .i64 x1) := (blk_cell HX.out 1).trans rfl
     have d0 : w6.cell? ⟨gl, 0, none⟩ = some (.int .i64 l0) := (blk_cell HL.out 0).trans rfl
     have d3 : w6.cell? ⟨gl, 3, none⟩ = some (.int .i64 l3) := (blk_cell HL.out 3).trans rfl
     go_wp2_with (fail)
     go_quiet (fail)
     have hb := pw_below_drewN (Below.refl w6.heap.size w6) nq
     replace KP := Aside0.mk (Kept.then_ KP.out (Kept.of_below hb (fun b => b = gx)) (fun b hb => .inl hb)); replace HX := Aside0.mk (blk_below HX.out hb); replace HL := Aside0.mk (blk_below HL.out hb); replace HZ := Aside0.mk (Below.trans HZ.out (Below.mono hb (Nat.zero_le _)))
     clear hb
     generalize w6.drewN nq = w9 at KP HX HL HZ ⊢
     clear c0 c1 d0 d3
     have c0 : w9.cell? ⟨gx, 0, none⟩ = some (.int .i64 x0) := (blk_cell HX.out 0).trans rfl
     have c1 : w9.cell? ⟨gx, 1, none⟩ = some (.int .i64 x1) := (blk_cell HX.out 1).trans rfl
     have d0 : w9.cell? ⟨gl, 0, none⟩ = some (.int .i64 l0) := (blk_cell HL.out 0).trans rfl
     have d3 : w9.cell? ⟨gl, 3, none⟩ = some (.int .i64 l3) := (blk_cell HL.out 3).trans rfl
     go_wp2_with (fail)
     clear c0 c1 d0 d3
     obtain ⟨e0, e1, e3, e4, e5, e6⟩ := EC.out
     clear EC
     have HX' : Aside0 (w9.heap[gx]? = some (.cells #[.int .i64 z0, .int .i64 z1, .int .i64 x2, .int .i64 z3, .bool z4, .int .i64 z5, .int .i64 z6, .int .i64 x7, .int .i64 x8, .int .i64 x9, .int .i64 x10] 63 (0, 0))) := ⟨by rw [← e0, ← e1, ← e3, ← e4, ← e5, ← e6]; exact HX.out⟩
     clear HX
     have HX := HX'
     clear HX'
     clear p1 p2 r1 r2 q1 e0 e1 e3 e4 e5 e6
    rotate_left
   rotate_left 3
   focus
    rw [if_neg (by omega), if_pos h1] at hc
    have r1 : (x1 == 0) = false := beq_eq_false_iff_ne.mpr (by omega)
    have r2 : (x1 == 1) = true := beq_iff_eq.mpr h1
    have hsn : sn = 1 ∨ ¬ sn = 1 := Classical.em _
    rcases hsn with h2 | h2
    focus
     rw [if_pos h2] at hc
     simp only [Option.some.injEq, Prod.mk.injEq] at hc
     have EC := Aside0.mk hc
     clear hc
     have q1 : (sn == 1) = true := beq_iff_eq.mpr h2
     clear h1 h2
     go_quiet (fail)
     have hb := pw_below_drewN (Below.refl w5.heap.size w5) nq
     replace KP := Aside0.mk (Kept.then_ KP.out (Kept.of_below hb (fun b => b = gx)) (fun b hb => .inl hb)); replace HX := Aside0.mk (blk_below HX.out hb); replace HL := Aside0.mk (blk_below HL.out hb); replace HZ := Aside0.mk (Below.trans HZ.out (Below.mono hb (Nat.zero_le _)))
     clear hb
     generalize w5.drewN nq = w6 at KP HX HL HZ ⊢
     clear c0 c1 d0 d3
     have c0 : w6.cell? ⟨gx, 0, none⟩ = some (.int .i64 x0) := (blk_cell HX.out 0).trans rfl
     have c1 : w6.cell? ⟨gx, 1, none⟩ = some (.int .i64 x1) := (blk_cell HX.out 1).trans rfl
     have d0 : w6.cell? ⟨gl, 0, none⟩ = some (.int .i64 l0) := (blk_cell HL.out 0).trans rfl
     have d3 : w6.cell? ⟨gl, 3, none⟩ = some (.int .i64 l3) := (blk_cell HL.out 3).trans rfl
     go_wp2_with (fail)
     go_quiet (fail)
     have hb := pw_below_drewN (Below.refl w6.heap.size w6) nq
     replace KP := Aside0.mk (Kept.then_ KP.out (Kept.of_below hb (fun b => b = gx)) (fun b hb => .inl hb)); replace HX := Aside0.mk (blk_below HX.out hb); replace HL := Aside0.mk (blk_below HL.out hb); replace HZ := Aside0.mk (Below.trans HZ.out (Below.mono hb (Nat.zero_le _)))
     clear hb
     generalize w6.drewN nq = w7 at KP HX HL HZ ⊢
     clear c0 c1 d0 d3
     have c0 : w7.cell? ⟨gx, 0, none⟩ = some (.int .i64 x0) := (blk_cell HX.out 0).trans rfl
     have c1 : w7.cell? ⟨gx, 1, none⟩ = some (.int .i64 x1) := (blk_cell HX.out 1).trans rfl
     have d0 : w7.cell? ⟨gl, 0, none⟩ = some (.int .i64 l0) := (blk_cell HL.out 0).trans rfl
     have d3 : w7.cell? ⟨gl, 3, none⟩ = some (.int .i64 l3) := (blk_cell HL.out 3).trans rfl
     have f1 := blk_frozen HX.out 1
     go_wp2_with (fail)
     clear c0 c1 d0 d3 f1
     replace KP := Aside0.mk (Kept.setCell KP.out (p := ⟨gx, 1, none⟩) (.inl rfl) (.int .i64 0))
     replace HZ := Aside0.mk (Below.setCell HZ.out (p := ⟨gx, 1, none⟩) (Nat.zero_le _) (.int .i64 0))
     replace HL := Aside0.mk (blk_far HL.out (p := ⟨gx, 1, none⟩) HNE.out (.int .i64 0))
     replace HX := Aside0.mk (blk_put (cs := #[.int .i64 x0, .int .i64 x1, .int .i64 x2, .int .i64 a3, .bool a4, .int .i64 a5, .int .i64 a6, .int .i64 x7, .int .i64 x8, .int .i64 x9, .int .i64 x10]) (cs' := #[.int .i64 x0, .int .i64 0, .int .i64 x2, .int .i64 a3, .bool a4, .int .i64 a5, .int .i64 a6, .int .i64 x7, .int .i64 x8, .int .i64 x9, .int .i64 x10]) HX.out 1 (.int .i64 0) rfl)
     generalize (w7.setCell ⟨gx, 1, none⟩ (.int .i64 0)) = w9 at KP HX HL HZ ⊢
     obtain ⟨e0, e1, e3, e4, e5, e6⟩ := EC.out
     clear EC
     have HX' : Aside0 (w9.heap[gx]? = some (.cells #[.int .i64 z0, .int .i64 z1, .int .i64 x2, .int .i64 z3, .bool z4, .int .i64 z5, .int .i64 z6, .int .i64 x7, .int .i64 x8, .int .i64 x9, .int .i64 x10] 63 (0, 0))) := ⟨by rw [← e0, ← e1, ← e3, ← e4, ← e5, ← e6]; exact HX.out⟩
     clear HX
     have HX := HX'
     clear HX'
     clear p1 p2 r1 r2 q1 e0 e1 e3 e4 e5 e6
    rotate_left
    focus
     rw [if_neg h2] at hc
     have q1 : (sn == 1) = false := beq_eq_false_iff_ne.mpr h2
     clear h1 h2
     simp only [Option.some.injEq, Prod.mk.injEq] at hc
     have EC := Aside0.mk hc
     clear hc
     go_quiet (fail)
     have hb := pw_below_drewN (Below.refl w5.heap.size w5) nq
     replace KP := Aside0.mk (Kept.then_ KP.out (Kept.of_below hb (fun b => b = gx)) (fun b hb => .inl hb)); replace HX := Aside0.mk (blk_below HX.out hb); replace HL := Aside0.mk (blk_below HL.out hb); replace HZ := Aside0.mk (Below.trans HZ.out (Below.mono hb (Nat.zero_le _)))
     clear hb
     generalize w5.drewN nq = w6 at KP HX HL HZ ⊢
     clear c0 c1 d0 d3
     have c0 : w6.cell? ⟨gx, 0, none⟩ = some (.int .i64 x0) := (blk_cell HX.out 0).trans rfl
     have c1 : w6.cell? ⟨gx, 1, none⟩ = some (.int .i64 x1) := (blk_cell HX.out 1).trans rfl
     have d0 : w6.cell? ⟨gl, 0, none⟩ = some (.int .i64 l0) := (blk_cell HL.out 0).trans rfl
     have d3 : w6.cell? ⟨gl, 3, none⟩ = some (.int .i64 l3) := (blk_cell HL.out 3).trans rfl
     go_wp2_with (fail)
     go_quiet (fail)
     have hb := pw_below_drewN (Below.refl w6.heap.size w6) nq
     replace KP := Aside0.mk (Kept.then_ KP.out (Kept.of_below hb (fun b => b = gx)) (fun b hb => .inl hb)); replace HX := Aside0.mk (blk_below HX.out hb); replace HL := Aside0.mk (blk_below HL.out hb); replace HZ := Aside0.mk (Below.trans HZ.out (Below.mono hb (Nat.zero_le _)))
     clear hb
     generalize w6.drewN nq = w9 at KP HX HL HZ ⊢
     clear c0 c1 d0 d3
     have c0 : w9.cell? ⟨gx, 0, none⟩ = some (.int .i64 x0) := (blk_cell HX.out 0).trans rfl
     have c1 : w9.cell? ⟨gx, 1, none⟩ = some (.int .i64 x1) := (blk_cell HX.out 1).trans rfl
     have d0 : w9.cell? ⟨gl, 0, none⟩ = some (.int .i64 l0) := (blk_cell HL.out 0).trans rfl
     have d3 : w9.cell? ⟨gl, 3, none⟩ = some (.int .i64 l3) := (blk_cell HL.out 3).trans rfl
     go_wp2_with (fail)
     clear c0 c1 d0 d3
     obtain ⟨e0, e1, e3, e4, e5, e6⟩ := EC.out
     clear EC
     have HX' : Aside0 (w9.heap[gx]? = some (.cells #[.int .i64 z0, .int .i64 z1, .int .i64 x2, .int .i64 z3, .bool z4, .int .i64 z5, .int .i64 z6, .int .i64 x7, .int .i64 x8, .int .i64 x9, .int .i64 x10] 63 (0, 0))) := ⟨by rw [← e0, ← e1, ← e3, ← e4, ← e5, ← e6]; exact HX.out⟩
     clear HX
     have HX := HX'
     clear HX'
     clear p1 p2 r1 r2 q1 e0 e1 e3 e4 e5 e6
    rotate_left
  all_goals
   have hb : Below w9.heap.size w9 w9.drew := below_drew1 (Below.refl _ _)
   replace KP := Aside0.mk (Kept.then_ KP.out (Kept.of_below hb (fun b => b = gx)) (fun b hb => .inl hb)); replace HX := Aside0.mk (blk_below HX.out hb); replace HL := Aside0.mk (blk_below HL.out hb); replace HZ := Aside0.mk (Below.trans HZ.out (Below.mono hb (Nat.zero_le _)))
   clear hb
   refine start_ (n := 13) (S := fun w' => True) (ds := []) #[false, false, false, false, false, false, false, false, false, false, false, false, false] (by kernel_rfl) rfl rfl trivial (fun hHeld => ?_)
   refine with_tabW linkSend.tab14 linkSend.bits14 (fun HT_ HW_ => ?_)
   generalize w9.drew = wk_ at KP HX HL HZ hHeld ⊢
   refine pure_ (i := 0) (N := some 129) (v := ?_) (a' := ?_) #[true, false, false, false, false, false, false, false, false, false, false, false, false] rfl rfl (any_of HT_.out (by kernel_rfl)) (fun _ _ _ h => h) (Or.inl ⟨by rfl, ?_⟩) ?_ ?_
   rotate_left
   ·intro w'
    go_simp
    with_reducible rfl
   rotate_left
   ·simp only [Act.put, List.setIfInBounds_toArray, List.set_cons_zero, List.set_cons_succ, i64_w, i32_w]
    rfl
   refine pure_ (i := 1) (N := some 130) (v := ?_) (a' := ?_) #[true, true, false, false, false, false, false, false, false, false, false, false, false] rfl rfl (any_of HT_.out (by kernel_rfl)) (fun _ _ _ h => h) (Or.inl ⟨by rfl, ?_⟩) ?_ ?_
   rotate_left
   ·intro w'
    go_simp
    with_reducible rfl
   rotate_left
   ·simp only [Act.put, List.setIfInBounds_toArray, List.set_cons_zero, List.set_cons_succ, i64_w, i32_w]
    rfl
   refine pure_ (i := 5) (N := some 134) (v := ?_) (a' := ?_) #[true, true, false, false, false, true, false, false, false, false, false, false, false] rfl rfl (any_of HT_.out (by kernel_rfl)) (fun _ _ _ h => h) (Or.inl ⟨by rfl, ?_⟩) ?_ ?_
   rotate_left
   ·intro w'
    go_simp
    with_reducible rfl
   rotate_left
   ·simp only [Act.put, List.setIfInBounds_toArray, List.set_cons_zero, List.set_cons_succ, i64_w, i32_w]
    rfl
   refine inv_at [2, 3, 4, 6, 7, 8, 9, 10, 11, 12] (fun a0_ b a w' => a = putSel a0_ b [(2, 131, .pointer (some ⟨gx, 0, none⟩)), (3, 132, .pointer (some ⟨gx, 7, none⟩)), (4, 133, .agg #[.int .i64 x7, .int .i64 x8]), (6, 135, .pointer (some ⟨gx, 0, none⟩)), (7, 136, .pointer (some ⟨gx, 2, none⟩)), (8, 137, .int .i64 x2), (9, 138, .agg #[.int .i64 x2, .int .i64 x7]), (10, 139, .pointer (some ⟨gx, 0, none⟩)), (11, 140, .pointer (some ⟨gx, 7, none⟩))] ∧ (Below 0 w w') ∧ (Kept w w' (fun b => b = gx)) ∧ (b 12 = false → w'.heap[gx]? = some (.cells #[.int .i64 z0, .int .i64 z1, .int .i64 x2, .int .i64 z3, .bool z4, .int .i64 z5, .int .i64 z6, .int .i64 x7, .int .i64 x8, .int .i64 x9, .int .i64 x10] 63 (0, 0))) ∧ (w'.heap[gl]? = some (.cells #[.int .i64 l0, .int .i64 l1, .int .i64 l2, .int .i64 l3] 36 (0, 0))) ∧ (b 12 = true → w'.heap[gx]? = some (.cells #[.int .i64 z0, .int .i64 z1, .int .i64 x2, .int .i64 z3, .bool z4, .int .i64 z5, .int .i64 z6, .int .i64 x2, .int .i64 x7, .int .i64 x9, .int .i64 x10] 63 (0, 0)))) HT_.out HW_.out (by kernel_rfl) (by kernel_rfl) ?_ ?_ ?_
   ·exact ⟨by simp only [putSel, Bool.false_eq_true, if_false], HZ.out, KP.out, fun _ => HX.out, HL.out, fun h_ => absurd h_ (by decide)⟩
   ·skip
    clear HL HX HZ KP
    refine steps_cons ?_ ?_
    ·rintro b a w' ⟨ha, Q_HZ, Q_KP, Q_HX, Q_HL, Q_HXn⟩ hb_ hon hoff
     refine ⟨_, rfl, fun K hK => ?_⟩
     have e130 : a.tmps[130]? = some (.pointer (some ⟨gx, 0, none⟩)) := by rw [ha]; exact (putSel_off rfl).trans rfl
     replace ha := Aside0.mk ha
     have HZ := Aside0.mk Q_HZ
     have KP := Aside0.mk Q_KP
     have HX := Aside0.mk (Q_HX (hoff 12 (by kernel_rfl)))
     have HL := Aside0.mk Q_HL
     refine value_ (w1 := w') (v := .pointer (some ⟨gx, 0, none⟩)) (by rfl) rfl ?_ ?_
     ·go_simp
      (try simp only [i64_w])
      try rfl
     refine hK.out _ _ ⟨(by rw [ha.out]; exact putSel_upk 0 hb_ rfl rfl rfl), Q_HZ, Q_KP, Q_HX, Q_HL, fun h0_ => absurd ((hoff 12 (by kernel_rfl)).symm.trans h0_) (by decide)⟩
    refine steps_cons ?_ ?_
    ·rintro b a w' ⟨ha, Q_HZ, Q_KP, Q_HX, Q_HL, Q_HXn⟩ hb_ hon hoff
     refine ⟨_, rfl, fun K hK => ?_⟩
     have e131 : a.tmps[131]? = some (.pointer (some ⟨gx, 0, none⟩)) := by rw [ha]; exact putSel_on (e := (2, 131, .pointer (some ⟨gx, 0, none⟩))) 0 rfl rfl (hon 2 (by kernel_rfl)) rfl
     replace ha := Aside0.mk ha
     have HZ := Aside0.mk Q_HZ
     have KP := Aside0.mk Q_KP
     have HX := Aside0.mk (Q_HX (hoff 12 (by kernel_rfl)))
     have HL := Aside0.mk Q_HL
     refine value_ (w1 := w') (v := .pointer (some ⟨gx, 7, none⟩)) (by rfl) rfl ?_ ?_
     ·go_simp
      (try simp only [i64_w])
      try rfl
     refine hK.out _ _ ⟨(by rw [ha.out]; exact putSel_upk 1 hb_ rfl rfl rfl), Q_HZ, Q_KP, Q_HX, Q_HL, fun h0_ => absurd ((hoff 12 (by kernel_rfl)).symm.trans h0_) (by decide)⟩
    refine steps_cons ?_ ?_
    ·rintro b a w' ⟨ha, Q_HZ, Q_KP, Q_HX, Q_HL, Q_HXn⟩ hb_ hon hoff
     refine ⟨_, rfl, fun K hK => ?_⟩
     have e132 : a.tmps[132]? = some (.pointer (some ⟨gx, 7, none⟩)) := by rw [ha]; exact putSel_on (e := (3, 132, .pointer (some ⟨gx, 7, none⟩))) 1 rfl rfl (hon 3 (by kernel_rfl)) rfl
     replace ha := Aside0.mk ha
     have HZ := Aside0.mk Q_HZ
     have KP := Aside0.mk Q_KP
     have HX := Aside0.mk (Q_HX (hoff 12 (by kernel_rfl)))
     have HL := Aside0.mk Q_HL
     have hc7_ : w'.cell? ⟨gx, 7, none⟩ = some (.int .i64 x7) := (blk_cell HX.out 7).trans rfl
     have hc8_ : w'.cell? ⟨gx, 8, none⟩ = some (.int .i64 x8) := (blk_cell HX.out 8).trans rfl
     refine value_ (w1 := w') (v := .agg #[.int .i64 x7, .int .i64 x8]) (by rfl) rfl ?_ ?_
     ·go_simp
      (try simp only [i64_w])
      try rfl
     refine hK.out _ _ ⟨(by rw [ha.out]; exact putSel_upk 2 hb_ rfl rfl rfl), Q_HZ, Q_KP, Q_HX, Q_HL, fun h0_ => absurd ((hoff 12 (by kernel_rfl)).symm.trans h0_) (by decide)⟩
    refine steps_cons ?_ ?_
    ·rintro b a w' ⟨ha, Q_HZ, Q_KP, Q_HX, Q_HL, Q_HXn⟩ hb_ hon hoff
     refine ⟨_, rfl, fun K hK => ?_⟩
     have e134 : a.tmps[134]? = some (.pointer (some ⟨gx, 0, none⟩)) := by rw [ha]; exact (putSel_off rfl).trans rfl
     replace ha := Aside0.mk ha
     have HZ := Aside0.mk Q_HZ
     have KP := Aside0.mk Q_KP
     have HX := Aside0.mk (Q_HX (hoff 12 (by kernel_rfl)))
     have HL := Aside0.mk Q_HL
     refine value_ (w1 := w') (v := .pointer (some ⟨gx, 0, none⟩)) (by rfl) rfl ?_ ?_
     ·go_simp
      (try simp only [i64_w])
      try rfl
     refine hK.out _ _ ⟨(by rw [ha.out]; exact putSel_upk 3 hb_ rfl rfl rfl), Q_HZ, Q_KP, Q_HX, Q_HL, fun h0_ => absurd ((hoff 12 (by kernel_rfl)).symm.trans h0_) (by decide)⟩
    refine steps_cons ?_ ?_
    ·rintro b a w' ⟨ha, Q_HZ, Q_KP, Q_HX, Q_HL, Q_HXn⟩ hb_ hon hoff
     refine ⟨_, rfl, fun K hK => ?_⟩
     have e135 : a.tmps[135]? = some (.pointer (some ⟨gx, 0, none⟩)) := by rw [ha]; exact putSel_on (e := (6, 135, .pointer (some ⟨gx, 0, none⟩))) 3 rfl rfl (hon 6 (by kernel_rfl)) rfl
     replace ha := Aside0.mk ha
     have HZ := Aside0.mk Q_HZ
     have KP := Aside0.mk Q_KP
     have HX := Aside0.mk (Q_HX (hoff 12 (by kernel_rfl)))
     have HL := Aside0.mk Q_HL
     refine value_ (w1 := w') (v := .pointer (some ⟨gx, 2, none⟩)) (by rfl) rfl ?_ ?_
     ·go_simp
      (try simp only [i64_w])
      try rfl
     refine hK.out _ _ ⟨(by rw [ha.out]; exact putSel_upk 4 hb_ rfl rfl rfl), Q_HZ, Q_KP, Q_HX, Q_HL, fun h0_ => absurd ((hoff 12 (by kernel_rfl)).symm.trans h0_) (by decide)⟩
    refine steps_cons ?_ ?_
    ·rintro b a w' ⟨ha, Q_HZ, Q_KP, Q_HX, Q_HL, Q_HXn⟩ hb_ hon hoff
     refine ⟨_, rfl, fun K hK => ?_⟩
     have e136 : a.tmps[136]? = some (.pointer (some ⟨gx, 2, none⟩)) := by rw [ha]; exact putSel_on (e := (7, 136, .pointer (some ⟨gx, 2, none⟩))) 4 rfl rfl (hon 7 (by kernel_rfl)) rfl
     replace ha := Aside0.mk ha
     have HZ := Aside0.mk Q_HZ
     have KP := Aside0.mk Q_KP
     have HX := Aside0.mk (Q_HX (hoff 12 (by kernel_rfl)))
     have HL := Aside0.mk Q_HL
     have hc2_ : w'.cell? ⟨gx, 2, none⟩ = some (.int .i64 x2) := (blk_cell HX.out 2).trans rfl
     refine value_ (w1 := w') (v := .int .i64 x2) (by rfl) rfl ?_ ?_
     ·go_simp
      (try simp only [i64_w])
      try rfl
     refine hK.out _ _ ⟨(by rw [ha.out]; exact putSel_upk 5 hb_ rfl rfl rfl), Q_HZ, Q_KP, Q_HX, Q_HL, fun h0_ => absurd ((hoff 12 (by kernel_rfl)).symm.trans h0_) (by decide)⟩
    refine steps_cons ?_ ?_
    ·rintro b a w' ⟨ha, Q_HZ, Q_KP, Q_HX, Q_HL, Q_HXn⟩ hb_ hon hoff
     refine ⟨_, rfl, fun K hK => ?_⟩
     have e133 : a.tmps[133]? = some (.agg #[.int .i64 x7, .int .i64 x8]) := by rw [ha]; exact putSel_on (e := (4, 133, .agg #[.int .i64 x7, .int .i64 x8])) 2 rfl rfl (hon 4 (by kernel_rfl)) rfl
     have e137 : a.tmps[137]? = some (.int .i64 x2) := by rw [ha]; exact putSel_on (e := (8, 137, .int .i64 x2)) 5 rfl rfl (hon 8 (by kernel_rfl)) rfl
     replace ha := Aside0.mk ha
     have HZ := Aside0.mk Q_HZ
     have KP := Aside0.mk Q_KP
     have HX := Aside0.mk (Q_HX (hoff 12 (by kernel_rfl)))
     have HL := Aside0.mk Q_HL
     refine goes_ Tryd.func39 (by kernel_rfl) rfl #[.agg #[.int .i64 x7, .int .i64 x8], .int .i64 x2] (by rfl) rfl rfl (by first | (simp only [List.map_toArray, List.map_cons, List.map_nil, Act.eval, Array.getD_eq_getD_getElem?, Option.getD_some, e133, e137]; done) | (simp only [List.map_toArray, List.map_cons, List.map_nil, Act.eval, Array.getD_eq_getD_getElem?, Option.getD_some, e133, e137]; rfl)) ?_
     refine (moveOn.calls x7 x8 x2 w').mono ?_
     rintro e w5 ⟨rfl, hb⟩
     refine ⟨_, rfl, ?_⟩
     refine hK.out _ _ ⟨(by rw [ha.out]; exact putSel_upk 6 hb_ rfl rfl rfl), Below.trans HZ.out (Below.mono hb (Nat.zero_le _)), Kept.then_ KP.out (Kept.of_below hb (fun b => b = gx)) (fun b hb => .inl hb), fun _ => blk_below HX.out hb, blk_below HL.out hb, fun h0_ => absurd ((hoff 12 (by kernel_rfl)).symm.trans h0_) (by decide)⟩
    refine steps_cons ?_ ?_
    ·rintro b a w' ⟨ha, Q_HZ, Q_KP, Q_HX, Q_HL, Q_HXn⟩ hb_ hon hoff
     refine ⟨_, rfl, fun K hK => ?_⟩
     have e129 : a.tmps[129]? = some (.pointer (some ⟨gx, 0, none⟩)) := by rw [ha]; exact (putSel_off rfl).trans rfl
     replace ha := Aside0.mk ha
     have HZ := Aside0.mk Q_HZ
     have KP := Aside0.mk Q_KP
     have HX := Aside0.mk (Q_HX (hoff 12 (by kernel_rfl)))
     have HL := Aside0.mk Q_HL
     refine value_ (w1 := w') (v := .pointer (some ⟨gx, 0, none⟩)) (by rfl) rfl ?_ ?_
     ·go_simp
      (try simp only [i64_w])
      try rfl
     refine hK.out _ _ ⟨(by rw [ha.out]; exact putSel_upk 7 hb_ rfl rfl rfl), Q_HZ, Q_KP, Q_HX, Q_HL, fun h0_ => absurd ((hoff 12 (by kernel_rfl)).symm.trans h0_) (by decide)⟩
    refine steps_cons ?_ ?_
    ·rintro b a w' ⟨ha, Q_HZ, Q_KP, Q_HX, Q_HL, Q_HXn⟩ hb_ hon hoff
     refine ⟨_, rfl, fun K hK => ?_⟩
     have e139 : a.tmps[139]? = some (.pointer (some ⟨gx, 0, none⟩)) := by rw [ha]; exact putSel_on (e := (10, 139, .pointer (some ⟨gx, 0, none⟩))) 7 rfl rfl (hon 10 (by kernel_rfl)) rfl
     replace ha := Aside0.mk ha
     have HZ := Aside0.mk Q_HZ
     have KP := Aside0.mk Q_KP
     have HX := Aside0.mk (Q_HX (hoff 12 (by kernel_rfl)))
     have HL := Aside0.mk Q_HL
     refine value_ (w1 := w') (v := .pointer (some ⟨gx, 7, none⟩)) (by rfl) rfl ?_ ?_
     ·go_simp
      (try simp only [i64_w])
      try rfl
     refine hK.out _ _ ⟨(by rw [ha.out]; exact putSel_upk 8 hb_ rfl rfl rfl), Q_HZ, Q_KP, Q_HX, Q_HL, fun h0_ => absurd ((hoff 12 (by kernel_rfl)).symm.trans h0_) (by decide)⟩
    refine steps_cons ?_ ?_
    ·rintro b a w' ⟨ha, Q_HZ, Q_KP, Q_HX, Q_HL, Q_HXn⟩ hb_ hon hoff
     refine ⟨_, rfl, fun K hK => ?_⟩
     have e140 : a.tmps[140]? = some (.pointer (some ⟨gx, 7, none⟩)) := by rw [ha]; exact putSel_on (e := (11, 140, .pointer (some ⟨gx, 7, none⟩))) 8 rfl rfl (hon 11 (by kernel_rfl)) rfl
     have e138 : a.tmps[138]? = some (.agg #[.int .i64 x2, .int .i64 x7]) := by rw [ha]; exact putSel_on (e := (9, 138, .agg #[.int .i64 x2, .int .i64 x7])) 6 rfl rfl (hon 9 (by kernel_rfl)) rfl
     replace ha := Aside0.mk ha
     have HZ := Aside0.mk Q_HZ
     have KP := Aside0.mk Q_KP
     have HX := Aside0.mk (Q_HX hb_)
     have HL := Aside0.mk Q_HL
     have hz0_ := blk_cell HX.out 7
     have hz1_ := blk_cell HX.out 8
     have hf0_ := blk_frozen HX.out 7
     have hf1_ := blk_frozen HX.out 8
     refine skip_ (w1 := (w'.setCell ⟨gx, 7, none⟩ (.int .i64 x2)).setCell ⟨gx, 8, none⟩ (.int .i64 x7)) (by rfl) rfl ?_ ?_
     ·go_simp
     refine hK.out _ _ ⟨(by rw [ha.out]; exact putSel_none (v := undef) rfl), Below.setCell (Below.setCell HZ.out (p := ⟨gx, 7, none⟩) (Nat.zero_le _) (.int .i64 x2)) (p := ⟨gx, 8, none⟩) (Nat.zero_le _) (.int .i64 x7), Kept.setCell (Kept.setCell KP.out (p := ⟨gx, 7, none⟩) (.inl rfl) (.int .i64 x2)) (p := ⟨gx, 8, none⟩) (.inl rfl) (.int .i64 x7), fun h0_ => absurd ((up_self b 12).symm.trans h0_) (by decide), blk_far (blk_far HL.out (p := ⟨gx, 7, none⟩) HNE.out (.int .i64 x2)) (p := ⟨gx, 8, none⟩) HNE.out (.int .i64 x7), fun _ => blk_put (blk_put HX.out 7 (.int .i64 x2) rfl) 8 (.int .i64 x7) rfl⟩
    exact steps_nil
   rintro b a w12 hall ⟨ha, Q_HZ, Q_KP, Q_HX, Q_HL, Q_HXn⟩
   clear HL HX HZ KP
   have hb2_ := hall 2 (by kernel_rfl)
   have hb3_ := hall 3 (by kernel_rfl)
   have hb4_ := hall 4 (by kernel_rfl)
   have hb6_ := hall 6 (by kernel_rfl)
   have hb7_ := hall 7 (by kernel_rfl)
   have hb8_ := hall 8 (by kernel_rfl)
   have hb9_ := hall 9 (by kernel_rfl)
   have hb10_ := hall 10 (by kernel_rfl)
   have hb11_ := hall 11 (by kernel_rfl)
   have hb12_ := hall 12 (by kernel_rfl)
   subst ha
   simp only [putSel, hb2_, hb3_, hb4_, hb6_, hb7_, hb8_, hb9_, hb10_, hb11_, hb12_, if_true, Act.put, List.setIfInBounds_toArray, List.set_cons_zero, List.set_cons_succ]
   have HZ := Aside0.mk Q_HZ
   clear Q_HZ
   have KP := Aside0.mk Q_KP
   clear Q_KP
   clear Q_HX
   have HL := Aside0.mk Q_HL
   clear Q_HL
   have HXn := Aside0.mk (Q_HXn hb12_)
   clear Q_HXn
   clear hall hb2_ hb3_ hb4_ hb6_ hb7_ hb8_ hb9_ hb10_ hb11_ hb12_
   have HX := HXn
   clear HXn
   go_wp2
   go_end0
   exact ⟨rfl, HX.out, KP.out, HZ.out⟩

end Go.Proofs.YteccfnppbonniaaDoor.Pa

