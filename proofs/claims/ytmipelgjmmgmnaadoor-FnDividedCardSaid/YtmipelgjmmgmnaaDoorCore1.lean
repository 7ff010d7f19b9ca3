-- Written for this claim by a program of this session.
import Derived.Test.YtmipelgjmmgmnaaDoorPax0
import Derived.Lib.SlTrimSet
import Derived.Test.YtmipelgjmmgmnaaDoorShelfT
import Derived.Shelf.Abstract
/- Small laws of whole numbers and lists that the plain statements of this seat use. -/
namespace Go.Proofs.YtmipelgjmmgmnaaDoor.Pure
open Go.RowKit Go.Proofs.YtmipelgjmmgmnaaDoor.Pa Go.Proofs.YtmipelgjmmgmnaaDoorW.PrintWords Go.Proofs.YtmipelgjmmgmnaaDoorW.PrintLast
set_option linter.unusedVariables false
set_option linter.unusedSimpArgs false

theorem wrap_id {x : Int} (h0 : -9223372036854775808 ≤ x) (h1 : x ≤ 9223372036854775807) : wrap64 x = x := by
 unfold wrap64
 omega
theorem wf64 {x : Int} (h : (Lit.int .i64 x).wf = true) : -9223372036854775808 ≤ x ∧ x ≤ 9223372036854775807 := by
 simp only [Lit.wf, IntKind.min, IntKind.max, IntKind.signed, IntKind.bits, Bool.and_eq_true, decide_eq_true_eq, if_true] at h
 omega
theorem wf64' {x : Int} (h : -9223372036854775808 ≤ x ∧ x ≤ 9223372036854775807) : (Lit.int .i64 x).wf = true := by
 simp only [Lit.wf, IntKind.min, IntKind.max, IntKind.signed, IntKind.bits, Bool.and_eq_true, decide_eq_true_eq, if_true]
 omega
theorem rd_get {l : List Int} {i : Nat} (h : i < l.length) : rd l (i : Int) = l[i] := by
 unfold rd
 rw [List.getD_eq_getElem?_getD, Int.toNat_natCast, List.getElem?_eq_getElem h]
 rfl
/-- The numbers a, a + 1, .. -/
def numsFrom (a : Int) : Nat → List Int
 | 0 => []
 | n + 1 => a :: numsFrom (a + 1) n
theorem numsFrom_length (a : Int) (n : Nat) : (numsFrom a n).length = n := by
 induction n generalizing a with
 | zero => rfl
 | succ n ih => simp [numsFrom, ih]
theorem ev_intro {α : Type} {f : Nat → Option α} {r : α} (K : Nat) (h : ∀ k, K ≤ k → f k = some r) : Ev f r := ⟨K, h⟩
end Go.Proofs.YtmipelgjmmgmnaaDoor.Pure

namespace Go.Proofs.YtmipelgjmmgmnaaDoor.Pa
open Go.RowKit Go.Proofs.YtmipelgjmmgmnaaDoorW.PrintWords Go.Proofs.YtmipelgjmmgmnaaDoorW.PrintLast Go.Proofs.YtmipelgjmmgmnaaDoorW.PrintMore
attribute [local go_sem] max2_int min2_int max_two min_two max_three min_three max_four min_four   -- for this text's walks alone
set_option linter.unusedVariables false
set_option linter.unusedSimpArgs false

/-! ### spec_l01Wave: function 60 -/
def spec_l01Wave.l0 : Nat → ByteArray → Int → Option (Bool)
 | 0, _, _ => none
 | k + 1, x0, x3 => if x3 < (x0.size : Int) then (if 0 ≤ x3 then (if (bt x0 x3) = 48 then (spec_l01Wave.l0 k x0 (wrap64 (x3 + 1))) else (if (bt x0 x3) = 49 then (spec_l01Wave.l0 k x0 (wrap64 (x3 + 1))) else (some false))) else (none)) else (some (decide ((x0.size : Int) ≤ 400)))
def spec_l01Wave.f (k : Nat) (a0 : ByteArray) : Option (Bool) := spec_l01Wave.l0 k a0 0
theorem spec_l01Wave.mono_l : ∀ k, (∀ y0 y1, LeO (spec_l01Wave.l0 k y0 y1) (spec_l01Wave.l0 (k + 1) y0 y1))
 | 0 => fun _ _ r h => by simp [spec_l01Wave.l0] at h
 | k + 1 => by
  have ih0 := spec_l01Wave.mono_l k
  ·intro y0 y1
   unfold spec_l01Wave.l0
   repeat' first
   | (with_reducible exact ih0 _ _)
   | (with_reducible exact LeO.refl _)
   | (with_reducible exact LeO.none _)
   | (with_reducible refine LeO.ite ?_ ?_)
   | (with_reducible refine LeO.bind ?_ (fun _ => ?_))
   | exact ih0 _ _
   | exact LeO.none _
   | refine LeO.ite ?_ ?_
   | refine LeO.bind ?_ (fun _ => ?_)
theorem spec_l01Wave.mono : ∀ a0 k, LeO (spec_l01Wave.f k a0) (spec_l01Wave.f (k + 1) a0) := by
 intro a0 k
 have ih0 := spec_l01Wave.mono_l k
 unfold spec_l01Wave.f
 repeat' first
   | (with_reducible exact ih0 _ _)
   | (with_reducible exact LeO.refl _)
   | (with_reducible exact LeO.none _)
   | (with_reducible refine LeO.ite ?_ ?_)
   | (with_reducible refine LeO.bind ?_ (fun _ => ?_))
   | exact ih0 _ _
   | exact LeO.none _
   | refine LeO.ite ?_ ?_
   | refine LeO.bind ?_ (fun _ => ?_)
set_option maxHeartbeats 8000000 in
set_option maxRecDepth 100000 in
theorem spec_l01Wave.calls (k : Nat) (a0 : ByteArray) (r : Bool) (w : World) (h : spec_l01Wave.f k a0 = some r) :
  Calls Tryd.prog 60 #[.string a0] w fun e w' => e = .returned (.bool r) ∧ Drawn0 w w' := by
 have H : (spec_l01Wave.l0 k a0 0) = some r := h
 clear h
 have H' := Aside0.mk H
 clear H
 go_enter Tryd.func60, Tryd.ntmps60
 go_wp2
 go_loopg [3] k (fun kq v3 w' => ∃ (x3_1 : Int), v3 = .int .i64 x3_1 ∧ Aside0 (spec_l01Wave.l0 kq a0 x3_1 = some r) ∧ Aside0 (kq ≤ k) ∧ Drawn0 w w')
 case atStart => exact ⟨(0), (by first | rfl | (simp; done) | (simp [*]; done)), H', ⟨Nat.le_refl _⟩, by repeat (first | exact Drawn0.refl _ | apply Drawn0.step)⟩
 case round =>
  clear H'
  obtain ⟨x3_1, rfl, HA, HK1, ⟨m1, rfl⟩⟩ := hrel
  cases gk with
  | zero => exact absurd HA.out (by simp [spec_l01Wave.l0])
  | succ k1 =>
   have H := HA.out
   clear HA
   simp only [spec_l01Wave.l0] at H
   by_cases c2 : x3_1 < (a0.size : Int)
   ·rw [if_pos c2] at H
    have c2b0 : decide (x3_1 < (a0.size : Int)) = true := decide_eq_true c2
    clear c2
    by_cases c3 : 0 ≤ x3_1
    ·rw [if_pos c3] at H
     have c3b0 : decide (0 ≤ x3_1) = true := decide_eq_true c3
     clear c3
     by_cases c5 : (bt a0 x3_1) = 48
     ·rw [if_pos c5] at H
      have c5b0 : ((bt a0 x3_1) == 48) = true := beq_iff_eq.mpr c5
      have c5b1 : ((bt a0 x3_1) != 48) = false := bne_eq_false_iff_eq.mpr c5
      clear c5
      have H' := Aside0.mk H
      clear H
      have p4 : 0 ≤ (x3_1 : Int) := of_decide_eq_true (by with_reducible assumption)
      have q4 : x3_1 < (a0.size : Int) := of_decide_eq_true (by with_reducible assumption)
      have hx4 := bt_at a0 x3_1
      replace p4 := eq_true p4
      replace q4 := eq_true q4
      go_wp2
      go_roundg k1
      case measure => have := HK1.out; omega
      case rel => exact ⟨(wrap64 (x3_1 + 1)), (by first | rfl | (simp; done) | (simp [*]; done)), H', ⟨by have := HK1.out; omega⟩, by repeat (first | exact Drawn0.refl _ | apply Drawn0.step)⟩
     ·rw [if_neg c5] at H
      have c5b0 : ((bt a0 x3_1) == 48) = false := beq_eq_false_iff_ne.mpr c5
      have c5b1 : ((bt a0 x3_1) != 48) = true := bne_iff_ne.mpr c5
      by_cases c7 : (bt a0 x3_1) = 49
      ·rw [if_pos c7] at H
       have c7b0 : ((bt a0 x3_1) == 49) = true := beq_iff_eq.mpr c7
       have c7b1 : ((bt a0 x3_1) != 49) = false := bne_eq_false_iff_eq.mpr c7
       clear c7
       have H' := Aside0.mk H
       clear H
       have p4 : 0 ≤ (x3_1 : Int) := of_decide_eq_true (by with_reducible assumption)
       have q4 : x3_1 < (a0.size : Int) := of_decide_eq_true (by with_reducible assumption)
       have hx4 := bt_at a0 x3_1
       replace p4 := eq_true p4
       replace q4 := eq_true q4
       have p6 : 0 ≤ (x3_1 : Int) := of_decide_eq_true (by with_reducible assumption)
       have q6 : x3_1 < (a0.size : Int) := of_decide_eq_true (by with_reducible assumption)
       have hx6 := bt_at a0 x3_1
       replace p6 := eq_true p6
       replace q6 := eq_true q6
       go_wp2
       go_roundg k1
       case measure => have := HK1.out; omega
       case rel => exact ⟨(wrap64 (x3_1 + 1)), (by first | rfl | (simp; done) | (simp [*]; done)), H', ⟨by have := HK1.out; omega⟩, by repeat (first | exact Drawn0.refl _ | apply Drawn0.step)⟩
      ·rw [if_neg c7] at H
       have c7b0 : ((bt a0 x3_1) == 49) = false := beq_eq_false_iff_ne.mpr c7
       have c7b1 : ((bt a0 x3_1) != 49) = true := bne_iff_ne.mpr c7
       obtain rfl := Option.some.inj H
       have p4 : 0 ≤ (x3_1 : Int) := of_decide_eq_true (by with_reducible assumption)
       have q4 : x3_1 < (a0.size : Int) := of_decide_eq_true (by with_reducible assumption)
       have hx4 := bt_at a0 x3_1
       replace p4 := eq_true p4
       replace q4 := eq_true q4
       have p6 : 0 ≤ (x3_1 : Int) := of_decide_eq_true (by with_reducible assumption)
       have q6 : x3_1 < (a0.size : Int) := of_decide_eq_true (by with_reducible assumption)
       have hx6 := bt_at a0 x3_1
       replace p6 := eq_true p6
       replace q6 := eq_true q6
       go_wp2
       go_ret
       exact ⟨by first | rfl | (simp; done) | (simp [*]; done), by repeat (first | exact Drawn0.refl _ | apply Drawn0.step)⟩
    ·rw [if_neg c3] at H
     exact absurd H (by simp)
   ·rw [if_neg c2] at H
    have c2b0 : decide (x3_1 < (a0.size : Int)) = false := decide_eq_false c2
    clear c2
    obtain rfl := Option.some.inj H
    go_wp2
    go_ret
    exact ⟨by first | rfl | (simp; done) | (simp [*]; done), by repeat (first | exact Drawn0.refl _ | apply Drawn0.step)⟩

end Go.Proofs.YtmipelgjmmgmnaaDoor.Pa

namespace Go.Proofs.YtmipelgjmmgmnaaDoor.Pa
open Go.RowKit Go.Proofs.YtmipelgjmmgmnaaDoorW.PrintWords Go.Proofs.YtmipelgjmmgmnaaDoorW.PrintLast Go.Proofs.YtmipelgjmmgmnaaDoorW.PrintMore
attribute [local go_sem] max2_int min2_int max_two min_two max_three min_three max_four min_four   -- for this text's walks alone
set_option linter.unusedVariables false
set_option linter.unusedSimpArgs false

/-! ### AUX trimmed -/
theorem dropWhile_all {α : Type} (p : α → Bool) : ∀ l : List α, l.all p = true → l.dropWhile p = []
 | [], _ => rfl
 | a :: l, h => by
  simp only [List.all_cons, Bool.and_eq_true] at h
  rw [List.dropWhile_cons, if_pos h.1]
  exact dropWhile_all p l h.2
theorem all_dropWhile {α : Type} (p : α → Bool) : ∀ l : List α, (l.dropWhile p).all p = true → l.all p = true
 | [], _ => rfl
 | a :: l, h => by
  by_cases ha : p a = true
  ·rw [List.dropWhile_cons, if_pos ha] at h
   simp only [List.all_cons, Bool.and_eq_true]
   exact ⟨ha, all_dropWhile p l h⟩
  ·rw [List.dropWhile_cons, if_neg ha] at h
   exact h
theorem all_of_nil {α : Type} (p : α → Bool) (l : List α) (h : l.dropWhile p = []) : l.all p = true := all_dropWhile p l (by rw [h]; rfl)
theorem all_reverse {α : Type} (p : α → Bool) (l : List α) : l.reverse.all p = l.all p := by
 rw [Bool.eq_iff_iff, List.all_eq_true, List.all_eq_true]
 simp
/-- What Trim leaves is empty exactly where all letters are in the cutset. -/
theorem trimS_nil (l cs : List UInt8) : Lib.trimS l cs = [] ↔ l.all (fun b => cs.contains b) = true := by
 unfold Lib.trimS Lib.trimLeftS Lib.trimRightS
 constructor
 ·intro h
  have h1 := all_of_nil _ _ h
  rw [all_reverse] at h1
  have h2 := all_dropWhile _ _ h1
  rwa [all_reverse] at h2
 ·intro h
  rw [dropWhile_all _ l.reverse (by rw [all_reverse]; exact h)]
  rfl
/-- The text behind a list of letters, and whether it is empty. -/
def txt (l : List UInt8) : ByteArray := ⟨l.toArray⟩
theorem txt_toList (l : List UInt8) : (txt l).toList = l := by
 rw [Lib.toList_data]
 rfl
theorem txt_empty (l : List UInt8) : (txt l).toList.isEmpty = l.isEmpty := by rw [txt_toList]

end Go.Proofs.YtmipelgjmmgmnaaDoor.Pa

namespace Go.Proofs.YtmipelgjmmgmnaaDoor.Pa
open Go.RowKit Go.Proofs.YtmipelgjmmgmnaaDoorW.PrintWords Go.Proofs.YtmipelgjmmgmnaaDoorW.PrintLast Go.Proofs.YtmipelgjmmgmnaaDoorW.PrintMore
attribute [local go_sem] max2_int min2_int max_two min_two max_three min_three max_four min_four   -- for this text's walks alone
set_option linter.unusedVariables false
set_option linter.unusedSimpArgs false

/-! ### impl_IsWave: function 62 -/
/-- The letters of a wave. -/
def waveB (l : List UInt8) : Bool := l.all fun b => [(48 : UInt8), 49].contains b
def isWaveB (s : ByteArray) : Bool := decide (s.size ≤ 400) && waveB s.data.toList
def impl_IsWave.f (a0 : ByteArray) : Option (Bool) := some (isWaveB a0)
set_option maxHeartbeats 2000000 in
set_option maxRecDepth 100000 in
theorem impl_IsWave.calls (a0 : ByteArray) (r : Bool) (w : World) (h : impl_IsWave.f a0 = some r) :
  Calls Tryd.prog 62 #[.string a0] w fun e w' => e = .returned (.bool r) ∧ Below w.heap.size w w' := by
 obtain rfl := Option.some.inj h
 clear h
 by_cases hl : a0.size ≤ 400
 ·have c1 : decide ((a0.size : Int) ≤ 400) = true := decide_eq_true (by omega)
  have c2 : decide (a0.size ≤ 400) = true := decide_eq_true hl
  have HT := Aside0.mk (Any.strings_Trim_laid Tryd.lays160 (by kernel_rfl) a0 ⟨#[48, 49]⟩ w (by omega) (by decide) (ascii_of_all (by decide)))
  have HE : Aside0 (isWaveB a0 = waveB a0.data.toList) := ⟨by unfold isWaveB; rw [c2]; rfl⟩
  have HN : Aside0 ((txt (Lib.trimS a0.data.toList [48, 49])).toList.isEmpty = waveB a0.data.toList) := ⟨by
   rw [txt_empty, Bool.eq_iff_iff, List.isEmpty_iff]
   exact trimS_nil _ _⟩
  replace HT : Aside0 (Calls Tryd.prog 99 #[.string a0, .string ⟨#[48, 49]⟩] w fun e w' => e = .returned (.string (txt (Lib.trimS a0.data.toList [48, 49]))) ∧ Below w.heap.size w w') := HT
  clear hl
  generalize isWaveB a0 = q at HE ⊢
  generalize txt (Lib.trimS a0.data.toList [48, 49]) = t at HT HN
  generalize waveB a0.data.toList = q1 at HE HN
  cases q1 with
  | true =>
   have n1 := HN.out
   go_enter Tryd.func62, Tryd.ntmps62
   go_wp2_with (go_at_call 99; refine HT.out.mono ?_; rintro e w' ⟨rfl, hb'⟩)
   go_ret
   exact ⟨by rw [HE.out]; rfl, hb'⟩
  | false =>
   have n1 := HN.out
   go_enter Tryd.func62, Tryd.ntmps62
   go_wp2_with (go_at_call 99; refine HT.out.mono ?_; rintro e w' ⟨rfl, hb'⟩)
   go_ret
   exact ⟨by rw [HE.out]; rfl, hb'⟩
 ·have c1 : decide ((a0.size : Int) ≤ 400) = false := decide_eq_false (by omega)
  have c2 : decide (a0.size ≤ 400) = false := decide_eq_false hl
  have HE : Aside0 (isWaveB a0 = false) := ⟨by unfold isWaveB; rw [c2]; rfl⟩
  clear hl
  generalize isWaveB a0 = q at HE ⊢
  go_enter Tryd.func62, Tryd.ntmps62
  go_wp2
  go_ret
  exact ⟨by rw [HE.out]; rfl, Below.refl _ _⟩

end Go.Proofs.YtmipelgjmmgmnaaDoor.Pa

namespace Go.Proofs.YtmipelgjmmgmnaaDoor.Pa
open Go.RowKit Go.Proofs.YtmipelgjmmgmnaaDoorW.PrintWords Go.Proofs.YtmipelgjmmgmnaaDoorW.PrintLast Go.Proofs.YtmipelgjmmgmnaaDoorW.PrintMore
attribute [local go_sem] max2_int min2_int max_two min_two max_three min_three max_four min_four   -- for this text's walks alone
set_option linter.unusedVariables false
set_option linter.unusedSimpArgs false

/-! ### AUX side -/
/-- Blocks from B up to M may have been written; all else of the elder world is as it was. -/
structure Side (B M : Nat) (w w' : World) : Prop where
 os : w'.os = w.os
 tape : w'.tape = w.tape
 output : w'.output = w.output
 size : w.heap.size ≤ w'.heap.size
 block : ∀ k, k < w.heap.size → (k < B ∨ M ≤ k) → w'.heap[k]? = w.heap[k]?
theorem Side.below {B M : Nat} {w w' : World} (h : Side B M w w') (hB : B ≤ w.heap.size) : Below B w w' :=
 ⟨h.os, h.tape, h.output, h.size, fun k hk => h.block k (Nat.lt_of_lt_of_le hk hB) (.inl hk)⟩
theorem Side.of_below {B M : Nat} {w w' : World} (h : Below w.heap.size w w') : Side B M w w' := ⟨h.os, h.tape, h.output, h.size, fun k hk _ => h.block k hk⟩
theorem Side.trans {B M : Nat} {a b c : World} (h : Side B M a b) (k : Side B M b c) : Side B M a c :=
 ⟨k.os.trans h.os, k.tape.trans h.tape, k.output.trans h.output, Nat.le_trans h.size k.size, fun i hi ho => (k.block i (Nat.lt_of_lt_of_le hi h.size) ho).trans (h.block i hi ho)⟩
theorem Side.drew {B M : Nat} {W w : World} (h : Side B M W w) : Side B M W w.drew := ⟨h.os, h.tape, h.output, h.size, h.block⟩
theorem Side.refl (B M : Nat) (w : World) : Side B M w w := ⟨rfl, rfl, rfl, Nat.le_refl _, fun _ _ _ => rfl⟩
theorem Side.alloc {B M : Nat} {W w : World} (h : Side B M W w) (o : Obj) : Side B M W (w.alloc o) := h.trans (Side.of_below (below_alloc (Below.refl _ _) _))
theorem Side.set {B M : Nat} {W w : World} (h : Side B M W w) {b : Nat} (h1 : B ≤ b) (h2 : b < M) (o : Nat) (v : Value) : Side B M W (w.setCell ⟨b, o, none⟩ v) :=
 h.trans ⟨rfl, rfl, rfl, by simp [World.setCell], fun k _ ho => Below.heap_setCell w ⟨b, o, none⟩ v k (by show k ≠ b; omega)⟩
/-- A store into a block of one's own. -/
theorem Side.set_new {B M : Nat} {W w : World} (h : Side B M W w) {b : Nat} (h1 : W.heap.size ≤ b) (o : Nat) (v : Value) : Side B M W (w.setCell ⟨b, o, none⟩ v) :=
 ⟨h.os, h.tape, h.output, Nat.le_trans h.size (by simp [World.setCell]), fun k hk ho => (Below.heap_setCell w ⟨b, o, none⟩ v k (by show k ≠ b; omega)).trans (h.block k hk ho)⟩
/-- What a function on the ticks tells, as bytes. -/
def waveL (lv : Nat → Bool) (n : Nat) : List Int := (List.range n).map fun i => if lv i = true then 49 else 48
theorem waveL_succ (lv : Nat → Bool) (n : Nat) : waveL lv (n + 1) = waveL lv n ++ [if lv n = true then 49 else 48] := by
 unfold waveL
 rw [List.range_succ, List.map_append]
 rfl
theorem waveL_length (lv : Nat → Bool) (n : Nat) : (waveL lv n).length = n := by unfold waveL; simp

end Go.Proofs.YtmipelgjmmgmnaaDoor.Pa

/- What waves are to the reference: small laws of texts of levels, and of loops that lay a list letter by letter. -/
namespace Go.Proofs.YtmipelgjmmgmnaaDoor.Pure
open Go.RowKit Go.Proofs.YtmipelgjmmgmnaaDoor.Pa Go.Proofs.YtmipelgjmmgmnaaDoorW.PrintWords Go.Proofs.YtmipelgjmmgmnaaDoorW.PrintLast
set_option linter.unusedVariables false
set_option linter.unusedSimpArgs false
/-- A loop that lays one number a round. -/
theorem run_from {β : Type} (L : Nat → List Int → Nat → Option β) (n c : Nat) (o : Nat → Int) (res : List Int → β)
  (hstep : ∀ k out i, i < n → out.length = i → L (k + c) out i = L k (out ++ [o i]) (i + 1))
  (hend : ∀ k out, out.length = n → L (k + 1) out n = some (res out)) :
  ∀ d i out k, n - i = d → i ≤ n → out.length = i → d * c < k → L k out i = some (res (out ++ (List.range' i d).map o))
 | 0, i, out, k, hd, hi, ho, hk => by
  obtain rfl : i = n := by omega
  obtain ⟨k, rfl⟩ : ∃ m, k = m + 1 := ⟨k - 1, by omega⟩
  rw [hend k out ho]
  simp
 | d + 1, i, out, k, hd, hi, ho, hk => by
  have hc : (d + 1) * c = d * c + c := Nat.succ_mul d c
  obtain ⟨k, rfl⟩ : ∃ m, k = m + c := ⟨k - c, by omega⟩
  rw [hstep k out i (by omega) ho, run_from L n c o res hstep hend d (i + 1) (out ++ [o i]) k (by omega) (by omega) (by simp [ho]) (by omega)]
  rw [List.range'_succ, List.map_cons, List.append_assoc]
  rfl
theorem run_loop {β : Type} (L : Nat → List Int → Nat → Option β) (n c : Nat) (o : Nat → Int) (res : List Int → β)
  (hstep : ∀ k out i, i < n → out.length = i → L (k + c) out i = L k (out ++ [o i]) (i + 1))
  (hend : ∀ k out, out.length = n → L (k + 1) out n = some (res out)) (k : Nat) (hk : n * c < k) : L k [] 0 = some (res ((List.range n).map o)) := by
 rw [run_from L n c o res hstep hend n 0 [] k (by omega) (by omega) rfl hk, List.nil_append, List.range_eq_range']
theorem bt_get (s : ByteArray) (i : Nat) (h : i < s.data.toList.length) : bt s (i : Int) = ((s.data.toList[i]).toNat : Int) := by
 have h' : i < s.size := by simpa using h
 unfold bt
 rw [Int.toNat_natCast, dif_pos h']
 simp [ByteArray.getElem_eq_getElem_data]
theorem size_list (s : ByteArray) : s.size = s.data.toList.length := by simp
theorem in_levels (b : UInt8) : [(48 : UInt8), 49].contains b = ((b.toNat : Int) == 48 || (b.toNat : Int) == 49) := by
 have h48 : (b == 48) = ((b.toNat : Int) == 48) := by
  rw [Bool.eq_iff_iff, beq_iff_eq, beq_iff_eq, ← UInt8.toNat_inj]
  simp
  omega
 have h49 : (b == 49) = ((b.toNat : Int) == 49) := by
  rw [Bool.eq_iff_iff, beq_iff_eq, beq_iff_eq, ← UInt8.toNat_inj]
  simp
  omega
 simp only [List.contains, List.elem, h48, h49]
 cases ((b.toNat : Int) == 48) <;> cases ((b.toNat : Int) == 49) <;> rfl
/-- Each letter of a wave is a level. -/
theorem wave_bt {s : ByteArray} (h : waveB s.data.toList = true) {i : Nat} (hi : i < s.size) : bt s (i : Int) = 48 ∨ bt s (i : Int) = 49 := by
 have hl : i < s.data.toList.length := by rw [← size_list]; exact hi
 rw [bt_get s i hl]
 have := List.all_eq_true.1 h _ (List.getElem_mem hl)
 rw [in_levels] at this
 simpa using this
theorem wave_loop (s : ByteArray) (hs : s.size ≤ 140737488351232) : ∀ d i k, s.size - i = d → i ≤ s.size → d < k →
  spec_l01Wave.l0 k s (i : Int) = some ((s.data.toList.drop i).all (fun b => [(48 : UInt8), 49].contains b) && decide (s.size ≤ 400))
 | 0, i, k, hd, hi, hk => by
  obtain rfl : i = s.size := by omega
  obtain ⟨k, rfl⟩ : ∃ m, k = m + 1 := ⟨k - 1, by omega⟩
  simp only [spec_l01Wave.l0]
  rw [if_neg (by omega), List.drop_of_length_le (by rw [← size_list]; exact Nat.le_refl _)]
  simp
  omega
 | d + 1, i, k, hd, hi, hk => by
  obtain ⟨k, rfl⟩ : ∃ m, k = m + 1 := ⟨k - 1, by omega⟩
  have hl : i < s.data.toList.length := by rw [← size_list]; omega
  have hw : wrap64 ((i : Int) + 1) = ((i + 1 : Nat) : Int) := by rw [wrap_id (by omega) (by omega)]; omega
  simp only [spec_l01Wave.l0]
  rw [if_pos (by omega), if_pos (by omega), hw, wave_loop s hs d (i + 1) k (by omega) (by omega) (by omega), List.drop_eq_getElem_cons hl, List.all_cons, in_levels, bt_get s i hl]
  by_cases h1 : ((s.data.toList[i].toNat : Int)) = 48
  ·rw [if_pos h1, h1]; rfl
  ·rw [if_neg h1]
   by_cases h2 : ((s.data.toList[i].toNat : Int)) = 49
   ·rw [if_pos h2, h2]; rfl
   ·rw [if_neg h2, beq_eq_false_iff_ne.2 h1, beq_eq_false_iff_ne.2 h2]; rfl
/-- The reference's test of a wave, and the program's. -/
theorem wave_tells (s : ByteArray) (hs : s.size ≤ 140737488351232) (k : Nat) (hk : s.size < k) : spec_l01Wave.f k s = some (isWaveB s) := by
 have h := wave_loop s hs s.size 0 k (by omega) (by omega) hk
 rw [List.drop_zero] at h
 refine Eq.trans h ?_
 unfold isWaveB waveB
 rw [Bool.and_comm]
end Go.Proofs.YtmipelgjmmgmnaaDoor.Pure

namespace Go.Proofs.YtmipelgjmmgmnaaDoor.Pa
open Go.RowKit Go.Proofs.YtmipelgjmmgmnaaDoorW.PrintWords Go.Proofs.YtmipelgjmmgmnaaDoorW.PrintLast Go.Proofs.YtmipelgjmmgmnaaDoorW.PrintMore
attribute [local go_sem] max2_int min2_int max_two min_two max_three min_three max_four min_four   -- for this text's walks alone
set_option linter.unusedVariables false
set_option linter.unusedSimpArgs false

/-! ### spec_l00In: function 59 -/
def spec_l00In.f (a0 : Int) (a1 : Int) (a2 : Int) : Option (Bool) := if a0 ≥ a1 then (some (decide (a0 ≤ a2))) else (some false)
set_option maxHeartbeats 8000000 in
set_option maxRecDepth 100000 in
theorem spec_l00In.calls (a0 : Int) (a1 : Int) (a2 : Int) (r : Bool) (w : World) (h : spec_l00In.f a0 a1 a2 = some r) :
  Calls Tryd.prog 59 #[.int .i64 a0, .int .i64 a1, .int .i64 a2] w fun e w' => e = .returned (.bool r) ∧ Drawn0 w w' := by
 have H : (if a0 ≥ a1 then (some (decide (a0 ≤ a2))) else (some false)) = some r := h
 clear h
 by_cases c4 : a0 ≥ a1
 ·rw [if_pos c4] at H
  have c4b0 : decide (a1 ≤ a0) = true := decide_eq_true c4
  clear c4
  obtain rfl := Option.some.inj H
  go_enter Tryd.func59, Tryd.ntmps59
  go_wp2
  go_ret
  exact ⟨by first | rfl | (simp; done) | (simp [*]; done), by repeat (first | exact Drawn0.refl _ | apply Drawn0.step)⟩
 ·rw [if_neg c4] at H
  have c4b0 : decide (a1 ≤ a0) = false := decide_eq_false c4
  clear c4
  obtain rfl := Option.some.inj H
  go_enter Tryd.func59, Tryd.ntmps59
  go_wp2
  go_ret
  exact ⟨by first | rfl | (simp; done) | (simp [*]; done), by repeat (first | exact Drawn0.refl _ | apply Drawn0.step)⟩

end Go.Proofs.YtmipelgjmmgmnaaDoor.Pa

namespace Go.Proofs.YtmipelgjmmgmnaaDoor.Pa
open Go.RowKit Go.Proofs.YtmipelgjmmgmnaaDoorW.PrintWords Go.Proofs.YtmipelgjmmgmnaaDoorW.PrintLast Go.Proofs.YtmipelgjmmgmnaaDoorW.PrintMore
attribute [local go_sem] max2_int min2_int max_two min_two max_three min_three max_four min_four   -- for this text's walks alone
set_option linter.unusedVariables false
set_option linter.unusedSimpArgs false

/-- A state of type 32 at block g of W; what its slices lead to came in by w0. -/
def IsS32 (w0 W : World) (g : Nat) (f0 : Int) (f1 : Int) : Prop := W.heap[g]? = some (.cells #[.int .i64 f0, .int .i64 f1] 32 (0, 0)) ∧ w0.heap.size ≤ g
theorem IsS32.grown {w0 W : World} {g : Nat} {f0 : Int} {f1 : Int} {W1 : World} {row : Option Nat} (h : IsS32 w0 W g f0 f1) (hw : W.grownBy W1 row) (hne : some g ≠ row) : IsS32 w0 W1 g f0 f1 := by
 obtain ⟨hb, hg⟩ := h
 exact ⟨blk_grown hb hw hne, hg⟩
theorem IsS32.own_neN {w0 W : World} {g : Nat} {f0 : Int} {f1 : Int} {α : Type} {d : Kd α} {e : Nat} {base : Nat} {ok : Nat → Prop} {v : Value} {xs : List α} (h : IsS32 w0 W g f0 f1) (ho : Kd.N d e W base ok v xs) (ht : e ≠ 32) : some g ≠ v.ownBlock := by
 obtain ⟨hb, hg⟩ := h
 exact Kd.N_ne ho hb ht
theorem IsS32.fresh {w0 W : World} {g : Nat} {f0 : Int} {f1 : Int} (h : IsS32 w0 W g f0 f1) : ∀ k, W.heap.size ≤ k → k ≠ g := by
 obtain ⟨hb, hg⟩ := h
 exact Kd.freshB hb
theorem IsS32.kept {w0 W : World} {g : Nat} {f0 : Int} {f1 : Int} {W1 : World} {S : Nat → Prop} (h : IsS32 w0 W g f0 f1) (hk : Kept W W1 S) (hne : ¬ S g) : IsS32 w0 W1 g f0 f1 := by
 obtain ⟨hb, hg⟩ := h
 exact ⟨blk_kept hb hk hne, hg⟩
theorem IsS32.below {w0 W : World} {g : Nat} {f0 : Int} {f1 : Int} {W1 : World} (h : IsS32 w0 W g f0 f1) (hw : Below W.heap.size W W1) : IsS32 w0 W1 g f0 f1 := h.grown (grown_of_below hw none) (by simp)
theorem IsS32.alloc {w0 W : World} {g : Nat} {f0 : Int} {f1 : Int} (h : IsS32 w0 W g f0 f1) (o : Obj) : IsS32 w0 (W.alloc o) g f0 f1 := h.below (below_alloc (Below.refl _ _) o)
theorem IsS32.drewN {w0 W : World} {g : Nat} {f0 : Int} {f1 : Int} (h : IsS32 w0 W g f0 f1) (m : Nat) : IsS32 w0 (W.drewN m) g f0 f1 := h
theorem IsS32.drew {w0 W : World} {g : Nat} {f0 : Int} {f1 : Int} (h : IsS32 w0 W g f0 f1) : IsS32 w0 W.drew g f0 f1 := h
theorem IsS32.at_ {w0 W : World} {g : Nat} {f0 : Int} {f1 : Int} {w' : World} {m : Nat} (hq : W.drewN m = w') (h : IsS32 w0 W g f0 f1) : IsS32 w0 w' g f0 f1 := by subst hq; exact IsS32.drewN h m
theorem IsS32.apart {w0 W : World} {g : Nat} {f0 : Int} {f1 : Int} {α : Type} {d : Kd α} {e : Nat} {base : Nat} {ok : Nat → Prop} {v : Value} {xs : List α} (h : IsS32 w0 W g f0 f1) (ho : d.R e W base ok v xs) (ht : ∀ q, q ∈ e :: d.E → q ≠ 32) : d.R e W base (fun k => ok k ∧ k ≠ g) v xs := by
 obtain ⟨hb, hg⟩ := h
 exact Kd.R_types ho hb ht
theorem IsS32.own_ne {w0 W : World} {g : Nat} {f0 : Int} {f1 : Int} {α : Type} {d : Kd α} {e : Nat} {base : Nat} {ok : Nat → Prop} {v : Value} {xs : List α} (h : IsS32 w0 W g f0 f1) (ho : d.R e W base ok v xs) (ht : e ≠ 32) : some g ≠ v.ownBlock := by
 obtain ⟨hb, hg⟩ := h
 exact Kd.R_ne ho hb ht
theorem IsS32.apartQ {w0 W : World} {g : Nat} {f0 : Int} {f1 : Int} {α : Type} {d : Kd α} {e : Nat} {base : Nat} {ok : Nat → Prop} {v : Value} {xs : List α} (h : IsS32 w0 W g f0 f1) (ho : d.Q e W base ok v xs) (ht : ∀ q, q ∈ e :: d.E → q ≠ 32) : d.Q e W base (fun k => ok k ∧ k ≠ g) v xs := by
 obtain ⟨hb, hg⟩ := h
 exact Kd.Q_types ho hb ht
theorem IsS32.own_neQ {w0 W : World} {g : Nat} {f0 : Int} {f1 : Int} {α : Type} {d : Kd α} {e : Nat} {base : Nat} {ok : Nat → Prop} {v : Value} {xs : List α} (h : IsS32 w0 W g f0 f1) (ho : d.Q e W base ok v xs) (ht : e ≠ 32) : some g ≠ v.ownBlock := by
 obtain ⟨hb, hg⟩ := h
 exact Kd.Q_ne ho hb ht
theorem IsS32.apartS {w0 W : World} {g : Nat} {f0 : Int} {f1 : Int} {α : Type} {d : Kd α} {e : Nat} {base : Nat} {ok : Nat → Prop} {v : Value} {xs : List α} (h : IsS32 w0 W g f0 f1) (ho : d.S e W base ok v xs) (ht : ∀ q, q ∈ e :: d.E → q ≠ 32) : d.S e W base (fun k => ok k ∧ k ≠ g) v xs := by
 obtain ⟨hb, hg⟩ := h
 exact Kd.S_types ho hb ht
theorem IsS32.own_neS {w0 W : World} {g : Nat} {f0 : Int} {f1 : Int} {α : Type} {d : Kd α} {e : Nat} {base : Nat} {ok : Nat → Prop} {v : Value} {xs : List α} (h : IsS32 w0 W g f0 f1) (ho : d.S e W base ok v xs) (ht : e ≠ 32) : some g ≠ v.ownBlock := by
 obtain ⟨hb, hg⟩ := h
 exact Kd.S_ne ho hb ht
theorem IsS32.lt {w0 W : World} {g : Nat} {f0 : Int} {f1 : Int} (h : IsS32 w0 W g f0 f1) : g < W.heap.size := by
 obtain ⟨hb, hg⟩ := h
 exact blk_lt hb
theorem IsS32.ge {w0 W : World} {g : Nat} {f0 : Int} {f1 : Int} (h : IsS32 w0 W g f0 f1) : w0.heap.size ≤ g := by
 obtain ⟨hb, hg⟩ := h
 exact hg
theorem IsS32.ne_blk {w0 W : World} {g : Nat} {f0 : Int} {f1 : Int} {a : Nat} {cs : Array Value} {t : TypeId} {fr : Nat × Nat} (h : IsS32 w0 W g f0 f1) (hb2 : W.heap[a]? = some (.cells cs t fr)) (ht : t ≠ 32) : g ≠ a := by
 obtain ⟨hb, hg⟩ := h
 rintro rfl
 rw [hb] at hb2
 injection hb2 with hb2
 injection hb2 with _ ht2
 exact ht ht2.symm
theorem IsS32.far {w0 W : World} {g : Nat} {f0 : Int} {f1 : Int} {p : Addr} (h : IsS32 w0 W g f0 f1) (hne : g ≠ p.block) (u : Value) : IsS32 w0 (W.setCell p u) g f0 f1 := by
 obtain ⟨hb, hg⟩ := h
 exact ⟨blk_far hb hne u, hg⟩
theorem cellS32_0 {W : World} {g : Nat} {f0 : Int} {f1 : Int} (h : W.heap[g]? = some (.cells #[.int .i64 f0, .int .i64 f1] 32 (0, 0))) : W.cell? ⟨g, 0, none⟩ = some (.int .i64 f0) := (blk_cell h 0).trans rfl
theorem IsS32.set_0 {w0 W : World} {g : Nat} {f0 : Int} {f1 : Int} (h : IsS32 w0 W g f0 f1) (x : Int) : IsS32 w0 (W.setCell ⟨g, 0, none⟩ (.int .i64 x)) g x f1 := by
 obtain ⟨hb, hg⟩ := h
 exact ⟨by simpa using blk_set hb 0 (.int .i64 x), hg⟩
theorem cellS32_1 {W : World} {g : Nat} {f0 : Int} {f1 : Int} (h : W.heap[g]? = some (.cells #[.int .i64 f0, .int .i64 f1] 32 (0, 0))) : W.cell? ⟨g, 1, none⟩ = some (.int .i64 f1) := (blk_cell h 1).trans rfl
theorem IsS32.set_1 {w0 W : World} {g : Nat} {f0 : Int} {f1 : Int} (h : IsS32 w0 W g f0 f1) (x : Int) : IsS32 w0 (W.setCell ⟨g, 1, none⟩ (.int .i64 x)) g f0 x := by
 obtain ⟨hb, hg⟩ := h
 exact ⟨by simpa using blk_set hb 1 (.int .i64 x), hg⟩
theorem IsS32.new (w0 W : World) (f0 : Int) (f1 : Int) (hB : Below w0.heap.size w0 W) : IsS32 w0 (W.alloc (.cells #[.int .i64 f0, .int .i64 f1] 32)) W.heap.size f0 f1 := ⟨by simpa using heap_alloc_new W _, hB.size⟩

/-! ### spec_l03Is: function 64 -/
def spec_l03Is.f (s0_0 : Int) (s0_1 : Int) : Option (Bool × Int × Int) := (spec_l00In.f s0_0 1 64).bind fun t179 => (if t179 = true then ((spec_l00In.f s0_1 0 s0_0).bind fun t180 => (some (t180, s0_0, s0_1))) else (some (false, s0_0, s0_1)))
set_option maxHeartbeats 8000000 in
set_option maxRecDepth 100000 in
theorem spec_l03Is.calls (g : Nat) (s0_0 : Int) (s0_1 : Int) (r1 : Bool) (r2 : Int) (r3 : Int) (w0 w : World) (hI : IsS32 w0 w g s0_0 s0_1) (hB : Below w0.heap.size w0 w) (h : spec_l03Is.f s0_0 s0_1 = some (r1, r2, r3)) :
  Calls Tryd.prog 64 #[.pointer (some ⟨g, 0, none⟩)] w fun e w' => e = .returned (.bool r1) ∧ IsS32 w0 w' g r2 r3 ∧ Below w0.heap.size w0 w' ∧ KeepBut w w' g none := by
 have HI0 := Aside0.mk hI
 have HK := Aside0.mk (KeepBut.refl w g none)
 have HL := Aside0.mk hB.size
 clear hI
 have HW0 := Aside0.mk hB.size
 have HB := Aside0.mk hB
 clear hB
 have H : ((spec_l00In.f s0_0 1 64).bind fun t179 => (if t179 = true then ((spec_l00In.f s0_1 0 s0_0).bind fun t180 => (some (t180, s0_0, s0_1))) else (some (false, s0_0, s0_1)))) = some (r1, r2, r3) := h
 clear h
 replace H := Option.bind_eq_some_iff.mp H
 obtain ⟨t179, A20, H⟩ := H
 replace H : (if t179 = true then ((spec_l00In.f s0_1 0 s0_0).bind fun t180 => (some (t180, s0_0, s0_1))) else (some (false, s0_0, s0_1))) = some (r1, r2, r3) := H
 have A2 := Aside0.mk A20
 clear A20
 by_cases c3 : t179 = true
 ·subst c3
  have H1 : ((spec_l00In.f s0_1 0 s0_0).bind fun t180 => (some (t180, s0_0, s0_1))) = some (r1, r2, r3) := by rw [if_pos rfl] at H; exact H
  clear H
  have H := H1
  clear H1
  replace H := Option.bind_eq_some_iff.mp H
  obtain ⟨t180, A40, H⟩ := H
  replace H : (some (t180, s0_0, s0_1)) = some (r1, r2, r3) := H
  have A4 := Aside0.mk A40
  clear A40
  simp only [Option.some.injEq, Prod.mk.injEq] at H
  obtain ⟨rfl, rfl, rfl⟩ := H
  obtain ⟨HGz5, hgz5⟩ := HI0.out
  have hcz5_0 := cellS32_0 HGz5
  have hcz5_1 := cellS32_1 HGz5
  have hfz5_0 := blk_frozen HGz5 0
  have hfz5_1 := blk_frozen HGz5 1
  clear HGz5 hgz5
  go_enter Tryd.func64, Tryd.ntmps64
  go_wp2_with (first | (go_at_call 59; (with_reducible refine (spec_l00In.calls s0_0 1 64 true _ A2.out).mono ?_); rintro e w' ⟨rfl, ⟨nd, rfl⟩⟩; (try first | exact ⟨rfl, _, World.drewN_drewN _ _ _⟩ | exact ⟨rfl, _, Eq.trans (World.drewN_drewN _ _ _) (congrArg (World.drewN _) (Nat.add_assoc _ _ _))⟩)) | (go_at_call 59; (with_reducible refine (spec_l00In.calls s0_1 0 s0_0 t180 _ A4.out).mono ?_); rintro e w' ⟨rfl, ⟨nd, rfl⟩⟩; (try first | exact ⟨rfl, _, World.drewN_drewN _ _ _⟩ | exact ⟨rfl, _, Eq.trans (World.drewN_drewN _ _ _) (congrArg (World.drewN _) (Nat.add_assoc _ _ _))⟩)))
  repeat (go_quiet (first | (go_at_call 59; (with_reducible refine (spec_l00In.calls s0_0 1 64 true _ A2.out).mono ?_); rintro e w' ⟨rfl, ⟨nd, rfl⟩⟩; (try first | exact ⟨rfl, _, World.drewN_drewN _ _ _⟩ | exact ⟨rfl, _, Eq.trans (World.drewN_drewN _ _ _) (congrArg (World.drewN _) (Nat.add_assoc _ _ _))⟩)) | (go_at_call 59; (with_reducible refine (spec_l00In.calls s0_1 0 s0_0 t180 _ A4.out).mono ?_); rintro e w' ⟨rfl, ⟨nd, rfl⟩⟩; (try first | exact ⟨rfl, _, World.drewN_drewN _ _ _⟩ | exact ⟨rfl, _, Eq.trans (World.drewN_drewN _ _ _) (congrArg (World.drewN _) (Nat.add_assoc _ _ _))⟩))); try go_wp2_with (first | (go_at_call 59; (with_reducible refine (spec_l00In.calls s0_0 1 64 true _ A2.out).mono ?_); rintro e w' ⟨rfl, ⟨nd, rfl⟩⟩; (try first | exact ⟨rfl, _, World.drewN_drewN _ _ _⟩ | exact ⟨rfl, _, Eq.trans (World.drewN_drewN _ _ _) (congrArg (World.drewN _) (Nat.add_assoc _ _ _))⟩)) | (go_at_call 59; (with_reducible refine (spec_l00In.calls s0_1 0 s0_0 t180 _ A4.out).mono ?_); rintro e w' ⟨rfl, ⟨nd, rfl⟩⟩; (try first | exact ⟨rfl, _, World.drewN_drewN _ _ _⟩ | exact ⟨rfl, _, Eq.trans (World.drewN_drewN _ _ _) (congrArg (World.drewN _) (Nat.add_assoc _ _ _))⟩))))
  go_ret
  exact ⟨by first | rfl | (simp [errW_none, errW_some] <;> rfl) | (simp [*, errW_none, errW_some] <;> rfl), by repeat (first | (with_reducible first | exact HI0.out | apply IsS32.alloc | apply IsS32.drewN | apply IsS32.drew | apply IsS32.set_0 | apply IsS32.set_1) | exact HI0.out), by repeat (first | (with_reducible first | exact HB.out | apply below_alloc | apply pw_below_drewN | apply below_drew1 | refine below_set ?_ (IsS32.ge HI0.out)) | exact HB.out), by repeat (first | (with_reducible first | exact HK.out | apply KeepBut.set_ | apply keep_drewN | apply keep_drew | apply keep_alloc) | exact HK.out)⟩
 ·replace c3 := Bool.eq_false_iff.mpr c3
  subst c3
  have H1 : (some (false, s0_0, s0_1)) = some (r1, r2, r3) := by rw [if_neg (show ¬ (false = true) by decide)] at H; exact H
  clear H
  have H := H1
  clear H1
  simp only [Option.some.injEq, Prod.mk.injEq] at H
  obtain ⟨rfl, rfl, rfl⟩ := H
  obtain ⟨HGz6, hgz6⟩ := HI0.out
  have hcz6_0 := cellS32_0 HGz6
  have hcz6_1 := cellS32_1 HGz6
  have hfz6_0 := blk_frozen HGz6 0
  have hfz6_1 := blk_frozen HGz6 1
  clear HGz6 hgz6
  go_enter Tryd.func64, Tryd.ntmps64
  go_wp2_with (first | (go_at_call 59; (with_reducible refine (spec_l00In.calls s0_0 1 64 false _ A2.out).mono ?_); rintro e w' ⟨rfl, ⟨nd, rfl⟩⟩; (try first | exact ⟨rfl, _, World.drewN_drewN _ _ _⟩ | exact ⟨rfl, _, Eq.trans (World.drewN_drewN _ _ _) (congrArg (World.drewN _) (Nat.add_assoc _ _ _))⟩)))
  repeat (go_quiet (first | (go_at_call 59; (with_reducible refine (spec_l00In.calls s0_0 1 64 false _ A2.out).mono ?_); rintro e w' ⟨rfl, ⟨nd, rfl⟩⟩; (try first | exact ⟨rfl, _, World.drewN_drewN _ _ _⟩ | exact ⟨rfl, _, Eq.trans (World.drewN_drewN _ _ _) (congrArg (World.drewN _) (Nat.add_assoc _ _ _))⟩))); try go_wp2_with (first | (go_at_call 59; (with_reducible refine (spec_l00In.calls s0_0 1 64 false _ A2.out).mono ?_); rintro e w' ⟨rfl, ⟨nd, rfl⟩⟩; (try first | exact ⟨rfl, _, World.drewN_drewN _ _ _⟩ | exact ⟨rfl, _, Eq.trans (World.drewN_drewN _ _ _) (congrArg (World.drewN _) (Nat.add_assoc _ _ _))⟩))))
  go_ret
  exact ⟨by first | rfl | (simp [errW_none, errW_some] <;> rfl) | (simp [*, errW_none, errW_some] <;> rfl), by repeat (first | (with_reducible first | exact HI0.out | apply IsS32.alloc | apply IsS32.drewN | apply IsS32.drew | apply IsS32.set_0 | apply IsS32.set_1) | exact HI0.out), by repeat (first | (with_reducible first | exact HB.out | apply below_alloc | apply pw_below_drewN | apply below_drew1 | refine below_set ?_ (IsS32.ge HI0.out)) | exact HB.out), by repeat (first | (with_reducible first | exact HK.out | apply KeepBut.set_ | apply keep_drewN | apply keep_drew | apply keep_alloc) | exact HK.out)⟩

end Go.Proofs.YtmipelgjmmgmnaaDoor.Pa

namespace Go.Proofs.YtmipelgjmmgmnaaDoor.Pa
open Go.RowKit Go.Proofs.YtmipelgjmmgmnaaDoorW.PrintWords Go.Proofs.YtmipelgjmmgmnaaDoorW.PrintLast Go.Proofs.YtmipelgjmmgmnaaDoorW.PrintMore
attribute [local go_sem] max2_int min2_int max_two min_two max_three min_three max_four min_four   -- for this text's walks alone
set_option linter.unusedVariables false
set_option linter.unusedSimpArgs false

/-! ### spec_l03Divide: function 65 -/
mutual
def spec_l03Divide.l0 : Nat → ByteArray → List Int → Int → Int → Int → Int → Int → Option (ByteArray × Int × Int)
 | 0, _, _, _, _, _, _, _ => none
 | k + 1, x1, x5, x6, x7, x8, x1000, x1001 => if x8 < (x1.size : Int) then (if 0 ≤ x8 then (if (bt x1 x8) = 49 then (if x8 = 0 then (spec_l03Divide.j1 k x1 x5 x6 x7 x8 true x1000 x1001) else (if 0 ≤ (wrap64 (x8 - 1)) then (if (wrap64 (x8 - 1)) < (x1.size : Int) then (spec_l03Divide.j1 k x1 x5 x6 x7 x8 ((bt x1 (wrap64 (x8 - 1))) == 48) x1000 x1001) else (none)) else (none))) else (spec_l03Divide.j1 k x1 x5 x6 x7 x8 false x1000 x1001)) else (none)) else (some (strOfNums x5, x1000, x1001))
def spec_l03Divide.j1 : Nat → ByteArray → List Int → Int → Int → Int → Bool → Int → Int → Option (ByteArray × Int × Int)
 | 0, _, _, _, _, _, _, _, _ => none
 | k + 1, x1, x5, x6, x7, x8, x30, x1000, x1001 => if x30 = true then (if x1000 = 0 then (none) else (if (Int.tmod x7 x1000) < x1001 then (if x5.length < 140737488355328 then (spec_l03Divide.l0 k x1 (x5 ++ [49]) 49 (wrap64 (x7 + 1)) (wrap64 (x8 + 1)) x1000 x1001) else (none)) else (if x5.length < 140737488355328 then (spec_l03Divide.l0 k x1 (x5 ++ [48]) 48 (wrap64 (x7 + 1)) (wrap64 (x8 + 1)) x1000 x1001) else (none)))) else (if x5.length < 140737488355328 then (spec_l03Divide.l0 k x1 (x5 ++ [x6]) x6 x7 (wrap64 (x8 + 1)) x1000 x1001) else (none))
end
def spec_l03Divide.f (k : Nat) (s0_0 : Int) (s0_1 : Int) (a1 : ByteArray) : Option (ByteArray × Int × Int) := spec_l03Divide.l0 k a1 (([] : List Int)) 48 0 0 s0_0 s0_1
theorem spec_l03Divide.mono_l : ∀ k, (∀ y0 y1 y2 y3 y4 y5 y6, LeO (spec_l03Divide.l0 k y0 y1 y2 y3 y4 y5 y6) (spec_l03Divide.l0 (k + 1) y0 y1 y2 y3 y4 y5 y6)) ∧ (∀ y0 y1 y2 y3 y4 y5 y6 y7, LeO (spec_l03Divide.j1 k y0 y1 y2 y3 y4 y5 y6 y7) (spec_l03Divide.j1 (k + 1) y0 y1 y2 y3 y4 y5 y6 y7))
 | 0 => ⟨fun _ _ _ _ _ _ _ r h => by simp [spec_l03Divide.l0] at h, fun _ _ _ _ _ _ _ _ r h => by simp [spec_l03Divide.j1] at h⟩
 | k + 1 => by
  obtain ⟨ih0, ih1⟩ := spec_l03Divide.mono_l k
  refine ⟨?_, ?_⟩
  ·intro y0 y1 y2 y3 y4 y5 y6
   unfold spec_l03Divide.l0
   repeat' first
   | (with_reducible exact ih0 _ _ _ _ _ _ _)
   | (with_reducible exact ih1 _ _ _ _ _ _ _ _)
   | (with_reducible exact LeO.refl _)
   | (with_reducible exact LeO.none _)
   | (with_reducible refine LeO.ite ?_ ?_)
   | (with_reducible refine LeO.bind ?_ (fun _ => ?_))
   | exact ih0 _ _ _ _ _ _ _
   | exact ih1 _ _ _ _ _ _ _ _
   | exact LeO.none _
   | refine LeO.ite ?_ ?_
   | refine LeO.bind ?_ (fun _ => ?_)
  ·intro y0 y1 y2 y3 y4 y5 y6 y7
   unfold spec_l03Divide.j1
   repeat' first
   | (with_reducible exact ih0 _ _ _ _ _ _ _)
   | (with_reducible exact ih1 _ _ _ _ _ _ _ _)
   | (with_reducible exact LeO.refl _)
   | (with_reducible exact LeO.none _)
   | (with_reducible refine LeO.ite ?_ ?_)
   | (with_reducible refine LeO.bind ?_ (fun _ => ?_))
   | exact ih0 _ _ _ _ _ _ _
   | exact ih1 _ _ _ _ _ _ _ _
   | exact LeO.none _
   | refine LeO.ite ?_ ?_
   | refine LeO.bind ?_ (fun _ => ?_)
theorem spec_l03Divide.mono : ∀ a0 a1 a2 k, LeO (spec_l03Divide.f k a0 a1 a2) (spec_l03Divide.f (k + 1) a0 a1 a2) := by
 intro a0 a1 a2 k
 obtain ⟨ih0, ih1⟩ := spec_l03Divide.mono_l k
 unfold spec_l03Divide.f
 repeat' first
   | (with_reducible exact ih0 _ _ _ _ _ _ _)
   | (with_reducible exact ih1 _ _ _ _ _ _ _ _)
   | (with_reducible exact LeO.refl _)
   | (with_reducible exact LeO.none _)
   | (with_reducible refine LeO.ite ?_ ?_)
   | (with_reducible refine LeO.bind ?_ (fun _ => ?_))
   | exact ih0 _ _ _ _ _ _ _
   | exact ih1 _ _ _ _ _ _ _ _
   | exact LeO.none _
   | refine LeO.ite ?_ ?_
   | refine LeO.bind ?_ (fun _ => ?_)
set_option maxHeartbeats 8000000 in
set_option maxRecDepth 100000 in
theorem spec_l03Divide.calls (k : Nat) (g : Nat) (s0_0 : Int) (s0_1 : Int) (a1 : ByteArray) (r1 : ByteArray) (r2 : Int) (r3 : Int) (w0 w : World) (hI : IsS32 w0 w g s0_0 s0_1) (hB : Below w0.heap.size w0 w) (h : spec_l03Divide.f k s0_0 s0_1 a1 = some (r1, r2, r3)) :
  Calls Tryd.prog 65 #[.pointer (some ⟨g, 0, none⟩), .string a1] w fun e w' => e = .returned (.string r1) ∧ IsS32 w0 w' g r2 r3 ∧ Below w0.heap.size w0 w' ∧ KeepBut w w' g none := by
 have HI0 := Aside0.mk hI
 have HK := Aside0.mk (KeepBut.refl w g none)
 have HL := Aside0.mk hB.size
 clear hI
 have HW0 := Aside0.mk hB.size
 have HB := Aside0.mk hB
 clear hB
 have H : (spec_l03Divide.l0 k a1 (([] : List Int)) 48 0 0 s0_0 s0_1) = some (r1, r2, r3) := h
 clear h
 obtain ⟨y181, hy181⟩ : ∃ y_ : List Int, y_ = (([] : List Int)) := ⟨_, rfl⟩
 replace H : (spec_l03Divide.l0 k a1 y181 48 0 0 s0_0 s0_1) = some (r1, r2, r3) := by first | (rw [hy181]; with_reducible exact H) | (have H2_ := (Option.bind_some _ _).symm.trans H; rw [hy181]; with_reducible exact H2_) | (have H2_ := (Option.bind_some _ _).symm.trans H; with_reducible exact H2_) | with_reducible exact H | (rw [hy181]; exact H) | exact H
 have Ny181 := Aside0.mk hy181
 clear hy181
 have H' := Aside0.mk H
 clear H
 go_enter Tryd.func65, Tryd.ntmps65
 go_wp2_with (first | ((with_reducible refine gate_dst (N := 9) rfl ?_); refine Kd.R_lit (Kd.int .u8) _ 5 ?hg (N := 9) ?hd (xs := ([] : List Int)) (inner := []) (ok := fun _ => True) (okp := fun _ => True) ?hr ?hp (fun _ hk => hk) trivial (Below.refl _ _) (Nat.le_refl _) (by simp) ?_; (case hd => rfl); (case hg => rfl); (case hr => first | (go_simp; done) | (go_simp; rfl)); (case hp => exact (Reps.none _ _)); intro v182 w3 ho4 hb hg_ hnew_; clear hg_ hnew_; (first | rw [← Ny181.out] at ho4 | (simp only [Int.reduceToNat] at ho4; rw [← Ny181.out] at ho4)); have n0_ := Aside0.mk (Kd.R_lower ho4 (keep_size (w := w) (g := g) (row := none) (by repeat (first | (with_reducible first | exact HK.out | apply KeepBut.set_ | apply keep_drewN | apply keep_drew | apply keep_alloc) | exact HK.out)))); have n1_ := Aside0.mk (IsS32.below (by repeat (first | (with_reducible first | exact HI0.out | apply IsS32.alloc | apply IsS32.drewN | apply IsS32.drew | apply IsS32.set_0 | apply IsS32.set_1) | exact HI0.out)) hb); have n2_ := Aside0.mk (KeepBut.trans (by repeat (first | (with_reducible first | exact HK.out | apply KeepBut.set_ | apply keep_drewN | apply keep_drew | apply keep_alloc) | exact HK.out)) (KeepBut.of_below hb g none) (.inl rfl)); have n3_ := Aside0.mk (below_step (by repeat (first | (with_reducible first | exact HB.out | apply below_alloc | apply pw_below_drewN | apply below_drew1 | refine below_set ?_ (IsS32.ge HI0.out)) | exact HB.out)) hb); clear HI0; clear HK; clear HB; have HO183 := n0_; have HI0 := n1_; have HK := n2_; have HB := n3_; clear n0_ n1_ n2_ n3_; clear hb ho4))
 repeat (go_quiet (first | ((with_reducible refine gate_dst (N := 9) rfl ?_); refine Kd.R_lit (Kd.int .u8) _ 5 ?hg (N := 9) ?hd (xs := ([] : List Int)) (inner := []) (ok := fun _ => True) (okp := fun _ => True) ?hr ?hp (fun _ hk => hk) trivial (Below.refl _ _) (Nat.le_refl _) (by simp) ?_; (case hd => rfl); (case hg => rfl); (case hr => first | (go_simp; done) | (go_simp; rfl)); (case hp => exact (Reps.none _ _)); intro v182 w3 ho4 hb hg_ hnew_; clear hg_ hnew_; (first | rw [← Ny181.out] at ho4 | (simp only [Int.reduceToNat] at ho4; rw [← Ny181.out] at ho4)); have n0_ := Aside0.mk (Kd.R_lower ho4 (keep_size (w := w) (g := g) (row := none) (by repeat (first | (with_reducible first | exact HK.out | apply KeepBut.set_ | apply keep_drewN | apply keep_drew | apply keep_alloc) | exact HK.out)))); have n1_ := Aside0.mk (IsS32.below (by repeat (first | (with_reducible first | exact HI0.out | apply IsS32.alloc | apply IsS32.drewN | apply IsS32.drew | apply IsS32.set_0 | apply IsS32.set_1) | exact HI0.out)) hb); have n2_ := Aside0.mk (KeepBut.trans (by repeat (first | (with_reducible first | exact HK.out | apply KeepBut.set_ | apply keep_drewN | apply keep_drew | apply keep_alloc) | exact HK.out)) (KeepBut.of_below hb g none) (.inl rfl)); have n3_ := Aside0.mk (below_step (by repeat (first | (with_reducible first | exact HB.out | apply below_alloc | apply pw_below_drewN | apply below_drew1 | refine below_set ?_ (IsS32.ge HI0.out)) | exact HB.out)) hb); clear HI0; clear HK; clear HB; have HO183 := n0_; have HI0 := n1_; have HK := n2_; have HB := n3_; clear n0_ n1_ n2_ n3_; clear hb ho4)); try go_wp2_with (first | ((with_reducible refine gate_dst (N := 9) rfl ?_); refine Kd.R_lit (Kd.int .u8) _ 5 ?hg (N := 9) ?hd (xs := ([] : List Int)) (inner := []) (ok := fun _ => True) (okp := fun _ => True) ?hr ?hp (fun _ hk => hk) trivial (Below.refl _ _) (Nat.le_refl _) (by simp) ?_; (case hd => rfl); (case hg => rfl); (case hr => first | (go_simp; done) | (go_simp; rfl)); (case hp => exact (Reps.none _ _)); intro v182 w3 ho4 hb hg_ hnew_; clear hg_ hnew_; (first | rw [← Ny181.out] at ho4 | (simp only [Int.reduceToNat] at ho4; rw [← Ny181.out] at ho4)); have n0_ := Aside0.mk (Kd.R_lower ho4 (keep_size (w := w) (g := g) (row := none) (by repeat (first | (with_reducible first | exact HK.out | apply KeepBut.set_ | apply keep_drewN | apply keep_drew | apply keep_alloc) | exact HK.out)))); have n1_ := Aside0.mk (IsS32.below (by repeat (first | (with_reducible first | exact HI0.out | apply IsS32.alloc | apply IsS32.drewN | apply IsS32.drew | apply IsS32.set_0 | apply IsS32.set_1) | exact HI0.out)) hb); have n2_ := Aside0.mk (KeepBut.trans (by repeat (first | (with_reducible first | exact HK.out | apply KeepBut.set_ | apply keep_drewN | apply keep_drew | apply keep_alloc) | exact HK.out)) (KeepBut.of_below hb g none) (.inl rfl)); have n3_ := Aside0.mk (below_step (by repeat (first | (with_reducible first | exact HB.out | apply below_alloc | apply pw_below_drewN | apply below_drew1 | refine below_set ?_ (IsS32.ge HI0.out)) | exact HB.out)) hb); clear HI0; clear HK; clear HB; have HO183 := n0_; have HI0 := n1_; have HK := n2_; have HB := n3_; clear n0_ n1_ n2_ n3_; clear hb ho4)))
 go_loopg [5, 6, 7, 8] k (fun kq v5 v6 v7 v8 w' => ∃ (x5_1 : List Int) (x6_1 : Int) (x7_1 : Int) (x8_1 : Int), v6 = .int .u8 x6_1 ∧ v7 = .int .i64 x7_1 ∧ v8 = .int .i64 x8_1 ∧ Aside0 (spec_l03Divide.l0 kq a1 x5_1 x6_1 x7_1 x8_1 s0_0 s0_1 = some (r1, r2, r3)) ∧ Aside0 (kq ≤ k) ∧ Aside0 (Kd.R (Kd.int .u8) 5 w' w.heap.size (fun _ => True) v5 x5_1) ∧ Aside0 (IsS32 w0 w' g s0_0 s0_1) ∧ Aside0 (KeepBut w w' g none) ∧ Aside0 (Below w0.heap.size w0 w'))
 case atStart => exact ⟨(y181), (48), (0), (0), (by first | rfl | (simp; done) | (simp [*]; done)), (by first | rfl | (simp; done) | (simp [*]; done)), (by first | rfl | (simp; done) | (simp [*]; done)), H', ⟨Nat.le_refl _⟩, ⟨by (with_reducible repeat (first | apply Kd.R_alloc | apply Kd.R_drewN | apply Kd.R_drew)); exact HO183.out⟩, ⟨by repeat (first | (with_reducible first | exact HI0.out | apply IsS32.alloc | apply IsS32.drewN | apply IsS32.drew | apply IsS32.set_0 | apply IsS32.set_1) | exact HI0.out)⟩, ⟨by repeat (first | (with_reducible first | exact HK.out | apply KeepBut.set_ | apply keep_drewN | apply keep_drew | apply keep_alloc) | exact HK.out)⟩, ⟨by repeat (first | (with_reducible first | exact HB.out | apply below_alloc | apply pw_below_drewN | apply below_drew1 | refine below_set ?_ (IsS32.ge HI0.out)) | exact HB.out)⟩⟩
 case round =>
  clear H'
  try clear p2
  obtain ⟨x5_1, x6_1, x7_1, x8_1, rfl, rfl, rfl, HA, HK1, HO_5, HI0, HK, HB⟩ := hrel
  cases gk with
  | zero => exact absurd HA.out (by simp [spec_l03Divide.l0])
  | succ k1 =>
   have H := HA.out
   clear HA
   simp only [spec_l03Divide.l0] at H
   by_cases c5 : x8_1 < (a1.size : Int)
   ·rw [if_pos c5] at H
    have c5b0 : decide (x8_1 < (a1.size : Int)) = true := decide_eq_true c5
    clear c5
    have HC6 := Aside0.mk H
    clear H
    go_upto_region 7 with (fail)
    repeat (go_quiet (fail); go_upto_region 7 with (fail))
    go_cut [30] (fun v30 wc => ∃ (kq : Nat) (x30_5 : Bool), v30 = .bool x30_5 ∧ Aside0 (spec_l03Divide.j1 kq a1 x5_1 x6_1 x7_1 x8_1 x30_5 s0_0 s0_1 = some (r1, r2, r3)) ∧ Aside0 (kq ≤ k1) ∧ Aside0 (Kd.R (Kd.int .u8) 5 wc w.heap.size (fun _ => True) u5 x5_1) ∧ Aside0 (IsS32 w0 wc g s0_0 s0_1) ∧ Aside0 (KeepBut w wc g none) ∧ Aside0 (Below w0.heap.size w0 wc))
    case first =>
     have H := HC6.out
     clear HC6
     by_cases c7 : 0 ≤ x8_1
     ·rw [if_pos c7] at H
      have c7b0 : decide (0 ≤ x8_1) = true := decide_eq_true c7
      clear c7
      (first | rw [c7b0] | (simp only [i64_w, i32_w]; rw [c7b0]) | skip)
      by_cases c9 : (bt a1 x8_1) = 49
      ·rw [if_pos c9] at H
       have c9b0 : ((bt a1 x8_1) == 49) = true := beq_iff_eq.mpr c9
       have c9b1 : ((bt a1 x8_1) != 49) = false := bne_eq_false_iff_eq.mpr c9
       clear c9
       by_cases c10 : x8_1 = 0
       ·rw [if_pos c10] at H
        have c10b0 : (x8_1 == 0) = true := beq_iff_eq.mpr c10
        have c10b1 : (x8_1 != 0) = false := bne_eq_false_iff_eq.mpr c10
        clear c10
        have H' := Aside0.mk H
        clear H
        have p8 : 0 ≤ (x8_1 : Int) := of_decide_eq_true (by with_reducible assumption)
        have q8 : x8_1 < (a1.size : Int) := of_decide_eq_true (by with_reducible assumption)
        have hx8 := bt_at a1 x8_1
        replace p8 := eq_true p8
        replace q8 := eq_true q8
        go_wp2
        repeat (go_quiet (fail); try go_wp2)
        go_meet
        case rel => exact ⟨_, (true), (by first | rfl | (simp; done) | (simp [*]; done)), H', ⟨by have := HK1.out; first | omega | exact Nat.le_refl _⟩, ⟨by (with_reducible repeat (first | apply Kd.R_alloc | apply Kd.R_drewN | apply Kd.R_drew)); exact HO_5.out⟩, ⟨by repeat (first | (with_reducible first | exact HI0.out | apply IsS32.alloc | apply IsS32.drewN | apply IsS32.drew | apply IsS32.set_0 | apply IsS32.set_1) | exact HI0.out)⟩, ⟨by repeat (first | (with_reducible first | exact HK.out | apply KeepBut.set_ | apply keep_drewN | apply keep_drew | apply keep_alloc) | exact HK.out)⟩, ⟨by repeat (first | (with_reducible first | exact HB.out | apply below_alloc | apply pw_below_drewN | apply below_drew1 | refine below_set ?_ (IsS32.ge HI0.out)) | exact HB.out)⟩⟩
       ·rw [if_neg c10] at H
        have c10b0 : (x8_1 == 0) = false := beq_eq_false_iff_ne.mpr c10
        have c10b1 : (x8_1 != 0) = true := bne_iff_ne.mpr c10
        obtain ⟨ji11, hji11⟩ : ∃ j_ : Int, (wrap64 (x8_1 - 1)) = j_ := ⟨_, rfl⟩
        replace H : (if 0 ≤ (ji11) then (if (ji11) < (a1.size : Int) then (spec_l03Divide.j1 k1 a1 x5_1 x6_1 x7_1 x8_1 ((bt a1 (ji11)) == 48) s0_0 s0_1) else (none)) else (none)) = some (r1, r2, r3) := by first | (rw [hji11] at H; exact H) | (simp only [hji11] at H ⊢; exact H)
        have hji11w : (IntKind.i64.wrap (x8_1 - 1)) = ji11 := (i64_w _).trans hji11
        by_cases c12 : 0 ≤ (ji11)
        ·rw [if_pos c12] at H
         have c12b0 : decide (0 ≤ (ji11)) = true := decide_eq_true c12
         clear c12
         by_cases c13 : (ji11) < (a1.size : Int)
         ·rw [if_pos c13] at H
          have c13b0 : decide ((ji11) < (a1.size : Int)) = true := decide_eq_true c13
          clear c13
          have H' := Aside0.mk H
          clear H
          have p8 : 0 ≤ (x8_1 : Int) := of_decide_eq_true (by with_reducible assumption)
          have q8 : x8_1 < (a1.size : Int) := of_decide_eq_true (by with_reducible assumption)
          have hx8 := bt_at a1 x8_1
          replace p8 := eq_true p8
          replace q8 := eq_true q8
          have p14 : 0 ≤ ((ji11) : Int) := of_decide_eq_true (by with_reducible assumption)
          have q14 : (ji11) < (a1.size : Int) := of_decide_eq_true (by with_reducible assumption)
          have hx14 := bt_at a1 (ji11)
          replace p14 := eq_true p14
          replace q14 := eq_true q14
          go_wp2
          repeat (go_quiet (fail); try go_wp2)
          go_meet
          case rel => exact ⟨_, (((bt a1 (ji11)) == 48)), (by first | rfl | (simp; done) | (simp only [← hji11] <;> (first | rfl | simp)) | (simp [*]; done)), H', ⟨by have := HK1.out; first | omega | exact Nat.le_refl _⟩, ⟨by (with_reducible repeat (first | apply Kd.R_alloc | apply Kd.R_drewN | apply Kd.R_drew)); exact HO_5.out⟩, ⟨by repeat (first | (with_reducible first | exact HI0.out | apply IsS32.alloc | apply IsS32.drewN | apply IsS32.drew | apply IsS32.set_0 | apply IsS32.set_1) | exact HI0.out)⟩, ⟨by repeat (first | (with_reducible first | exact HK.out | apply KeepBut.set_ | apply keep_drewN | apply keep_drew | apply keep_alloc) | exact HK.out)⟩, ⟨by repeat (first | (with_reducible first | exact HB.out | apply below_alloc | apply pw_below_drewN | apply below_drew1 | refine below_set ?_ (IsS32.ge HI0.out)) | exact HB.out)⟩⟩
         ·rw [if_neg c13] at H
          exact absurd H (by simp)
        ·rw [if_neg c12] at H
         exact absurd H (by simp)
      ·rw [if_neg c9] at H
       have c9b0 : ((bt a1 x8_1) == 49) = false := beq_eq_false_iff_ne.mpr c9
       have c9b1 : ((bt a1 x8_1) != 49) = true := bne_iff_ne.mpr c9
       have H' := Aside0.mk H
       clear H
       have p8 : 0 ≤ (x8_1 : Int) := of_decide_eq_true (by with_reducible assumption)
       have q8 : x8_1 < (a1.size : Int) := of_decide_eq_true (by with_reducible assumption)
       have hx8 := bt_at a1 x8_1
       replace p8 := eq_true p8
       replace q8 := eq_true q8
       go_wp2
       repeat (go_quiet (fail); try go_wp2)
       go_meet
       case rel => exact ⟨_, (false), (by first | rfl | (simp; done) | (simp [*]; done)), H', ⟨by have := HK1.out; first | omega | exact Nat.le_refl _⟩, ⟨by (with_reducible repeat (first | apply Kd.R_alloc | apply Kd.R_drewN | apply Kd.R_drew)); exact HO_5.out⟩, ⟨by repeat (first | (with_reducible first | exact HI0.out | apply IsS32.alloc | apply IsS32.drewN | apply IsS32.drew | apply IsS32.set_0 | apply IsS32.set_1) | exact HI0.out)⟩, ⟨by repeat (first | (with_reducible first | exact HK.out | apply KeepBut.set_ | apply keep_drewN | apply keep_drew | apply keep_alloc) | exact HK.out)⟩, ⟨by repeat (first | (with_reducible first | exact HB.out | apply below_alloc | apply pw_below_drewN | apply below_drew1 | refine below_set ?_ (IsS32.ge HI0.out)) | exact HB.out)⟩⟩
     ·rw [if_neg c7] at H
      exact absurd H (by simp)
    case rest =>
     clear HC6
     try clear c1
     try clear p1
     try clear q1
     try clear hx1
     try clear p2
     try clear c5
     try clear c5b0
     try clear c6
     try clear p6
     try clear c7
     try clear c7b0
     try clear p8
     try clear q8
     try clear hx8
     try clear c9
     try clear c9b0
     try clear c9b1
     try clear c10
     try clear c10b0
     try clear c10b1
     try clear c12
     try clear c12b0
     try clear c13
     try clear c13b0
     try clear p14
     try clear q14
     try clear hx14
     try clear p14
     try clear p2
     try clear p8
     try clear q14
     try clear q8
     obtain ⟨kq, x30_5, rfl, HA, HJ5, HO_5, HI0, HK, HB⟩ := hcut
     cases kq with
     | zero => exact absurd HA.out (by simp [spec_l03Divide.j1])
     | succ kj5 =>
      have H := HA.out
      clear HA
      simp only [spec_l03Divide.j1] at H
      by_cases c15 : x30_5 = true
      ·subst c15
       have H1 : (if s0_0 = 0 then (none) else (if (Int.tmod x7_1 s0_0) < s0_1 then (if x5_1.length < 140737488355328 then (spec_l03Divide.l0 kj5 a1 (x5_1 ++ [49]) 49 (wrap64 (x7_1 + 1)) (wrap64 (x8_1 + 1)) s0_0 s0_1) else (none)) else (if x5_1.length < 140737488355328 then (spec_l03Divide.l0 kj5 a1 (x5_1 ++ [48]) 48 (wrap64 (x7_1 + 1)) (wrap64 (x8_1 + 1)) s0_0 s0_1) else (none)))) = some (r1, r2, r3) := by rw [if_pos rfl] at H; exact H
       clear H
       have H := H1
       clear H1
       by_cases c16 : s0_0 = 0
       ·rw [if_pos c16] at H
        exact absurd H (by simp)
       ·rw [if_neg c16] at H
        have c16b0 : (s0_0 == 0) = false := beq_eq_false_iff_ne.mpr c16
        have c16b1 : (s0_0 != 0) = true := bne_iff_ne.mpr c16
        by_cases c17 : (Int.tmod x7_1 s0_0) < s0_1
        ·rw [if_pos c17] at H
         have c17b0 : decide ((Int.tmod x7_1 s0_0) < s0_1) = true := decide_eq_true c17
         clear c17
         by_cases c18 : x5_1.length < 140737488355328
         ·rw [if_pos c18] at H
          have LMc18 := Aside0.mk c18
          clear c18
          obtain ⟨y184, hy184⟩ : ∃ y_ : List Int, y_ = (x5_1 ++ [49]) := ⟨_, rfl⟩
          replace H : (spec_l03Divide.l0 kj5 a1 y184 49 (wrap64 (x7_1 + 1)) (wrap64 (x8_1 + 1)) s0_0 s0_1) = some (r1, r2, r3) := by first | (rw [hy184]; with_reducible exact H) | (have H2_ := (Option.bind_some _ _).symm.trans H; rw [hy184]; with_reducible exact H2_) | (have H2_ := (Option.bind_some _ _).symm.trans H; with_reducible exact H2_) | with_reducible exact H | (rw [hy184]; exact H) | exact H
          have Ny184 := Aside0.mk hy184
          clear hy184
          have H' := Aside0.mk H
          clear H
          obtain ⟨HGz19, hgz19⟩ := HI0.out
          have hcz19_0 := cellS32_0 HGz19
          have hcz19_1 := cellS32_1 HGz19
          have hfz19_0 := blk_frozen HGz19 0
          have hfz19_1 := blk_frozen HGz19 1
          clear HGz19 hgz19
          go_wp2_with (first | ((with_reducible refine gate_builtin (b := .append) (xs := #[.tmp 44, .tmp 46]) rfl ?_); at_builtin; refine Kd.R_append (Kd.int .u8) w.heap.size rfl (.tmp 44) (.tmp 46) 63 5 (.int .u8 0) 1 rfl Tryd.underlying63 info5 rfl (by decide) (by omega) u5 x5_1 49 [.int .u8 49] (fun _ => True) (fun _ => False) rfl rfl ?aP (fun _ hk => hk.elim) ?aF ?aO (Below.refl _ _) ?aS ?aL ?_; (case aP => exact rfl); (case aF => exact (fun _ _ => trivial)); (case aO => exact (by (with_reducible repeat (first | apply Kd.R_alloc | apply Kd.R_drewN | apply Kd.R_drew)); exact HO_5.out)); (case aS => exact (keep_size (w := w) (g := g) (row := none) (by repeat (first | (with_reducible first | exact HK.out | apply KeepBut.set_ | apply keep_drewN | apply keep_drew | apply keep_alloc) | exact HK.out)))); (case aL => have := LMc18.out; omega); intro v185 w20 ho hb hg hat; rw [← Ny184.out] at ho; have n0_ := Aside0.mk (IsS32.grown (by repeat (first | (with_reducible first | exact HI0.out | apply IsS32.alloc | apply IsS32.drewN | apply IsS32.drew | apply IsS32.set_0 | apply IsS32.set_1) | exact HI0.out)) hg (IsS32.own_ne HI0.out HO_5.out (by decide))); have n1_ := Aside0.mk (below_weaken (by repeat (first | (with_reducible first | exact HB.out | apply below_alloc | apply pw_below_drewN | apply below_drew1 | refine below_set ?_ (IsS32.ge HI0.out)) | exact HB.out)) HL.out hb); have n2_ := Aside0.mk (KeepBut.trans (by repeat (first | (with_reducible first | exact HK.out | apply KeepBut.set_ | apply keep_drewN | apply keep_drew | apply keep_alloc) | exact HK.out)) (KeepBut.of_grown hg g) (Kd.R_base2 HO_5.out)); have n3_ := Aside0.mk (ho); clear HI0; clear HB; clear HK; clear HO_5; have HI0 := n0_; have HB := n1_; have HK := n2_; have HO186 := n3_; clear n0_ n1_ n2_ n3_; clear ho hb hg hat))
          repeat (go_quiet (first | ((with_reducible refine gate_builtin (b := .append) (xs := #[.tmp 44, .tmp 46]) rfl ?_); at_builtin; refine Kd.R_append (Kd.int .u8) w.heap.size rfl (.tmp 44) (.tmp 46) 63 5 (.int .u8 0) 1 rfl Tryd.underlying63 info5 rfl (by decide) (by omega) u5 x5_1 49 [.int .u8 49] (fun _ => True) (fun _ => False) rfl rfl ?aP (fun _ hk => hk.elim) ?aF ?aO (Below.refl _ _) ?aS ?aL ?_; (case aP => exact rfl); (case aF => exact (fun _ _ => trivial)); (case aO => exact (by (with_reducible repeat (first | apply Kd.R_alloc | apply Kd.R_drewN | apply Kd.R_drew)); exact HO_5.out)); (case aS => exact (keep_size (w := w) (g := g) (row := none) (by repeat (first | (with_reducible first | exact HK.out | apply KeepBut.set_ | apply keep_drewN | apply keep_drew | apply keep_alloc) | exact HK.out)))); (case aL => have := LMc18.out; omega); intro v185 w20 ho hb hg hat; rw [← Ny184.out] at ho; have n0_ := Aside0.mk (IsS32.grown (by repeat (first | (with_reducible first | exact HI0.out | apply IsS32.alloc | apply IsS32.drewN | apply IsS32.drew | apply IsS32.set_0 | apply IsS32.set_1) | exact HI0.out)) hg (IsS32.own_ne HI0.out HO_5.out (by decide))); have n1_ := Aside0.mk (below_weaken (by repeat (first | (with_reducible first | exact HB.out | apply below_alloc | apply pw_below_drewN | apply below_drew1 | refine below_set ?_ (IsS32.ge HI0.out)) | exact HB.out)) HL.out hb); have n2_ := Aside0.mk (KeepBut.trans (by repeat (first | (with_reducible first | exact HK.out | apply KeepBut.set_ | apply keep_drewN | apply keep_drew | apply keep_alloc) | exact HK.out)) (KeepBut.of_grown hg g) (Kd.R_base2 HO_5.out)); have n3_ := Aside0.mk (ho); clear HI0; clear HB; clear HK; clear HO_5; have HI0 := n0_; have HB := n1_; have HK := n2_; have HO186 := n3_; clear n0_ n1_ n2_ n3_; clear ho hb hg hat)); try go_wp2_with (first | ((with_reducible refine gate_builtin (b := .append) (xs := #[.tmp 44, .tmp 46]) rfl ?_); at_builtin; refine Kd.R_append (Kd.int .u8) w.heap.size rfl (.tmp 44) (.tmp 46) 63 5 (.int .u8 0) 1 rfl Tryd.underlying63 info5 rfl (by decide) (by omega) u5 x5_1 49 [.int .u8 49] (fun _ => True) (fun _ => False) rfl rfl ?aP (fun _ hk => hk.elim) ?aF ?aO (Below.refl _ _) ?aS ?aL ?_; (case aP => exact rfl); (case aF => exact (fun _ _ => trivial)); (case aO => exact (by (with_reducible repeat (first | apply Kd.R_alloc | apply Kd.R_drewN | apply Kd.R_drew)); exact HO_5.out)); (case aS => exact (keep_size (w := w) (g := g) (row := none) (by repeat (first | (with_reducible first | exact HK.out | apply KeepBut.set_ | apply keep_drewN | apply keep_drew | apply keep_alloc) | exact HK.out)))); (case aL => have := LMc18.out; omega); intro v185 w20 ho hb hg hat; rw [← Ny184.out] at ho; have n0_ := Aside0.mk (IsS32.grown (by repeat (first | (with_reducible first | exact HI0.out | apply IsS32.alloc | apply IsS32.drewN | apply IsS32.drew | apply IsS32.set_0 | apply IsS32.set_1) | exact HI0.out)) hg (IsS32.own_ne HI0.out HO_5.out (by decide))); have n1_ := Aside0.mk (below_weaken (by repeat (first | (with_reducible first | exact HB.out | apply below_alloc | apply pw_below_drewN | apply below_drew1 | refine below_set ?_ (IsS32.ge HI0.out)) | exact HB.out)) HL.out hb); have n2_ := Aside0.mk (KeepBut.trans (by repeat (first | (with_reducible first | exact HK.out | apply KeepBut.set_ | apply keep_drewN | apply keep_drew | apply keep_alloc) | exact HK.out)) (KeepBut.of_grown hg g) (Kd.R_base2 HO_5.out)); have n3_ := Aside0.mk (ho); clear HI0; clear HB; clear HK; clear HO_5; have HI0 := n0_; have HB := n1_; have HK := n2_; have HO186 := n3_; clear n0_ n1_ n2_ n3_; clear ho hb hg hat)))
          go_roundg kj5
          case measure => have := HK1.out; have := HJ5.out; omega
          case rel => exact ⟨(y184), (49), (wrap64 (x7_1 + 1)), (wrap64 (x8_1 + 1)), (by first | rfl | (simp; done) | (simp [*]; done)), (by first | rfl | (simp; done) | (simp [*]; done)), (by first | rfl | (simp; done) | (simp [*]; done)), H', ⟨by have := HK1.out; have := HJ5.out; omega⟩, ⟨by (with_reducible repeat (first | apply Kd.R_alloc | apply Kd.R_drewN | apply Kd.R_drew)); exact HO186.out⟩, ⟨by repeat (first | (with_reducible first | exact HI0.out | apply IsS32.alloc | apply IsS32.drewN | apply IsS32.drew | apply IsS32.set_0 | apply IsS32.set_1) | exact HI0.out)⟩, ⟨by repeat (first | (with_reducible first | exact HK.out | apply KeepBut.set_ | apply keep_drewN | apply keep_drew | apply keep_alloc) | exact HK.out)⟩, ⟨by repeat (first | (with_reducible first | exact HB.out | apply below_alloc | apply pw_below_drewN | apply below_drew1 | refine below_set ?_ (IsS32.ge HI0.out)) | exact HB.out)⟩⟩
         ·rw [if_neg c18] at H
          exact absurd H (by simp)
        ·rw [if_neg c17] at H
         have c17b0 : decide ((Int.tmod x7_1 s0_0) < s0_1) = false := decide_eq_false c17
         clear c17
         by_cases c21 : x5_1.length < 140737488355328
         ·rw [if_pos c21] at H
          have LMc21 := Aside0.mk c21
          clear c21
          obtain ⟨y187, hy187⟩ : ∃ y_ : List Int, y_ = (x5_1 ++ [48]) := ⟨_, rfl⟩
          replace H : (spec_l03Divide.l0 kj5 a1 y187 48 (wrap64 (x7_1 + 1)) (wrap64 (x8_1 + 1)) s0_0 s0_1) = some (r1, r2, r3) := by first | (rw [hy187]; with_reducible exact H) | (have H2_ := (Option.bind_some _ _).symm.trans H; rw [hy187]; with_reducible exact H2_) | (have H2_ := (Option.bind_some _ _).symm.trans H; with_reducible exact H2_) | with_reducible exact H | (rw [hy187]; exact H) | exact H
          have Ny187 := Aside0.mk hy187
          clear hy187
          have H' := Aside0.mk H
          clear H
          obtain ⟨HGz22, hgz22⟩ := HI0.out
          have hcz22_0 := cellS32_0 HGz22
          have hcz22_1 := cellS32_1 HGz22
          have hfz22_0 := blk_frozen HGz22 0
          have hfz22_1 := blk_frozen HGz22 1
          clear HGz22 hgz22
          go_wp2_with (first | ((with_reducible refine gate_builtin (b := .append) (xs := #[.tmp 44, .tmp 46]) rfl ?_); at_builtin; refine Kd.R_append (Kd.int .u8) w.heap.size rfl (.tmp 44) (.tmp 46) 63 5 (.int .u8 0) 1 rfl Tryd.underlying63 info5 rfl (by decide) (by omega) u5 x5_1 48 [.int .u8 48] (fun _ => True) (fun _ => False) rfl rfl ?aP (fun _ hk => hk.elim) ?aF ?aO (Below.refl _ _) ?aS ?aL ?_; (case aP => exact rfl); (case aF => exact (fun _ _ => trivial)); (case aO => exact (by (with_reducible repeat (first | apply Kd.R_alloc | apply Kd.R_drewN | apply Kd.R_drew)); exact HO_5.out)); (case aS => exact (keep_size (w := w) (g := g) (row := none) (by repeat (first | (with_reducible first | exact HK.out | apply KeepBut.set_ | apply keep_drewN | apply keep_drew | apply keep_alloc) | exact HK.out)))); (case aL => have := LMc21.out; omega); intro v188 w23 ho hb hg hat; rw [← Ny187.out] at ho; have n0_ := Aside0.mk (IsS32.grown (by repeat (first | (with_reducible first | exact HI0.out | apply IsS32.alloc | apply IsS32.drewN | apply IsS32.drew | apply IsS32.set_0 | apply IsS32.set_1) | exact HI0.out)) hg (IsS32.own_ne HI0.out HO_5.out (by decide))); have n1_ := Aside0.mk (below_weaken (by repeat (first | (with_reducible first | exact HB.out | apply below_alloc | apply pw_below_drewN | apply below_drew1 | refine below_set ?_ (IsS32.ge HI0.out)) | exact HB.out)) HL.out hb); have n2_ := Aside0.mk (KeepBut.trans (by repeat (first | (with_reducible first | exact HK.out | apply KeepBut.set_ | apply keep_drewN | apply keep_drew | apply keep_alloc) | exact HK.out)) (KeepBut.of_grown hg g) (Kd.R_base2 HO_5.out)); have n3_ := Aside0.mk (ho); clear HI0; clear HB; clear HK; clear HO_5; have HI0 := n0_; have HB := n1_; have HK := n2_; have HO189 := n3_; clear n0_ n1_ n2_ n3_; clear ho hb hg hat))
          repeat (go_quiet (first | ((with_reducible refine gate_builtin (b := .append) (xs := #[.tmp 44, .tmp 46]) rfl ?_); at_builtin; refine Kd.R_append (Kd.int .u8) w.heap.size rfl (.tmp 44) (.tmp 46) 63 5 (.int .u8 0) 1 rfl Tryd.underlying63 info5 rfl (by decide) (by omega) u5 x5_1 48 [.int .u8 48] (fun _ => True) (fun _ => False) rfl rfl ?aP (fun _ hk => hk.elim) ?aF ?aO (Below.refl _ _) ?aS ?aL ?_; (case aP => exact rfl); (case aF => exact (fun _ _ => trivial)); (case aO => exact (by (with_reducible repeat (first | apply Kd.R_alloc | apply Kd.R_drewN | apply Kd.R_drew)); exact HO_5.out)); (case aS => exact (keep_size (w := w) (g := g) (row := none) (by repeat (first | (with_reducible first | exact HK.out | apply KeepBut.set_ | apply keep_drewN | apply keep_drew | apply keep_alloc) | exact HK.out)))); (case aL => have := LMc21.out; omega); intro v188 w23 ho hb hg hat; rw [← Ny187.out] at ho; have n0_ := Aside0.mk (IsS32.grown (by repeat (first | (with_reducible first | exact HI0.out | apply IsS32.alloc | apply IsS32.drewN | apply IsS32.drew | apply IsS32.set_0 | apply IsS32.set_1) | exact HI0.out)) hg (IsS32.own_ne HI0.out HO_5.out (by decide))); have n1_ := Aside0.mk (below_weaken (by repeat (first | (with_reducible first | exact HB.out | apply below_alloc | apply pw_below_drewN | apply below_drew1 | refine below_set ?_ (IsS32.ge HI0.out)) | exact HB.out)) HL.out hb); have n2_ := Aside0.mk (KeepBut.trans (by repeat (first | (with_reducible first | exact HK.out | apply KeepBut.set_ | apply keep_drewN | apply keep_drew | apply keep_alloc) | exact HK.out)) (KeepBut.of_grown hg g) (Kd.R_base2 HO_5.out)); have n3_ := Aside0.mk (ho); clear HI0; clear HB; clear HK; clear HO_5; have HI0 := n0_; have HB := n1_; have HK := n2_; have HO189 := n3_; clear n0_ n1_ n2_ n3_; clear ho hb hg hat)); try go_wp2_with (first | ((with_reducible refine gate_builtin (b := .append) (xs := #[.tmp 44, .tmp 46]) rfl ?_); at_builtin; refine Kd.R_append (Kd.int .u8) w.heap.size rfl (.tmp 44) (.tmp 46) 63 5 (.int .u8 0) 1 rfl Tryd.underlying63 info5 rfl (by decide) (by omega) u5 x5_1 48 [.int .u8 48] (fun _ => True) (fun _ => False) rfl rfl ?aP (fun _ hk => hk.elim) ?aF ?aO (Below.refl _ _) ?aS ?aL ?_; (case aP => exact rfl); (case aF => exact (fun _ _ => trivial)); (case aO => exact (by (with_reducible repeat (first | apply Kd.R_alloc | apply Kd.R_drewN | apply Kd.R_drew)); exact HO_5.out)); (case aS => exact (keep_size (w := w) (g := g) (row := none) (by repeat (first | (with_reducible first | exact HK.out | apply KeepBut.set_ | apply keep_drewN | apply keep_drew | apply keep_alloc) | exact HK.out)))); (case aL => have := LMc21.out; omega); intro v188 w23 ho hb hg hat; rw [← Ny187.out] at ho; have n0_ := Aside0.mk (IsS32.grown (by repeat (first | (with_reducible first | exact HI0.out | apply IsS32.alloc | apply IsS32.drewN | apply IsS32.drew | apply IsS32.set_0 | apply IsS32.set_1) | exact HI0.out)) hg (IsS32.own_ne HI0.out HO_5.out (by decide))); have n1_ := Aside0.mk (below_weaken (by repeat (first | (with_reducible first | exact HB.out | apply below_alloc | apply pw_below_drewN | apply below_drew1 | refine below_set ?_ (IsS32.ge HI0.out)) | exact HB.out)) HL.out hb); have n2_ := Aside0.mk (KeepBut.trans (by repeat (first | (with_reducible first | exact HK.out | apply KeepBut.set_ | apply keep_drewN | apply keep_drew | apply keep_alloc) | exact HK.out)) (KeepBut.of_grown hg g) (Kd.R_base2 HO_5.out)); have n3_ := Aside0.mk (ho); clear HI0; clear HB; clear HK; clear HO_5; have HI0 := n0_; have HB := n1_; have HK := n2_; have HO189 := n3_; clear n0_ n1_ n2_ n3_; clear ho hb hg hat)))
          go_roundg kj5
          case measure => have := HK1.out; have := HJ5.out; omega
          case rel => exact ⟨(y187), (48), (wrap64 (x7_1 + 1)), (wrap64 (x8_1 + 1)), (by first | rfl | (simp; done) | (simp [*]; done)), (by first | rfl | (simp; done) | (simp [*]; done)), (by first | rfl | (simp; done) | (simp [*]; done)), H', ⟨by have := HK1.out; have := HJ5.out; omega⟩, ⟨by (with_reducible repeat (first | apply Kd.R_alloc | apply Kd.R_drewN | apply Kd.R_drew)); exact HO189.out⟩, ⟨by repeat (first | (with_reducible first | exact HI0.out | apply IsS32.alloc | apply IsS32.drewN | apply IsS32.drew | apply IsS32.set_0 | apply IsS32.set_1) | exact HI0.out)⟩, ⟨by repeat (first | (with_reducible first | exact HK.out | apply KeepBut.set_ | apply keep_drewN | apply keep_drew | apply keep_alloc) | exact HK.out)⟩, ⟨by repeat (first | (with_reducible first | exact HB.out | apply below_alloc | apply pw_below_drewN | apply below_drew1 | refine below_set ?_ (IsS32.ge HI0.out)) | exact HB.out)⟩⟩
         ·rw [if_neg c21] at H
          exact absurd H (by simp)
      ·replace c15 := Bool.eq_false_iff.mpr c15
       subst c15
       have H1 : (if x5_1.length < 140737488355328 then (spec_l03Divide.l0 kj5 a1 (x5_1 ++ [x6_1]) x6_1 x7_1 (wrap64 (x8_1 + 1)) s0_0 s0_1) else (none)) = some (r1, r2, r3) := by rw [if_neg (show ¬ (false = true) by decide)] at H; exact H
       clear H
       have H := H1
       clear H1
       by_cases c24 : x5_1.length < 140737488355328
       ·rw [if_pos c24] at H
        have LMc24 := Aside0.mk c24
        clear c24
        obtain ⟨y190, hy190⟩ : ∃ y_ : List Int, y_ = (x5_1 ++ [x6_1]) := ⟨_, rfl⟩
        replace H : (spec_l03Divide.l0 kj5 a1 y190 x6_1 x7_1 (wrap64 (x8_1 + 1)) s0_0 s0_1) = some (r1, r2, r3) := by first | (rw [hy190]; with_reducible exact H) | (have H2_ := (Option.bind_some _ _).symm.trans H; rw [hy190]; with_reducible exact H2_) | (have H2_ := (Option.bind_some _ _).symm.trans H; with_reducible exact H2_) | with_reducible exact H | (rw [hy190]; exact H) | exact H
        have Ny190 := Aside0.mk hy190
        clear hy190
        have H' := Aside0.mk H
        clear H
        go_wp2_with (first | ((with_reducible refine gate_builtin (b := .append) (xs := #[.tmp 44, .tmp 46]) rfl ?_); at_builtin; refine Kd.R_append (Kd.int .u8) w.heap.size rfl (.tmp 44) (.tmp 46) 63 5 (.int .u8 0) 1 rfl Tryd.underlying63 info5 rfl (by decide) (by omega) u5 x5_1 x6_1 [.int .u8 x6_1] (fun _ => True) (fun _ => False) rfl rfl ?aP (fun _ hk => hk.elim) ?aF ?aO (Below.refl _ _) ?aS ?aL ?_; (case aP => exact rfl); (case aF => exact (fun _ _ => trivial)); (case aO => exact (by (with_reducible repeat (first | apply Kd.R_alloc | apply Kd.R_drewN | apply Kd.R_drew)); exact HO_5.out)); (case aS => exact (keep_size (w := w) (g := g) (row := none) (by repeat (first | (with_reducible first | exact HK.out | apply KeepBut.set_ | apply keep_drewN | apply keep_drew | apply keep_alloc) | exact HK.out)))); (case aL => have := LMc24.out; omega); intro v191 w25 ho hb hg hat; rw [← Ny190.out] at ho; have n0_ := Aside0.mk (IsS32.grown (by repeat (first | (with_reducible first | exact HI0.out | apply IsS32.alloc | apply IsS32.drewN | apply IsS32.drew | apply IsS32.set_0 | apply IsS32.set_1) | exact HI0.out)) hg (IsS32.own_ne HI0.out HO_5.out (by decide))); have n1_ := Aside0.mk (below_weaken (by repeat (first | (with_reducible first | exact HB.out | apply below_alloc | apply pw_below_drewN | apply below_drew1 | refine below_set ?_ (IsS32.ge HI0.out)) | exact HB.out)) HL.out hb); have n2_ := Aside0.mk (KeepBut.trans (by repeat (first | (with_reducible first | exact HK.out | apply KeepBut.set_ | apply keep_drewN | apply keep_drew | apply keep_alloc) | exact HK.out)) (KeepBut.of_grown hg g) (Kd.R_base2 HO_5.out)); have n3_ := Aside0.mk (ho); clear HI0; clear HB; clear HK; clear HO_5; have HI0 := n0_; have HB := n1_; have HK := n2_; have HO192 := n3_; clear n0_ n1_ n2_ n3_; clear ho hb hg hat))
        repeat (go_quiet (first | ((with_reducible refine gate_builtin (b := .append) (xs := #[.tmp 44, .tmp 46]) rfl ?_); at_builtin; refine Kd.R_append (Kd.int .u8) w.heap.size rfl (.tmp 44) (.tmp 46) 63 5 (.int .u8 0) 1 rfl Tryd.underlying63 info5 rfl (by decide) (by omega) u5 x5_1 x6_1 [.int .u8 x6_1] (fun _ => True) (fun _ => False) rfl rfl ?aP (fun _ hk => hk.elim) ?aF ?aO (Below.refl _ _) ?aS ?aL ?_; (case aP => exact rfl); (case aF => exact (fun _ _ => trivial)); (case aO => exact (by (with_reducible repeat (first | apply Kd.R_alloc | apply Kd.R_drewN | apply Kd.R_drew)); exact HO_5.out)); (case aS => exact (keep_size (w := w) (g := g) (row := none) (by repeat (first | (with_reducible first | exact HK.out | apply KeepBut.set_ | apply keep_drewN | apply keep_drew | apply keep_alloc) | exact HK.out)))); (case aL => have := LMc24.out; omega); intro v191 w25 ho hb hg hat; rw [← Ny190.out] at ho; have n0_ := Aside0.mk (IsS32.grown (by repeat (first | (with_reducible first | exact HI0.out | apply IsS32.alloc | apply IsS32.drewN | apply IsS32.drew | apply IsS32.set_0 | apply IsS32.set_1) | exact HI0.out)) hg (IsS32.own_ne HI0.out HO_5.out (by decide))); have n1_ := Aside0.mk (below_weaken (by repeat (first | (with_reducible first | exact HB.out | apply below_alloc | apply pw_below_drewN | apply below_drew1 | refine below_set ?_ (IsS32.ge HI0.out)) | exact HB.out)) HL.out hb); have n2_ := Aside0.mk (KeepBut.trans (by repeat (first | (with_reducible first | exact HK.out | apply KeepBut.set_ | apply keep_drewN | apply keep_drew | apply keep_alloc) | exact HK.out)) (KeepBut.of_grown hg g) (Kd.R_base2 HO_5.out)); have n3_ := Aside0.mk (ho); clear HI0; clear HB; clear HK; clear HO_5; have HI0 := n0_; have HB := n1_; have HK := n2_; have HO192 := n3_; clear n0_ n1_ n2_ n3_; clear ho hb hg hat)); try go_wp2_with (first | ((with_reducible refine gate_builtin (b := .append) (xs := #[.tmp 44, .tmp 46]) rfl ?_); at_builtin; refine Kd.R_append (Kd.int .u8) w.heap.size rfl (.tmp 44) (.tmp 46) 63 5 (.int .u8 0) 1 rfl Tryd.underlying63 info5 rfl (by decide) (by omega) u5 x5_1 x6_1 [.int .u8 x6_1] (fun _ => True) (fun _ => False) rfl rfl ?aP (fun _ hk => hk.elim) ?aF ?aO (Below.refl _ _) ?aS ?aL ?_; (case aP => exact rfl); (case aF => exact (fun _ _ => trivial)); (case aO => exact (by (with_reducible repeat (first | apply Kd.R_alloc | apply Kd.R_drewN | apply Kd.R_drew)); exact HO_5.out)); (case aS => exact (keep_size (w := w) (g := g) (row := none) (by repeat (first | (with_reducible first | exact HK.out | apply KeepBut.set_ | apply keep_drewN | apply keep_drew | apply keep_alloc) | exact HK.out)))); (case aL => have := LMc24.out; omega); intro v191 w25 ho hb hg hat; rw [← Ny190.out] at ho; have n0_ := Aside0.mk (IsS32.grown (by repeat (first | (with_reducible first | exact HI0.out | apply IsS32.alloc | apply IsS32.drewN | apply IsS32.drew | apply IsS32.set_0 | apply IsS32.set_1) | exact HI0.out)) hg (IsS32.own_ne HI0.out HO_5.out (by decide))); have n1_ := Aside0.mk (below_weaken (by repeat (first | (with_reducible first | exact HB.out | apply below_alloc | apply pw_below_drewN | apply below_drew1 | refine below_set ?_ (IsS32.ge HI0.out)) | exact HB.out)) HL.out hb); have n2_ := Aside0.mk (KeepBut.trans (by repeat (first | (with_reducible first | exact HK.out | apply KeepBut.set_ | apply keep_drewN | apply keep_drew | apply keep_alloc) | exact HK.out)) (KeepBut.of_grown hg g) (Kd.R_base2 HO_5.out)); have n3_ := Aside0.mk (ho); clear HI0; clear HB; clear HK; clear HO_5; have HI0 := n0_; have HB := n1_; have HK := n2_; have HO192 := n3_; clear n0_ n1_ n2_ n3_; clear ho hb hg hat)))
        go_roundg kj5
        case measure => have := HK1.out; have := HJ5.out; omega
        case rel => exact ⟨(y190), (x6_1), (x7_1), (wrap64 (x8_1 + 1)), (by first | rfl | (simp; done) | (simp [*]; done)), (by first | rfl | (simp; done) | (simp [*]; done)), (by first | rfl | (simp; done) | (simp [*]; done)), H', ⟨by have := HK1.out; have := HJ5.out; omega⟩, ⟨by (with_reducible repeat (first | apply Kd.R_alloc | apply Kd.R_drewN | apply Kd.R_drew)); exact HO192.out⟩, ⟨by repeat (first | (with_reducible first | exact HI0.out | apply IsS32.alloc | apply IsS32.drewN | apply IsS32.drew | apply IsS32.set_0 | apply IsS32.set_1) | exact HI0.out)⟩, ⟨by repeat (first | (with_reducible first | exact HK.out | apply KeepBut.set_ | apply keep_drewN | apply keep_drew | apply keep_alloc) | exact HK.out)⟩, ⟨by repeat (first | (with_reducible first | exact HB.out | apply below_alloc | apply pw_below_drewN | apply below_drew1 | refine below_set ?_ (IsS32.ge HI0.out)) | exact HB.out)⟩⟩
       ·rw [if_neg c24] at H
        exact absurd H (by simp)
   ·rw [if_neg c5] at H
    have c5b0 : decide (x8_1 < (a1.size : Int)) = false := decide_eq_false c5
    clear c5
    simp only [Option.some.injEq, Prod.mk.injEq] at H
    obtain ⟨rfl, rfl, rfl⟩ := H
    have hcv26 := own_string (P := Tryd.prog) Tryd.underlying63 Tryd.underlying5 Tryd.underlying9 (Kd.own_of_R HO_5.out)
    go_wp2
    repeat (go_quiet (fail); try go_wp2)
    go_ret
    exact ⟨by first | rfl | (simp [errW_none, errW_some] <;> rfl) | (simp [*, errW_none, errW_some] <;> rfl), by repeat (first | (with_reducible first | exact HI0.out | apply IsS32.alloc | apply IsS32.drewN | apply IsS32.drew | apply IsS32.set_0 | apply IsS32.set_1) | exact HI0.out), by repeat (first | (with_reducible first | exact HB.out | apply below_alloc | apply pw_below_drewN | apply below_drew1 | refine below_set ?_ (IsS32.ge HI0.out)) | exact HB.out), by repeat (first | (with_reducible first | exact HK.out | apply KeepBut.set_ | apply keep_drewN | apply keep_drew | apply keep_alloc) | exact HK.out)⟩

end Go.Proofs.YtmipelgjmmgmnaaDoor.Pa

namespace Go.Proofs.YtmipelgjmmgmnaaDoor.Pa
open Go.RowKit Go.Proofs.YtmipelgjmmgmnaaDoorW.PrintWords Go.Proofs.YtmipelgjmmgmnaaDoorW.PrintLast Go.Proofs.YtmipelgjmmgmnaaDoorW.PrintMore
attribute [local go_sem] max2_int min2_int max_two min_two max_three min_three max_four min_four   -- for this text's walks alone
set_option linter.unusedVariables false
set_option linter.unusedSimpArgs false

/-! ### AUX waveOf -/
set_option maxHeartbeats 4000000 in
set_option maxRecDepth 100000 in
theorem waveOf.calls (n : Nat) (g : Nat) (lb : Array Value) (lv : Nat → Bool) (Inv : Nat → World → Prop) (B : Nat) (w : World) (hn : n ≤ 1048576) (hB : B ≤ w.heap.size)
  (eg : ∀ args W, (callFunc g args).run Tryd.prog W = .ok (.enter g args) W)
  (h0 : Inv 0 w)
  (hk : ∀ i W W', Inv i W → Below w.heap.size W W' → Inv i W')
  (hp : ∀ i W, i < n → w.heap.size ≤ W.heap.size → Inv i W → Calls Tryd.prog g (#[.int .i64 (i : Int)] ++ lb) W fun e w' => e = .returned (.bool (lv i)) ∧ Inv (i + 1) w' ∧ Side B w.heap.size W w') :
  Calls Tryd.prog 53 #[.int .i64 (n : Int), .func (.func g) #[] lb] w fun e w' => e = .returned (.string (strOfNums (waveL lv n))) ∧ Inv n w' ∧ Below B w w' := by
 have HP := Aside0.mk hp
 clear hp
 have HI0 := Aside0.mk h0
 clear h0
 have HK := Aside0.mk hk
 clear hk
 have HBM := Aside0.mk hB
 clear hB
 have HN := Aside0.mk hn
 clear hn
 go_enter Tryd.func53, Tryd.ntmps53
 go_wp2_with ((with_reducible refine gate_dst (N := 7) rfl ?_); refine Kd.R_lit (Kd.int .u8) w.heap.size 5 ?hg (N := 7) ?hd (xs := ([] : List Int)) (inner := []) (ok := fun k => w.heap.size ≤ k) (okp := fun _ => False) ?hr ?hp (fun _ hk => hk.elim) (Nat.le_refl _) (Below.refl _ _) (Nat.le_refl _) (by simp) ?_; (case hd => rfl); (case hg => rfl); (case hr => first | (go_simp; done) | (go_simp; rfl)); (case hp => exact (Reps.none _ _)); intro v1 w1 ho hb hg_ hnew_; have HO1 := Aside0.mk ho; have HB1 := Aside0.mk hb; clear ho hb hg_ hnew_)
 go_loopg [5, 9] n (fun gg s5 s9 wr => ∃ i : Nat, s9 = .int .i64 (i : Int) ∧ Aside0 (i ≤ n ∧ n - i ≤ gg) ∧ Aside0 (Kd.R (Kd.int .u8) 5 wr w.heap.size (fun k => w.heap.size ≤ k) s5 (waveL lv i)) ∧ Aside0 (Inv i wr) ∧ Aside0 (Below B w wr))
 case atStart => exact ⟨0, rfl, ⟨by omega⟩, HO1, ⟨HK.out 0 w _ HI0.out HB1.out⟩, ⟨HB1.out.mono HBM.out⟩⟩
 case round =>
  clear HO1 HB1 HI0
  obtain ⟨i, rfl, HX, HO, HI, HB⟩ := hrel
  by_cases hlt : i < n
  ·have t1 : decide ((i : Int) < (n : Int)) = true := decide_eq_true (by omega)
   have t2 : decide (i < n) = true := decide_eq_true hlt
   have HS : Aside0 (w.heap.size ≤ wr.heap.size) := ⟨HB.out.size⟩
   have HC := Aside0.mk (HP.out i wr hlt HS.out HI.out)
   have HL := Aside0.mk hlt
   clear hlt HI
   cases hq : lv i with
   | true =>
    have HQ := Aside0.mk hq
    rw [hq] at HC
    clear hq
    go_wp2_with (first | (go_at_fn g; refine HC.out.mono ?_; rintro e w1 ⟨rfl, hI1, hS1⟩; have HI1 := Aside0.mk hI1; have HS1 := Aside0.mk hS1; have HO1 := Aside0.mk (Kd.R_step HO.out (fun k hk hl => hS1.block k hl (.inr hk))); clear hI1 hS1) | ((with_reducible refine gate_builtin (b := .append) (xs := #[.tmp 15, .tmp 16]) rfl ?_); at_builtin; refine Kd.R_append (Kd.int .u8) (w0 := w1) w.heap.size rfl (.tmp 15) (.tmp 16) 63 5 (.int .u8 0) 1 rfl Tryd.underlying63 info5 rfl (by decide) (by omega) u5 (waveL lv i) 49 [.int .u8 49] (fun k => w.heap.size ≤ k) (fun _ => False) rfl rfl ?aP (fun _ hk => hk.elim) ?aF ?aO ?aB ?aS ?aL ?_; (case aP => exact rfl); (case aB => exact Below.refl _ _); (case aF => exact (fun _ hb => Nat.le_trans HS.out (Nat.le_trans HS1.out.size hb))); (case aO => exact HO1.out); (case aS => exact Nat.le_trans HS.out HS1.out.size); (case aL => have := HL.out; have := HN.out; rw [waveL_length]; omega); intro v2 w2 ho hb hg hat; have HO2 := Aside0.mk ho; have HB2 := Aside0.mk hb; clear ho hb hg hat))
    have hl := HL.out
    have hx := HX.out
    go_roundg (n - (i + 1))
    case measure => omega
    case rel =>
     have hw1 : wrap64 ((i : Int) + 1) = ((i + 1 : Nat) : Int) := by have := HN.out; unfold wrap64; omega
     exact ⟨i + 1, by rw [hw1], ⟨by omega⟩, ⟨by rw [waveL_succ, if_pos HQ.out]; exact HO2.out⟩, ⟨HK.out _ _ _ HI1.out HB2.out⟩, ⟨(HB.out.trans (HS1.out.below (Nat.le_trans HBM.out HS.out))).trans (HB2.out.mono HBM.out)⟩⟩
   | false =>
    have HQ := Aside0.mk hq
    rw [hq] at HC
    clear hq
    go_wp2_with (first | (go_at_fn g; refine HC.out.mono ?_; rintro e w1 ⟨rfl, hI1, hS1⟩; have HI1 := Aside0.mk hI1; have HS1 := Aside0.mk hS1; have HO1 := Aside0.mk (Kd.R_step HO.out (fun k hk hl => hS1.block k hl (.inr hk))); clear hI1 hS1) | ((with_reducible refine gate_builtin (b := .append) (xs := #[.tmp 18, .tmp 19]) rfl ?_); at_builtin; refine Kd.R_append (Kd.int .u8) (w0 := w1) w.heap.size rfl (.tmp 18) (.tmp 19) 63 5 (.int .u8 0) 1 rfl Tryd.underlying63 info5 rfl (by decide) (by omega) u5 (waveL lv i) 48 [.int .u8 48] (fun k => w.heap.size ≤ k) (fun _ => False) rfl rfl ?aP (fun _ hk => hk.elim) ?aF ?aO ?aB ?aS ?aL ?_; (case aP => exact rfl); (case aB => exact Below.refl _ _); (case aF => exact (fun _ hb => Nat.le_trans HS.out (Nat.le_trans HS1.out.size hb))); (case aO => exact HO1.out); (case aS => exact Nat.le_trans HS.out HS1.out.size); (case aL => have := HL.out; have := HN.out; rw [waveL_length]; omega); intro v2 w2 ho hb hg hat; have HO2 := Aside0.mk ho; have HB2 := Aside0.mk hb; clear ho hb hg hat))
    have hl := HL.out
    have hx := HX.out
    go_roundg (n - (i + 1))
    case measure => omega
    case rel =>
     have hw1 : wrap64 ((i : Int) + 1) = ((i + 1 : Nat) : Int) := by have := HN.out; unfold wrap64; omega
     exact ⟨i + 1, by rw [hw1], ⟨by omega⟩, ⟨by rw [waveL_succ, if_neg (by rw [HQ.out]; decide)]; exact HO2.out⟩, ⟨HK.out _ _ _ HI1.out HB2.out⟩, ⟨(HB.out.trans (HS1.out.below (Nat.le_trans HBM.out HS.out))).trans (HB2.out.mono HBM.out)⟩⟩
  ·have t1 : decide ((i : Int) < (n : Int)) = false := decide_eq_false (by omega)
   have t2 : decide (i < n) = false := decide_eq_false hlt
   have hx := HX.out
   obtain rfl : i = n := by omega
   have HR2 := Aside0.mk (own_string (P := Tryd.prog) Tryd.underlying63 Tryd.underlying5 Tryd.underlying9 (Kd.own_of_R HO.out))
   clear hlt hx
   have hcv := HR2.out
   go_wp2
   go_ret
   exact ⟨rfl, HI.out, HB.out⟩

end Go.Proofs.YtmipelgjmmgmnaaDoor.Pa

namespace Go.Proofs.YtmipelgjmmgmnaaDoor.Pa
open Go.RowKit Go.Proofs.YtmipelgjmmgmnaaDoorW.PrintWords Go.Proofs.YtmipelgjmmgmnaaDoorW.PrintLast Go.Proofs.YtmipelgjmmgmnaaDoorW.PrintMore
attribute [local go_sem] max2_int min2_int max_two min_two max_three min_three max_four min_four   -- for this text's walks alone
set_option linter.unusedVariables false
set_option linter.unusedSimpArgs false

/-! ### AUX strbox -/
/-- A cell of a block of one cell that is known whole. -/
theorem cell1 {w : World} {g : Nat} {t : TypeId} {v : Value} (h : w.heap[g]? = some (.cells #[v] t (0, 0))) : w.cell? ⟨g, 0, none⟩ = some v := (blk_cell h 0).trans rfl
theorem put1 {w : World} {g : Nat} {t : TypeId} {v : Value} (h : w.heap[g]? = some (.cells #[v] t (0, 0))) (u : Value) : (w.setCell ⟨g, 0, none⟩ u).heap[g]? = some (.cells #[u] t (0, 0)) := (blk_set h 0 u).trans rfl
/-- A block of the elder world stays where all below its size stays. -/
theorem blk_stays {M : Nat} {w w1 : World} {g : Nat} {o : Obj} (h : w.heap[g]? = some o) (hg : g < M) (hb : Below M w w1) : w1.heap[g]? = some o := (hb.block g hg).trans h
theorem keepPut (W : World) (g nd nq : Nat) (v : Value) : KeepBut W (((W.drewN nd).setCell ⟨g, 0, none⟩ v).drewN nq) g none :=
 ⟨by show W.heap.size ≤ ((W.drewN nd).setCell ⟨g, 0, none⟩ v).heap.size; simp [World.setCell], fun i _ hne _ => Below.heap_setCell (W.drewN nd) ⟨g, 0, none⟩ v i hne⟩
theorem keepN (W : World) (g n : Nat) : KeepBut W (W.drewN n) g none := KeepBut.of_below (pw_below_drewN (Below.refl _ W) n) _ _
theorem side_drewN {B M : Nat} {W w : World} (h : Side B M W w) (n : Nat) : Side B M W (w.drewN n) := h.trans (Side.of_below (pw_below_drewN (Below.refl _ w) n))
theorem keepTrans {w a b : World} {g : Nat} (h : KeepBut w a g none) (k : KeepBut a b g none) : KeepBut w b g none := ⟨Nat.le_trans h.1 k.1, fun i hi hne hr => (k.2 i (Nat.lt_of_lt_of_le hi h.1) hne hr).trans (h.2 i hi hne hr)⟩
theorem keepBelow {w a b : World} {g : Nat} (h : KeepBut w a g none) (k : Below w.heap.size a b) : KeepBut w b g none := ⟨Nat.le_trans h.1 k.size, fun i hi hne hr => (k.block i hi).trans (h.2 i hi hne hr)⟩

end Go.Proofs.YtmipelgjmmgmnaaDoor.Pa

namespace Go.Proofs.YtmipelgjmmgmnaaDoor.Pa
open Go.RowKit Go.Proofs.YtmipelgjmmgmnaaDoorW.PrintWords Go.Proofs.YtmipelgjmmgmnaaDoorW.PrintLast Go.Proofs.YtmipelgjmmgmnaaDoorW.PrintMore
attribute [local go_sem] max2_int min2_int max_two min_two max_three min_three max_four min_four   -- for this text's walks alone
set_option linter.unusedVariables false
set_option linter.unusedSimpArgs false

/-! ### impl_changesTo: function 100 -/
def impl_changesTo.l0 : Nat → ByteArray → Int → List Int → Int → Int → Int → Option (List Int)
 | 0, _, _, _, _, _, _ => none
 | k + 1, x0, x1, x5, x6, x10, x11 => if x11 < x10 then (if 0 ≤ x11 then (if x11 < (x0.size : Int) then (if (bt x0 x11) = x6 then (impl_changesTo.l0 k x0 x1 x5 (bt x0 x11) x10 (wrap64 (x11 + 1))) else (if (bt x0 x11) = x1 then (if x5.length < 17592186044416 then (impl_changesTo.l0 k x0 x1 (x5 ++ [x11]) (bt x0 x11) x10 (wrap64 (x11 + 1))) else (none)) else (impl_changesTo.l0 k x0 x1 x5 (bt x0 x11) x10 (wrap64 (x11 + 1))))) else (none)) else (none)) else (some x5)
def impl_changesTo.f (k : Nat) (a0 : ByteArray) (a1 : Int) : Option (List Int) := impl_changesTo.l0 k a0 a1 (([] : List Int)) 48 (a0.size : Int) 0
theorem impl_changesTo.mono_l : ∀ k, (∀ y0 y1 y2 y3 y4 y5, LeO (impl_changesTo.l0 k y0 y1 y2 y3 y4 y5) (impl_changesTo.l0 (k + 1) y0 y1 y2 y3 y4 y5))
 | 0 => fun _ _ _ _ _ _ r h => by simp [impl_changesTo.l0] at h
 | k + 1 => by
  have ih0 := impl_changesTo.mono_l k
  ·intro y0 y1 y2 y3 y4 y5
   unfold impl_changesTo.l0
   repeat' first
   | (with_reducible exact ih0 _ _ _ _ _ _)
   | (with_reducible exact LeO.refl _)
   | (with_reducible exact LeO.none _)
   | (with_reducible refine LeO.ite ?_ ?_)
   | (with_reducible refine LeO.bind ?_ (fun _ => ?_))
   | exact ih0 _ _ _ _ _ _
   | exact LeO.none _
   | refine LeO.ite ?_ ?_
   | refine LeO.bind ?_ (fun _ => ?_)
theorem impl_changesTo.mono : ∀ a0 a1 k, LeO (impl_changesTo.f k a0 a1) (impl_changesTo.f (k + 1) a0 a1) := by
 intro a0 a1 k
 have ih0 := impl_changesTo.mono_l k
 unfold impl_changesTo.f
 repeat' first
   | (with_reducible exact ih0 _ _ _ _ _ _)
   | (with_reducible exact LeO.refl _)
   | (with_reducible exact LeO.none _)
   | (with_reducible refine LeO.ite ?_ ?_)
   | (with_reducible refine LeO.bind ?_ (fun _ => ?_))
   | exact ih0 _ _ _ _ _ _
   | exact LeO.none _
   | refine LeO.ite ?_ ?_
   | refine LeO.bind ?_ (fun _ => ?_)
set_option maxHeartbeats 8000000 in
set_option maxRecDepth 100000 in
theorem impl_changesTo.calls (k : Nat) (a0 : ByteArray) (a1 : Int) (r : List Int) (w : World) (h : impl_changesTo.f k a0 a1 = some r) :
  Calls Tryd.prog 100 #[.string a0, .int .u8 a1] w fun e w' => ∃ v0_ : Value, e = .returned (v0_) ∧ Kd.R (Kd.int .i64) 2 w' w.heap.size (fun _ => True) v0_ r ∧ Below w.heap.size w w' := by
 have HB := Aside0.mk (Below.refl w.heap.size w)
 have H : (impl_changesTo.l0 k a0 a1 (([] : List Int)) 48 (a0.size : Int) 0) = some r := h
 clear h
 obtain ⟨y206, hy206⟩ : ∃ y_ : List Int, y_ = (([] : List Int)) := ⟨_, rfl⟩
 replace H : (impl_changesTo.l0 k a0 a1 y206 48 (a0.size : Int) 0) = some r := by first | (rw [hy206]; with_reducible exact H) | (have H2_ := (Option.bind_some _ _).symm.trans H; rw [hy206]; with_reducible exact H2_) | (have H2_ := (Option.bind_some _ _).symm.trans H; with_reducible exact H2_) | with_reducible exact H | (rw [hy206]; exact H) | exact H
 have Ny206 := Aside0.mk hy206
 clear hy206
 have H' := Aside0.mk H
 clear H
 go_enter Tryd.func100, Tryd.ntmps100
 go_wp2_with (first | ((with_reducible refine gate_dst (N := 8) rfl ?_); refine Kd.R_lit (Kd.int .i64) _ 2 ?hg (N := 8) ?hd (xs := ([] : List Int)) (inner := []) (ok := fun _ => True) (okp := fun _ => True) ?hr ?hp (fun _ hk => hk) trivial (Below.refl _ _) (Nat.le_refl _) (by simp) ?_; (case hd => rfl); (case hg => rfl); (case hr => first | (go_simp; done) | (go_simp; rfl)); (case hp => exact (Reps.none _ _)); intro v207 w3 ho4 hb hg_ hnew_; clear hg_ hnew_; (first | rw [← Ny206.out] at ho4 | (simp only [Int.reduceToNat] at ho4; rw [← Ny206.out] at ho4)); have n0_ := Aside0.mk (Kd.R_lower ho4 (below_size (by repeat (first | (with_reducible first | exact HB.out | apply below_alloc | apply pw_below_drewN | apply below_drew1) | exact HB.out)))); have n1_ := Aside0.mk (below_step (by repeat (first | (with_reducible first | exact HB.out | apply below_alloc | apply pw_below_drewN | apply below_drew1) | exact HB.out)) hb); clear HB; have HO208 := n0_; have HB := n1_; clear n0_ n1_; clear hb ho4))
 go_loopg [5, 6, 11] k (fun kq v5 v6 v11 w' => ∃ (x5_1 : List Int) (x6_1 : Int) (x11_1 : Int), v6 = .int .u8 x6_1 ∧ v11 = .int .i64 x11_1 ∧ Aside0 (impl_changesTo.l0 kq a0 a1 x5_1 x6_1 (a0.size : Int) x11_1 = some r) ∧ Aside0 (kq ≤ k) ∧ Aside0 (Kd.R (Kd.int .i64) 2 w' w.heap.size (fun _ => True) v5 x5_1) ∧ Aside0 (Below w.heap.size w w'))
 case atStart => exact ⟨(y206), (48), (0), (by first | rfl | (simp; done) | (simp [*]; done)), (by first | rfl | (simp; done) | (simp [*]; done)), H', ⟨Nat.le_refl _⟩, ⟨by (with_reducible repeat (first | apply Kd.R_alloc | apply Kd.R_drewN | apply Kd.R_drew)); exact HO208.out⟩, ⟨by repeat (first | (with_reducible first | exact HB.out | apply below_alloc | apply pw_below_drewN | apply below_drew1) | exact HB.out)⟩⟩
 case round =>
  clear H'
  try clear c1
  try clear p2
  obtain ⟨x5_1, x6_1, x11_1, rfl, rfl, HA, HK1, HO_5, HB⟩ := hrel
  cases gk with
  | zero => exact absurd HA.out (by simp [impl_changesTo.l0])
  | succ k1 =>
   have H := HA.out
   clear HA
   simp only [impl_changesTo.l0] at H
   by_cases c5 : x11_1 < (a0.size : Int)
   ·rw [if_pos c5] at H
    have c5b0 : decide (x11_1 < (a0.size : Int)) = true := decide_eq_true c5
    clear c5
    by_cases c6 : 0 ≤ x11_1
    ·rw [if_pos c6] at H
     have c6b0 : decide (0 ≤ x11_1) = true := decide_eq_true c6
     clear c6
     by_cases c7 : x11_1 < (a0.size : Int)
     ·rw [if_pos c7] at H
      have c7b0 : decide (x11_1 < (a0.size : Int)) = true := decide_eq_true c7
      clear c7
      by_cases c9 : (bt a0 x11_1) = x6_1
      ·rw [if_pos c9] at H
       have c9b0 : ((bt a0 x11_1) == x6_1) = true := beq_iff_eq.mpr c9
       have c9b1 : ((bt a0 x11_1) != x6_1) = false := bne_eq_false_iff_eq.mpr c9
       clear c9
       have H' := Aside0.mk H
       clear H
       have p8 : 0 ≤ (x11_1 : Int) := of_decide_eq_true (by with_reducible assumption)
       have q8 : x11_1 < (a0.size : Int) := of_decide_eq_true (by with_reducible assumption)
       have hx8 := bt_at a0 x11_1
       replace p8 := eq_true p8
       replace q8 := eq_true q8
       have p10 : 0 ≤ (x11_1 : Int) := of_decide_eq_true (by with_reducible assumption)
       have q10 : x11_1 < (a0.size : Int) := of_decide_eq_true (by with_reducible assumption)
       have hx10 := bt_at a0 x11_1
       replace p10 := eq_true p10
       replace q10 := eq_true q10
       go_wp2
       go_roundg k1
       case measure => have := HK1.out; omega
       case rel => exact ⟨(x5_1), (bt a0 x11_1), (wrap64 (x11_1 + 1)), (by first | rfl | (simp; done) | (simp [*]; done)), (by first | rfl | (simp; done) | (simp [*]; done)), H', ⟨by have := HK1.out; omega⟩, ⟨by (with_reducible repeat (first | apply Kd.R_alloc | apply Kd.R_drewN | apply Kd.R_drew)); exact HO_5.out⟩, ⟨by repeat (first | (with_reducible first | exact HB.out | apply below_alloc | apply pw_below_drewN | apply below_drew1) | exact HB.out)⟩⟩
      ·rw [if_neg c9] at H
       have c9b0 : ((bt a0 x11_1) == x6_1) = false := beq_eq_false_iff_ne.mpr c9
       have c9b1 : ((bt a0 x11_1) != x6_1) = true := bne_iff_ne.mpr c9
       by_cases c12 : (bt a0 x11_1) = a1
       ·rw [if_pos c12] at H
        have c12b0 : ((bt a0 x11_1) == a1) = true := beq_iff_eq.mpr c12
        have c12b1 : ((bt a0 x11_1) != a1) = false := bne_eq_false_iff_eq.mpr c12
        clear c12
        by_cases c13 : x5_1.length < 17592186044416
        ·rw [if_pos c13] at H
         have LMc13 := Aside0.mk c13
         clear c13
         obtain ⟨y209, hy209⟩ : ∃ y_ : List Int, y_ = (x5_1 ++ [x11_1]) := ⟨_, rfl⟩
         replace H : (impl_changesTo.l0 k1 a0 a1 y209 (bt a0 x11_1) (a0.size : Int) (wrap64 (x11_1 + 1))) = some r := by first | (rw [hy209]; with_reducible exact H) | (have H2_ := (Option.bind_some _ _).symm.trans H; rw [hy209]; with_reducible exact H2_) | (have H2_ := (Option.bind_some _ _).symm.trans H; with_reducible exact H2_) | with_reducible exact H | (rw [hy209]; exact H) | exact H
         have Ny209 := Aside0.mk hy209
         clear hy209
         have H' := Aside0.mk H
         clear H
         have p8 : 0 ≤ (x11_1 : Int) := of_decide_eq_true (by with_reducible assumption)
         have q8 : x11_1 < (a0.size : Int) := of_decide_eq_true (by with_reducible assumption)
         have hx8 := bt_at a0 x11_1
         replace p8 := eq_true p8
         replace q8 := eq_true q8
         have p11 : 0 ≤ (x11_1 : Int) := of_decide_eq_true (by with_reducible assumption)
         have q11 : x11_1 < (a0.size : Int) := of_decide_eq_true (by with_reducible assumption)
         have hx11 := bt_at a0 x11_1
         replace p11 := eq_true p11
         replace q11 := eq_true q11
         go_wp2_with (first | ((with_reducible refine gate_builtin (b := .append) (xs := #[.tmp 26, .tmp 28]) rfl ?_); at_builtin; refine Kd.R_append (Kd.int .i64) (w0 := w) w.heap.size rfl (.tmp 26) (.tmp 28) 48 2 (.int .i64 0) 8 rfl Tryd.underlying48 info2 rfl (by decide) (by omega) u5 x5_1 x11_1 [.int .i64 x11_1] (fun _ => True) (fun _ => False) rfl rfl ?aP (fun _ hk => hk.elim) ?aF ?aO ?aB ?aS ?aL ?_; (case aP => exact rfl); (case aB => exact (by repeat (first | (with_reducible first | exact HB.out | apply below_alloc | apply pw_below_drewN | apply below_drew1) | exact HB.out))); (case aF => exact (fun _ _ => trivial)); (case aO => exact (by (with_reducible repeat (first | apply Kd.R_alloc | apply Kd.R_drewN | apply Kd.R_drew)); exact HO_5.out)); (case aS => exact (below_size (by repeat (first | (with_reducible first | exact HB.out | apply below_alloc | apply pw_below_drewN | apply below_drew1) | exact HB.out)))); (case aL => have := LMc13.out; omega); intro v210 w15 ho hb hg hat; rw [← Ny209.out] at ho; have n0_ := Aside0.mk (hb); have n1_ := Aside0.mk (ho); clear HB; clear HO_5; have HB := n0_; have HO211 := n1_; clear n0_ n1_; clear ho hb hg hat; have p14 : 0 ≤ (x11_1 : Int) := of_decide_eq_true (by with_reducible assumption); have q14 : x11_1 < (a0.size : Int) := of_decide_eq_true (by with_reducible assumption); have hx14 := bt_at a0 x11_1; replace p14 := eq_true p14; replace q14 := eq_true q14))
         go_roundg k1
         case measure => have := HK1.out; omega
         case rel => exact ⟨(y209), (bt a0 x11_1), (wrap64 (x11_1 + 1)), (by first | rfl | (simp; done) | (simp [*]; done)), (by first | rfl | (simp; done) | (simp [*]; done)), H', ⟨by have := HK1.out; omega⟩, ⟨by (with_reducible repeat (first | apply Kd.R_alloc | apply Kd.R_drewN | apply Kd.R_drew)); exact HO211.out⟩, ⟨by repeat (first | (with_reducible first | exact HB.out | apply below_alloc | apply pw_below_drewN | apply below_drew1) | exact HB.out)⟩⟩
        ·rw [if_neg c13] at H
         exact absurd H (by simp)
       ·rw [if_neg c12] at H
        have c12b0 : ((bt a0 x11_1) == a1) = false := beq_eq_false_iff_ne.mpr c12
        have c12b1 : ((bt a0 x11_1) != a1) = true := bne_iff_ne.mpr c12
        have H' := Aside0.mk H
        clear H
        have p8 : 0 ≤ (x11_1 : Int) := of_decide_eq_true (by with_reducible assumption)
        have q8 : x11_1 < (a0.size : Int) := of_decide_eq_true (by with_reducible assumption)
        have hx8 := bt_at a0 x11_1
        replace p8 := eq_true p8
        replace q8 := eq_true q8
        have p11 : 0 ≤ (x11_1 : Int) := of_decide_eq_true (by with_reducible assumption)
        have q11 : x11_1 < (a0.size : Int) := of_decide_eq_true (by with_reducible assumption)
        have hx11 := bt_at a0 x11_1
        replace p11 := eq_true p11
        replace q11 := eq_true q11
        have p16 : 0 ≤ (x11_1 : Int) := of_decide_eq_true (by with_reducible assumption)
        have q16 : x11_1 < (a0.size : Int) := of_decide_eq_true (by with_reducible assumption)
        have hx16 := bt_at a0 x11_1
        replace p16 := eq_true p16
        replace q16 := eq_true q16
        go_wp2
        go_roundg k1
        case measure => have := HK1.out; omega
        case rel => exact ⟨(x5_1), (bt a0 x11_1), (wrap64 (x11_1 + 1)), (by first | rfl | (simp; done) | (simp [*]; done)), (by first | rfl | (simp; done) | (simp [*]; done)), H', ⟨by have := HK1.out; omega⟩, ⟨by (with_reducible repeat (first | apply Kd.R_alloc | apply Kd.R_drewN | apply Kd.R_drew)); exact HO_5.out⟩, ⟨by repeat (first | (with_reducible first | exact HB.out | apply below_alloc | apply pw_below_drewN | apply below_drew1) | exact HB.out)⟩⟩
     ·rw [if_neg c7] at H
      exact absurd H (by simp)
    ·rw [if_neg c6] at H
     exact absurd H (by simp)
   ·rw [if_neg c5] at H
    have c5b0 : decide (x11_1 < (a0.size : Int)) = false := decide_eq_false c5
    clear c5
    obtain rfl := Option.some.inj H
    go_wp2
    go_ret
    exact ⟨_, by first | rfl | (simp [errW_none, errW_some] <;> rfl) | (simp [*, errW_none, errW_some] <;> rfl), by (with_reducible repeat (first | apply Kd.R_alloc | apply Kd.R_drewN | apply Kd.R_drew)); exact HO_5.out, by repeat (first | (with_reducible first | exact HB.out | apply below_alloc | apply pw_below_drewN | apply below_drew1) | exact HB.out)⟩

end Go.Proofs.YtmipelgjmmgmnaaDoor.Pa

namespace Go.Proofs.YtmipelgjmmgmnaaDoor.Pa
open Go.RowKit Go.Proofs.YtmipelgjmmgmnaaDoorW.PrintWords Go.Proofs.YtmipelgjmmgmnaaDoorW.PrintLast Go.Proofs.YtmipelgjmmgmnaaDoorW.PrintMore
attribute [local go_sem] max2_int min2_int max_two min_two max_three min_three max_four min_four   -- for this text's walks alone
set_option linter.unusedVariables false
set_option linter.unusedSimpArgs false

/-! ### slices_Index_int64_int64: function 133 -/
def slices_Index_int64_int64.l0 : Nat → List Int → Int → Int → Int → Option (Int)
 | 0, _, _, _, _ => none
 | k + 1, x0, x1, x7, x8 => if x8 < x7 then (if 0 ≤ x8 then (if x8 < (x0.length : Int) then (if x1 = (rd x0 x8) then (some x8) else (slices_Index_int64_int64.l0 k x0 x1 x7 (wrap64 (x8 + 1)))) else (none)) else (none)) else (some (-1))
def slices_Index_int64_int64.f (k : Nat) (l0 : List Int) (a1 : Int) : Option (Int) := slices_Index_int64_int64.l0 k l0 a1 (l0.length : Int) 0
theorem slices_Index_int64_int64.mono_l : ∀ k, (∀ y0 y1 y2 y3, LeO (slices_Index_int64_int64.l0 k y0 y1 y2 y3) (slices_Index_int64_int64.l0 (k + 1) y0 y1 y2 y3))
 | 0 => fun _ _ _ _ r h => by simp [slices_Index_int64_int64.l0] at h
 | k + 1 => by
  have ih0 := slices_Index_int64_int64.mono_l k
  ·intro y0 y1 y2 y3
   unfold slices_Index_int64_int64.l0
   repeat' first
   | (with_reducible exact ih0 _ _ _ _)
   | (with_reducible exact LeO.refl _)
   | (with_reducible exact LeO.none _)
   | (with_reducible refine LeO.ite ?_ ?_)
   | (with_reducible refine LeO.bind ?_ (fun _ => ?_))
   | exact ih0 _ _ _ _
   | exact LeO.none _
   | refine LeO.ite ?_ ?_
   | refine LeO.bind ?_ (fun _ => ?_)
theorem slices_Index_int64_int64.mono : ∀ a0 a1 k, LeO (slices_Index_int64_int64.f k a0 a1) (slices_Index_int64_int64.f (k + 1) a0 a1) := by
 intro a0 a1 k
 have ih0 := slices_Index_int64_int64.mono_l k
 unfold slices_Index_int64_int64.f
 repeat' first
   | (with_reducible exact ih0 _ _ _ _)
   | (with_reducible exact LeO.refl _)
   | (with_reducible exact LeO.none _)
   | (with_reducible refine LeO.ite ?_ ?_)
   | (with_reducible refine LeO.bind ?_ (fun _ => ?_))
   | exact ih0 _ _ _ _
   | exact LeO.none _
   | refine LeO.ite ?_ ?_
   | refine LeO.bind ?_ (fun _ => ?_)
set_option maxHeartbeats 8000000 in
set_option maxRecDepth 100000 in
theorem slices_Index_int64_int64.calls (k : Nat) (A0 : Option Addr) (c0 : Nat) (l0 : List Int) (a1 : Int) (r : Int) (w : World) (hr0 : Kd.C (Kd.int .i64) w A0 l0.length l0) (hc0 : l0.length ≤ c0) (h : slices_Index_int64_int64.f k l0 a1 = some r) :
  Calls Tryd.prog 133 #[.slice A0 l0.length c0, .int .i64 a1] w fun e w' => e = .returned (.int .i64 r) ∧ Drawn0 w w' := by
 have HR0 := Aside0.mk hr0
 have HC0 := Aside0.mk hc0
 clear hr0 hc0
 have H : (slices_Index_int64_int64.l0 k l0 a1 (l0.length : Int) 0) = some r := h
 clear h
 have H' := Aside0.mk H
 clear H
 go_enter Tryd.func133, Tryd.ntmps133
 go_wp2
 go_loopg [8] k (fun kq v8 w' => ∃ (x8_1 : Int), v8 = .int .i64 x8_1 ∧ Aside0 (slices_Index_int64_int64.l0 kq l0 a1 (l0.length : Int) x8_1 = some r) ∧ Aside0 (kq ≤ k) ∧ Drawn0 w w')
 case atStart => exact ⟨(0), (by first | rfl | (simp; done) | (simp [*]; done)), H', ⟨Nat.le_refl _⟩, by repeat (first | exact Drawn0.refl _ | apply Drawn0.step)⟩
 case round =>
  clear H'
  try clear c1
  try clear p2
  obtain ⟨x8_1, rfl, HA, HK1, ⟨m1, rfl⟩⟩ := hrel
  cases gk with
  | zero => exact absurd HA.out (by simp [slices_Index_int64_int64.l0])
  | succ k1 =>
   have H := HA.out
   clear HA
   simp only [slices_Index_int64_int64.l0] at H
   by_cases c3 : x8_1 < (l0.length : Int)
   ·rw [if_pos c3] at H
    have c3b0 : decide (x8_1 < (l0.length : Int)) = true := decide_eq_true c3
    clear c3
    by_cases c4 : 0 ≤ x8_1
    ·rw [if_pos c4] at H
     have c4b0 : decide (0 ≤ x8_1) = true := decide_eq_true c4
     clear c4
     by_cases c5 : x8_1 < (l0.length : Int)
     ·rw [if_pos c5] at H
      have c5b0 : decide (x8_1 < (l0.length : Int)) = true := decide_eq_true c5
      clear c5
      by_cases c6 : a1 = (rd l0 x8_1)
      ·rw [if_pos c6] at H
       have c6b0 : (a1 == (rd l0 x8_1)) = true := beq_iff_eq.mpr c6
       have c6b1 : (a1 != (rd l0 x8_1)) = false := bne_eq_false_iff_eq.mpr c6
       clear c6
       obtain rfl := Option.some.inj H
       have p212 : 0 ≤ (x8_1 : Int) := of_decide_eq_true (by with_reducible assumption)
       have q212 : x8_1 < (l0.length : Int) := of_decide_eq_true (by with_reducible assumption)
       obtain ⟨ad212, e212, hx212_0⟩ := Kd.at_int HR0.out x8_1 p212 q212
       cases e212
       replace p212 := eq_true p212
       replace q212 := eq_true q212
       go_wp2
       go_ret
       exact ⟨by first | rfl | (simp; done) | (simp [*]; done), by repeat (first | exact Drawn0.refl _ | apply Drawn0.step)⟩
      ·rw [if_neg c6] at H
       have c6b0 : (a1 == (rd l0 x8_1)) = false := beq_eq_false_iff_ne.mpr c6
       have c6b1 : (a1 != (rd l0 x8_1)) = true := bne_iff_ne.mpr c6
       have H' := Aside0.mk H
       clear H
       have p212 : 0 ≤ (x8_1 : Int) := of_decide_eq_true (by with_reducible assumption)
       have q212 : x8_1 < (l0.length : Int) := of_decide_eq_true (by with_reducible assumption)
       obtain ⟨ad212, e212, hx212_0⟩ := Kd.at_int HR0.out x8_1 p212 q212
       cases e212
       replace p212 := eq_true p212
       replace q212 := eq_true q212
       go_wp2
       go_roundg k1
       case measure => have := HK1.out; omega
       case rel => exact ⟨(wrap64 (x8_1 + 1)), (by first | rfl | (simp; done) | (simp [*]; done)), H', ⟨by have := HK1.out; omega⟩, by repeat (first | exact Drawn0.refl _ | apply Drawn0.step)⟩
     ·rw [if_neg c5] at H
      exact absurd H (by simp)
    ·rw [if_neg c4] at H
     exact absurd H (by simp)
   ·rw [if_neg c3] at H
    have c3b0 : decide (x8_1 < (l0.length : Int)) = false := decide_eq_false c3
    clear c3
    obtain rfl := Option.some.inj H
    go_wp2
    go_ret
    exact ⟨by first | rfl | (simp; done) | (simp [*]; done), by repeat (first | exact Drawn0.refl _ | apply Drawn0.step)⟩

end Go.Proofs.YtmipelgjmmgmnaaDoor.Pa

namespace Go.Proofs.YtmipelgjmmgmnaaDoor.Pa
open Go.RowKit Go.Proofs.YtmipelgjmmgmnaaDoorW.PrintWords Go.Proofs.YtmipelgjmmgmnaaDoorW.PrintLast Go.Proofs.YtmipelgjmmgmnaaDoorW.PrintMore
attribute [local go_sem] max2_int min2_int max_two min_two max_three min_three max_four min_four   -- for this text's walks alone
set_option linter.unusedVariables false
set_option linter.unusedSimpArgs false

/-! ### slices_Contains_int64_int64: function 102 -/
def slices_Contains_int64_int64.f (k : Nat) (l0 : List Int) (a1 : Int) : Option (Bool) := (slices_Index_int64_int64.f k l0 a1).bind fun t213 => (some (decide (t213 ≥ 0)))
theorem slices_Contains_int64_int64.mono : ∀ a0 a1 k, LeO (slices_Contains_int64_int64.f k a0 a1) (slices_Contains_int64_int64.f (k + 1) a0 a1) := by
 intro a0 a1 k
 unfold slices_Contains_int64_int64.f
 repeat' first
   | (with_reducible exact slices_Index_int64_int64.mono _ _ _)
   | (with_reducible exact LeO.refl _)
   | (with_reducible exact LeO.none _)
   | (with_reducible refine LeO.ite ?_ ?_)
   | (with_reducible refine LeO.bind ?_ (fun _ => ?_))
   | exact slices_Index_int64_int64.mono _ _ _
   | exact LeO.none _
   | refine LeO.ite ?_ ?_
   | refine LeO.bind ?_ (fun _ => ?_)
set_option maxHeartbeats 8000000 in
set_option maxRecDepth 100000 in
theorem slices_Contains_int64_int64.calls (k : Nat) (A0 : Option Addr) (c0 : Nat) (l0 : List Int) (a1 : Int) (r : Bool) (w : World) (hr0 : Kd.C (Kd.int .i64) w A0 l0.length l0) (hc0 : l0.length ≤ c0) (h : slices_Contains_int64_int64.f k l0 a1 = some r) :
  Calls Tryd.prog 102 #[.slice A0 l0.length c0, .int .i64 a1] w fun e w' => e = .returned (.bool r) ∧ Drawn0 w w' := by
 have HR0 := Aside0.mk hr0
 have HC0 := Aside0.mk hc0
 clear hr0 hc0
 have H : ((slices_Index_int64_int64.f k l0 a1).bind fun t213 => (some (decide (t213 ≥ 0)))) = some r := h
 clear h
 replace H := Option.bind_eq_some_iff.mp H
 obtain ⟨t213, A30, H⟩ := H
 replace H : (some (decide (t213 ≥ 0))) = some r := H
 have A3 := Aside0.mk A30
 clear A30
 obtain rfl := Option.some.inj H
 go_enter Tryd.func102, Tryd.ntmps102
 go_wp2_with (first | ((with_reducible refine gate_callee (f := 133) rfl ?_); refine goesL_ (some 7) rfl rfl Tryd.func133 (by kernel_rfl) rfl #[.slice A0 l0.length c0, .int .i64 a1] rfl (by (try simp only [List.map_toArray, List.map_cons, List.map_nil]); first | done | rfl | (simp only [List.length_drop, List.length_take]; rfl)) ?_; (with_reducible refine (slices_Index_int64_int64.calls k _ _ l0 a1 t213 _ ?side1 ?side2 A3.out).mono ?_); (case side1 => repeat (first | exact HR0.out | (with_reducible refine Kd.C_alloc ?_ _) | (with_reducible refine Kd.C_drewN ?_ _) | (with_reducible refine Kd.C_drew ?_))); (case side2 => exact HC0.out); rintro e w' ⟨rfl, ⟨nd, rfl⟩⟩; refine ⟨_, rfl, ?_⟩))
 go_ret
 exact ⟨by first | rfl | (simp; done) | (simp [*]; done), by repeat (first | exact Drawn0.refl _ | apply Drawn0.step)⟩

end Go.Proofs.YtmipelgjmmgmnaaDoor.Pa

namespace Go.Proofs.YtmipelgjmmgmnaaDoor.Pa
open Go.RowKit Go.Proofs.YtmipelgjmmgmnaaDoorW.PrintWords Go.Proofs.YtmipelgjmmgmnaaDoorW.PrintLast Go.Proofs.YtmipelgjmmgmnaaDoorW.PrintMore
attribute [local go_sem] max2_int min2_int max_two min_two max_three min_three max_four min_four   -- for this text's walks alone
set_option linter.unusedVariables false
set_option linter.unusedSimpArgs false

/-! ### impl_divideWave: function 66 -/
/-- The letter before a tick. -/
def prevB (s : ByteArray) (i : Nat) : Int := if i = 0 then 48 else bt s ((i - 1 : Nat) : Int)
def isUp (s : ByteArray) (i : Nat) : Bool := !(bt s (i : Int) == prevB s i) && (bt s (i : Int) == 49)
/-- The ticks below n at which a wave goes up. -/
def upsL (s : ByteArray) (n : Nat) : List Int := ((List.range n).filter (isUp s)).map fun (i : Nat) => (i : Int)
theorem upsL_succ (s : ByteArray) (n : Nat) : upsL s (n + 1) = if isUp s n = true then upsL s n ++ [(n : Int)] else upsL s n := by
 unfold upsL
 rw [List.range_succ, List.filter_append, List.map_append]
 cases h : isUp s n <;> simp [h]
theorem upsL_le (s : ByteArray) (n : Nat) : (upsL s n).length ≤ n := by
 unfold upsL
 rw [List.length_map]
 exact Nat.le_trans (List.length_filter_le _ _) (by simp)
theorem upsL_mem (s : ByteArray) (n i : Nat) (h : i < n) : (i : Int) ∈ upsL s n ↔ isUp s i = true := by
 unfold upsL
 rw [List.mem_map]
 constructor
 ·rintro ⟨j, hj, e⟩
  obtain rfl : j = i := by omega
  exact (List.mem_filter.1 hj).2
 ·intro hu
  exact ⟨i, List.mem_filter.2 ⟨List.mem_range.2 h, hu⟩, rfl⟩
theorem changes_loop (s : ByteArray) (hs : s.size ≤ 400) : ∀ d i k, s.size - i = d → i ≤ s.size → d < k → impl_changesTo.l0 k s 49 (upsL s i) (prevB s i) (s.size : Int) (i : Int) = some (upsL s s.size)
 | 0, i, k, hd, hi, hk => by
  obtain rfl : i = s.size := by omega
  obtain ⟨k, rfl⟩ : ∃ m, k = m + 1 := ⟨k - 1, by omega⟩
  simp only [impl_changesTo.l0]
  rw [if_neg (by omega)]
 | d + 1, i, k, hd, hi, hk => by
  obtain ⟨k, rfl⟩ : ∃ m, k = m + 1 := ⟨k - 1, by omega⟩
  have hw : wrap64 ((i : Int) + 1) = ((i + 1 : Nat) : Int) := by unfold wrap64; omega
  have hp : prevB s (i + 1) = bt s (i : Int) := rfl
  have hl := upsL_le s i
  have ih := changes_loop s hs d (i + 1) k (by omega) (by omega) (by omega)
  rw [hp, upsL_succ] at ih
  simp only [impl_changesTo.l0]
  rw [if_pos (by omega), if_pos (by omega), if_pos (by omega), hw]
  unfold isUp at ih
  by_cases h1 : bt s (i : Int) = prevB s i
  ·rw [if_pos h1]
   rw [if_neg (by rw [beq_iff_eq.2 h1]; simp)] at ih
   exact ih
  ·rw [if_neg h1]
   rw [beq_eq_false_iff_ne.2 h1] at ih
   by_cases h2 : bt s (i : Int) = 49
   ·rw [if_pos h2, if_pos (by omega)]
    rw [if_pos (by rw [beq_iff_eq.2 h2]; rfl)] at ih
    exact ih
   ·rw [if_neg h2]
    rw [if_neg (by rw [beq_eq_false_iff_ne.2 h2]; decide)] at ih
    exact ih
theorem changes_tells (s : ByteArray) (hs : s.size ≤ 400) (k : Nat) (hk : s.size < k) : impl_changesTo.f k s 49 = some (upsL s s.size) := changes_loop s hs s.size 0 k (by omega) (by omega) hk
theorem index_loop (l : List Int) (x : Int) (hl : l.length ≤ 400) : ∀ d i k, l.length - i = d → i ≤ l.length → d < k → ∃ r, slices_Index_int64_int64.l0 k l x (l.length : Int) (i : Int) = some r ∧ (0 ≤ r ↔ x ∈ l.drop i)
 | 0, i, k, hd, hi, hk => by
  obtain rfl : i = l.length := by omega
  obtain ⟨k, rfl⟩ : ∃ m, k = m + 1 := ⟨k - 1, by omega⟩
  refine ⟨-1, ?_, ?_⟩
  ·simp only [slices_Index_int64_int64.l0]
   rw [if_neg (by omega)]
  ·rw [List.drop_of_length_le (Nat.le_refl _)]
   simp
 | d + 1, i, k, hd, hi, hk => by
  obtain ⟨k, rfl⟩ : ∃ m, k = m + 1 := ⟨k - 1, by omega⟩
  have hlt : i < l.length := by omega
  have hw : wrap64 ((i : Int) + 1) = ((i + 1 : Nat) : Int) := by unfold wrap64; omega
  have hr : rd l (i : Int) = l[i] := by
   unfold rd
   rw [List.getD_eq_getElem?_getD, Int.toNat_natCast, List.getElem?_eq_getElem hlt]
   rfl
  simp only [slices_Index_int64_int64.l0]
  rw [if_pos (by omega), if_pos (by omega), if_pos (by omega), hr, hw, List.drop_eq_getElem_cons hlt]
  by_cases hx : x = l[i]
  ·rw [if_pos hx]
   exact ⟨(i : Int), rfl, fun _ => by rw [hx]; exact List.mem_cons_self, fun _ => by omega⟩
  ·rw [if_neg hx]
   obtain ⟨r, h1, h2⟩ := index_loop l x hl d (i + 1) k (by omega) (by omega) (by omega)
   exact ⟨r, h1, by rw [h2, List.mem_cons]; simp [hx]⟩
theorem contains_tells (l : List Int) (x : Int) (hl : l.length ≤ 400) (k : Nat) (hk : l.length < k) : slices_Contains_int64_int64.f k l x = some (decide (x ∈ l)) := by
 obtain ⟨r, h1, h2⟩ := index_loop l x hl l.length 0 k (by omega) (by omega) hk
 rw [List.drop_zero] at h2
 unfold slices_Contains_int64_int64.f slices_Index_int64_int64.f
 rw [show slices_Index_int64_int64.l0 k l x (l.length : Int) 0 = some r from h1, Option.bind_some]
 congr 1
 rw [Bool.eq_iff_iff, decide_eq_true_eq, decide_eq_true_eq]
 exact h2
/-- How many ticks went up, less one. -/
def upK (s : ByteArray) : Nat → Int
 | 0 => -1
 | i + 1 => if isUp s i = true then wrap64 (upK s i + 1) else upK s i
def divLv (by_ high : Int) (s : ByteArray) (i : Nat) : Bool := decide (0 ≤ upK s (i + 1)) && decide (Int.tmod (upK s (i + 1)) by_ < high)
def impl_divideWave.f (a0_0 a0_1 : Int) (a1 : ByteArray) : Option ByteArray := if a1.size ≤ 400 ∧ a0_0 ≠ 0 then some (strOfNums (waveL (divLv a0_0 a0_1 a1) a1.size)) else none
set_option maxHeartbeats 4000000 in
set_option maxRecDepth 100000 in
theorem divideWave_test (s : ByteArray) (n h : Int) (gu gk gd : Nat) (A : Option Addr) (c : Nat) (i : Nat) (hs : s.size ≤ 400) (hi : i < s.size) (hn : n ≠ 0) (B M : Nat) (W : World)
  (cu : W.heap[gu]? = some (.cells #[.slice A (upsL s s.size).length c] 48 (0, 0))) (ck : W.heap[gk]? = some (.cells #[.int .i64 (upK s i)] 2 (0, 0))) (cd : W.heap[gd]? = some (.cells #[.int .i64 n, .int .i64 h] 32 (0, 0)))
  (hr : Kd.C (Kd.int .i64) W A (upsL s s.size).length (upsL s s.size)) (hc : (upsL s s.size).length ≤ c) (n1 : gu ≠ gk) (n2 : gd ≠ gk) (hB : B ≤ gk) (hM : gk < M) :
  Calls Tryd.prog 101 #[.int .i64 (i : Int), .pointer (some ⟨gu, 0, none⟩), .pointer (some ⟨gk, 0, none⟩), .pointer (some ⟨gd, 0, none⟩)] W fun en w' =>
   en = .returned (.bool (divLv n h s i)) ∧ w'.heap[gk]? = some (.cells #[.int .i64 (upK s (i + 1))] 2 (0, 0)) ∧ KeepBut W w' gk none ∧ Side B M W w' := by
 have HCT : Aside0 (slices_Contains_int64_int64.f 401 (upsL s s.size) (i : Int) = some (isUp s i)) := ⟨by
  rw [contains_tells _ _ (Nat.le_trans (upsL_le _ _) hs) 401 (by have := upsL_le s s.size; omega)]
  congr 1
  rw [Bool.eq_iff_iff, decide_eq_true_eq]
  exact upsL_mem s s.size i hi⟩
 have k1 := cell1 cu
 have k2 := cell1 ck
 have k3 : W.cell? ⟨gd, 0, none⟩ = some (.int .i64 n) := (blk_cell cd 0).trans rfl
 have k4 : W.cell? ⟨gd, 1, none⟩ = some (.int .i64 h) := (blk_cell cd 1).trans rfl
 have f2 := blk_frozen ck 0
 have HU := Aside0.mk cu
 have HK := Aside0.mk ck
 have HD := Aside0.mk cd
 have HR := Aside0.mk hr
 have HC := Aside0.mk hc
 have HX := Aside0.mk (And.intro n1 (And.intro n2 (And.intro hB hM)))
 have z0 : (n == 0) = false := beq_eq_false_iff_ne.2 hn
 have z1 : (n != 0) = true := bne_iff_ne.2 hn
 clear cu ck cd hr hc n1 n2 hB hM hs hi
 have hu : upK s (i + 1) = if isUp s i = true then wrap64 (upK s i + 1) else upK s i := rfl
 have HE : Aside0 (divLv n h s i = (decide (0 ≤ upK s (i + 1)) && decide (Int.tmod (upK s (i + 1)) n < h))) := ⟨rfl⟩
 generalize divLv n h s i = q at HE ⊢
 generalize (i : Int) = x at HCT ⊢
 generalize upK s (i + 1) = y at hu HE ⊢
 generalize upK s i = y0 at hu k2 HK
 have HSF : ∀ nd, Side B M W (W.drewN nd) := fun nd => Side.of_below (pw_below_drewN (Below.refl _ W) nd)
 have HSF := Aside0.mk HSF
 cases hup : isUp s i with
 | true =>
  rw [hup] at HCT
  rw [hup, if_pos rfl] at hu
  clear hup
  subst hu
  by_cases hy : 0 ≤ wrap64 (y0 + 1)
  ·have t0 : decide (0 ≤ wrap64 (y0 + 1)) = true := decide_eq_true hy
   rw [t0] at HE
   clear hy
   by_cases hz : Int.tmod (wrap64 (y0 + 1)) n < h
   ·have t1 : decide (Int.tmod (wrap64 (y0 + 1)) n < h) = true := decide_eq_true hz
    rw [t1] at HE
    clear hz
    go_enter Tryd.func101, Tryd.ntmps101
    go_wp2_with (go_at_call 102; refine (slices_Contains_int64_int64.calls 401 _ _ _ _ true _ HR.out HC.out HCT.out).mono ?_; rintro e w' ⟨rfl, ⟨nd, rfl⟩⟩; have HK1 := Aside0.mk (put1 (blk_drewN HK.out nd) (.int .i64 (wrap64 (y0 + 1)))); have HD1 := Aside0.mk (blk_far (blk_drewN HD.out nd) (p := ⟨gk, 0, none⟩) HX.out.2.1 (.int .i64 (wrap64 (y0 + 1)))); have m2 := cell1 HK1.out; have m3 := (blk_cell HD1.out 0).trans (show _ = some (Value.int .i64 n) from rfl); have m4 := (blk_cell HD1.out 1).trans (show _ = some (Value.int .i64 h) from rfl))
    go_quiet (fail)
    go_wp2
    go_ret
    exact ⟨by rw [HE.out]; rfl, blk_drewN HK1.out nq, keepPut _ _ _ _ _, side_drewN ((side_drewN (Side.refl _ _ _) _).set HX.out.2.2.1 HX.out.2.2.2 0 _) _⟩
   ·have t1 : decide (Int.tmod (wrap64 (y0 + 1)) n < h) = false := decide_eq_false hz
    rw [t1] at HE
    clear hz
    go_enter Tryd.func101, Tryd.ntmps101
    go_wp2_with (go_at_call 102; refine (slices_Contains_int64_int64.calls 401 _ _ _ _ true _ HR.out HC.out HCT.out).mono ?_; rintro e w' ⟨rfl, ⟨nd, rfl⟩⟩; have HK1 := Aside0.mk (put1 (blk_drewN HK.out nd) (.int .i64 (wrap64 (y0 + 1)))); have HD1 := Aside0.mk (blk_far (blk_drewN HD.out nd) (p := ⟨gk, 0, none⟩) HX.out.2.1 (.int .i64 (wrap64 (y0 + 1)))); have m2 := cell1 HK1.out; have m3 := (blk_cell HD1.out 0).trans (show _ = some (Value.int .i64 n) from rfl); have m4 := (blk_cell HD1.out 1).trans (show _ = some (Value.int .i64 h) from rfl))
    go_quiet (fail)
    go_wp2
    go_ret
    exact ⟨by rw [HE.out]; rfl, blk_drewN HK1.out nq, keepPut _ _ _ _ _, side_drewN ((side_drewN (Side.refl _ _ _) _).set HX.out.2.2.1 HX.out.2.2.2 0 _) _⟩
  ·have t0 : decide (0 ≤ wrap64 (y0 + 1)) = false := decide_eq_false hy
   rw [t0] at HE
   clear hy
   go_enter Tryd.func101, Tryd.ntmps101
   go_wp2_with (go_at_call 102; refine (slices_Contains_int64_int64.calls 401 _ _ _ _ true _ HR.out HC.out HCT.out).mono ?_; rintro e w' ⟨rfl, ⟨nd, rfl⟩⟩; have HK1 := Aside0.mk (put1 (blk_drewN HK.out nd) (.int .i64 (wrap64 (y0 + 1)))); have HD1 := Aside0.mk (blk_far (blk_drewN HD.out nd) (p := ⟨gk, 0, none⟩) HX.out.2.1 (.int .i64 (wrap64 (y0 + 1)))); have m2 := cell1 HK1.out; have m3 := (blk_cell HD1.out 0).trans (show _ = some (Value.int .i64 n) from rfl); have m4 := (blk_cell HD1.out 1).trans (show _ = some (Value.int .i64 h) from rfl))
   go_quiet (fail)
   go_wp2
   go_ret
   exact ⟨by rw [HE.out]; rfl, blk_drewN HK1.out nq, keepPut _ _ _ _ _, side_drewN ((side_drewN (Side.refl _ _ _) _).set HX.out.2.2.1 HX.out.2.2.2 0 _) _⟩
 | false =>
  rw [hup] at HCT
  rw [hup, if_neg (by decide)] at hu
  clear hup
  subst hu
  by_cases hy : 0 ≤ y
  ·have t0 : decide (0 ≤ y) = true := decide_eq_true hy
   rw [t0] at HE
   clear hy
   by_cases hz : Int.tmod (y) n < h
   ·have t1 : decide (Int.tmod (y) n < h) = true := decide_eq_true hz
    rw [t1] at HE
    clear hz
    go_enter Tryd.func101, Tryd.ntmps101
    go_wp2_with (go_at_call 102; refine (slices_Contains_int64_int64.calls 401 _ _ _ _ false _ HR.out HC.out HCT.out).mono ?_; rintro e w' ⟨rfl, ⟨nd, rfl⟩⟩)
    go_quiet (fail)
    go_wp2
    go_ret
    exact ⟨by rw [HE.out]; rfl, blk_drewN (blk_drewN HK.out nd) nq, keepTrans (keepN _ _ _) (keepN _ _ _), side_drewN (side_drewN (Side.refl _ _ _) _) _⟩
   ·have t1 : decide (Int.tmod (y) n < h) = false := decide_eq_false hz
    rw [t1] at HE
    clear hz
    go_enter Tryd.func101, Tryd.ntmps101
    go_wp2_with (go_at_call 102; refine (slices_Contains_int64_int64.calls 401 _ _ _ _ false _ HR.out HC.out HCT.out).mono ?_; rintro e w' ⟨rfl, ⟨nd, rfl⟩⟩)
    go_quiet (fail)
    go_wp2
    go_ret
    exact ⟨by rw [HE.out]; rfl, blk_drewN (blk_drewN HK.out nd) nq, keepTrans (keepN _ _ _) (keepN _ _ _), side_drewN (side_drewN (Side.refl _ _ _) _) _⟩
  ·have t0 : decide (0 ≤ y) = false := decide_eq_false hy
   rw [t0] at HE
   clear hy
   go_enter Tryd.func101, Tryd.ntmps101
   go_wp2_with (go_at_call 102; refine (slices_Contains_int64_int64.calls 401 _ _ _ _ false _ HR.out HC.out HCT.out).mono ?_; rintro e w' ⟨rfl, ⟨nd, rfl⟩⟩)
   go_quiet (fail)
   go_wp2
   go_ret
   exact ⟨by rw [HE.out]; rfl, blk_drewN (blk_drewN HK.out nd) nq, keepTrans (keepN _ _ _) (keepN _ _ _), side_drewN (side_drewN (Side.refl _ _ _) _) _⟩
set_option maxHeartbeats 2000000 in
set_option maxRecDepth 100000 in
theorem divideWave_wave (n h : Int) (s : ByteArray) (gu gk gd : Nat) (A : Option Addr) (c base : Nat) (hs : s.size ≤ 400) (hn : n ≠ 0) (B : Nat) (w : World) (hBw : B ≤ w.heap.size) (hB : B ≤ gk)
  (cu : w.heap[gu]? = some (.cells #[.slice A (upsL s s.size).length c] 48 (0, 0))) (ck : w.heap[gk]? = some (.cells #[.int .i64 (-1)] 2 (0, 0))) (cd : w.heap[gd]? = some (.cells #[.int .i64 n, .int .i64 h] 32 (0, 0)))
  (hr : Kd.R (Kd.int .i64) 2 w base (fun k => k ≠ gk) (.slice A (upsL s s.size).length c) (upsL s s.size)) (n1 : gu ≠ gk) (n2 : gd ≠ gk) :
  Calls Tryd.prog 53 #[.int .i64 (s.size : Int), .func (.func 101) #[] #[.pointer (some ⟨gu, 0, none⟩), .pointer (some ⟨gk, 0, none⟩), .pointer (some ⟨gd, 0, none⟩)]] w fun e w' => e = .returned (.string (strOfNums (waveL (divLv n h s) s.size))) ∧ Below B w w' := by
 have l1 := blk_lt cu
 have l2 := blk_lt ck
 have l3 := blk_lt cd
 refine (waveOf.calls s.size 101 #[.pointer (some ⟨gu, 0, none⟩), .pointer (some ⟨gk, 0, none⟩), .pointer (some ⟨gd, 0, none⟩)] (divLv n h s)
  (fun i W => KeepBut w W gk none ∧ W.heap[gk]? = some (.cells #[.int .i64 (upK s i)] 2 (0, 0))) B w (by omega) hBw
  (enters_of Tryd.func101 (by kernel_rfl) rfl) ⟨KeepBut.refl _ _ _, ck⟩ (fun i W W' h hB => ⟨keepBelow h.1 hB, blk_stays h.2 l2 hB⟩)
  (fun i W hi _ hI => ?_)).mono fun e w' ⟨he, _, hB⟩ => ⟨he, hB⟩
 have hr' := Kd.R_keep hr hI.1 (fun k hk => hk)
 refine (divideWave_test s n h gu gk gd A c i hs hi hn B w.heap.size W ((hI.1.2 gu l1 n1 (by simp)).trans cu) hI.2 ((hI.1.2 gd l3 n2 (by simp)).trans cd) (Kd.R_reads' hr').2.2 (Kd.R_reads' hr').2.1 n1 n2 hB l2).mono fun e w' ⟨he, hk, hkb, hsd⟩ => ⟨he, ⟨keepTrans hI.1 hkb, hk⟩, hsd⟩
set_option maxHeartbeats 4000000 in
set_option maxRecDepth 100000 in
theorem impl_divideWave.calls (a0_0 : Int) (a0_1 : Int) (a1 : ByteArray) (r : ByteArray) (w : World) (h : impl_divideWave.f a0_0 a0_1 a1 = some r) :
  Calls Tryd.prog 66 #[.agg #[.int .i64 a0_0, .int .i64 a0_1], .string a1] w fun e w' => e = .returned (.string r) ∧ Below w.heap.size w w' := by
 have hu := Tryd.underlying32
 unfold impl_divideWave.f at h
 by_cases hc : a1.size ≤ 400 ∧ a0_0 ≠ 0
 case neg => rw [if_neg hc] at h; exact absurd h (by simp)
 rw [if_pos hc] at h
 obtain rfl := Option.some.inj h
 have HS := Aside0.mk hc
 have HCH := Aside0.mk (changes_tells a1 hc.1 401 (by omega))
 clear h hc
 go_enter Tryd.func66, Tryd.ntmps66
 go_wp2_with (first | ((with_reducible refine gate_dst (N := 2) rfl ?_); refine box_event ?hg (N := 2) ?hd (cs := #[.int .i64 a0_0, .int .i64 a0_1]) (t := 32) ?hr ?_; (case hd => rfl); (case hg => rfl); (case hr => first | (go_simp; done) | (go_simp; rfl)); intro gd hg_ w1 hbox_ hb_; have HX_gd := Aside0.mk hbox_; have HB_w1 := Aside0.mk hb_; have HG_gd := Aside0.mk hg_; clear hbox_ hb_ hg_) | (go_at_call 100; refine (impl_changesTo.calls 401 a1 49 _ _ HCH.out).mono ?_; rintro e w2 ⟨v2, rfl, hr2, hb2⟩; obtain ⟨A2, c2, rfl⟩ := Kd.R_slice hr2; have HR2 := Aside0.mk (Kd.R_mono (Kd.R_bound hr2) (fun k hk => (hk.2.2.1 : k < w2.heap.size))); have HB2 := Aside0.mk (below_step HB_w1.out hb2); replace HX_gd := Aside0.mk (blk_below HX_gd.out hb2); clear hr2 hb2) | (go_at_call 53; refine (divideWave_wave a0_0 a0_1 a1 w2.heap.size (w2.heap.size + 1) gd A2 c2 _ HS.out.1 HS.out.2 w2.heap.size _ (by simp; omega) (by omega) (blk_alloc (blk_new _ _) _) (by simpa using blk_new (w2.alloc (.cells #[.slice A2 (upsL a1 a1.size).length c2] 48)) (.cells #[.int .i64 (-1)] 2)) (blk_alloc (blk_alloc HX_gd.out _) _) (Kd.R_alloc (Kd.R_alloc (Kd.R_mono HR2.out (fun k hk => by omega)) _) _) (by omega) (by have := blk_lt HX_gd.out; omega)).mono ?_; rintro e w3 ⟨rfl, hb3⟩; have HB3 := Aside0.mk (below_step HB2.out ((below_alloc (below_alloc (Below.refl _ _) _) _).trans hb3)); clear hb3))
 go_ret
 exact ⟨rfl, HB3.out⟩

end Go.Proofs.YtmipelgjmmgmnaaDoor.Pa

namespace Go.Proofs.YtmipelgjmmgmnaaDoor.Pa
open Go.RowKit Go.Proofs.YtmipelgjmmgmnaaDoorW.PrintWords Go.Proofs.YtmipelgjmmgmnaaDoorW.PrintLast Go.Proofs.YtmipelgjmmgmnaaDoorW.PrintMore
attribute [local go_sem] max2_int min2_int max_two min_two max_three min_three max_four min_four   -- for this text's walks alone
set_option linter.unusedVariables false
set_option linter.unusedSimpArgs false

/-! ### impl_within: function 61 -/
def impl_within.f (a0 : Int) (a1 : Int) (a2 : Int) : Option (Bool) := if a0 ≥ a1 then (some (decide (a0 ≤ a2))) else (some false)
set_option maxHeartbeats 8000000 in
set_option maxRecDepth 100000 in
theorem impl_within.calls (a0 : Int) (a1 : Int) (a2 : Int) (r : Bool) (w : World) (h : impl_within.f a0 a1 a2 = some r) :
  Calls Tryd.prog 61 #[.int .i64 a0, .int .i64 a1, .int .i64 a2] w fun e w' => e = .returned (.bool r) ∧ Drawn0 w w' := by
 have H : (if a0 ≥ a1 then (some (decide (a0 ≤ a2))) else (some false)) = some r := h
 clear h
 by_cases c4 : a0 ≥ a1
 ·rw [if_pos c4] at H
  have c4b0 : decide (a1 ≤ a0) = true := decide_eq_true c4
  clear c4
  obtain rfl := Option.some.inj H
  go_enter Tryd.func61, Tryd.ntmps61
  go_wp2
  go_ret
  exact ⟨by first | rfl | (simp; done) | (simp [*]; done), by repeat (first | exact Drawn0.refl _ | apply Drawn0.step)⟩
 ·rw [if_neg c4] at H
  have c4b0 : decide (a1 ≤ a0) = false := decide_eq_false c4
  clear c4
  obtain rfl := Option.some.inj H
  go_enter Tryd.func61, Tryd.ntmps61
  go_wp2
  go_ret
  exact ⟨by first | rfl | (simp; done) | (simp [*]; done), by repeat (first | exact Drawn0.refl _ | apply Drawn0.step)⟩

end Go.Proofs.YtmipelgjmmgmnaaDoor.Pa

namespace Go.Proofs.YtmipelgjmmgmnaaDoor.Pa
open Go.RowKit Go.Proofs.YtmipelgjmmgmnaaDoorW.PrintWords Go.Proofs.YtmipelgjmmgmnaaDoorW.PrintLast Go.Proofs.YtmipelgjmmgmnaaDoorW.PrintMore
attribute [local go_sem] max2_int min2_int max_two min_two max_three min_three max_four min_four   -- for this text's walks alone
set_option linter.unusedVariables false
set_option linter.unusedSimpArgs false

/-! ### impl_ValidDivider: function 49 -/
def impl_ValidDivider.f (a0_0 : Int) (a0_1 : Int) : Option (Bool) := (impl_within.f a0_0 1 64).bind fun t204 => (if t204 = true then ((impl_within.f a0_1 0 a0_0).bind fun t205 => (some t205)) else (some false))
set_option maxHeartbeats 8000000 in
set_option maxRecDepth 100000 in
theorem impl_ValidDivider.calls (a0_0 : Int) (a0_1 : Int) (r : Bool) (w : World) (h : impl_ValidDivider.f a0_0 a0_1 = some r) :
  Calls Tryd.prog 49 #[.agg #[.int .i64 a0_0, .int .i64 a0_1]] w fun e w' => e = .returned (.bool r) ∧ Below w.heap.size w w' := by
 have hu32 := Tryd.underlying32
 have HB := Aside0.mk (Below.refl w.heap.size w)
 have H : ((impl_within.f a0_0 1 64).bind fun t204 => (if t204 = true then ((impl_within.f a0_1 0 a0_0).bind fun t205 => (some t205)) else (some false))) = some r := h
 clear h
 replace H := Option.bind_eq_some_iff.mp H
 obtain ⟨t204, A20, H⟩ := H
 replace H : (if t204 = true then ((impl_within.f a0_1 0 a0_0).bind fun t205 => (some t205)) else (some false)) = some r := H
 have A2 := Aside0.mk A20
 clear A20
 by_cases c3 : t204 = true
 ·subst c3
  have H1 : ((impl_within.f a0_1 0 a0_0).bind fun t205 => (some t205)) = some r := by rw [if_pos rfl] at H; exact H
  clear H
  have H := H1
  clear H1
  replace H := Option.bind_eq_some_iff.mp H
  obtain ⟨t205, A40, H⟩ := H
  replace H : (some t205) = some r := H
  have A4 := Aside0.mk A40
  clear A40
  obtain rfl := Option.some.inj H
  go_enter Tryd.func49, Tryd.ntmps49
  go_wp2_with (first | ((with_reducible refine gate_dst (N := 1) rfl ?_); refine box_event ?hg (N := 1) ?hd (cs := #[.int .i64 a0_0, .int .i64 a0_1]) (t := 32) ?hr ?_; (case hd => rfl); (case hg => rfl); (case hr => first | (go_simp; done) | (go_simp; rfl)); intro gb203 hg w5 hbox hb; have n0_ := Aside0.mk (below_step (by repeat (first | (with_reducible first | exact HB.out | apply below_alloc | apply pw_below_drewN | apply below_drew1) | exact HB.out)) hb); have n1_ := Aside0.mk (hbox); have n2_ := Aside0.mk ((by rw [hg]; exact (below_size (by repeat (first | (with_reducible first | exact HB.out | apply below_alloc | apply pw_below_drewN | apply below_drew1) | exact HB.out))) : w.heap.size ≤ gb203)); have n3_ := Aside0.mk ((by rw [hg]; exact (below_size (by repeat (first | (with_reducible first | exact HB.out | apply below_alloc | apply pw_below_drewN | apply below_drew1) | exact HB.out))) : w.heap.size ≤ gb203)); clear HB; have HB := n0_; have BK203 := n1_; have GW203 := n2_; have GE203 := n3_; clear n0_ n1_ n2_ n3_; clear hb hbox hg; have hcz6_0 : w5.cell? ⟨gb203, 0, none⟩ = some (.int .i64 a0_0) := (blk_cell BK203.out 0).trans rfl; have hcz6_1 : w5.cell? ⟨gb203, 1, none⟩ = some (.int .i64 a0_1) := (blk_cell BK203.out 1).trans rfl; have hfz6_0 := blk_frozen BK203.out 0; have hfz6_1 := blk_frozen BK203.out 1) | ((with_reducible refine gate_callee (f := 61) rfl ?_); refine goesL_ (some 5) rfl rfl Tryd.func61 (by kernel_rfl) rfl #[.int .i64 a0_0, .int .i64 1, .int .i64 64] rfl (by (try simp only [List.map_toArray, List.map_cons, List.map_nil]); first | done | rfl | (simp only [List.length_drop, List.length_take]; rfl)) ?_; (with_reducible refine (impl_within.calls a0_0 1 64 true _ A2.out).mono ?_); rintro e w' ⟨rfl, ⟨nd, rfl⟩⟩; refine ⟨_, rfl, ?_⟩) | (go_at_call 61; (with_reducible refine (impl_within.calls a0_1 0 a0_0 t205 _ A4.out).mono ?_); rintro e w' ⟨rfl, ⟨nd, rfl⟩⟩))
  go_ret
  exact ⟨by first | rfl | (simp [errW_none, errW_some] <;> rfl) | (simp [*, errW_none, errW_some] <;> rfl), by repeat (first | (with_reducible first | exact HB.out | apply below_alloc | apply pw_below_drewN | apply below_drew1 | refine below_set ?_ GE203.out) | exact HB.out)⟩
 ·replace c3 := Bool.eq_false_iff.mpr c3
  subst c3
  have H1 : (some false) = some r := by rw [if_neg (show ¬ (false = true) by decide)] at H; exact H
  clear H
  have H := H1
  clear H1
  obtain rfl := Option.some.inj H
  go_enter Tryd.func49, Tryd.ntmps49
  go_wp2_with (first | ((with_reducible refine gate_dst (N := 1) rfl ?_); refine box_event ?hg (N := 1) ?hd (cs := #[.int .i64 a0_0, .int .i64 a0_1]) (t := 32) ?hr ?_; (case hd => rfl); (case hg => rfl); (case hr => first | (go_simp; done) | (go_simp; rfl)); intro gb203 hg w7 hbox hb; have n0_ := Aside0.mk (below_step (by repeat (first | (with_reducible first | exact HB.out | apply below_alloc | apply pw_below_drewN | apply below_drew1) | exact HB.out)) hb); have n1_ := Aside0.mk (hbox); have n2_ := Aside0.mk ((by rw [hg]; exact (below_size (by repeat (first | (with_reducible first | exact HB.out | apply below_alloc | apply pw_below_drewN | apply below_drew1) | exact HB.out))) : w.heap.size ≤ gb203)); have n3_ := Aside0.mk ((by rw [hg]; exact (below_size (by repeat (first | (with_reducible first | exact HB.out | apply below_alloc | apply pw_below_drewN | apply below_drew1) | exact HB.out))) : w.heap.size ≤ gb203)); clear HB; have HB := n0_; have BK203 := n1_; have GW203 := n2_; have GE203 := n3_; clear n0_ n1_ n2_ n3_; clear hb hbox hg; have hcz8_0 : w7.cell? ⟨gb203, 0, none⟩ = some (.int .i64 a0_0) := (blk_cell BK203.out 0).trans rfl; have hcz8_1 : w7.cell? ⟨gb203, 1, none⟩ = some (.int .i64 a0_1) := (blk_cell BK203.out 1).trans rfl; have hfz8_0 := blk_frozen BK203.out 0; have hfz8_1 := blk_frozen BK203.out 1) | ((with_reducible refine gate_callee (f := 61) rfl ?_); refine goesL_ (some 5) rfl rfl Tryd.func61 (by kernel_rfl) rfl #[.int .i64 a0_0, .int .i64 1, .int .i64 64] rfl (by (try simp only [List.map_toArray, List.map_cons, List.map_nil]); first | done | rfl | (simp only [List.length_drop, List.length_take]; rfl)) ?_; (with_reducible refine (impl_within.calls a0_0 1 64 false _ A2.out).mono ?_); rintro e w' ⟨rfl, ⟨nd, rfl⟩⟩; refine ⟨_, rfl, ?_⟩))
  go_ret
  exact ⟨by first | rfl | (simp [errW_none, errW_some] <;> rfl) | (simp [*, errW_none, errW_some] <;> rfl), by repeat (first | (with_reducible first | exact HB.out | apply below_alloc | apply pw_below_drewN | apply below_drew1 | refine below_set ?_ GE203.out) | exact HB.out)⟩

end Go.Proofs.YtmipelgjmmgmnaaDoor.Pa

/- A divided wave: what the reference lays tick by tick is what the program tells of each tick. -/
namespace Go.Proofs.YtmipelgjmmgmnaaDoor.Pure
open Go.RowKit Go.Proofs.YtmipelgjmmgmnaaDoor.Pa Go.Proofs.YtmipelgjmmgmnaaDoorW.PrintWords Go.Proofs.YtmipelgjmmgmnaaDoorW.PrintLast
set_option linter.unusedVariables false
set_option linter.unusedSimpArgs false
def lev (b : Bool) : Int := if b = true then 49 else 48
theorem upK_range (s : ByteArray) : ∀ i, i ≤ 400 → -1 ≤ upK s i ∧ upK s i < i
 | 0, _ => ⟨Int.le_refl _, (by decide : (-1 : Int) < 0)⟩
 | i + 1, h => by
  have ih := upK_range s i (by omega)
  have hs : upK s (i + 1) = if isUp s i = true then wrap64 (upK s i + 1) else upK s i := rfl
  rw [hs]
  split
  ·rw [wrap_id (by omega) (by omega)]; omega
  ·omega
/-- The level behind i ticks. -/
def divAt (n h : Int) (s : ByteArray) (i : Nat) : Bool := decide (0 ≤ upK s i) && decide (Int.tmod (upK s i) n < h)
theorem divLv_at (n h : Int) (s : ByteArray) (i : Nat) : divLv n h s i = divAt n h s (i + 1) := rfl
theorem divide_loop (n h : Int) (s : ByteArray) (hn : n ≠ 0) (hs : s.size ≤ 400) (ws : waveB s.data.toList = true) (k : Nat) (hk : s.size * 2 < k) :
  spec_l03Divide.l0 k s [] 48 0 0 n h = some (strOfNums (waveL (divLv n h s) s.size), n, h) := by
 refine run_loop (fun k out i => spec_l03Divide.l0 k s out (lev (divAt n h s i)) (upK s i + 1) (i : Int) n h) s.size 2 _ (fun out => (strOfNums out, n, h)) (fun k out i hi ho => ?_) (fun k out ho => ?_) k hk
 ·have hw : wrap64 ((i : Int) + 1) = ((i + 1 : Nat) : Int) := by rw [wrap_id (by omega) (by omega)]; omega
  have hr := upK_range s i (by omega)
  have hw2 : wrap64 (upK s i + 1 + 1) = upK s i + 1 + 1 := wrap_id (by omega) (by omega)
  have hw3 : wrap64 (upK s i + 1) = upK s i + 1 := wrap_id (by omega) (by omega)
  have hlen : out.length < 140737488355328 := by omega
  have h1 := wave_bt ws (i := i) hi
  have hst : upK s (i + 1) = if isUp s i = true then wrap64 (upK s i + 1) else upK s i := rfl
  show spec_l03Divide.l0 (k + 2) s out _ _ (i : Int) n h = spec_l03Divide.l0 k s (out ++ [_]) _ _ ((i + 1 : Nat) : Int) n h
  rw [divLv_at]
  have key : spec_l03Divide.l0 (k + 2) s out (lev (divAt n h s i)) (upK s i + 1) (i : Int) n h = spec_l03Divide.j1 (k + 1) s out (lev (divAt n h s i)) (upK s i + 1) (i : Int) (isUp s i) n h := by
   simp only [spec_l03Divide.l0]
   rw [if_pos (by omega), if_pos (by omega)]
   unfold isUp prevB
   rcases h1 with h1 | h1
   ·rw [if_neg (by omega), h1]
    simp
   ·rw [if_pos h1, h1]
    by_cases h0 : i = 0
    ·subst h0
     rw [if_pos (by rfl), if_pos rfl]
     rfl
    ·have hw4 : wrap64 ((i : Int) - 1) = ((i - 1 : Nat) : Int) := by rw [wrap_id (by omega) (by omega)]; omega
     rw [if_neg (by omega), hw4, if_pos (by omega), if_pos (by omega), if_neg h0]
     have h2 := wave_bt ws (i := i - 1) (by omega)
     rcases h2 with h2 | h2 <;> rw [h2] <;> rfl
  rw [key]
  simp only [spec_l03Divide.j1]
  cases hu : isUp s i with
  | true =>
   rw [hu, if_pos rfl, hw3] at hst
   have hd : divAt n h s (i + 1) = decide (Int.tmod (upK s i + 1) n < h) := by
    unfold divAt
    rw [hst, decide_eq_true (by omega : 0 ≤ upK s i + 1), Bool.true_and]
   rw [if_pos rfl, if_neg hn, hd, hst]
   by_cases hz : Int.tmod (upK s i + 1) n < h
   ·rw [if_pos hz, if_pos hlen, hw, hw2, decide_eq_true hz]
    rfl
   ·rw [if_neg hz, if_pos hlen, hw, hw2, decide_eq_false hz]
    rfl
  | false =>
   rw [hu, if_neg (by decide)] at hst
   have hd : divAt n h s (i + 1) = divAt n h s i := by unfold divAt; rw [hst]
   rw [if_neg (by decide), if_pos hlen, hw, hd, hst]
   rfl
 ·show spec_l03Divide.l0 (k + 1) s out _ _ (s.size : Int) n h = _
  simp only [spec_l03Divide.l0]
  rw [if_neg (by omega)]
theorem divide_tells (n h : Int) (s : ByteArray) (hn : n ≠ 0) (hw : isWaveB s = true) (k : Nat) (hk : 800 < k) :
  spec_l03Divide.f k n h s = some (strOfNums (waveL (divLv n h s) s.size), n, h) := by
 unfold isWaveB at hw
 rw [Bool.and_eq_true, decide_eq_true_eq] at hw
 exact divide_loop n h s hn hw.1 hw.2 k (by omega)
/-- What a divider must be. -/
def dividerOk (n h : Int) : Bool := decide (1 ≤ n) && decide (n ≤ 64) && (decide (0 ≤ h) && decide (h ≤ n))
theorem in_tells (x l u : Int) : spec_l00In.f x l u = some (decide (l ≤ x) && decide (x ≤ u)) := by
 unfold spec_l00In.f
 by_cases h : l ≤ x <;> simp [h]
theorem is_tells (n h : Int) : spec_l03Is.f n h = some (dividerOk n h, n, h) := by
 unfold spec_l03Is.f dividerOk
 rw [in_tells, in_tells, Option.bind_some]
 cases (decide (1 ≤ n) && decide (n ≤ 64)) <;> rfl
theorem valid_tells (n h : Int) : impl_ValidDivider.f n h = some (dividerOk n h) := by
 have hin : ∀ x l u : Int, impl_within.f x l u = some (decide (l ≤ x) && decide (x ≤ u)) := in_tells
 unfold impl_ValidDivider.f dividerOk
 rw [hin, hin, Option.bind_some]
 cases (decide (1 ≤ n) && decide (n ≤ 64)) <;> rfl
theorem dividerOk_ne {n h : Int} (hd : dividerOk n h = true) : n ≠ 0 := by
 unfold dividerOk at hd
 simp only [Bool.and_eq_true, decide_eq_true_eq] at hd
 omega
end Go.Proofs.YtmipelgjmmgmnaaDoor.Pure

namespace Go.Proofs.YtmipelgjmmgmnaaDoor.Pa
open Go.RowKit Go.Proofs.YtmipelgjmmgmnaaDoorW.PrintWords Go.Proofs.YtmipelgjmmgmnaaDoorW.PrintLast Go.Proofs.YtmipelgjmmgmnaaDoorW.PrintMore
attribute [local go_sem] max2_int min2_int max_two min_two max_three min_three max_four min_four   -- for this text's walks alone
set_option linter.unusedVariables false
set_option linter.unusedSimpArgs false

/-! ### laws_b10At: function 48 -/
def laws_b10At.f (l0 : List Int) (a1 : Int) (a2 : Int) : Option (Int) := if a2 ≤ 1 then (some 0) else (if a1 < (l0.length : Int) then (if 0 ≤ a1 then (if a2 = 0 then (none) else (some (Int.tmod (wrap64 (rd l0 a1)) a2))) else (none)) else (if a2 = 0 then (none) else (some (Int.tmod (wrap64 ((wrap64 (a1 * 37)) + 11)) a2))))
set_option maxHeartbeats 8000000 in
set_option maxRecDepth 100000 in
theorem laws_b10At.calls (A0 : Option Addr) (c0 : Nat) (l0 : List Int) (a1 : Int) (a2 : Int) (r : Int) (w : World) (hr0 : Kd.C (Kd.int .u8) w A0 l0.length l0) (hc0 : l0.length ≤ c0) (h : laws_b10At.f l0 a1 a2 = some r) :
  Calls Tryd.prog 48 #[.slice A0 l0.length c0, .int .i64 a1, .int .i64 a2] w fun e w' => e = .returned (.int .i64 r) ∧ Drawn0 w w' := by
 have HR0 := Aside0.mk hr0
 have HC0 := Aside0.mk hc0
 clear hr0 hc0
 have H : (if a2 ≤ 1 then (some 0) else (if a1 < (l0.length : Int) then (if 0 ≤ a1 then (if a2 = 0 then (none) else (some (Int.tmod (wrap64 (rd l0 a1)) a2))) else (none)) else (if a2 = 0 then (none) else (some (Int.tmod (wrap64 ((wrap64 (a1 * 37)) + 11)) a2))))) = some r := h
 clear h
 by_cases c4 : a2 ≤ 1
 ·rw [if_pos c4] at H
  have c4b0 : decide (a2 ≤ 1) = true := decide_eq_true c4
  clear c4
  obtain rfl := Option.some.inj H
  go_enter Tryd.func48, Tryd.ntmps48
  go_wp2
  go_ret
  exact ⟨by first | rfl | (simp; done) | (simp [*]; done), by repeat (first | exact Drawn0.refl _ | apply Drawn0.step)⟩
 ·rw [if_neg c4] at H
  have c4b0 : decide (a2 ≤ 1) = false := decide_eq_false c4
  clear c4
  by_cases c5 : a1 < (l0.length : Int)
  ·rw [if_pos c5] at H
   have c5b0 : decide (a1 < (l0.length : Int)) = true := decide_eq_true c5
   clear c5
   by_cases c6 : 0 ≤ a1
   ·rw [if_pos c6] at H
    have c6b0 : decide (0 ≤ a1) = true := decide_eq_true c6
    clear c6
    by_cases c7 : a2 = 0
    ·rw [if_pos c7] at H
     exact absurd H (by simp)
    ·rw [if_neg c7] at H
     have c7b0 : (a2 == 0) = false := beq_eq_false_iff_ne.mpr c7
     have c7b1 : (a2 != 0) = true := bne_iff_ne.mpr c7
     obtain rfl := Option.some.inj H
     have p419 : 0 ≤ (a1 : Int) := of_decide_eq_true (by with_reducible assumption)
     have q419 : a1 < (l0.length : Int) := of_decide_eq_true (by with_reducible assumption)
     obtain ⟨ad419, e419, hx419_0⟩ := Kd.at_int HR0.out a1 p419 q419
     cases e419
     replace p419 := eq_true p419
     replace q419 := eq_true q419
     go_enter Tryd.func48, Tryd.ntmps48
     go_wp2
     go_ret
     exact ⟨by first | rfl | (simp; done) | (simp [*]; done), by repeat (first | exact Drawn0.refl _ | apply Drawn0.step)⟩
   ·rw [if_neg c6] at H
    exact absurd H (by simp)
  ·rw [if_neg c5] at H
   have c5b0 : decide (a1 < (l0.length : Int)) = false := decide_eq_false c5
   clear c5
   by_cases c8 : a2 = 0
   ·rw [if_pos c8] at H
    exact absurd H (by simp)
   ·rw [if_neg c8] at H
    have c8b0 : (a2 == 0) = false := beq_eq_false_iff_ne.mpr c8
    have c8b1 : (a2 != 0) = true := bne_iff_ne.mpr c8
    obtain rfl := Option.some.inj H
    go_enter Tryd.func48, Tryd.ntmps48
    go_wp2
    go_ret
    exact ⟨by first | rfl | (simp; done) | (simp [*]; done), by repeat (first | exact Drawn0.refl _ | apply Drawn0.step)⟩

end Go.Proofs.YtmipelgjmmgmnaaDoor.Pa

/- What a law draws from its bytes lies in its bounds. -/
namespace Go.Proofs.YtmipelgjmmgmnaaDoor.Pure
open Go.RowKit Go.Proofs.YtmipelgjmmgmnaaDoor.Pa Go.Proofs.YtmipelgjmmgmnaaDoorW.PrintWords Go.Proofs.YtmipelgjmmgmnaaDoorW.PrintLast
set_option linter.unusedVariables false
set_option linter.unusedSimpArgs false

theorem wf8 {x : Int} (h : (Lit.int .u8 x).wf = true) : 0 ≤ x ∧ x ≤ 255 := by
 simp only [Lit.wf, IntKind.min, IntKind.max, IntKind.signed, IntKind.bits, Bool.and_eq_true, decide_eq_true_eq, if_true] at h
 simp at h
 omega
theorem b10At_in (l : List Int) (hl : ∀ x ∈ l, (Lit.int .u8 x).wf = true) (i n : Int) (hi : 0 ≤ i) (hi2 : i ≤ 1000000) (hn : 2 ≤ n) : ∃ t, laws_b10At.f l i n = some t ∧ 0 ≤ t ∧ t < n := by
 unfold laws_b10At.f
 rw [if_neg (by omega)]
 by_cases h : i < (l.length : Int)
 ·rw [if_pos h, if_pos hi, if_neg (by omega)]
  obtain ⟨j, rfl⟩ : ∃ j : Nat, i = j := ⟨i.toNat, by omega⟩
  have hj : j < l.length := by omega
  rw [rd_get hj]
  have := wf8 (hl l[j] (List.getElem_mem hj))
  rw [wrap_id (by omega) (by omega)]
  exact ⟨_, rfl, Int.tmod_nonneg _ (by omega), Int.tmod_lt_of_pos _ (by omega)⟩
 ·rw [if_neg h, if_neg (by omega), wrap_id (x := i * 37) (by omega) (by omega), wrap_id (by omega) (by omega)]
  exact ⟨_, rfl, Int.tmod_nonneg _ (by omega), Int.tmod_lt_of_pos _ (by omega)⟩
end Go.Proofs.YtmipelgjmmgmnaaDoor.Pure

namespace Go.Proofs.YtmipelgjmmgmnaaDoor.Pa
open Go.RowKit Go.Proofs.YtmipelgjmmgmnaaDoorW.PrintWords Go.Proofs.YtmipelgjmmgmnaaDoorW.PrintLast Go.Proofs.YtmipelgjmmgmnaaDoorW.PrintMore
attribute [local go_sem] max2_int min2_int max_two min_two max_three min_three max_four min_four   -- for this text's walks alone
set_option linter.unusedVariables false
set_option linter.unusedSimpArgs false

/-! ### impl_ToggleWave: function 22 -/
/-- The letter before a tick, how many changes there were, and the level. -/
def togSt (n : Int) (s : ByteArray) : Nat → Int × Int × Bool
 | 0 => (48, 0, false)
 | i + 1 => if bt s (i : Int) = (togSt n s i).1 then (bt s (i : Int), (togSt n s i).2.1, (togSt n s i).2.2) else (bt s (i : Int), wrap64 ((togSt n s i).2.1 + 1), if Int.tmod (togSt n s i).2.1 n = 0 then !(togSt n s i).2.2 else (togSt n s i).2.2)
def togLv (n : Int) (s : ByteArray) (i : Nat) : Bool := (togSt n s (i + 1)).2.2
def togOk (n : Int) (s : ByteArray) : Bool := decide (1 ≤ n) && decide (n ≤ 64) && isWaveB s
def impl_ToggleWave.f (a0 : Int) (a1 : ByteArray) : Option (ByteArray × Bool) := if togOk a0 a1 = true then some (strOfNums (waveL (togLv a0 a1) a1.size), true) else some ((⟨#[]⟩ : ByteArray), false)
set_option maxHeartbeats 2000000 in
set_option maxRecDepth 100000 in
theorem ToggleWave_test (s : ByteArray) (n : Int) (gs gb gk gn gl : Nat) (x b c : Int) (l : Bool) (h0 : 0 ≤ x) (h1 : x < (s.size : Int)) (hn : n ≠ 0) (B M : Nat) (W : World)
  (cs : W.heap[gs]? = some (.cells #[.string s] 9 (0, 0))) (cb : W.heap[gb]? = some (.cells #[.int .u8 b] 5 (0, 0))) (ck : W.heap[gk]? = some (.cells #[.int .i64 c] 2 (0, 0))) (cn : W.heap[gn]? = some (.cells #[.int .i64 n] 2 (0, 0))) (cl : W.heap[gl]? = some (.cells #[.bool l] 4 (0, 0)))
  (ne : gs ≠ gb ∧ gs ≠ gk ∧ gs ≠ gl ∧ gn ≠ gb ∧ gn ≠ gk ∧ gn ≠ gl ∧ gb ≠ gk ∧ gb ≠ gl ∧ gk ≠ gl) (hB : B ≤ gb ∧ B ≤ gk ∧ B ≤ gl) (hM : gb < M ∧ gk < M ∧ gl < M) :
  Calls Tryd.prog 63 #[.int .i64 x, .pointer (some ⟨gs, 0, none⟩), .pointer (some ⟨gb, 0, none⟩), .pointer (some ⟨gk, 0, none⟩), .pointer (some ⟨gn, 0, none⟩), .pointer (some ⟨gl, 0, none⟩)] W fun en w' =>
   en = .returned (.bool (if bt s x = b then l else if Int.tmod c n = 0 then !l else l)) ∧
   (w'.heap[gs]? = some (.cells #[.string s] 9 (0, 0)) ∧ w'.heap[gb]? = some (.cells #[.int .u8 (bt s x)] 5 (0, 0)) ∧ w'.heap[gk]? = some (.cells #[.int .i64 (if bt s x = b then c else wrap64 (c + 1))] 2 (0, 0)) ∧ w'.heap[gn]? = some (.cells #[.int .i64 n] 2 (0, 0)) ∧ w'.heap[gl]? = some (.cells #[.bool (if bt s x = b then l else if Int.tmod c n = 0 then !l else l)] 4 (0, 0))) ∧ Side B M W w' := by
 have us := bt_at s x
 have p0 := eq_true h0
 have p1 := eq_true h1
 have d0 : decide (0 ≤ x) = true := decide_eq_true h0
 have d1 : decide (x < (s.size : Int)) = true := decide_eq_true h1
 clear h0 h1
 have k1 := cell1 cs
 have k2 := cell1 cb
 have k3 := cell1 ck
 have k4 := cell1 cn
 have k5 := cell1 cl
 have f2 := blk_frozen cb 0
 have f3 := blk_frozen ck 0
 have f5 := blk_frozen cl 0
 have z0 : (n == 0) = false := beq_eq_false_iff_ne.2 hn
 have z1 : (n != 0) = true := bne_iff_ne.2 hn
 have HS := Aside0.mk cs
 have HB := Aside0.mk cb
 have HK := Aside0.mk ck
 have HN := Aside0.mk cn
 have HL := Aside0.mk cl
 have HX := Aside0.mk (And.intro ne (And.intro hB hM))
 clear cs cb ck cn cl ne hB hM
 by_cases hq : bt s x = b
 ·have e1 : (bt s x == b) = true := beq_iff_eq.2 hq
  have e2 : (bt s x != b) = false := bne_eq_false_iff_eq.2 hq
  rw [if_pos hq, if_pos hq]
  clear hq
  go_enter Tryd.func63, Tryd.ntmps63
  go_wp2
  go_quiet (fail)
  replace HS := Aside0.mk (blk_drewN HS.out nq); replace HB := Aside0.mk (blk_drewN HB.out nq); replace HK := Aside0.mk (blk_drewN HK.out nq); replace HN := Aside0.mk (blk_drewN HN.out nq); replace HL := Aside0.mk (blk_drewN HL.out nq)
  have m5 : ((W.drewN nq).setCell ⟨gb, 0, none⟩ (.int .u8 (bt s x))).cell? ⟨gl, 0, none⟩ = some (.bool l) := cell1 (blk_far HL.out (p := ⟨gb, 0, none⟩) (by have := HX.out; show gl ≠ gb; omega) _)
  go_wp2
  go_ret
  have hx := HX.out
  exact ⟨rfl, ⟨blk_far HS.out (p := ⟨gb, 0, none⟩) hx.1.1 _, put1 HB.out _, blk_far HK.out (p := ⟨gb, 0, none⟩) (by show gk ≠ gb; omega) _, blk_far HN.out (p := ⟨gb, 0, none⟩) (by show gn ≠ gb; omega) _, blk_far HL.out (p := ⟨gb, 0, none⟩) (by show gl ≠ gb; omega) _⟩, ((Side.of_below (pw_below_drewN (Below.refl _ W) nq)).set hx.2.1.1 hx.2.2.1 0 _)⟩
 ·have e1 : (bt s x == b) = false := beq_eq_false_iff_ne.2 hq
  have e2 : (bt s x != b) = true := bne_iff_ne.2 hq
  rw [if_neg hq, if_neg hq]
  clear hq
  by_cases hz : Int.tmod c n = 0
  ·have t0 : (Int.tmod c n == 0) = true := beq_iff_eq.2 hz
   rw [if_pos hz]
   clear hz
   go_enter Tryd.func63, Tryd.ntmps63
   go_wp2
   go_quiet (fail)
   replace HS := Aside0.mk (blk_drewN HS.out nq); replace HB := Aside0.mk (blk_drewN HB.out nq); replace HK := Aside0.mk (blk_drewN HK.out nq); replace HN := Aside0.mk (blk_drewN HN.out nq); replace HL := Aside0.mk (blk_drewN HL.out nq)
   have HL1 : Aside0 (((W.drewN nq).setCell ⟨gl, 0, none⟩ (.bool !l)).heap[gl]? = some (.cells #[.bool !l] 4 (0, 0))) := ⟨put1 HL.out _⟩
   have HS1 := Aside0.mk (blk_far HS.out (p := ⟨gl, 0, none⟩) (by have := HX.out; show gs ≠ gl; omega) (.bool !l))
   have HB1 := Aside0.mk (blk_far HB.out (p := ⟨gl, 0, none⟩) (by have := HX.out; show gb ≠ gl; omega) (.bool !l))
   have HK1 := Aside0.mk (blk_far HK.out (p := ⟨gl, 0, none⟩) (by have := HX.out; show gk ≠ gl; omega) (.bool !l))
   have HN1 := Aside0.mk (blk_far HN.out (p := ⟨gl, 0, none⟩) (by have := HX.out; show gn ≠ gl; omega) (.bool !l))
   have m3 := cell1 HK1.out
   have mf3 := blk_frozen HK1.out 0
   have HS2 := Aside0.mk (blk_far HS1.out (p := ⟨gk, 0, none⟩) (by have := HX.out; show gs ≠ gk; omega) (.int .i64 (wrap64 (c + 1))))
   have HB2 := Aside0.mk (blk_far HB1.out (p := ⟨gk, 0, none⟩) (by have := HX.out; show gb ≠ gk; omega) (.int .i64 (wrap64 (c + 1))))
   have HL2 := Aside0.mk (blk_far HL1.out (p := ⟨gk, 0, none⟩) (by have := HX.out; show gl ≠ gk; omega) (.int .i64 (wrap64 (c + 1))))
   have HN2 := Aside0.mk (blk_far HN1.out (p := ⟨gk, 0, none⟩) (by have := HX.out; show gn ≠ gk; omega) (.int .i64 (wrap64 (c + 1))))
   have HK2 := Aside0.mk (put1 HK1.out (.int .i64 (wrap64 (c + 1))))
   have q1 := cell1 HS2.out
   have q2 := cell1 HB2.out
   have qf2 := blk_frozen HB2.out 0
   have HL3 := Aside0.mk (blk_far HL2.out (p := ⟨gb, 0, none⟩) (by have := HX.out; show gl ≠ gb; omega) (.int .u8 (bt s x)))
   have r5 := cell1 HL3.out
   go_wp2
   go_ret
   have hx := HX.out
   exact ⟨rfl, ⟨blk_far HS2.out (p := ⟨gb, 0, none⟩) hx.1.1 _, put1 HB2.out _, blk_far HK2.out (p := ⟨gb, 0, none⟩) (by show gk ≠ gb; omega) _, blk_far HN2.out (p := ⟨gb, 0, none⟩) (by show gn ≠ gb; omega) _, HL3.out⟩, (((Side.of_below (pw_below_drewN (Below.refl _ W) nq)).set hx.2.1.2.2 hx.2.2.2.2 0 _).set hx.2.1.2.1 hx.2.2.2.1 0 _).set hx.2.1.1 hx.2.2.1 0 _⟩
  ·have t0 : (Int.tmod c n == 0) = false := beq_eq_false_iff_ne.2 hz
   rw [if_neg hz]
   clear hz
   go_enter Tryd.func63, Tryd.ntmps63
   go_wp2
   go_quiet (fail)
   replace HS := Aside0.mk (blk_drewN HS.out nq); replace HB := Aside0.mk (blk_drewN HB.out nq); replace HK := Aside0.mk (blk_drewN HK.out nq); replace HN := Aside0.mk (blk_drewN HN.out nq); replace HL := Aside0.mk (blk_drewN HL.out nq)
   have HS2 := Aside0.mk (blk_far HS.out (p := ⟨gk, 0, none⟩) (by have := HX.out; show gs ≠ gk; omega) (.int .i64 (wrap64 (c + 1))))
   have HB2 := Aside0.mk (blk_far HB.out (p := ⟨gk, 0, none⟩) (by have := HX.out; show gb ≠ gk; omega) (.int .i64 (wrap64 (c + 1))))
   have HL2 := Aside0.mk (blk_far HL.out (p := ⟨gk, 0, none⟩) (by have := HX.out; show gl ≠ gk; omega) (.int .i64 (wrap64 (c + 1))))
   have HN2 := Aside0.mk (blk_far HN.out (p := ⟨gk, 0, none⟩) (by have := HX.out; show gn ≠ gk; omega) (.int .i64 (wrap64 (c + 1))))
   have HK2 := Aside0.mk (put1 HK.out (.int .i64 (wrap64 (c + 1))))
   have q1 := cell1 HS2.out
   have q2 := cell1 HB2.out
   have qf2 := blk_frozen HB2.out 0
   have HL3 := Aside0.mk (blk_far HL2.out (p := ⟨gb, 0, none⟩) (by have := HX.out; show gl ≠ gb; omega) (.int .u8 (bt s x)))
   have r5 := cell1 HL3.out
   go_wp2
   go_ret
   have hx := HX.out
   exact ⟨rfl, ⟨blk_far HS2.out (p := ⟨gb, 0, none⟩) hx.1.1 _, put1 HB2.out _, blk_far HK2.out (p := ⟨gb, 0, none⟩) (by show gk ≠ gb; omega) _, blk_far HN2.out (p := ⟨gb, 0, none⟩) (by show gn ≠ gb; omega) _, HL3.out⟩, ((Side.of_below (pw_below_drewN (Below.refl _ W) nq)).set hx.2.1.2.1 hx.2.2.2.1 0 _).set hx.2.1.1 hx.2.2.1 0 _⟩
set_option maxHeartbeats 2000000 in
set_option maxRecDepth 100000 in
theorem ToggleWave_wave (n : Int) (a : ByteArray) (gs gb gk gn gl : Nat) (ha : a.size ≤ 400) (hn : n ≠ 0) (B : Nat) (w : World) (hBw : B ≤ w.heap.size) (hB : B ≤ gb ∧ B ≤ gk ∧ B ≤ gl) (ne : gs ≠ gb ∧ gs ≠ gk ∧ gs ≠ gl ∧ gn ≠ gb ∧ gn ≠ gk ∧ gn ≠ gl ∧ gb ≠ gk ∧ gb ≠ gl ∧ gk ≠ gl)
  (cs : w.heap[gs]? = some (.cells #[.string a] 9 (0, 0))) (cb : w.heap[gb]? = some (.cells #[.int .u8 48] 5 (0, 0))) (ck : w.heap[gk]? = some (.cells #[.int .i64 0] 2 (0, 0))) (cn : w.heap[gn]? = some (.cells #[.int .i64 n] 2 (0, 0))) (cl : w.heap[gl]? = some (.cells #[.bool false] 4 (0, 0))) :
  Calls Tryd.prog 53 #[.int .i64 (a.size : Int), .func (.func 63) #[] #[.pointer (some ⟨gs, 0, none⟩), .pointer (some ⟨gb, 0, none⟩), .pointer (some ⟨gk, 0, none⟩), .pointer (some ⟨gn, 0, none⟩), .pointer (some ⟨gl, 0, none⟩)]] w fun e w' => e = .returned (.string (strOfNums (waveL (togLv n a) a.size))) ∧ Below B w w' := by
 have l1 := blk_lt cs
 have l2 := blk_lt cb
 have l3 := blk_lt ck
 have l4 := blk_lt cn
 have l5 := blk_lt cl
 refine (waveOf.calls a.size 63 #[.pointer (some ⟨gs, 0, none⟩), .pointer (some ⟨gb, 0, none⟩), .pointer (some ⟨gk, 0, none⟩), .pointer (some ⟨gn, 0, none⟩), .pointer (some ⟨gl, 0, none⟩)] (togLv n a)
  (fun i W => W.heap[gs]? = some (.cells #[.string a] 9 (0, 0)) ∧ W.heap[gb]? = some (.cells #[.int .u8 (togSt n a i).1] 5 (0, 0)) ∧ W.heap[gk]? = some (.cells #[.int .i64 (togSt n a i).2.1] 2 (0, 0)) ∧ W.heap[gn]? = some (.cells #[.int .i64 n] 2 (0, 0)) ∧ W.heap[gl]? = some (.cells #[.bool (togSt n a i).2.2] 4 (0, 0))) B w (by omega) hBw
  (enters_of Tryd.func63 (by kernel_rfl) rfl) ⟨cs, cb, ck, cn, cl⟩ (fun i W W' h hB => ⟨blk_stays h.1 l1 hB, blk_stays h.2.1 l2 hB, blk_stays h.2.2.1 l3 hB, blk_stays h.2.2.2.1 l4 hB, blk_stays h.2.2.2.2 l5 hB⟩)
  (fun i W hi _ h => ?_)).mono fun e w' ⟨he, _, hB⟩ => ⟨he, hB⟩
 refine (ToggleWave_test a n gs gb gk gn gl (i : Int) (togSt n a i).1 (togSt n a i).2.1 (togSt n a i).2.2 (by omega) (by omega) hn B w.heap.size W h.1 h.2.1 h.2.2.1 h.2.2.2.1 h.2.2.2.2 ne hB ⟨l2, l3, l5⟩).mono fun e w' ⟨he, h', hs⟩ => ?_
 have hst : togSt n a (i + 1) = if bt a (i : Int) = (togSt n a i).1 then (bt a (i : Int), (togSt n a i).2.1, (togSt n a i).2.2) else (bt a (i : Int), wrap64 ((togSt n a i).2.1 + 1), if Int.tmod (togSt n a i).2.1 n = 0 then !(togSt n a i).2.2 else (togSt n a i).2.2) := rfl
 have h1 : (togSt n a (i + 1)).1 = bt a (i : Int) := by rw [hst]; split <;> rfl
 have h2 : (togSt n a (i + 1)).2.1 = if bt a (i : Int) = (togSt n a i).1 then (togSt n a i).2.1 else wrap64 ((togSt n a i).2.1 + 1) := by rw [hst]; split <;> rfl
 have h3 : (togSt n a (i + 1)).2.2 = if bt a (i : Int) = (togSt n a i).1 then (togSt n a i).2.2 else if Int.tmod (togSt n a i).2.1 n = 0 then !(togSt n a i).2.2 else (togSt n a i).2.2 := by rw [hst]; split <;> rfl
 refine ⟨?_, ⟨h'.1, ?_, ?_, h'.2.2.2.1, ?_⟩, hs⟩
 ·rw [he]; unfold togLv; rw [h3]
 ·rw [h1]; exact h'.2.1
 ·rw [h2]; exact h'.2.2.1
 ·rw [h3]; exact h'.2.2.2.2
theorem togIn (n : Int) : impl_within.f n 1 64 = some (decide (1 ≤ n) && decide (n ≤ 64)) := by
 unfold impl_within.f
 by_cases h : 1 ≤ n <;> simp [h]
set_option maxHeartbeats 4000000 in
set_option maxRecDepth 100000 in
theorem impl_ToggleWave.calls (a0 : Int) (a1 : ByteArray) (r1 : ByteArray) (r2 : Bool) (w : World) (h : impl_ToggleWave.f a0 a1 = some (r1, r2)) :
  Calls Tryd.prog 22 #[.int .i64 a0, .string a1] w fun e w' => e = .returned (.tuple #[.string r1, .bool r2]) ∧ Below w.heap.size w w' := by
 unfold impl_ToggleWave.f togOk at h
 have HI := Aside0.mk (togIn a0)
 cases hq : (decide (1 ≤ a0) && decide (a0 ≤ 64)) with
 | false =>
  rw [hq, Bool.false_and, if_neg (by decide)] at h
  rw [hq] at HI
  clear hq
  simp only [Option.some.injEq, Prod.mk.injEq] at h
  obtain ⟨rfl, rfl⟩ := h
  go_enter Tryd.func22, Tryd.ntmps22
  go_wp2_with (first | ((with_reducible refine gate_dst (N := 2) rfl ?_); refine box_event ?hg (N := 2) ?hd (cs := #[.int .i64 a0]) (t := 2) ?hr ?_; (case hd => rfl); (case hg => rfl); (case hr => first | (go_simp; done) | (go_simp; rfl)); intro ga hg_ w1 hbox_ hb_; have HX_ga := Aside0.mk hbox_; have HB_w1 := Aside0.mk hb_; have HG_ga := Aside0.mk hg_; clear hbox_ hb_ hg_; have c1 := cell1 HX_ga.out) | ((with_reducible refine gate_dst (N := 3) rfl ?_); refine box_event ?hg (N := 3) ?hd (cs := #[.string a1]) (t := 9) ?hr ?_; (case hd => rfl); (case hg => rfl); (case hr => first | (go_simp; done) | (go_simp; rfl)); intro gb hg_ w2 hbox_ hb_; have HX_gb := Aside0.mk hbox_; have HB_w2 := Aside0.mk hb_; have HG_gb := Aside0.mk hg_; clear hbox_ hb_ hg_; replace HX_ga := Aside0.mk (blk_below HX_ga.out HB_w2.out); clear c1; have c1 := cell1 HX_ga.out; have c2 := cell1 HX_gb.out) | (go_at_call 61; refine (impl_within.calls a0 1 64 false _ HI.out).mono ?_; rintro e w' ⟨rfl, ⟨nd, rfl⟩⟩))
  go_ret2
  exact ⟨rfl, pw_below_drewN (below_step HB_w1.out HB_w2.out) _⟩
 | true =>
  have hn : a0 ≠ 0 := by
   rw [Bool.and_eq_true, decide_eq_true_eq] at hq
   omega
  have HNZ := Aside0.mk hn
  rw [hq] at HI
  rw [hq, Bool.true_and] at h
  clear hq hn
  have HW : Aside0 (impl_IsWave.f a1 = some (isWaveB a1)) := ⟨rfl⟩
  cases hw : isWaveB a1 with
  | false =>
   rw [hw, if_neg (by decide)] at h
   rw [hw] at HW
   clear hw
   simp only [Option.some.injEq, Prod.mk.injEq] at h
   obtain ⟨rfl, rfl⟩ := h
   go_enter Tryd.func22, Tryd.ntmps22
   go_wp2_with (first | ((with_reducible refine gate_dst (N := 2) rfl ?_); refine box_event ?hg (N := 2) ?hd (cs := #[.int .i64 a0]) (t := 2) ?hr ?_; (case hd => rfl); (case hg => rfl); (case hr => first | (go_simp; done) | (go_simp; rfl)); intro ga hg_ w1 hbox_ hb_; have HX_ga := Aside0.mk hbox_; have HB_w1 := Aside0.mk hb_; have HG_ga := Aside0.mk hg_; clear hbox_ hb_ hg_; have c1 := cell1 HX_ga.out) | ((with_reducible refine gate_dst (N := 3) rfl ?_); refine box_event ?hg (N := 3) ?hd (cs := #[.string a1]) (t := 9) ?hr ?_; (case hd => rfl); (case hg => rfl); (case hr => first | (go_simp; done) | (go_simp; rfl)); intro gb hg_ w2 hbox_ hb_; have HX_gb := Aside0.mk hbox_; have HB_w2 := Aside0.mk hb_; have HG_gb := Aside0.mk hg_; clear hbox_ hb_ hg_; replace HX_ga := Aside0.mk (blk_below HX_ga.out HB_w2.out); clear c1; have c1 := cell1 HX_ga.out; have c2 := cell1 HX_gb.out) | (go_at_call 61; refine (impl_within.calls a0 1 64 true _ HI.out).mono ?_; rintro e w' ⟨rfl, ⟨nd, rfl⟩⟩) | (go_at_call 62; refine (impl_IsWave.calls a1 false _ HW.out).mono ?_; rintro e w4 ⟨rfl, hb4⟩; have HB4 := Aside0.mk (below_step (pw_below_drewN (below_step HB_w1.out HB_w2.out) _) hb4); clear hb4))
   go_ret2
   exact ⟨rfl, HB4.out⟩
  | true =>
   rw [hw, if_pos rfl] at h
   have hl : a1.size ≤ 400 := by
    unfold isWaveB at hw
    rw [Bool.and_eq_true, decide_eq_true_eq] at hw
    exact hw.1
   have HL := Aside0.mk hl
   rw [hw] at HW
   clear hw hl
   simp only [Option.some.injEq, Prod.mk.injEq] at h
   obtain ⟨rfl, rfl⟩ := h
   go_enter Tryd.func22, Tryd.ntmps22
   go_wp2_with (first | ((with_reducible refine gate_dst (N := 2) rfl ?_); refine box_event ?hg (N := 2) ?hd (cs := #[.int .i64 a0]) (t := 2) ?hr ?_; (case hd => rfl); (case hg => rfl); (case hr => first | (go_simp; done) | (go_simp; rfl)); intro ga hg_ w1 hbox_ hb_; have HX_ga := Aside0.mk hbox_; have HB_w1 := Aside0.mk hb_; have HG_ga := Aside0.mk hg_; clear hbox_ hb_ hg_; have c1 := cell1 HX_ga.out) | ((with_reducible refine gate_dst (N := 3) rfl ?_); refine box_event ?hg (N := 3) ?hd (cs := #[.string a1]) (t := 9) ?hr ?_; (case hd => rfl); (case hg => rfl); (case hr => first | (go_simp; done) | (go_simp; rfl)); intro gb hg_ w2 hbox_ hb_; have HX_gb := Aside0.mk hbox_; have HB_w2 := Aside0.mk hb_; have HG_gb := Aside0.mk hg_; clear hbox_ hb_ hg_; replace HX_ga := Aside0.mk (blk_below HX_ga.out HB_w2.out); clear c1; have c1 := cell1 HX_ga.out; have c2 := cell1 HX_gb.out) | (go_at_call 61; refine (impl_within.calls a0 1 64 true _ HI.out).mono ?_; rintro e w' ⟨rfl, ⟨nd, rfl⟩⟩) | (go_at_call 62; refine (impl_IsWave.calls a1 true _ HW.out).mono ?_; rintro e w4 ⟨rfl, hb4⟩; have HB4 := Aside0.mk (below_step (pw_below_drewN (below_step HB_w1.out HB_w2.out) _) hb4); replace HX_ga := Aside0.mk (blk_below (blk_drewN HX_ga.out nd) hb4); replace HX_gb := Aside0.mk (blk_below (blk_drewN HX_gb.out nd) hb4); clear c1 c2; have c2 := cell1 (blk_alloc (blk_alloc (blk_alloc HX_gb.out (.cells #[.int .u8 48] 5)) (.cells #[.int .i64 0] 2)) (.cells #[.bool false] 4)); clear hb4) | (go_at_call 53; refine (ToggleWave_wave a0 a1 gb w4.heap.size (w4.heap.size + 1) ga (w4.heap.size + 2) HL.out HNZ.out w4.heap.size _ (by simp; omega) (by omega) (by have := blk_lt HX_ga.out; have := blk_lt HX_gb.out; omega) (blk_alloc (blk_alloc (blk_alloc HX_gb.out _) _) _) (blk_alloc (blk_alloc (blk_new _ _) _) _) (blk_alloc (by simpa using blk_new (w4.alloc (.cells #[.int .u8 48] 5)) (.cells #[.int .i64 0] 2)) _) (blk_alloc (blk_alloc (blk_alloc HX_ga.out _) _) _) (by simpa using blk_new ((w4.alloc (.cells #[.int .u8 48] 5)).alloc (.cells #[.int .i64 0] 2)) (.cells #[.bool false] 4))).mono ?_; rintro e w5 ⟨rfl, hb5⟩; have HB5 := Aside0.mk (below_step HB4.out ((below_alloc (below_alloc (below_alloc (Below.refl _ _) _) _) _).trans hb5)); clear hb5))
   go_ret2
   exact ⟨rfl, HB5.out⟩

end Go.Proofs.YtmipelgjmmgmnaaDoor.Pa

namespace Go.Proofs.YtmipelgjmmgmnaaDoor.Pa
open Go.RowKit Go.Proofs.YtmipelgjmmgmnaaDoorW.PrintWords Go.Proofs.YtmipelgjmmgmnaaDoorW.PrintLast Go.Proofs.YtmipelgjmmgmnaaDoorW.PrintMore
attribute [local go_sem] max2_int min2_int max_two min_two max_three min_three max_four min_four   -- for this text's walks alone
set_option linter.unusedVariables false
set_option linter.unusedSimpArgs false

/-! ### impl_DivideWave: function 25 -/
def impl_DivideWave.f (a0_0 : Int) (a0_1 : Int) (a1 : ByteArray) : Option (ByteArray × Bool) := (impl_ValidDivider.f a0_0 a0_1).bind fun t215 => (if t215 = true then ((impl_IsWave.f a1).bind fun t216 => (if t216 = true then ((impl_divideWave.f a0_0 a0_1 a1).bind fun t217 => (some (t217, true))) else (some ((⟨#[]⟩ : ByteArray), false)))) else (some ((⟨#[]⟩ : ByteArray), false)))
set_option maxHeartbeats 8000000 in
set_option maxRecDepth 100000 in
theorem impl_DivideWave.calls (a0_0 : Int) (a0_1 : Int) (a1 : ByteArray) (r1 : ByteArray) (r2 : Bool) (w : World) (h : impl_DivideWave.f a0_0 a0_1 a1 = some (r1, r2)) :
  Calls Tryd.prog 25 #[.agg #[.int .i64 a0_0, .int .i64 a0_1], .string a1] w fun e w' => e = .returned (.tuple #[.string r1, .bool r2]) ∧ Below w.heap.size w w' := by
 have hu32 := Tryd.underlying32
 have HB := Aside0.mk (Below.refl w.heap.size w)
 have H : ((impl_ValidDivider.f a0_0 a0_1).bind fun t215 => (if t215 = true then ((impl_IsWave.f a1).bind fun t216 => (if t216 = true then ((impl_divideWave.f a0_0 a0_1 a1).bind fun t217 => (some (t217, true))) else (some ((⟨#[]⟩ : ByteArray), false)))) else (some ((⟨#[]⟩ : ByteArray), false)))) = some (r1, r2) := h
 clear h
 replace H := Option.bind_eq_some_iff.mp H
 obtain ⟨t215, A30, H⟩ := H
 replace H : (if t215 = true then ((impl_IsWave.f a1).bind fun t216 => (if t216 = true then ((impl_divideWave.f a0_0 a0_1 a1).bind fun t217 => (some (t217, true))) else (some ((⟨#[]⟩ : ByteArray), false)))) else (some ((⟨#[]⟩ : ByteArray), false))) = some (r1, r2) := H
 have A3 := Aside0.mk A30
 clear A30
 by_cases c4 : t215 = true
 ·subst c4
  have H1 : ((impl_IsWave.f a1).bind fun t216 => (if t216 = true then ((impl_divideWave.f a0_0 a0_1 a1).bind fun t217 => (some (t217, true))) else (some ((⟨#[]⟩ : ByteArray), false)))) = some (r1, r2) := by rw [if_pos rfl] at H; exact H
  clear H
  have H := H1
  clear H1
  replace H := Option.bind_eq_some_iff.mp H
  obtain ⟨t216, A50, H⟩ := H
  replace H : (if t216 = true then ((impl_divideWave.f a0_0 a0_1 a1).bind fun t217 => (some (t217, true))) else (some ((⟨#[]⟩ : ByteArray), false))) = some (r1, r2) := H
  have A5 := Aside0.mk A50
  clear A50
  by_cases c6 : t216 = true
  ·subst c6
   have H1 : ((impl_divideWave.f a0_0 a0_1 a1).bind fun t217 => (some (t217, true))) = some (r1, r2) := by rw [if_pos rfl] at H; exact H
   clear H
   have H := H1
   clear H1
   replace H := Option.bind_eq_some_iff.mp H
   obtain ⟨t217, A70, H⟩ := H
   replace H : (some (t217, true)) = some (r1, r2) := H
   have A7 := Aside0.mk A70
   clear A70
   simp only [Option.some.injEq, Prod.mk.injEq] at H
   obtain ⟨rfl, rfl⟩ := H
   go_enter Tryd.func25, Tryd.ntmps25
   go_wp2_with (first | ((with_reducible refine gate_dst (N := 2) rfl ?_); refine box_event ?hg (N := 2) ?hd (cs := #[.int .i64 a0_0, .int .i64 a0_1]) (t := 32) ?hr ?_; (case hd => rfl); (case hg => rfl); (case hr => first | (go_simp; done) | (go_simp; rfl)); intro gb214 hg w8 hbox hb; have n0_ := Aside0.mk (below_step (by repeat (first | (with_reducible first | exact HB.out | apply below_alloc | apply pw_below_drewN | apply below_drew1) | exact HB.out)) hb); have n1_ := Aside0.mk (hbox); have n2_ := Aside0.mk ((by rw [hg]; exact (below_size (by repeat (first | (with_reducible first | exact HB.out | apply below_alloc | apply pw_below_drewN | apply below_drew1) | exact HB.out))) : w.heap.size ≤ gb214)); have n3_ := Aside0.mk ((by rw [hg]; exact (below_size (by repeat (first | (with_reducible first | exact HB.out | apply below_alloc | apply pw_below_drewN | apply below_drew1) | exact HB.out))) : w.heap.size ≤ gb214)); clear HB; have HB := n0_; have BK214 := n1_; have GW214 := n2_; have GE214 := n3_; clear n0_ n1_ n2_ n3_; clear hb hbox hg; have hcz9_0 : w8.cell? ⟨gb214, 0, none⟩ = some (.int .i64 a0_0) := (blk_cell BK214.out 0).trans rfl; have hcz9_1 : w8.cell? ⟨gb214, 1, none⟩ = some (.int .i64 a0_1) := (blk_cell BK214.out 1).trans rfl; have hfz9_0 := blk_frozen BK214.out 0; have hfz9_1 := blk_frozen BK214.out 1) | ((with_reducible refine gate_callee (f := 49) rfl ?_); refine goesL_ (some 7) rfl rfl Tryd.func49 (by kernel_rfl) rfl #[.agg #[.int .i64 a0_0, .int .i64 a0_1]] rfl (by (try simp only [List.map_toArray, List.map_cons, List.map_nil]); first | done | rfl | (simp only [List.length_drop, List.length_take]; rfl)) ?_; (with_reducible refine (impl_ValidDivider.calls a0_0 a0_1 true _ A3.out).mono ?_); rintro e w10 ⟨rfl, hb⟩; refine ⟨_, rfl, ?_⟩; have n0_ := Aside0.mk (blk_below (g := gb214) (o := .cells #[.int .i64 a0_0, .int .i64 a0_1] 32 (0, 0)) (by (with_reducible repeat (first | refine blk_drewN ?_ _ | refine blk_drew ?_ | refine blk_alloc ?_ _)); exact BK214.out) hb); have n1_ := Aside0.mk (below_step (by repeat (first | (with_reducible first | exact HB.out | apply below_alloc | apply pw_below_drewN | apply below_drew1 | refine below_set ?_ GE214.out) | exact HB.out)) hb); clear BK214; clear HB; have BK214 := n0_; have HB := n1_; clear n0_ n1_; (try clear hb); (try clear hb2); (try clear hk); (try clear hi)) | (go_at_call 62; (with_reducible refine (impl_IsWave.calls a1 true _ A5.out).mono ?_); rintro e w11 ⟨rfl, hb⟩; have n0_ := Aside0.mk (blk_below (g := gb214) (o := .cells #[.int .i64 a0_0, .int .i64 a0_1] 32 (0, 0)) (by (with_reducible repeat (first | refine blk_drewN ?_ _ | refine blk_drew ?_ | refine blk_alloc ?_ _)); exact BK214.out) hb); have n1_ := Aside0.mk (below_step (by repeat (first | (with_reducible first | exact HB.out | apply below_alloc | apply pw_below_drewN | apply below_drew1 | refine below_set ?_ GE214.out) | exact HB.out)) hb); clear BK214; clear HB; have BK214 := n0_; have HB := n1_; clear n0_ n1_; (try clear hb); (try clear hb2); (try clear hk); (try clear hi); have hcz12_0 : w11.cell? ⟨gb214, 0, none⟩ = some (.int .i64 a0_0) := (blk_cell BK214.out 0).trans rfl; have hcz12_1 : w11.cell? ⟨gb214, 1, none⟩ = some (.int .i64 a0_1) := (blk_cell BK214.out 1).trans rfl; have hfz12_0 := blk_frozen BK214.out 0; have hfz12_1 := blk_frozen BK214.out 1) | ((with_reducible refine gate_callee (f := 66) rfl ?_); refine goesL_ (some 16) rfl rfl Tryd.func66 (by kernel_rfl) rfl #[.agg #[.int .i64 a0_0, .int .i64 a0_1], .string a1] rfl (by (try simp only [List.map_toArray, List.map_cons, List.map_nil]); first | done | rfl | (simp only [List.length_drop, List.length_take]; rfl)) ?_; (with_reducible refine (impl_divideWave.calls a0_0 a0_1 a1 t217 _ A7.out).mono ?_); rintro e w13 ⟨rfl, hb⟩; refine ⟨_, rfl, ?_⟩; have n0_ := Aside0.mk (blk_below (g := gb214) (o := .cells #[.int .i64 a0_0, .int .i64 a0_1] 32 (0, 0)) (by (with_reducible repeat (first | refine blk_drewN ?_ _ | refine blk_drew ?_ | refine blk_alloc ?_ _)); exact BK214.out) hb); have n1_ := Aside0.mk (below_step (by repeat (first | (with_reducible first | exact HB.out | apply below_alloc | apply pw_below_drewN | apply below_drew1 | refine below_set ?_ GE214.out) | exact HB.out)) hb); clear BK214; clear HB; have BK214 := n0_; have HB := n1_; clear n0_ n1_; (try clear hb); (try clear hb2); (try clear hk); (try clear hi)))
   go_ret2
   exact ⟨by first | rfl | (simp [errW_none, errW_some] <;> rfl) | (simp [*, errW_none, errW_some] <;> rfl), by repeat (first | (with_reducible first | exact HB.out | apply below_alloc | apply pw_below_drewN | apply below_drew1 | refine below_set ?_ GE214.out) | exact HB.out)⟩
  ·replace c6 := Bool.eq_false_iff.mpr c6
   subst c6
   have H1 : (some ((⟨#[]⟩ : ByteArray), false)) = some (r1, r2) := by rw [if_neg (show ¬ (false = true) by decide)] at H; exact H
   clear H
   have H := H1
   clear H1
   simp only [Option.some.injEq, Prod.mk.injEq] at H
   obtain ⟨rfl, rfl⟩ := H
   go_enter Tryd.func25, Tryd.ntmps25
   go_wp2_with (first | ((with_reducible refine gate_dst (N := 2) rfl ?_); refine box_event ?hg (N := 2) ?hd (cs := #[.int .i64 a0_0, .int .i64 a0_1]) (t := 32) ?hr ?_; (case hd => rfl); (case hg => rfl); (case hr => first | (go_simp; done) | (go_simp; rfl)); intro gb214 hg w14 hbox hb; have n0_ := Aside0.mk (below_step (by repeat (first | (with_reducible first | exact HB.out | apply below_alloc | apply pw_below_drewN | apply below_drew1) | exact HB.out)) hb); have n1_ := Aside0.mk (hbox); have n2_ := Aside0.mk ((by rw [hg]; exact (below_size (by repeat (first | (with_reducible first | exact HB.out | apply below_alloc | apply pw_below_drewN | apply below_drew1) | exact HB.out))) : w.heap.size ≤ gb214)); have n3_ := Aside0.mk ((by rw [hg]; exact (below_size (by repeat (first | (with_reducible first | exact HB.out | apply below_alloc | apply pw_below_drewN | apply below_drew1) | exact HB.out))) : w.heap.size ≤ gb214)); clear HB; have HB := n0_; have BK214 := n1_; have GW214 := n2_; have GE214 := n3_; clear n0_ n1_ n2_ n3_; clear hb hbox hg; have hcz15_0 : w14.cell? ⟨gb214, 0, none⟩ = some (.int .i64 a0_0) := (blk_cell BK214.out 0).trans rfl; have hcz15_1 : w14.cell? ⟨gb214, 1, none⟩ = some (.int .i64 a0_1) := (blk_cell BK214.out 1).trans rfl; have hfz15_0 := blk_frozen BK214.out 0; have hfz15_1 := blk_frozen BK214.out 1) | ((with_reducible refine gate_callee (f := 49) rfl ?_); refine goesL_ (some 7) rfl rfl Tryd.func49 (by kernel_rfl) rfl #[.agg #[.int .i64 a0_0, .int .i64 a0_1]] rfl (by (try simp only [List.map_toArray, List.map_cons, List.map_nil]); first | done | rfl | (simp only [List.length_drop, List.length_take]; rfl)) ?_; (with_reducible refine (impl_ValidDivider.calls a0_0 a0_1 true _ A3.out).mono ?_); rintro e w16 ⟨rfl, hb⟩; refine ⟨_, rfl, ?_⟩; have n0_ := Aside0.mk (blk_below (g := gb214) (o := .cells #[.int .i64 a0_0, .int .i64 a0_1] 32 (0, 0)) (by (with_reducible repeat (first | refine blk_drewN ?_ _ | refine blk_drew ?_ | refine blk_alloc ?_ _)); exact BK214.out) hb); have n1_ := Aside0.mk (below_step (by repeat (first | (with_reducible first | exact HB.out | apply below_alloc | apply pw_below_drewN | apply below_drew1 | refine below_set ?_ GE214.out) | exact HB.out)) hb); clear BK214; clear HB; have BK214 := n0_; have HB := n1_; clear n0_ n1_; (try clear hb); (try clear hb2); (try clear hk); (try clear hi)) | (go_at_call 62; (with_reducible refine (impl_IsWave.calls a1 false _ A5.out).mono ?_); rintro e w17 ⟨rfl, hb⟩; have n0_ := Aside0.mk (blk_below (g := gb214) (o := .cells #[.int .i64 a0_0, .int .i64 a0_1] 32 (0, 0)) (by (with_reducible repeat (first | refine blk_drewN ?_ _ | refine blk_drew ?_ | refine blk_alloc ?_ _)); exact BK214.out) hb); have n1_ := Aside0.mk (below_step (by repeat (first | (with_reducible first | exact HB.out | apply below_alloc | apply pw_below_drewN | apply below_drew1 | refine below_set ?_ GE214.out) | exact HB.out)) hb); clear BK214; clear HB; have BK214 := n0_; have HB := n1_; clear n0_ n1_; (try clear hb); (try clear hb2); (try clear hk); (try clear hi)))
   go_ret2
   exact ⟨by first | rfl | (simp [errW_none, errW_some] <;> rfl) | (simp [*, errW_none, errW_some] <;> rfl), by repeat (first | (with_reducible first | exact HB.out | apply below_alloc | apply pw_below_drewN | apply below_drew1 | refine below_set ?_ GE214.out) | exact HB.out)⟩
 ·replace c4 := Bool.eq_false_iff.mpr c4
  subst c4
  have H1 : (some ((⟨#[]⟩ : ByteArray), false)) = some (r1, r2) := by rw [if_neg (show ¬ (false = true) by decide)] at H; exact H
  clear H
  have H := H1
  clear H1
  simp only [Option.some.injEq, Prod.mk.injEq] at H
  obtain ⟨rfl, rfl⟩ := H
  go_enter Tryd.func25, Tryd.ntmps25
  go_wp2_with (first | ((with_reducible refine gate_dst (N := 2) rfl ?_); refine box_event ?hg (N := 2) ?hd (cs := #[.int .i64 a0_0, .int .i64 a0_1]) (t := 32) ?hr ?_; (case hd => rfl); (case hg => rfl); (case hr => first | (go_simp; done) | (go_simp; rfl)); intro gb214 hg w18 hbox hb; have n0_ := Aside0.mk (below_step (by repeat (first | (with_reducible first | exact HB.out | apply below_alloc | apply pw_below_drewN | apply below_drew1) | exact HB.out)) hb); have n1_ := Aside0.mk (hbox); have n2_ := Aside0.mk ((by rw [hg]; exact (below_size (by repeat (first | (with_reducible first | exact HB.out | apply below_alloc | apply pw_below_drewN | apply below_drew1) | exact HB.out))) : w.heap.size ≤ gb214)); have n3_ := Aside0.mk ((by rw [hg]; exact (below_size (by repeat (first | (with_reducible first | exact HB.out | apply below_alloc | apply pw_below_drewN | apply below_drew1) | exact HB.out))) : w.heap.size ≤ gb214)); clear HB; have HB := n0_; have BK214 := n1_; have GW214 := n2_; have GE214 := n3_; clear n0_ n1_ n2_ n3_; clear hb hbox hg; have hcz19_0 : w18.cell? ⟨gb214, 0, none⟩ = some (.int .i64 a0_0) := (blk_cell BK214.out 0).trans rfl; have hcz19_1 : w18.cell? ⟨gb214, 1, none⟩ = some (.int .i64 a0_1) := (blk_cell BK214.out 1).trans rfl; have hfz19_0 := blk_frozen BK214.out 0; have hfz19_1 := blk_frozen BK214.out 1) | ((with_reducible refine gate_callee (f := 49) rfl ?_); refine goesL_ (some 7) rfl rfl Tryd.func49 (by kernel_rfl) rfl #[.agg #[.int .i64 a0_0, .int .i64 a0_1]] rfl (by (try simp only [List.map_toArray, List.map_cons, List.map_nil]); first | done | rfl | (simp only [List.length_drop, List.length_take]; rfl)) ?_; (with_reducible refine (impl_ValidDivider.calls a0_0 a0_1 false _ A3.out).mono ?_); rintro e w20 ⟨rfl, hb⟩; refine ⟨_, rfl, ?_⟩; have n0_ := Aside0.mk (blk_below (g := gb214) (o := .cells #[.int .i64 a0_0, .int .i64 a0_1] 32 (0, 0)) (by (with_reducible repeat (first | refine blk_drewN ?_ _ | refine blk_drew ?_ | refine blk_alloc ?_ _)); exact BK214.out) hb); have n1_ := Aside0.mk (below_step (by repeat (first | (with_reducible first | exact HB.out | apply below_alloc | apply pw_below_drewN | apply below_drew1 | refine below_set ?_ GE214.out) | exact HB.out)) hb); clear BK214; clear HB; have BK214 := n0_; have HB := n1_; clear n0_ n1_; (try clear hb); (try clear hb2); (try clear hk); (try clear hi)))
  go_ret2
  exact ⟨by first | rfl | (simp [errW_none, errW_some] <;> rfl) | (simp [*, errW_none, errW_some] <;> rfl), by repeat (first | (with_reducible first | exact HB.out | apply below_alloc | apply pw_below_drewN | apply below_drew1 | refine below_set ?_ GE214.out) | exact HB.out)⟩

end Go.Proofs.YtmipelgjmmgmnaaDoor.Pa

namespace Go.Proofs.YtmipelgjmmgmnaaDoor.Pa
open Go.RowKit Go.Proofs.YtmipelgjmmgmnaaDoorW.PrintWords Go.Proofs.YtmipelgjmmgmnaaDoorW.PrintLast Go.Proofs.YtmipelgjmmgmnaaDoorW.PrintMore
attribute [local go_sem] max2_int min2_int max_two min_two max_three min_three max_four min_four   -- for this text's walks alone
set_option linter.unusedVariables false
set_option linter.unusedSimpArgs false

/-! ### AUX firstOf -/
/-- The place of the first element for which a test holds, or -1. -/
def firstOf {α : Type} (p : α → Bool) : List α → Int → Int
 | [], _ => -1
 | x :: l, i => if p x = true then i else firstOf p l (i + 1)
theorem firstOf_step {α : Type} (p : α → Bool) (x : α) (l : List α) (i : Int) : firstOf p (x :: l) i = if p x = true then i else firstOf p l (i + 1) := rfl
theorem firstOf_iff {α : Type} (p : α → Bool) (l : List α) : ∀ i, 0 ≤ i → (0 ≤ firstOf p l i ↔ l.any p = true) := by
 induction l with
 | nil => intro i hi; simp [firstOf]
 | cons x l ih =>
  intro i hi
  rw [firstOf_step, List.any_cons]
  by_cases hx : p x = true
  ·rw [if_pos hx, hx]
   simp [hi]
  ·rw [if_neg hx, Bool.eq_false_iff.mpr hx]
   simpa using ih (i + 1) (by omega)
theorem firstOf_any {α : Type} (p : α → Bool) (l : List α) : decide (0 ≤ firstOf p l 0) = l.any p := by
 rw [Bool.eq_iff_iff, decide_eq_true_iff]
 exact firstOf_iff p l 0 (by omega)
theorem firstOf_range {α : Type} (p : α → Bool) (l : List α) : ∀ i, 0 ≤ i → firstOf p l i = -1 ∨ (i ≤ firstOf p l i ∧ firstOf p l i < i + l.length) := by
 induction l with
 | nil => intro i hi; exact .inl rfl
 | cons x l ih =>
  intro i hi
  rw [firstOf_step, List.length_cons]
  split
  ·right; omega
  ·rcases ih (i + 1) (by omega) with h | h
   ·exact .inl h
   ·right; omega

end Go.Proofs.YtmipelgjmmgmnaaDoor.Pa

namespace Go.Proofs.YtmipelgjmmgmnaaDoor.Pa
open Go.RowKit Go.Proofs.YtmipelgjmmgmnaaDoorW.PrintWords Go.Proofs.YtmipelgjmmgmnaaDoorW.PrintLast Go.Proofs.YtmipelgjmmgmnaaDoorW.PrintMore
attribute [local go_sem] max2_int min2_int max_two min_two max_three min_three max_four min_four   -- for this text's walks alone
set_option linter.unusedVariables false
set_option linter.unusedSimpArgs false

/-! ### AUX containsD -/
set_option maxHeartbeats 2000000 in
set_option maxRecDepth 100000 in
theorem indexD.calls (A : Option Addr) (c : Nat) (l : List S32) (g : Nat) (lb : Array Value) (p : S32 → Bool) (w : World) (hr : Kd.C k32 w A l.length l)
  (eg : ∀ args W, (callFunc g args).run Tryd.prog W = .ok (.enter g args) W)
  (hp : ∀ (W : World) (x : S32), x ∈ l → Below w.heap.size w W → Calls Tryd.prog g (#[.agg #[.int .i64 x.f0, .int .i64 x.f1]] ++ lb) W fun e w' => e = .returned (.bool (p x)) ∧ Below w.heap.size w w') :
  Calls Tryd.prog 103 #[.slice A l.length c, .func (.func g) #[] lb] w fun e w' => e = .returned (.int .i64 (firstOf p l 0)) ∧ Below w.heap.size w w' := by
 have hu := Tryd.underlying32
 have HR := Aside0.mk hr
 have hlen : l.length ≤ 9223372036854775807 := hr.2.1
 clear hr
 have HP := Aside0.mk hp
 clear hp
 go_enter Tryd.func103, Tryd.ntmps103
 go_wp2
 go_loopg [5, 8] l.length (fun gg _ s8 wr => ∃ x : Int, s8 = .int .i64 x ∧ Aside0 (0 ≤ x ∧ x ≤ l.length ∧ (l.length : Int) - x ≤ gg) ∧ Aside0 (Below w.heap.size w wr) ∧ Aside0 (firstOf p l 0 = firstOf p (l.drop x.toNat) x))
 case atStart => exact ⟨0, rfl, ⟨by omega⟩, ⟨Below.refl _ w⟩, ⟨rfl⟩⟩
 case round =>
  obtain ⟨x, rfl, HX, HB, HF⟩ := hrel
  by_cases hlt : x < (l.length : Int)
  ·have c0 : decide (0 ≤ x) = true := decide_eq_true HX.out.1
   have c1 : decide (x < (l.length : Int)) = true := decide_eq_true hlt
   have HL := Aside0.mk hlt
   clear hlt
   obtain ⟨ad, e, h0, h1⟩ := at_T32 HR.out x HX.out.1 HL.out
   cases e
   replace h0 := (HB.out.cell (World.block_lt_of_cell? w _ h0)).trans h0
   replace h1 := (HB.out.cell (World.block_lt_of_cell? w _ h1)).trans h1
   have hmem : rd_T32 l x ∈ l := by
    have hx := HX.out
    have hl := HL.out
    unfold rd_T32
    rw [List.getD_eq_getElem?_getD, List.getElem?_eq_getElem (by omega)]
    exact List.getElem_mem _
   have hcall := HP.out wr (rd_T32 l x) hmem HB.out
   clear hmem
   have hd : l.drop x.toNat = rd_T32 l x :: l.drop (x + 1).toNat := by
    have hx := HX.out
    have hl := HL.out
    rw [List.drop_eq_getElem_cons (by omega), show (x + 1).toNat = x.toNat + 1 from by omega]
    unfold rd_T32
    rw [List.getD_eq_getElem?_getD, List.getElem?_eq_getElem (by omega)]
    rfl
   have HD := Aside0.mk hd
   clear hd
   cases hq : p (rd_T32 l x) with
   | true =>
    rw [hq] at hcall
    have HQ := Aside0.mk hq
    clear hq
    have HC := Aside0.mk hcall
    clear hcall
    have p0 := eq_true HX.out.1
    have p1 := eq_true HL.out
    go_wp2_with (go_at_fn g; refine HC.out.mono ?_; rintro e w' ⟨rfl, hb'⟩)
    go_ret
    refine ⟨?_, hb'⟩
    rw [HF.out, HD.out, firstOf_step, if_pos HQ.out]
    rfl
   | false =>
    rw [hq] at hcall
    have HQ := Aside0.mk hq
    clear hq
    have HC := Aside0.mk hcall
    clear hcall
    have p0 := eq_true HX.out.1
    have p1 := eq_true HL.out
    go_wp2_with (go_at_fn g; refine HC.out.mono ?_; rintro e w' ⟨rfl, hb'⟩)
    have hx1 := HX.out
    have hl1 := HL.out
    go_roundg ((l.length : Int) - (x + 1)).toNat
    case measure => omega
    case rel =>
     have hw1 : wrap64 (x + 1) = x + 1 := by unfold wrap64; omega
     refine ⟨x + 1, by rw [hw1], ⟨by omega⟩, ⟨hb'⟩, ⟨?_⟩⟩
     rw [HF.out, HD.out, firstOf_step, if_neg (by rw [HQ.out]; simp)]
  ·have c1 : decide (x < (l.length : Int)) = false := decide_eq_false hlt
   have HL := Aside0.mk hlt
   clear hlt
   go_wp2
   go_ret
   refine ⟨?_, HB.out⟩
   have hx := HX.out
   have hl := HL.out
   rw [HF.out, List.drop_of_length_le (by omega)]
   rfl
set_option maxHeartbeats 1000000 in
theorem containsD.calls (A : Option Addr) (c : Nat) (l : List S32) (g : Nat) (lb : Array Value) (p : S32 → Bool) (w : World) (hr : Kd.C k32 w A l.length l)
  (eg : ∀ args W, (callFunc g args).run Tryd.prog W = .ok (.enter g args) W)
  (hp : ∀ (W : World) (x : S32), x ∈ l → Below w.heap.size w W → Calls Tryd.prog g (#[.agg #[.int .i64 x.f0, .int .i64 x.f1]] ++ lb) W fun e w' => e = .returned (.bool (p x)) ∧ Below w.heap.size w w') :
  Calls Tryd.prog 67 #[.slice A l.length c, .func (.func g) #[] lb] w fun e w' => e = .returned (.bool (l.any p)) ∧ Below w.heap.size w w' := by
 have hcall := Aside0.mk (indexD.calls A c l g lb p w hr eg hp)
 clear hp hr eg
 rw [← firstOf_any p l]
 generalize firstOf p l 0 = r at hcall ⊢
 go_enter Tryd.func67, Tryd.ntmps67
 go_wp2_with (go_at_call 103; refine hcall.out.mono ?_; rintro e w' ⟨rfl, hb'⟩)
 go_ret
 exact ⟨rfl, hb'⟩

end Go.Proofs.YtmipelgjmmgmnaaDoor.Pa

