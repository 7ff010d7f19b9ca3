-- Written for this claim by a program of this session.
import Derived.Test.YtahjcmmgdcedpaaXPax0
import Derived.Laws.BitsLemmas
import Derived.Shelf.Abstract
/- Small laws of whole numbers and lists that the plain statements of this seat use. -/
namespace Go.Proofs.Ytahjcmmgdcedpaa.Pure
open Go.RowKit Go.Proofs.Ytahjcmmgdcedpaa.Pa Go.Proofs.YtahjcmmgdcedpaaW.PrintWords Go.Proofs.YtahjcmmgdcedpaaW.PrintLast
set_option linter.unusedVariables false
set_option linter.unusedSimpArgs false

theorem wrap_id {x : Int} (h0 : -9223372036854775808 ≤ x) (h1 : x ≤ 9223372036854775807) : wrap64 x = x := by
 unfold wrap64
 omega
theorem rd_get {l : List Int} {i : Nat} (h : i < l.length) : rd l (i : Int) = l[i] := by
 unfold rd
 rw [List.getD_eq_getElem?_getD, Int.toNat_natCast, List.getElem?_eq_getElem h]
 rfl
/-- The numbers a, a + 1, .. -/
def numsFrom (a : Int) : Nat → List Int
 | 0 => []
 | n + 1 => a :: numsFrom (a + 1) n
end Go.Proofs.Ytahjcmmgdcedpaa.Pure

namespace Go.Proofs.Ytahjcmmgdcedpaa.Pa
open Go.RowKit Go.Proofs.YtahjcmmgdcedpaaW.PrintWords Go.Proofs.YtahjcmmgdcedpaaW.PrintLast Go.Proofs.YtahjcmmgdcedpaaW.PrintMore
attribute [local go_sem] max2_int min2_int max_two min_two max_three min_three max_four min_four   -- for this text's walks alone
set_option linter.unusedVariables false
set_option linter.unusedSimpArgs false

/-- A state of type 94 at block g of W; what its slices lead to came in by w0. -/
def IsS94 (w0 W : World) (g : Nat) (f0 : List Int) (f1 : Int) (f2 : Int) : Prop := ∃ A0 c0, W.heap[g]? = some (.cells #[.slice A0 f0.length c0, .int .i64 f1, .int .u64 f2] 94 (0, 0)) ∧ w0.heap.size ≤ g ∧ Kd.C (Kd.int .u8) w0 A0 f0.length f0
theorem IsS94.grown {w0 W : World} {g : Nat} {f0 : List Int} {f1 : Int} {f2 : Int} {W1 : World} {row : Option Nat} (h : IsS94 w0 W g f0 f1 f2) (hw : W.grownBy W1 row) (hne : some g ≠ row) : IsS94 w0 W1 g f0 f1 f2 := by
 obtain ⟨A0, c0, hb, hg, hr0⟩ := h
 exact ⟨A0, c0, blk_grown hb hw hne, hg, hr0⟩
theorem IsS94.below {w0 W : World} {g : Nat} {f0 : List Int} {f1 : Int} {f2 : Int} {W1 : World} (h : IsS94 w0 W g f0 f1 f2) (hw : Below W.heap.size W W1) : IsS94 w0 W1 g f0 f1 f2 := h.grown (grown_of_below hw none) (by simp)
theorem IsS94.drewN {w0 W : World} {g : Nat} {f0 : List Int} {f1 : Int} {f2 : Int} (h : IsS94 w0 W g f0 f1 f2) (m : Nat) : IsS94 w0 (W.drewN m) g f0 f1 f2 := h
theorem IsS94.drew {w0 W : World} {g : Nat} {f0 : List Int} {f1 : Int} {f2 : Int} (h : IsS94 w0 W g f0 f1 f2) : IsS94 w0 W.drew g f0 f1 f2 := h
theorem IsS94.apart {w0 W : World} {g : Nat} {f0 : List Int} {f1 : Int} {f2 : Int} {α : Type} {d : Kd α} {e : Nat} {base : Nat} {ok : Nat → Prop} {v : Value} {xs : List α} (h : IsS94 w0 W g f0 f1 f2) (ho : d.R e W base ok v xs) (ht : ∀ q, q ∈ e :: d.E → q ≠ 94) : d.R e W base (fun k => ok k ∧ k ≠ g) v xs := by
 obtain ⟨A0, c0, hb, hg, hr0⟩ := h
 exact Kd.R_types ho hb ht
theorem IsS94.own_ne {w0 W : World} {g : Nat} {f0 : List Int} {f1 : Int} {f2 : Int} {α : Type} {d : Kd α} {e : Nat} {base : Nat} {ok : Nat → Prop} {v : Value} {xs : List α} (h : IsS94 w0 W g f0 f1 f2) (ho : d.R e W base ok v xs) (ht : e ≠ 94) : some g ≠ v.ownBlock := by
 obtain ⟨A0, c0, hb, hg, hr0⟩ := h
 exact Kd.R_ne ho hb ht
theorem IsS94.apartS {w0 W : World} {g : Nat} {f0 : List Int} {f1 : Int} {f2 : Int} {α : Type} {d : Kd α} {e : Nat} {base : Nat} {ok : Nat → Prop} {v : Value} {xs : List α} (h : IsS94 w0 W g f0 f1 f2) (ho : d.S e W base ok v xs) (ht : ∀ q, q ∈ e :: d.E → q ≠ 94) : d.S e W base (fun k => ok k ∧ k ≠ g) v xs := by
 obtain ⟨A0, c0, hb, hg, hr0⟩ := h
 exact Kd.S_types ho hb ht
theorem IsS94.own_neS {w0 W : World} {g : Nat} {f0 : List Int} {f1 : Int} {f2 : Int} {α : Type} {d : Kd α} {e : Nat} {base : Nat} {ok : Nat → Prop} {v : Value} {xs : List α} (h : IsS94 w0 W g f0 f1 f2) (ho : d.S e W base ok v xs) (ht : e ≠ 94) : some g ≠ v.ownBlock := by
 obtain ⟨A0, c0, hb, hg, hr0⟩ := h
 exact Kd.S_ne ho hb ht
theorem IsS94.lt {w0 W : World} {g : Nat} {f0 : List Int} {f1 : Int} {f2 : Int} (h : IsS94 w0 W g f0 f1 f2) : g < W.heap.size := by
 obtain ⟨A0, c0, hb, hg, hr0⟩ := h
 exact blk_lt hb
theorem IsS94.ge {w0 W : World} {g : Nat} {f0 : List Int} {f1 : Int} {f2 : Int} (h : IsS94 w0 W g f0 f1 f2) : w0.heap.size ≤ g := by
 obtain ⟨A0, c0, hb, hg, hr0⟩ := h
 exact hg
theorem IsS94.ne_blk {w0 W : World} {g : Nat} {f0 : List Int} {f1 : Int} {f2 : Int} {a : Nat} {cs : Array Value} {t : TypeId} {fr : Nat × Nat} (h : IsS94 w0 W g f0 f1 f2) (hb2 : W.heap[a]? = some (.cells cs t fr)) (ht : t ≠ 94) : g ≠ a := by
 obtain ⟨A0, c0, hb, hg, hr0⟩ := h
 rintro rfl
 rw [hb] at hb2
 injection hb2 with hb2
 injection hb2 with _ ht2
 exact ht ht2.symm
theorem IsS94.far {w0 W : World} {g : Nat} {f0 : List Int} {f1 : Int} {f2 : Int} {p : Addr} (h : IsS94 w0 W g f0 f1 f2) (hne : g ≠ p.block) (u : Value) : IsS94 w0 (W.setCell p u) g f0 f1 f2 := by
 obtain ⟨A0, c0, hb, hg, hr0⟩ := h
 exact ⟨A0, c0, blk_far hb hne u, hg, hr0⟩
theorem cellS94_0 {W : World} {g : Nat} {A0 : Option Addr} {c0 : Nat} {f0 : List Int} {f1 : Int} {f2 : Int} (h : W.heap[g]? = some (.cells #[.slice A0 f0.length c0, .int .i64 f1, .int .u64 f2] 94 (0, 0))) : W.cell? ⟨g, 0, none⟩ = some (.slice A0 f0.length c0) := (blk_cell h 0).trans rfl
theorem cellS94_1 {W : World} {g : Nat} {A0 : Option Addr} {c0 : Nat} {f0 : List Int} {f1 : Int} {f2 : Int} (h : W.heap[g]? = some (.cells #[.slice A0 f0.length c0, .int .i64 f1, .int .u64 f2] 94 (0, 0))) : W.cell? ⟨g, 1, none⟩ = some (.int .i64 f1) := (blk_cell h 1).trans rfl
theorem IsS94.set_1 {w0 W : World} {g : Nat} {f0 : List Int} {f1 : Int} {f2 : Int} (h : IsS94 w0 W g f0 f1 f2) (x : Int) : IsS94 w0 (W.setCell ⟨g, 1, none⟩ (.int .i64 x)) g f0 x f2 := by
 obtain ⟨A0, c0, hb, hg, hr0⟩ := h
 exact ⟨A0, c0, by simpa using blk_set hb 1 (.int .i64 x), hg, hr0⟩
theorem cellS94_2 {W : World} {g : Nat} {A0 : Option Addr} {c0 : Nat} {f0 : List Int} {f1 : Int} {f2 : Int} (h : W.heap[g]? = some (.cells #[.slice A0 f0.length c0, .int .i64 f1, .int .u64 f2] 94 (0, 0))) : W.cell? ⟨g, 2, none⟩ = some (.int .u64 f2) := (blk_cell h 2).trans rfl
theorem IsS94.set_2 {w0 W : World} {g : Nat} {f0 : List Int} {f1 : Int} {f2 : Int} (h : IsS94 w0 W g f0 f1 f2) (x : Int) : IsS94 w0 (W.setCell ⟨g, 2, none⟩ (.int .u64 x)) g f0 f1 x := by
 obtain ⟨A0, c0, hb, hg, hr0⟩ := h
 exact ⟨A0, c0, by simpa using blk_set hb 2 (.int .u64 x), hg, hr0⟩
/-! ### spec_l00From: function 33 -/
def spec_l00From.f (l0 : List Int) : Option (List Int × Int × Int) := some (l0, 0, 0)
set_option maxHeartbeats 8000000 in
set_option maxRecDepth 100000 in
theorem spec_l00From.calls (A0 : Option Addr) (c0 : Nat) (l0 : List Int) (r1 : List Int) (r2 : Int) (r3 : Int) (w0 w : World) (hB : Below w0.heap.size w0 w) (hr0 : Kd.C (Kd.int .u8) w0 A0 l0.length l0) (hc0 : l0.length ≤ c0) (h : spec_l00From.f l0 = some (r1, r2, r3)) :
  Calls Try.prog 33 #[.slice A0 l0.length c0] w fun e w' => ∃ g_ : Nat, e = .returned (.pointer (some ⟨g_, 0, none⟩)) ∧ IsS94 w0 w' g_ r1 r2 r3 ∧ Below w0.heap.size w0 w' ∧ Below w.heap.size w w' := by
 have hu94 := Try.underlying94
 have HR0 := Aside0.mk hr0
 have HC0 := Aside0.mk hc0
 clear hr0 hc0
 have HBW := Aside0.mk (Below.refl w.heap.size w)
 have HW0 := Aside0.mk hB.size
 have HB := Aside0.mk hB
 clear hB
 have H : (some (l0, 0, 0)) = some (r1, r2, r3) := h
 clear h
 simp only [Option.some.injEq, Prod.mk.injEq] at H
 obtain ⟨rfl, rfl, rfl⟩ := H
 go_enter Try.func33, Try.ntmps33
 go_wp2_with (first | ((with_reducible refine gate_dst (N := 5) rfl ?_); refine box_event ?hg (N := 5) ?hd (cs := #[.slice A0 l0.length c0, .int .i64 0, .int .u64 0]) (t := 94) ?hr ?_; (case hd => rfl); (case hg => rfl); (case hr => first | (go_simp; done) | (go_simp; rfl)); intro gb101 hg w2 hbox hb; have n0_ := Aside0.mk (below_step HBW.out hb); have n1_ := Aside0.mk (below_step (by repeat (first | (with_reducible first | exact HB.out | apply below_alloc | apply pw_below_drewN | apply below_drew1) | exact HB.out)) hb); have n2_ := Aside0.mk (hbox); have n3_ := Aside0.mk ((by rw [hg]; exact (below_size (by repeat (first | (with_reducible first | exact HBW.out | apply below_alloc | apply pw_below_drewN | apply below_drew1) | exact HBW.out))) : w.heap.size ≤ gb101)); have n4_ := Aside0.mk ((Nat.le_trans HW0.out (by rw [hg]; exact (below_size (by repeat (first | (with_reducible first | exact HBW.out | apply below_alloc | apply pw_below_drewN | apply below_drew1) | exact HBW.out))) : w.heap.size ≤ gb101) : w0.heap.size ≤ gb101)); clear HBW; clear HB; have HBW := n0_; have HB := n1_; have BK101 := n2_; have GW101 := n3_; have GE101 := n4_; clear n0_ n1_ n2_ n3_ n4_; clear hb hbox hg))
 go_ret
 exact ⟨_, rfl, (show IsS94 w0 _ gb101 l0 0 0 from ⟨_, _, by (with_reducible repeat (first | refine blk_drewN ?_ _ | refine blk_drew ?_ | refine blk_alloc ?_ _)); exact BK101.out, GE101.out, HR0.out⟩), by repeat (first | (with_reducible first | exact HB.out | apply below_alloc | apply pw_below_drewN | apply below_drew1 | refine below_set ?_ GE101.out) | exact HB.out), by repeat (first | (with_reducible first | exact HBW.out | apply below_alloc | apply pw_below_drewN | apply below_drew1 | refine below_set ?_ GW101.out) | exact HBW.out)⟩

end Go.Proofs.Ytahjcmmgdcedpaa.Pa

namespace Go.Proofs.Ytahjcmmgdcedpaa.Pa
open Go.RowKit Go.Proofs.YtahjcmmgdcedpaaW.PrintWords Go.Proofs.YtahjcmmgdcedpaaW.PrintLast Go.Proofs.YtahjcmmgdcedpaaW.PrintMore
attribute [local go_sem] max2_int min2_int max_two min_two max_three min_three max_four min_four   -- for this text's walks alone
set_option linter.unusedVariables false
set_option linter.unusedSimpArgs false

/-! ### spec_l00Src_next: function 67 -/
def spec_l00Src_next.f (s0_0 : List Int) (s0_1 : Int) (s0_2 : Int) : Option (Int × Int × Int) := if s0_1 < (s0_0.length : Int) then (if 0 ≤ s0_1 then (if (wrap64 (s0_1 + 1)) ≤ (s0_0.length : Int) then (some (wrap64 (rd s0_0 s0_1), wrap64 (s0_1 + 1), IntKind.u64.wrap ((IntKind.u64.wrap ((IntKind.u64.wrap (s0_2 * 6364136223846793005)) + (IntKind.u64.wrap (wrap64 (rd s0_0 s0_1))))) + 1442695040888963407))) else (some (wrap64 (Go.bits .and .u64 ((IntKind.u64.wrap ((IntKind.u64.wrap ((IntKind.u64.wrap (s0_2 * 6364136223846793005)) + (IntKind.u64.wrap (wrap64 (rd s0_0 s0_1))))) + 1442695040888963407)) / 1099511627776) 255), wrap64 (s0_1 + 1), IntKind.u64.wrap ((IntKind.u64.wrap ((IntKind.u64.wrap (s0_2 * 6364136223846793005)) + (IntKind.u64.wrap (wrap64 (rd s0_0 s0_1))))) + 1442695040888963407)))) else (none)) else (if (wrap64 (s0_1 + 1)) ≤ (s0_0.length : Int) then (some (0, wrap64 (s0_1 + 1), IntKind.u64.wrap ((IntKind.u64.wrap ((IntKind.u64.wrap (s0_2 * 6364136223846793005)) + 0)) + 1442695040888963407))) else (some (wrap64 (Go.bits .and .u64 ((IntKind.u64.wrap ((IntKind.u64.wrap ((IntKind.u64.wrap (s0_2 * 6364136223846793005)) + 0)) + 1442695040888963407)) / 1099511627776) 255), wrap64 (s0_1 + 1), IntKind.u64.wrap ((IntKind.u64.wrap ((IntKind.u64.wrap (s0_2 * 6364136223846793005)) + 0)) + 1442695040888963407))))
set_option maxHeartbeats 8000000 in
set_option maxRecDepth 100000 in
theorem spec_l00Src_next.calls (g : Nat) (s0_0 : List Int) (s0_1 : Int) (s0_2 : Int) (r1 : Int) (r2 : Int) (r3 : Int) (w0 w : World) (hI : IsS94 w0 w g s0_0 s0_1 s0_2) (hB : Below w0.heap.size w0 w) (h : spec_l00Src_next.f s0_0 s0_1 s0_2 = some (r1, r2, r3)) :
  Calls Try.prog 67 #[.pointer (some ⟨g, 0, none⟩)] w fun e w' => e = .returned (.int .i64 r1) ∧ IsS94 w0 w' g s0_0 r2 r3 ∧ Below w0.heap.size w0 w' ∧ KeepBut w w' g none := by
 have HI0 := Aside0.mk hI
 have HK := Aside0.mk (KeepBut.refl w g none)
 have HL := Aside0.mk hB.size
 clear hI
 have HW0 := Aside0.mk hB.size
 have HB := Aside0.mk hB
 clear hB
 have H : (if s0_1 < (s0_0.length : Int) then (if 0 ≤ s0_1 then (if (wrap64 (s0_1 + 1)) ≤ (s0_0.length : Int) then (some (wrap64 (rd s0_0 s0_1), wrap64 (s0_1 + 1), IntKind.u64.wrap ((IntKind.u64.wrap ((IntKind.u64.wrap (s0_2 * 6364136223846793005)) + (IntKind.u64.wrap (wrap64 (rd s0_0 s0_1))))) + 1442695040888963407))) else (some (wrap64 (Go.bits .and .u64 ((IntKind.u64.wrap ((IntKind.u64.wrap ((IntKind.u64.wrap (s0_2 * 6364136223846793005)) + (IntKind.u64.wrap (wrap64 (rd s0_0 s0_1))))) + 1442695040888963407)) / 1099511627776) 255), wrap64 (s0_1 + 1), IntKind.u64.wrap ((IntKind.u64.wrap ((IntKind.u64.wrap (s0_2 * 6364136223846793005)) + (IntKind.u64.wrap (wrap64 (rd s0_0 s0_1))))) + 1442695040888963407)))) else (none)) else (if (wrap64 (s0_1 + 1)) ≤ (s0_0.length : Int) then (some (0, wrap64 (s0_1 + 1), IntKind.u64.wrap ((IntKind.u64.wrap ((IntKind.u64.wrap (s0_2 * 6364136223846793005)) + 0)) + 1442695040888963407))) else (some (wrap64 (Go.bits .and .u64 ((IntKind.u64.wrap ((IntKind.u64.wrap ((IntKind.u64.wrap (s0_2 * 6364136223846793005)) + 0)) + 1442695040888963407)) / 1099511627776) 255), wrap64 (s0_1 + 1), IntKind.u64.wrap ((IntKind.u64.wrap ((IntKind.u64.wrap (s0_2 * 6364136223846793005)) + 0)) + 1442695040888963407))))) = some (r1, r2, r3) := h
 clear h
 by_cases c2 : s0_1 < (s0_0.length : Int)
 ·rw [if_pos c2] at H
  have c2b0 : decide (s0_1 < (s0_0.length : Int)) = true := decide_eq_true c2
  clear c2
  by_cases c3 : 0 ≤ s0_1
  ·rw [if_pos c3] at H
   have c3b0 : decide (0 ≤ s0_1) = true := decide_eq_true c3
   clear c3
   by_cases c4 : (wrap64 (s0_1 + 1)) ≤ (s0_0.length : Int)
   ·rw [if_pos c4] at H
    have c4b0 : decide ((wrap64 (s0_1 + 1)) ≤ (s0_0.length : Int)) = true := decide_eq_true c4
    clear c4
    simp only [Option.some.injEq, Prod.mk.injEq] at H
    obtain ⟨rfl, rfl, rfl⟩ := H
    obtain ⟨ASz5_0, cSz5_0, HGz5, hgz5, HSz5_0⟩ := HI0.out
    have hcz5_0 := cellS94_0 HGz5
    have hcz5_1 := cellS94_1 HGz5
    have hcz5_2 := cellS94_2 HGz5
    have hfz5_1 := blk_frozen HGz5 1
    have hfz5_2 := blk_frozen HGz5 2
    clear HGz5 hgz5
    have p102 : 0 ≤ (s0_1 : Int) := of_decide_eq_true (by with_reducible assumption)
    have q102 : s0_1 < (s0_0.length : Int) := of_decide_eq_true (by with_reducible assumption)
    obtain ⟨ad102, e102, hx102_0⟩ := Kd.at_int HSz5_0 s0_1 p102 q102
    cases e102
    replace hx102_0 := pw_cell_below HB.out hx102_0
    replace p102 := eq_true p102
    replace q102 := eq_true q102
    go_enter Try.func67, Try.ntmps67
    go_wp2
    repeat (go_quiet (fail); try go_wp2)
    go_ret
    (try simp only [Int.add_zero])
    exact ⟨by first | rfl | (simp [errW_none, errW_some] <;> rfl) | (simp [*, errW_none, errW_some] <;> rfl), by repeat (first | (with_reducible first | exact HI0.out | apply IsS94.alloc | apply IsS94.drewN | apply IsS94.drew | apply IsS94.set_1 | apply IsS94.set_2) | exact HI0.out), by repeat (first | (with_reducible first | exact HB.out | apply below_alloc | apply pw_below_drewN | apply below_drew1 | refine below_set ?_ (IsS94.ge HI0.out)) | exact HB.out), by repeat (first | (with_reducible first | exact HK.out | apply KeepBut.set_ | apply keep_drewN | apply keep_drew | apply keep_alloc) | exact HK.out)⟩
   ·rw [if_neg c4] at H
    have c4b0 : decide ((wrap64 (s0_1 + 1)) ≤ (s0_0.length : Int)) = false := decide_eq_false c4
    clear c4
    simp only [Option.some.injEq, Prod.mk.injEq] at H
    obtain ⟨rfl, rfl, rfl⟩ := H
    obtain ⟨ASz6_0, cSz6_0, HGz6, hgz6, HSz6_0⟩ := HI0.out
    have hcz6_0 := cellS94_0 HGz6
    have hcz6_1 := cellS94_1 HGz6
    have hcz6_2 := cellS94_2 HGz6
    have hfz6_1 := blk_frozen HGz6 1
    have hfz6_2 := blk_frozen HGz6 2
    clear HGz6 hgz6
    have p102 : 0 ≤ (s0_1 : Int) := of_decide_eq_true (by with_reducible assumption)
    have q102 : s0_1 < (s0_0.length : Int) := of_decide_eq_true (by with_reducible assumption)
    obtain ⟨ad102, e102, hx102_0⟩ := Kd.at_int HSz6_0 s0_1 p102 q102
    cases e102
    replace hx102_0 := pw_cell_below HB.out hx102_0
    replace p102 := eq_true p102
    replace q102 := eq_true q102
    go_enter Try.func67, Try.ntmps67
    go_wp2
    repeat (go_quiet (fail); try go_wp2)
    go_ret
    (try simp only [Int.add_zero])
    exact ⟨by first | rfl | (simp [errW_none, errW_some] <;> rfl) | (simp [*, errW_none, errW_some] <;> rfl), by repeat (first | (with_reducible first | exact HI0.out | apply IsS94.alloc | apply IsS94.drewN | apply IsS94.drew | apply IsS94.set_1 | apply IsS94.set_2) | exact HI0.out), by repeat (first | (with_reducible first | exact HB.out | apply below_alloc | apply pw_below_drewN | apply below_drew1 | refine below_set ?_ (IsS94.ge HI0.out)) | exact HB.out), by repeat (first | (with_reducible first | exact HK.out | apply KeepBut.set_ | apply keep_drewN | apply keep_drew | apply keep_alloc) | exact HK.out)⟩
  ·rw [if_neg c3] at H
   exact absurd H (by simp)
 ·rw [if_neg c2] at H
  have c2b0 : decide (s0_1 < (s0_0.length : Int)) = false := decide_eq_false c2
  clear c2
  by_cases c7 : (wrap64 (s0_1 + 1)) ≤ (s0_0.length : Int)
  ·rw [if_pos c7] at H
   have c7b0 : decide ((wrap64 (s0_1 + 1)) ≤ (s0_0.length : Int)) = true := decide_eq_true c7
   clear c7
   simp only [Option.some.injEq, Prod.mk.injEq] at H
   obtain ⟨rfl, rfl, rfl⟩ := H
   obtain ⟨ASz8_0, cSz8_0, HGz8, hgz8, HSz8_0⟩ := HI0.out
   have hcz8_0 := cellS94_0 HGz8
   have hcz8_1 := cellS94_1 HGz8
   have hcz8_2 := cellS94_2 HGz8
   have hfz8_1 := blk_frozen HGz8 1
   have hfz8_2 := blk_frozen HGz8 2
   clear HGz8 hgz8
   go_enter Try.func67, Try.ntmps67
   go_wp2
   repeat (go_quiet (fail); try go_wp2)
   go_ret
   (try simp only [Int.add_zero])
   exact ⟨by first | rfl | (simp [errW_none, errW_some] <;> rfl) | (simp [*, errW_none, errW_some] <;> rfl), by repeat (first | (with_reducible first | exact HI0.out | apply IsS94.alloc | apply IsS94.drewN | apply IsS94.drew | apply IsS94.set_1 | apply IsS94.set_2) | exact HI0.out), by repeat (first | (with_reducible first | exact HB.out | apply below_alloc | apply pw_below_drewN | apply below_drew1 | refine below_set ?_ (IsS94.ge HI0.out)) | exact HB.out), by repeat (first | (with_reducible first | exact HK.out | apply KeepBut.set_ | apply keep_drewN | apply keep_drew | apply keep_alloc) | exact HK.out)⟩
  ·rw [if_neg c7] at H
   have c7b0 : decide ((wrap64 (s0_1 + 1)) ≤ (s0_0.length : Int)) = false := decide_eq_false c7
   clear c7
   simp only [Option.some.injEq, Prod.mk.injEq] at H
   obtain ⟨rfl, rfl, rfl⟩ := H
   obtain ⟨ASz9_0, cSz9_0, HGz9, hgz9, HSz9_0⟩ := HI0.out
   have hcz9_0 := cellS94_0 HGz9
   have hcz9_1 := cellS94_1 HGz9
   have hcz9_2 := cellS94_2 HGz9
   have hfz9_1 := blk_frozen HGz9 1
   have hfz9_2 := blk_frozen HGz9 2
   clear HGz9 hgz9
   go_enter Try.func67, Try.ntmps67
   go_wp2
   repeat (go_quiet (fail); try go_wp2)
   go_ret
   (try simp only [Int.add_zero])
   exact ⟨by first | rfl | (simp [errW_none, errW_some] <;> rfl) | (simp [*, errW_none, errW_some] <;> rfl), by repeat (first | (with_reducible first | exact HI0.out | apply IsS94.alloc | apply IsS94.drewN | apply IsS94.drew | apply IsS94.set_1 | apply IsS94.set_2) | exact HI0.out), by repeat (first | (with_reducible first | exact HB.out | apply below_alloc | apply pw_below_drewN | apply below_drew1 | refine below_set ?_ (IsS94.ge HI0.out)) | exact HB.out), by repeat (first | (with_reducible first | exact HK.out | apply KeepBut.set_ | apply keep_drewN | apply keep_drew | apply keep_alloc) | exact HK.out)⟩

end Go.Proofs.Ytahjcmmgdcedpaa.Pa

namespace Go.Proofs.Ytahjcmmgdcedpaa.Pa
open Go.RowKit Go.Proofs.YtahjcmmgdcedpaaW.PrintWords Go.Proofs.YtahjcmmgdcedpaaW.PrintLast Go.Proofs.YtahjcmmgdcedpaaW.PrintMore
attribute [local go_sem] max2_int min2_int max_two min_two max_three min_three max_four min_four   -- for this text's walks alone
set_option linter.unusedVariables false
set_option linter.unusedSimpArgs false

/-! ### spec_l00Src_pick: function 35 -/
def spec_l00Src_pick.f (s0_0 : List Int) (s0_1 : Int) (s0_2 : Int) (a1 : Int) : Option (Int × Int × Int) := if a1 ≤ 1 then (some (0, s0_1, s0_2)) else ((spec_l00Src_next.f s0_0 s0_1 s0_2).bind fun bt103 => (if a1 > 200 then ((spec_l00Src_next.f s0_0 bt103.2.1 bt103.2.2).bind fun bt106 => (if a1 = 0 then (none) else (some (Int.tmod (wrap64 ((wrap64 (bt103.1 * 256)) + bt106.1)) a1, bt106.2.1, bt106.2.2)))) else (if a1 = 0 then (none) else (some (Int.tmod bt103.1 a1, bt103.2.1, bt103.2.2)))))
set_option maxHeartbeats 8000000 in
set_option maxRecDepth 100000 in
theorem spec_l00Src_pick.calls (g : Nat) (s0_0 : List Int) (s0_1 : Int) (s0_2 : Int) (a1 : Int) (r1 : Int) (r2 : Int) (r3 : Int) (w0 w : World) (hI : IsS94 w0 w g s0_0 s0_1 s0_2) (hB : Below w0.heap.size w0 w) (h : spec_l00Src_pick.f s0_0 s0_1 s0_2 a1 = some (r1, r2, r3)) :
  Calls Try.prog 35 #[.pointer (some ⟨g, 0, none⟩), .int .i64 a1] w fun e w' => e = .returned (.int .i64 r1) ∧ IsS94 w0 w' g s0_0 r2 r3 ∧ Below w0.heap.size w0 w' ∧ KeepBut w w' g none := by
 have HI0 := Aside0.mk hI
 have HK := Aside0.mk (KeepBut.refl w g none)
 have HL := Aside0.mk hB.size
 clear hI
 have HW0 := Aside0.mk hB.size
 have HB := Aside0.mk hB
 clear hB
 have H : (if a1 ≤ 1 then (some (0, s0_1, s0_2)) else ((spec_l00Src_next.f s0_0 s0_1 s0_2).bind fun bt103 => (if a1 > 200 then ((spec_l00Src_next.f s0_0 bt103.2.1 bt103.2.2).bind fun bt106 => (if a1 = 0 then (none) else (some (Int.tmod (wrap64 ((wrap64 (bt103.1 * 256)) + bt106.1)) a1, bt106.2.1, bt106.2.2)))) else (if a1 = 0 then (none) else (some (Int.tmod bt103.1 a1, bt103.2.1, bt103.2.2)))))) = some (r1, r2, r3) := h
 clear h
 by_cases c3 : a1 ≤ 1
 ·rw [if_pos c3] at H
  have c3b0 : decide (a1 ≤ 1) = true := decide_eq_true c3
  clear c3
  simp only [Option.some.injEq, Prod.mk.injEq] at H
  obtain ⟨rfl, rfl, rfl⟩ := H
  go_enter Try.func35, Try.ntmps35
  go_wp2
  go_ret
  exact ⟨by first | rfl | (simp [errW_none, errW_some] <;> rfl) | (simp [*, errW_none, errW_some] <;> rfl), by repeat (first | (with_reducible first | exact HI0.out | apply IsS94.alloc | apply IsS94.drewN | apply IsS94.drew | apply IsS94.set_1 | apply IsS94.set_2) | exact HI0.out), by repeat (first | (with_reducible first | exact HB.out | apply below_alloc | apply pw_below_drewN | apply below_drew1 | refine below_set ?_ (IsS94.ge HI0.out)) | exact HB.out), by repeat (first | (with_reducible first | exact HK.out | apply KeepBut.set_ | apply keep_drewN | apply keep_drew | apply keep_alloc) | exact HK.out)⟩
 ·rw [if_neg c3] at H
  have c3b0 : decide (a1 ≤ 1) = false := decide_eq_false c3
  clear c3
  replace H := Option.bind_eq_some_iff.mp H
  obtain ⟨⟨t103, t104, t105⟩, A40, H⟩ := H
  replace H : (if a1 > 200 then ((spec_l00Src_next.f s0_0 t104 t105).bind fun bt106 => (if a1 = 0 then (none) else (some (Int.tmod (wrap64 ((wrap64 (t103 * 256)) + bt106.1)) a1, bt106.2.1, bt106.2.2)))) else (if a1 = 0 then (none) else (some (Int.tmod t103 a1, t104, t105)))) = some (r1, r2, r3) := H
  have A4 := Aside0.mk A40
  clear A40
  by_cases c5 : a1 > 200
  ·rw [if_pos c5] at H
   have c5b0 : decide (200 < a1) = true := decide_eq_true c5
   clear c5
   replace H := Option.bind_eq_some_iff.mp H
   obtain ⟨⟨t106, t107, t108⟩, A60, H⟩ := H
   replace H : (if a1 = 0 then (none) else (some (Int.tmod (wrap64 ((wrap64 (t103 * 256)) + t106)) a1, t107, t108))) = some (r1, r2, r3) := H
   have A6 := Aside0.mk A60
   clear A60
   by_cases c7 : a1 = 0
   ·rw [if_pos c7] at H
    exact absurd H (by simp)
   ·rw [if_neg c7] at H
    have c7b0 : (a1 == 0) = false := beq_eq_false_iff_ne.mpr c7
    have c7b1 : (a1 != 0) = true := bne_iff_ne.mpr c7
    simp only [Option.some.injEq, Prod.mk.injEq] at H
    obtain ⟨rfl, rfl, rfl⟩ := H
    go_enter Try.func35, Try.ntmps35
    go_wp2_with (first | ((with_reducible refine gate_callee (f := 67) rfl ?_); refine goesL_ (some 9) rfl rfl Try.func67 (by kernel_rfl) rfl #[.pointer (some ⟨g, 0, none⟩)] rfl (by (try simp only [List.map_toArray, List.map_cons, List.map_nil]); first | done | rfl | (simp only [List.length_drop, List.length_take]; rfl)) ?_; (with_reducible refine (spec_l00Src_next.calls g s0_0 s0_1 s0_2 t103 t104 t105 w0 _ ?side1 ?side2 A4.out).mono ?_); (case side1 => repeat (first | (with_reducible first | exact HI0.out | apply IsS94.alloc | apply IsS94.drewN | apply IsS94.drew | apply IsS94.set_1 | apply IsS94.set_2) | exact HI0.out)); (case side2 => repeat (first | (with_reducible first | exact HB.out | apply below_alloc | apply pw_below_drewN | apply below_drew1 | refine below_set ?_ (IsS94.ge HI0.out)) | exact HB.out)); rintro e w8 ⟨rfl, hi, hb, hk⟩; refine ⟨_, rfl, ?_⟩; have n0_ := Aside0.mk (KeepBut.trans (by repeat (first | (with_reducible first | exact HK.out | apply KeepBut.set_ | apply keep_drewN | apply keep_drew | apply keep_alloc) | exact HK.out)) hk (.inl rfl)); have n1_ := Aside0.mk (hb); have n2_ := Aside0.mk (hi); clear HK; clear HB; clear HI0; have HK := n0_; have HB := n1_; have HI0 := n2_; clear n0_ n1_ n2_; (try clear hb); (try clear hb2); (try clear hk); (try clear hi)) | ((with_reducible refine gate_callee (f := 67) rfl ?_); refine goesL_ (some 15) rfl rfl Try.func67 (by kernel_rfl) rfl #[.pointer (some ⟨g, 0, none⟩)] rfl (by (try simp only [List.map_toArray, List.map_cons, List.map_nil]); first | done | rfl | (simp only [List.length_drop, List.length_take]; rfl)) ?_; (with_reducible refine (spec_l00Src_next.calls g s0_0 t104 t105 t106 t107 t108 w0 _ ?side1 ?side2 A6.out).mono ?_); (case side1 => repeat (first | (with_reducible first | exact HI0.out | apply IsS94.alloc | apply IsS94.drewN | apply IsS94.drew | apply IsS94.set_1 | apply IsS94.set_2) | exact HI0.out)); (case side2 => repeat (first | (with_reducible first | exact HB.out | apply below_alloc | apply pw_below_drewN | apply below_drew1 | refine below_set ?_ (IsS94.ge HI0.out)) | exact HB.out)); rintro e w9 ⟨rfl, hi, hb, hk⟩; refine ⟨_, rfl, ?_⟩; have n0_ := Aside0.mk (KeepBut.trans (by repeat (first | (with_reducible first | exact HK.out | apply KeepBut.set_ | apply keep_drewN | apply keep_drew | apply keep_alloc) | exact HK.out)) hk (.inl rfl)); have n1_ := Aside0.mk (hb); have n2_ := Aside0.mk (hi); clear HK; clear HB; clear HI0; have HK := n0_; have HB := n1_; have HI0 := n2_; clear n0_ n1_ n2_; (try clear hb); (try clear hb2); (try clear hk); (try clear hi)))
    go_ret
    exact ⟨by first | rfl | (simp [errW_none, errW_some] <;> rfl) | (simp [*, errW_none, errW_some] <;> rfl), by repeat (first | (with_reducible first | exact HI0.out | apply IsS94.alloc | apply IsS94.drewN | apply IsS94.drew | apply IsS94.set_1 | apply IsS94.set_2) | exact HI0.out), by repeat (first | (with_reducible first | exact HB.out | apply below_alloc | apply pw_below_drewN | apply below_drew1 | refine below_set ?_ (IsS94.ge HI0.out)) | exact HB.out), by repeat (first | (with_reducible first | exact HK.out | apply KeepBut.set_ | apply keep_drewN | apply keep_drew | apply keep_alloc) | exact HK.out)⟩
  ·rw [if_neg c5] at H
   have c5b0 : decide (200 < a1) = false := decide_eq_false c5
   clear c5
   by_cases c10 : a1 = 0
   ·rw [if_pos c10] at H
    exact absurd H (by simp)
   ·rw [if_neg c10] at H
    have c10b0 : (a1 == 0) = false := beq_eq_false_iff_ne.mpr c10
    have c10b1 : (a1 != 0) = true := bne_iff_ne.mpr c10
    simp only [Option.some.injEq, Prod.mk.injEq] at H
    obtain ⟨rfl, rfl, rfl⟩ := H
    go_enter Try.func35, Try.ntmps35
    go_wp2_with (first | ((with_reducible refine gate_callee (f := 67) rfl ?_); refine goesL_ (some 9) rfl rfl Try.func67 (by kernel_rfl) rfl #[.pointer (some ⟨g, 0, none⟩)] rfl (by (try simp only [List.map_toArray, List.map_cons, List.map_nil]); first | done | rfl | (simp only [List.length_drop, List.length_take]; rfl)) ?_; (with_reducible refine (spec_l00Src_next.calls g s0_0 s0_1 s0_2 t103 t104 t105 w0 _ ?side1 ?side2 A4.out).mono ?_); (case side1 => repeat (first | (with_reducible first | exact HI0.out | apply IsS94.alloc | apply IsS94.drewN | apply IsS94.drew | apply IsS94.set_1 | apply IsS94.set_2) | exact HI0.out)); (case side2 => repeat (first | (with_reducible first | exact HB.out | apply below_alloc | apply pw_below_drewN | apply below_drew1 | refine below_set ?_ (IsS94.ge HI0.out)) | exact HB.out)); rintro e w11 ⟨rfl, hi, hb, hk⟩; refine ⟨_, rfl, ?_⟩; have n0_ := Aside0.mk (KeepBut.trans (by repeat (first | (with_reducible first | exact HK.out | apply KeepBut.set_ | apply keep_drewN | apply keep_drew | apply keep_alloc) | exact HK.out)) hk (.inl rfl)); have n1_ := Aside0.mk (hb); have n2_ := Aside0.mk (hi); clear HK; clear HB; clear HI0; have HK := n0_; have HB := n1_; have HI0 := n2_; clear n0_ n1_ n2_; (try clear hb); (try clear hb2); (try clear hk); (try clear hi)))
    go_ret
    exact ⟨by first | rfl | (simp [errW_none, errW_some] <;> rfl) | (simp [*, errW_none, errW_some] <;> rfl), by repeat (first | (with_reducible first | exact HI0.out | apply IsS94.alloc | apply IsS94.drewN | apply IsS94.drew | apply IsS94.set_1 | apply IsS94.set_2) | exact HI0.out), by repeat (first | (with_reducible first | exact HB.out | apply below_alloc | apply pw_below_drewN | apply below_drew1 | refine below_set ?_ (IsS94.ge HI0.out)) | exact HB.out), by repeat (first | (with_reducible first | exact HK.out | apply KeepBut.set_ | apply keep_drewN | apply keep_drew | apply keep_alloc) | exact HK.out)⟩

end Go.Proofs.Ytahjcmmgdcedpaa.Pa

namespace Go.Proofs.Ytahjcmmgdcedpaa.Pa
open Go.RowKit Go.Proofs.YtahjcmmgdcedpaaW.PrintWords Go.Proofs.YtahjcmmgdcedpaaW.PrintLast Go.Proofs.YtahjcmmgdcedpaaW.PrintMore
attribute [local go_sem] max2_int min2_int max_two min_two max_three min_three max_four min_four   -- for this text's walks alone
set_option linter.unusedVariables false
set_option linter.unusedSimpArgs false

/-! ### spec_l00Src_one: function 66 -/
def spec_l00Src_one.f (s0_0 : List Int) (s0_1 : Int) (s0_2 : Int) (a1 : Int) : Option (Bool × Int × Int) := (spec_l00Src_pick.f s0_0 s0_1 s0_2 a1).bind fun bt109 => (some ((bt109.1 == 0), bt109.2.1, bt109.2.2))
set_option maxHeartbeats 8000000 in
set_option maxRecDepth 100000 in
theorem spec_l00Src_one.calls (g : Nat) (s0_0 : List Int) (s0_1 : Int) (s0_2 : Int) (a1 : Int) (r1 : Bool) (r2 : Int) (r3 : Int) (w0 w : World) (hI : IsS94 w0 w g s0_0 s0_1 s0_2) (hB : Below w0.heap.size w0 w) (h : spec_l00Src_one.f s0_0 s0_1 s0_2 a1 = some (r1, r2, r3)) :
  Calls Try.prog 66 #[.pointer (some ⟨g, 0, none⟩), .int .i64 a1] w fun e w' => e = .returned (.bool r1) ∧ IsS94 w0 w' g s0_0 r2 r3 ∧ Below w0.heap.size w0 w' ∧ KeepBut w w' g none := by
 have HI0 := Aside0.mk hI
 have HK := Aside0.mk (KeepBut.refl w g none)
 have HL := Aside0.mk hB.size
 clear hI
 have HW0 := Aside0.mk hB.size
 have HB := Aside0.mk hB
 clear hB
 have H : ((spec_l00Src_pick.f s0_0 s0_1 s0_2 a1).bind fun bt109 => (some ((bt109.1 == 0), bt109.2.1, bt109.2.2))) = some (r1, r2, r3) := h
 clear h
 replace H := Option.bind_eq_some_iff.mp H
 obtain ⟨⟨t109, t110, t111⟩, A30, H⟩ := H
 replace H : (some ((t109 == 0), t110, t111)) = some (r1, r2, r3) := H
 have A3 := Aside0.mk A30
 clear A30
 simp only [Option.some.injEq, Prod.mk.injEq] at H
 obtain ⟨rfl, rfl, rfl⟩ := H
 go_enter Try.func66, Try.ntmps66
 go_wp2_with (first | ((with_reducible refine gate_callee (f := 35) rfl ?_); refine goesL_ (some 7) rfl rfl Try.func35 (by kernel_rfl) rfl #[.pointer (some ⟨g, 0, none⟩), .int .i64 a1] rfl (by (try simp only [List.map_toArray, List.map_cons, List.map_nil]); first | done | rfl | (simp only [List.length_drop, List.length_take]; rfl)) ?_; (with_reducible refine (spec_l00Src_pick.calls g s0_0 s0_1 s0_2 a1 t109 t110 t111 w0 _ ?side1 ?side2 A3.out).mono ?_); (case side1 => repeat (first | (with_reducible first | exact HI0.out | apply IsS94.alloc | apply IsS94.drewN | apply IsS94.drew | apply IsS94.set_1 | apply IsS94.set_2) | exact HI0.out)); (case side2 => repeat (first | (with_reducible first | exact HB.out | apply below_alloc | apply pw_below_drewN | apply below_drew1 | refine below_set ?_ (IsS94.ge HI0.out)) | exact HB.out)); rintro e w4 ⟨rfl, hi, hb, hk⟩; refine ⟨_, rfl, ?_⟩; have n0_ := Aside0.mk (KeepBut.trans (by repeat (first | (with_reducible first | exact HK.out | apply KeepBut.set_ | apply keep_drewN | apply keep_drew | apply keep_alloc) | exact HK.out)) hk (.inl rfl)); have n1_ := Aside0.mk (hb); have n2_ := Aside0.mk (hi); clear HK; clear HB; clear HI0; have HK := n0_; have HB := n1_; have HI0 := n2_; clear n0_ n1_ n2_; (try clear hb); (try clear hb2); (try clear hk); (try clear hi)))
 go_ret
 exact ⟨by first | rfl | (simp [errW_none, errW_some] <;> rfl) | (simp [*, errW_none, errW_some] <;> rfl), by repeat (first | (with_reducible first | exact HI0.out | apply IsS94.alloc | apply IsS94.drewN | apply IsS94.drew | apply IsS94.set_1 | apply IsS94.set_2) | exact HI0.out), by repeat (first | (with_reducible first | exact HB.out | apply below_alloc | apply pw_below_drewN | apply below_drew1 | refine below_set ?_ (IsS94.ge HI0.out)) | exact HB.out), by repeat (first | (with_reducible first | exact HK.out | apply KeepBut.set_ | apply keep_drewN | apply keep_drew | apply keep_alloc) | exact HK.out)⟩

end Go.Proofs.Ytahjcmmgdcedpaa.Pa

/- What the sources of the laws draw: a byte, a number below another, a chance. -/
namespace Go.Proofs.Ytahjcmmgdcedpaa.Pure
open Go.RowKit Go.Proofs.Ytahjcmmgdcedpaa.Pa Go.Proofs.YtahjcmmgdcedpaaW.PrintWords Go.Proofs.YtahjcmmgdcedpaaW.PrintLast Go.Proofs.YtahjcmmgdcedpaaW.PrintMore
set_option linter.unusedVariables false
set_option linter.unusedSimpArgs false

def Bytes (l : List Int) : Prop := ∀ x ∈ l, 0 ≤ x ∧ x ≤ 255
theorem u64_in (n : Int) : 0 ≤ IntKind.u64.wrap n ∧ IntKind.u64.wrap n < 18446744073709551616 := by
 have : IntKind.u64.wrap n = n % 18446744073709551616 := by simp [IntKind.wrap, IntKind.bits, IntKind.signed]
 rw [this]
 omega
theorem hash_in (y : Int) (h0 : 0 ≤ y) (h1 : y < 18446744073709551616) : 0 ≤ wrap64 (Go.bits .and .u64 (y / 1099511627776) 255) ∧ wrap64 (Go.bits .and .u64 (y / 1099511627776) 255) ≤ 255 := by
 have hq0 : 0 ≤ y / 1099511627776 := by omega
 have hq1 : y / 1099511627776 < 2 ^ 24 := by omega
 have := bits_mask .u64 24 (by decide) (fun n h0 h1 => by
  have e : IntKind.u64.wrap n = n % 18446744073709551616 := by simp [IntKind.wrap, IntKind.bits, IntKind.signed]
  rw [e]; omega) 8 (by decide) (y / 1099511627776) hq0 hq1
 rw [show (255 : Int) = 2 ^ 8 - 1 by decide, this]
 unfold wrap64
 omega
/-- The next number is a byte; the place goes on by one. -/
theorem next_tells (l : List Int) (hl : Bytes l) (hlen : l.length ≤ 1000) (p h : Int) (hp : 0 ≤ p) (hp2 : p ≤ 1000000) : ∃ v h', spec_l00Src_next.f l p h = some (v, p + 1, h') ∧ 0 ≤ v ∧ v ≤ 255 := by
 unfold spec_l00Src_next.f
 have hw : wrap64 (p + 1) = p + 1 := wrap_id (by omega) (by omega)
 rw [hw]
 by_cases c : p < (l.length : Int)
 ·obtain ⟨i, rfl⟩ : ∃ i : Nat, p = i := ⟨p.toNat, by omega⟩
  have hi : i < l.length := by omega
  have hb := hl l[i] (List.getElem_mem hi)
  have hr : wrap64 (rd l (i : Int)) = l[i] := by rw [rd_get hi]; exact wrap_id (by omega) (by omega)
  rw [if_pos c, if_pos hp, if_pos (by omega)]
  exact ⟨_, _, rfl, by rw [hr]; exact hb.1, by rw [hr]; exact hb.2⟩
 ·rw [if_neg c, if_neg (by omega)]
  have := u64_in (IntKind.u64.wrap (IntKind.u64.wrap (h * 6364136223846793005) + 0) + 1442695040888963407)
  have := hash_in _ this.1 this.2
  exact ⟨_, _, rfl, this.1, this.2⟩
/-- A number below a. -/
theorem pick_tells (l : List Int) (hl : Bytes l) (hlen : l.length ≤ 1000) (p h a : Int) (hp : 0 ≤ p) (hp2 : p ≤ 1000000) (ha : a ≤ 200) : ∃ v p' h', spec_l00Src_pick.f l p h a = some (v, p', h') ∧ 0 ≤ v ∧ (2 ≤ a → v < a) ∧ (a ≤ 1 → v = 0) ∧ p ≤ p' ∧ p' ≤ p + 1 := by
 unfold spec_l00Src_pick.f
 by_cases c : a ≤ 1
 ·rw [if_pos c]
  exact ⟨_, _, _, rfl, by omega, by omega, fun _ => rfl, by omega, by omega⟩
 ·obtain ⟨v, h', e, v0, v1⟩ := next_tells l hl hlen p h hp hp2
  rw [if_neg c, e]
  simp only [Option.bind_some]
  rw [if_neg (by omega), if_neg (by omega)]
  exact ⟨_, _, _, rfl, Int.tmod_nonneg _ v0, fun _ => Int.tmod_lt_of_pos _ (by omega), fun h => absurd h c, by omega, by omega⟩
theorem one_tells (l : List Int) (hl : Bytes l) (hlen : l.length ≤ 1000) (p h a : Int) (hp : 0 ≤ p) (hp2 : p ≤ 1000000) (ha : a ≤ 200) : ∃ v p' h', spec_l00Src_one.f l p h a = some (v, p', h') ∧ p ≤ p' ∧ p' ≤ p + 1 := by
 obtain ⟨v, p', h', e, _, _, _, q0, q1⟩ := pick_tells l hl hlen p h a hp hp2 ha
 unfold spec_l00Src_one.f
 rw [e]
 exact ⟨_, _, _, rfl, q0, q1⟩
end Go.Proofs.Ytahjcmmgdcedpaa.Pure

namespace Go.Proofs.Ytahjcmmgdcedpaa.Pa
open Go.RowKit Go.Proofs.YtahjcmmgdcedpaaW.PrintWords Go.Proofs.YtahjcmmgdcedpaaW.PrintLast Go.Proofs.YtahjcmmgdcedpaaW.PrintMore
attribute [local go_sem] max2_int min2_int max_two min_two max_three min_three max_four min_four   -- for this text's walks alone
set_option linter.unusedVariables false
set_option linter.unusedSimpArgs false

/-! ### AUX cells -/
theorem cells7 {w : World} {g : Nat} {t : TypeId} {v0 v1 v2 v3 v4 v5 v6 : Value} (h : w.heap[g]? = some (.cells #[v0, v1, v2, v3, v4, v5, v6] t (0, 0))) :
  w.cell? ⟨g, 0, none⟩ = some v0 ∧ w.cell? ⟨g, 1, none⟩ = some v1 ∧ w.cell? ⟨g, 2, none⟩ = some v2 ∧ w.cell? ⟨g, 3, none⟩ = some v3 ∧ w.cell? ⟨g, 4, none⟩ = some v4 ∧ w.cell? ⟨g, 5, none⟩ = some v5 ∧ w.cell? ⟨g, 6, none⟩ = some v6 :=
 ⟨(blk_cell h 0).trans rfl, (blk_cell h 1).trans rfl, (blk_cell h 2).trans rfl, (blk_cell h 3).trans rfl, (blk_cell h 4).trans rfl, (blk_cell h 5).trans rfl, (blk_cell h 6).trans rfl⟩

end Go.Proofs.Ytahjcmmgdcedpaa.Pa

namespace Go.Proofs.Ytahjcmmgdcedpaa.Pa
open Go.RowKit Go.Proofs.YtahjcmmgdcedpaaW.PrintWords Go.Proofs.YtahjcmmgdcedpaaW.PrintLast Go.Proofs.YtahjcmmgdcedpaaW.PrintMore
attribute [local go_sem] max2_int min2_int max_two min_two max_three min_three max_four min_four   -- for this text's walks alone
set_option linter.unusedVariables false
set_option linter.unusedSimpArgs false

/-! ### AUX circ -/
/-- A number lies between two others. -/
def inB (x l u : Int) : Bool := decide (l ≤ x) && decide (x ≤ u)
theorem inB_iff {x l u : Int} : inB x l u = true ↔ l ≤ x ∧ x ≤ u := by
 unfold inB
 simp
/-- A list rises behind a number, within 0 and a number. -/
def risesFrom (hi : Int) : Option Int → List Int → Bool
 | _, [] => true
 | p, x :: l => inB x 0 hi && (match p with | none => true | some q => decide (q < x)) && risesFrom hi (some x) l
def risesB (l : List Int) (hi : Int) : Bool := risesFrom hi none l
/-- The element ahead of a place. -/
def prev (l : List Int) (i : Nat) : Option Int := if i = 0 then none else some (l.getD (i - 1) 0)
/-- A gate is one of a circuit of so many registers, at its place. -/
def gateB (n i : Int) (g : S56) : Bool := inB g.f1 0 100 && inB g.f0 0 g.f1 && !decide (g.f2.length = 0) && risesB g.f2 (n + i - 1)
def gatesB (n : Int) : Nat → List S56 → Bool
 | _, [] => true
 | i, g :: l => gateB n (i : Int) g && gatesB n (i + 1) l
def validB (n : Int) (gates : List S56) (data : List Int) (a3 a4 a5 a6 : Int) : Bool :=
 inB n 1 6 && decide (gates.length ≤ 10) && decide ((data.length : Int) = n) && inB a3 0 100 && inB a4 0 100 && (inB a6 0 100 && inB a5 0 a6) && gatesB n 0 gates && data.all fun x => inB x 0 (n + gates.length - 1)
theorem rd_nth {l : List Int} {i : Nat} (h : i < l.length) : rd l (i : Int) = l[i] := by
 unfold rd
 rw [List.getD_eq_getElem?_getD, Int.toNat_natCast, List.getElem?_eq_getElem h]
 rfl
theorem wrap_in {x : Int} (h0 : -9223372036854775808 ≤ x) (h1 : x ≤ 9223372036854775807) : wrap64 x = x := by
 unfold wrap64
 omega
theorem prev_succ {l : List Int} {i : Nat} (h : i < l.length) : prev l (i + 1) = some l[i] := by
 unfold prev
 rw [if_neg (by omega), Nat.add_sub_cancel, List.getD_eq_getElem?_getD, List.getElem?_eq_getElem h]
 rfl
theorem rises_step {l : List Int} {i : Nat} (hi : Int) (h : i < l.length) : risesFrom hi (prev l i) (l.drop i) = (inB l[i] 0 hi && (decide (i = 0) || decide (l.getD (i - 1) 0 < l[i])) && risesFrom hi (prev l (i + 1)) (l.drop (i + 1))) := by
 rw [List.drop_eq_getElem_cons h, prev_succ h]
 unfold prev
 by_cases e : i = 0
 ·simp [risesFrom, e]
 ·simp [risesFrom, e]
theorem gates_step (n : Int) {l : List S56} {i : Nat} (h : i < l.length) : gatesB n i (l.drop i) = (gateB n (i : Int) (rd_T56 l (i : Int)) && gatesB n (i + 1) (l.drop (i + 1))) := by
 rw [List.drop_eq_getElem_cons h]
 unfold rd_T56
 rw [List.getD_eq_getElem?_getD, Int.toNat_natCast, List.getElem?_eq_getElem h]
 rfl

end Go.Proofs.Ytahjcmmgdcedpaa.Pa

namespace Go.Proofs.Ytahjcmmgdcedpaa.Pa
open Go.RowKit Go.Proofs.YtahjcmmgdcedpaaW.PrintWords Go.Proofs.YtahjcmmgdcedpaaW.PrintLast Go.Proofs.YtahjcmmgdcedpaaW.PrintMore
attribute [local go_sem] max2_int min2_int max_two min_two max_three min_three max_four min_four   -- for this text's walks alone
set_option linter.unusedVariables false
set_option linter.unusedSimpArgs false

/-! ### spec_l00In: function 56 -/
def spec_l00In.f (a0 : Int) (a1 : Int) (a2 : Int) : Option (Bool) := if a0 ≥ a1 then (some (decide (a0 ≤ a2))) else (some false)
set_option maxHeartbeats 8000000 in
set_option maxRecDepth 100000 in
theorem spec_l00In.calls (a0 : Int) (a1 : Int) (a2 : Int) (r : Bool) (w : World) (h : spec_l00In.f a0 a1 a2 = some r) :
  Calls Try.prog 56 #[.int .i64 a0, .int .i64 a1, .int .i64 a2] w fun e w' => e = .returned (.bool r) ∧ Drawn0 w w' := by
 have H : (if a0 ≥ a1 then (some (decide (a0 ≤ a2))) else (some false)) = some r := h
 clear h
 by_cases c4 : a0 ≥ a1
 ·rw [if_pos c4] at H
  have c4b0 : decide (a1 ≤ a0) = true := decide_eq_true c4
  clear c4
  obtain rfl := Option.some.inj H
  go_enter Try.func56, Try.ntmps56
  go_wp2
  go_ret
  exact ⟨by first | rfl | (simp; done) | (simp [*]; done), by repeat (first | exact Drawn0.refl _ | apply Drawn0.step)⟩
 ·rw [if_neg c4] at H
  have c4b0 : decide (a1 ≤ a0) = false := decide_eq_false c4
  clear c4
  obtain rfl := Option.some.inj H
  go_enter Try.func56, Try.ntmps56
  go_wp2
  go_ret
  exact ⟨by first | rfl | (simp; done) | (simp [*]; done), by repeat (first | exact Drawn0.refl _ | apply Drawn0.step)⟩

end Go.Proofs.Ytahjcmmgdcedpaa.Pa

namespace Go.Proofs.Ytahjcmmgdcedpaa.Pa
open Go.RowKit Go.Proofs.YtahjcmmgdcedpaaW.PrintWords Go.Proofs.YtahjcmmgdcedpaaW.PrintLast Go.Proofs.YtahjcmmgdcedpaaW.PrintMore
attribute [local go_sem] max2_int min2_int max_two min_two max_three min_three max_four min_four   -- for this text's walks alone
set_option linter.unusedVariables false
set_option linter.unusedSimpArgs false

/-! ### spec_l06Delays: function 76 -/
def spec_l06Delays.f (a0 : Int) (a1 : Int) : Option (Bool) := (spec_l00In.f a1 0 100).bind fun t540 => (if t540 = true then ((spec_l00In.f a0 0 a1).bind fun t541 => (some t541)) else (some false))
set_option maxHeartbeats 8000000 in
set_option maxRecDepth 100000 in
theorem spec_l06Delays.calls (a0 : Int) (a1 : Int) (r : Bool) (w : World) (h : spec_l06Delays.f a0 a1 = some r) :
  Calls Try.prog 76 #[.int .i64 a0, .int .i64 a1] w fun e w' => e = .returned (.bool r) ∧ Drawn0 w w' := by
 have H : ((spec_l00In.f a1 0 100).bind fun t540 => (if t540 = true then ((spec_l00In.f a0 0 a1).bind fun t541 => (some t541)) else (some false))) = some r := h
 clear h
 replace H := Option.bind_eq_some_iff.mp H
 obtain ⟨t540, A30, H⟩ := H
 replace H : (if t540 = true then ((spec_l00In.f a0 0 a1).bind fun t541 => (some t541)) else (some false)) = some r := H
 have A3 := Aside0.mk A30
 clear A30
 by_cases c4 : t540 = true
 ·subst c4
  have H1 : ((spec_l00In.f a0 0 a1).bind fun t541 => (some t541)) = some r := by rw [if_pos rfl] at H; exact H
  clear H
  have H := H1
  clear H1
  replace H := Option.bind_eq_some_iff.mp H
  obtain ⟨t541, A50, H⟩ := H
  replace H : (some t541) = some r := H
  have A5 := Aside0.mk A50
  clear A50
  obtain rfl := Option.some.inj H
  go_enter Try.func76, Try.ntmps76
  go_wp2_with (first | ((with_reducible refine gate_callee (f := 56) rfl ?_); refine goesL_ (some 6) rfl rfl Try.func56 (by kernel_rfl) rfl #[.int .i64 a1, .int .i64 0, .int .i64 100] rfl (by (try simp only [List.map_toArray, List.map_cons, List.map_nil]); first | done | rfl | (simp only [List.length_drop, List.length_take]; rfl)) ?_; (with_reducible refine (spec_l00In.calls a1 0 100 true _ A3.out).mono ?_); rintro e w' ⟨rfl, ⟨nd, rfl⟩⟩; refine ⟨_, rfl, ?_⟩) | (go_at_call 56; (with_reducible refine (spec_l00In.calls a0 0 a1 t541 _ A5.out).mono ?_); rintro e w' ⟨rfl, ⟨nd, rfl⟩⟩))
  go_ret
  exact ⟨by first | rfl | (simp; done) | (simp [*]; done), by repeat (first | exact Drawn0.refl _ | apply Drawn0.step)⟩
 ·replace c4 := Bool.eq_false_iff.mpr c4
  subst c4
  have H1 : (some false) = some r := by rw [if_neg (show ¬ (false = true) by decide)] at H; exact H
  clear H
  have H := H1
  clear H1
  obtain rfl := Option.some.inj H
  go_enter Try.func76, Try.ntmps76
  go_wp2_with (first | ((with_reducible refine gate_callee (f := 56) rfl ?_); refine goesL_ (some 6) rfl rfl Try.func56 (by kernel_rfl) rfl #[.int .i64 a1, .int .i64 0, .int .i64 100] rfl (by (try simp only [List.map_toArray, List.map_cons, List.map_nil]); first | done | rfl | (simp only [List.length_drop, List.length_take]; rfl)) ?_; (with_reducible refine (spec_l00In.calls a1 0 100 false _ A3.out).mono ?_); rintro e w' ⟨rfl, ⟨nd, rfl⟩⟩; refine ⟨_, rfl, ?_⟩))
  go_ret
  exact ⟨by first | rfl | (simp; done) | (simp [*]; done), by repeat (first | exact Drawn0.refl _ | apply Drawn0.step)⟩

end Go.Proofs.Ytahjcmmgdcedpaa.Pa

namespace Go.Proofs.Ytahjcmmgdcedpaa.Pa
open Go.RowKit Go.Proofs.YtahjcmmgdcedpaaW.PrintWords Go.Proofs.YtahjcmmgdcedpaaW.PrintLast Go.Proofs.YtahjcmmgdcedpaaW.PrintMore
attribute [local go_sem] max2_int min2_int max_two min_two max_three min_three max_four min_four   -- for this text's walks alone
set_option linter.unusedVariables false
set_option linter.unusedSimpArgs false

/-! ### spec_l00Rises: function 77 -/
def spec_l00Rises.l0 : Nat → List Int → Int → Int → Int → Option (Bool)
 | 0, _, _, _, _ => none
 | k + 1, x0, x1, x2, x7 => if x7 < (x0.length : Int) then (if 0 ≤ x7 then ((spec_l00In.f (rd x0 x7) x1 x2).bind fun t543 => (if t543 = true then (if x7 > 0 then (if 0 ≤ (wrap64 (x7 - 1)) then (if (wrap64 (x7 - 1)) < (x0.length : Int) then (if (rd x0 (wrap64 (x7 - 1))) ≥ (rd x0 x7) then (some false) else (spec_l00Rises.l0 k x0 x1 x2 (wrap64 (x7 + 1)))) else (none)) else (none)) else (spec_l00Rises.l0 k x0 x1 x2 (wrap64 (x7 + 1)))) else (some false))) else (none)) else (some true)
def spec_l00Rises.f (k : Nat) (l0 : List Int) (a1 : Int) (a2 : Int) : Option (Bool) := spec_l00Rises.l0 k l0 a1 a2 0
set_option maxHeartbeats 8000000 in
set_option maxRecDepth 100000 in
theorem spec_l00Rises.calls (k : Nat) (A0 : Option Addr) (c0 : Nat) (l0 : List Int) (a1 : Int) (a2 : Int) (r : Bool) (w : World) (hr0 : Kd.C (Kd.int .i64) w A0 l0.length l0) (hc0 : l0.length ≤ c0) (h : spec_l00Rises.f k l0 a1 a2 = some r) :
  Calls Try.prog 77 #[.slice A0 l0.length c0, .int .i64 a1, .int .i64 a2] w fun e w' => e = .returned (.bool r) ∧ Drawn0 w w' := by
 have HR0 := Aside0.mk hr0
 have HC0 := Aside0.mk hc0
 clear hr0 hc0
 have H : (spec_l00Rises.l0 k l0 a1 a2 0) = some r := h
 clear h
 have H' := Aside0.mk H
 clear H
 go_enter Try.func77, Try.ntmps77
 go_wp2
 repeat (go_quiet (fail); try go_wp2)
 go_loopg [7] k (fun kq v7 w' => ∃ (x7_1 : Int), v7 = .int .i64 x7_1 ∧ Aside0 (spec_l00Rises.l0 kq l0 a1 a2 x7_1 = some r) ∧ Aside0 (kq ≤ k) ∧ Drawn0 w w')
 case atStart => exact ⟨(0), (by first | rfl | (simp; done) | (simp [*]; done)), H', ⟨Nat.le_refl _⟩, by repeat (first | exact Drawn0.refl _ | apply Drawn0.step)⟩
 case round =>
  clear H'
  try clear p2
  obtain ⟨x7_1, rfl, HA, HK1, ⟨m1, rfl⟩⟩ := hrel
  cases gk with
  | zero => exact absurd HA.out (by simp [spec_l00Rises.l0])
  | succ k1 =>
   have H := HA.out
   clear HA
   simp only [spec_l00Rises.l0] at H
   by_cases c4 : x7_1 < (l0.length : Int)
   ·rw [if_pos c4] at H
    have c4b0 : decide (x7_1 < (l0.length : Int)) = true := decide_eq_true c4
    clear c4
    by_cases c5 : 0 ≤ x7_1
    ·rw [if_pos c5] at H
     have c5b0 : decide (0 ≤ x7_1) = true := decide_eq_true c5
     clear c5
     replace H := Option.bind_eq_some_iff.mp H
     obtain ⟨t543, A60, H⟩ := H
     replace H : (if t543 = true then (if x7_1 > 0 then (if 0 ≤ (wrap64 (x7_1 - 1)) then (if (wrap64 (x7_1 - 1)) < (l0.length : Int) then (if (rd l0 (wrap64 (x7_1 - 1))) ≥ (rd l0 x7_1) then (some false) else (spec_l00Rises.l0 k1 l0 a1 a2 (wrap64 (x7_1 + 1)))) else (none)) else (none)) else (spec_l00Rises.l0 k1 l0 a1 a2 (wrap64 (x7_1 + 1)))) else (some false)) = some r := H
     have A6 := Aside0.mk A60
     clear A60
     by_cases c7 : t543 = true
     ·subst c7
      have H1 : (if x7_1 > 0 then (if 0 ≤ (wrap64 (x7_1 - 1)) then (if (wrap64 (x7_1 - 1)) < (l0.length : Int) then (if (rd l0 (wrap64 (x7_1 - 1))) ≥ (rd l0 x7_1) then (some false) else (spec_l00Rises.l0 k1 l0 a1 a2 (wrap64 (x7_1 + 1)))) else (none)) else (none)) else (spec_l00Rises.l0 k1 l0 a1 a2 (wrap64 (x7_1 + 1)))) = some r := by rw [if_pos rfl] at H; exact H
      clear H
      have H := H1
      clear H1
      by_cases c8 : x7_1 > 0
      ·rw [if_pos c8] at H
       have c8b0 : decide (0 < x7_1) = true := decide_eq_true c8
       clear c8
       obtain ⟨ji9, hji9⟩ : ∃ j_ : Int, (wrap64 (x7_1 - 1)) = j_ := ⟨_, rfl⟩
       replace H : (if 0 ≤ (ji9) then (if (ji9) < (l0.length : Int) then (if (rd l0 (ji9)) ≥ (rd l0 x7_1) then (some false) else (spec_l00Rises.l0 k1 l0 a1 a2 (wrap64 (x7_1 + 1)))) else (none)) else (none)) = some r := by first | (rw [hji9] at H; exact H) | (simp only [hji9] at H ⊢; exact H)
       (try rw [hji9] at A6)
       have hji9w : (IntKind.i64.wrap (x7_1 - 1)) = ji9 := (i64_w _).trans hji9
       by_cases c10 : 0 ≤ (ji9)
       ·rw [if_pos c10] at H
        have c10b0 : decide (0 ≤ (ji9)) = true := decide_eq_true c10
        clear c10
        by_cases c11 : (ji9) < (l0.length : Int)
        ·rw [if_pos c11] at H
         have c11b0 : decide ((ji9) < (l0.length : Int)) = true := decide_eq_true c11
         clear c11
         by_cases c12 : (rd l0 (ji9)) ≥ (rd l0 x7_1)
         ·rw [if_pos c12] at H
          have c12b0 : decide ((rd l0 x7_1) ≤ (rd l0 (ji9))) = true := decide_eq_true c12
          clear c12
          obtain rfl := Option.some.inj H
          have p542 : 0 ≤ (x7_1 : Int) := of_decide_eq_true (by with_reducible assumption)
          have q542 : x7_1 < (l0.length : Int) := of_decide_eq_true (by with_reducible assumption)
          obtain ⟨ad542, e542, hx542_0⟩ := Kd.at_int HR0.out x7_1 p542 q542
          cases e542
          replace p542 := eq_true p542
          replace q542 := eq_true q542
          go_wp2_with (first | (go_at_call 56; (with_reducible refine (spec_l00In.calls (rd l0 x7_1) a1 a2 true _ A6.out).mono ?_); rintro e w' ⟨rfl, ⟨nd, rfl⟩⟩; (try first | exact ⟨rfl, _, World.drewN_drewN _ _ _⟩ | exact ⟨rfl, _, Eq.trans (World.drewN_drewN _ _ _) (congrArg (World.drewN _) (Nat.add_assoc _ _ _))⟩); have p544 : 0 ≤ ((ji9) : Int) := of_decide_eq_true (by with_reducible assumption); have q544 : (ji9) < (l0.length : Int) := of_decide_eq_true (by with_reducible assumption); obtain ⟨ad544, e544, hx544_0⟩ := Kd.at_int HR0.out (ji9) p544 q544; obtain rfl : ad542 = ad544 := (by injection e544); replace p544 := eq_true p544; replace q544 := eq_true q544; have p545 : 0 ≤ (x7_1 : Int) := of_decide_eq_true (by with_reducible assumption); have q545 : x7_1 < (l0.length : Int) := of_decide_eq_true (by with_reducible assumption); obtain ⟨ad545, e545, hx545_0⟩ := Kd.at_int HR0.out x7_1 p545 q545; obtain rfl : ad542 = ad545 := (by injection e545); replace p545 := eq_true p545; replace q545 := eq_true q545))
          repeat (go_quiet (first | (go_at_call 56; (with_reducible refine (spec_l00In.calls (rd l0 x7_1) a1 a2 true _ A6.out).mono ?_); rintro e w' ⟨rfl, ⟨nd, rfl⟩⟩; (try first | exact ⟨rfl, _, World.drewN_drewN _ _ _⟩ | exact ⟨rfl, _, Eq.trans (World.drewN_drewN _ _ _) (congrArg (World.drewN _) (Nat.add_assoc _ _ _))⟩); have p544 : 0 ≤ ((ji9) : Int) := of_decide_eq_true (by with_reducible assumption); have q544 : (ji9) < (l0.length : Int) := of_decide_eq_true (by with_reducible assumption); obtain ⟨ad544, e544, hx544_0⟩ := Kd.at_int HR0.out (ji9) p544 q544; obtain rfl : ad542 = ad544 := (by injection e544); replace p544 := eq_true p544; replace q544 := eq_true q544; have p545 : 0 ≤ (x7_1 : Int) := of_decide_eq_true (by with_reducible assumption); have q545 : x7_1 < (l0.length : Int) := of_decide_eq_true (by with_reducible assumption); obtain ⟨ad545, e545, hx545_0⟩ := Kd.at_int HR0.out x7_1 p545 q545; obtain rfl : ad542 = ad545 := (by injection e545); replace p545 := eq_true p545; replace q545 := eq_true q545)); try go_wp2_with (first | (go_at_call 56; (with_reducible refine (spec_l00In.calls (rd l0 x7_1) a1 a2 true _ A6.out).mono ?_); rintro e w' ⟨rfl, ⟨nd, rfl⟩⟩; (try first | exact ⟨rfl, _, World.drewN_drewN _ _ _⟩ | exact ⟨rfl, _, Eq.trans (World.drewN_drewN _ _ _) (congrArg (World.drewN _) (Nat.add_assoc _ _ _))⟩); have p544 : 0 ≤ ((ji9) : Int) := of_decide_eq_true (by with_reducible assumption); have q544 : (ji9) < (l0.length : Int) := of_decide_eq_true (by with_reducible assumption); obtain ⟨ad544, e544, hx544_0⟩ := Kd.at_int HR0.out (ji9) p544 q544; obtain rfl : ad542 = ad544 := (by injection e544); replace p544 := eq_true p544; replace q544 := eq_true q544; have p545 : 0 ≤ (x7_1 : Int) := of_decide_eq_true (by with_reducible assumption); have q545 : x7_1 < (l0.length : Int) := of_decide_eq_true (by with_reducible assumption); obtain ⟨ad545, e545, hx545_0⟩ := Kd.at_int HR0.out x7_1 p545 q545; obtain rfl : ad542 = ad545 := (by injection e545); replace p545 := eq_true p545; replace q545 := eq_true q545)))
          go_ret
          exact ⟨by first | rfl | (simp; done) | (simp only [← hji9] <;> (first | rfl | simp)) | (simp [*]; done), by repeat (first | exact Drawn0.refl _ | apply Drawn0.step)⟩
         ·rw [if_neg c12] at H
          have c12b0 : decide ((rd l0 x7_1) ≤ (rd l0 (ji9))) = false := decide_eq_false c12
          clear c12
          have H' := Aside0.mk H
          clear H
          have p542 : 0 ≤ (x7_1 : Int) := of_decide_eq_true (by with_reducible assumption)
          have q542 : x7_1 < (l0.length : Int) := of_decide_eq_true (by with_reducible assumption)
          obtain ⟨ad542, e542, hx542_0⟩ := Kd.at_int HR0.out x7_1 p542 q542
          cases e542
          replace p542 := eq_true p542
          replace q542 := eq_true q542
          go_wp2_with (first | (go_at_call 56; (with_reducible refine (spec_l00In.calls (rd l0 x7_1) a1 a2 true _ A6.out).mono ?_); rintro e w' ⟨rfl, ⟨nd, rfl⟩⟩; (try first | exact ⟨rfl, _, World.drewN_drewN _ _ _⟩ | exact ⟨rfl, _, Eq.trans (World.drewN_drewN _ _ _) (congrArg (World.drewN _) (Nat.add_assoc _ _ _))⟩); have p544 : 0 ≤ ((ji9) : Int) := of_decide_eq_true (by with_reducible assumption); have q544 : (ji9) < (l0.length : Int) := of_decide_eq_true (by with_reducible assumption); obtain ⟨ad544, e544, hx544_0⟩ := Kd.at_int HR0.out (ji9) p544 q544; obtain rfl : ad542 = ad544 := (by injection e544); replace p544 := eq_true p544; replace q544 := eq_true q544; have p545 : 0 ≤ (x7_1 : Int) := of_decide_eq_true (by with_reducible assumption); have q545 : x7_1 < (l0.length : Int) := of_decide_eq_true (by with_reducible assumption); obtain ⟨ad545, e545, hx545_0⟩ := Kd.at_int HR0.out x7_1 p545 q545; obtain rfl : ad542 = ad545 := (by injection e545); replace p545 := eq_true p545; replace q545 := eq_true q545))
          repeat (go_quiet (first | (go_at_call 56; (with_reducible refine (spec_l00In.calls (rd l0 x7_1) a1 a2 true _ A6.out).mono ?_); rintro e w' ⟨rfl, ⟨nd, rfl⟩⟩; (try first | exact ⟨rfl, _, World.drewN_drewN _ _ _⟩ | exact ⟨rfl, _, Eq.trans (World.drewN_drewN _ _ _) (congrArg (World.drewN _) (Nat.add_assoc _ _ _))⟩); have p544 : 0 ≤ ((ji9) : Int) := of_decide_eq_true (by with_reducible assumption); have q544 : (ji9) < (l0.length : Int) := of_decide_eq_true (by with_reducible assumption); obtain ⟨ad544, e544, hx544_0⟩ := Kd.at_int HR0.out (ji9) p544 q544; obtain rfl : ad542 = ad544 := (by injection e544); replace p544 := eq_true p544; replace q544 := eq_true q544; have p545 : 0 ≤ (x7_1 : Int) := of_decide_eq_true (by with_reducible assumption); have q545 : x7_1 < (l0.length : Int) := of_decide_eq_true (by with_reducible assumption); obtain ⟨ad545, e545, hx545_0⟩ := Kd.at_int HR0.out x7_1 p545 q545; obtain rfl : ad542 = ad545 := (by injection e545); replace p545 := eq_true p545; replace q545 := eq_true q545)); try go_wp2_with (first | (go_at_call 56; (with_reducible refine (spec_l00In.calls (rd l0 x7_1) a1 a2 true _ A6.out).mono ?_); rintro e w' ⟨rfl, ⟨nd, rfl⟩⟩; (try first | exact ⟨rfl, _, World.drewN_drewN _ _ _⟩ | exact ⟨rfl, _, Eq.trans (World.drewN_drewN _ _ _) (congrArg (World.drewN _) (Nat.add_assoc _ _ _))⟩); have p544 : 0 ≤ ((ji9) : Int) := of_decide_eq_true (by with_reducible assumption); have q544 : (ji9) < (l0.length : Int) := of_decide_eq_true (by with_reducible assumption); obtain ⟨ad544, e544, hx544_0⟩ := Kd.at_int HR0.out (ji9) p544 q544; obtain rfl : ad542 = ad544 := (by injection e544); replace p544 := eq_true p544; replace q544 := eq_true q544; have p545 : 0 ≤ (x7_1 : Int) := of_decide_eq_true (by with_reducible assumption); have q545 : x7_1 < (l0.length : Int) := of_decide_eq_true (by with_reducible assumption); obtain ⟨ad545, e545, hx545_0⟩ := Kd.at_int HR0.out x7_1 p545 q545; obtain rfl : ad542 = ad545 := (by injection e545); replace p545 := eq_true p545; replace q545 := eq_true q545)))
          go_roundg k1
          case measure => have := HK1.out; omega
          case rel => exact ⟨(wrap64 (x7_1 + 1)), (by first | rfl | (simp; done) | (simp [*]; done)), H', ⟨by have := HK1.out; omega⟩, by repeat (first | exact Drawn0.refl _ | apply Drawn0.step)⟩
        ·rw [if_neg c11] at H
         exact absurd H (by simp)
       ·rw [if_neg c10] at H
        exact absurd H (by simp)
      ·rw [if_neg c8] at H
       have c8b0 : decide (0 < x7_1) = false := decide_eq_false c8
       clear c8
       have H' := Aside0.mk H
       clear H
       have p542 : 0 ≤ (x7_1 : Int) := of_decide_eq_true (by with_reducible assumption)
       have q542 : x7_1 < (l0.length : Int) := of_decide_eq_true (by with_reducible assumption)
       obtain ⟨ad542, e542, hx542_0⟩ := Kd.at_int HR0.out x7_1 p542 q542
       cases e542
       replace p542 := eq_true p542
       replace q542 := eq_true q542
       go_wp2_with (first | (go_at_call 56; (with_reducible refine (spec_l00In.calls (rd l0 x7_1) a1 a2 true _ A6.out).mono ?_); rintro e w' ⟨rfl, ⟨nd, rfl⟩⟩; (try first | exact ⟨rfl, _, World.drewN_drewN _ _ _⟩ | exact ⟨rfl, _, Eq.trans (World.drewN_drewN _ _ _) (congrArg (World.drewN _) (Nat.add_assoc _ _ _))⟩)))
       repeat (go_quiet (first | (go_at_call 56; (with_reducible refine (spec_l00In.calls (rd l0 x7_1) a1 a2 true _ A6.out).mono ?_); rintro e w' ⟨rfl, ⟨nd, rfl⟩⟩; (try first | exact ⟨rfl, _, World.drewN_drewN _ _ _⟩ | exact ⟨rfl, _, Eq.trans (World.drewN_drewN _ _ _) (congrArg (World.drewN _) (Nat.add_assoc _ _ _))⟩))); try go_wp2_with (first | (go_at_call 56; (with_reducible refine (spec_l00In.calls (rd l0 x7_1) a1 a2 true _ A6.out).mono ?_); rintro e w' ⟨rfl, ⟨nd, rfl⟩⟩; (try first | exact ⟨rfl, _, World.drewN_drewN _ _ _⟩ | exact ⟨rfl, _, Eq.trans (World.drewN_drewN _ _ _) (congrArg (World.drewN _) (Nat.add_assoc _ _ _))⟩))))
       go_roundg k1
       case measure => have := HK1.out; omega
       case rel => exact ⟨(wrap64 (x7_1 + 1)), (by first | rfl | (simp; done) | (simp [*]; done)), H', ⟨by have := HK1.out; omega⟩, by repeat (first | exact Drawn0.refl _ | apply Drawn0.step)⟩
     ·replace c7 := Bool.eq_false_iff.mpr c7
      subst c7
      have H1 : (some false) = some r := by rw [if_neg (show ¬ (false = true) by decide)] at H; exact H
      clear H
      have H := H1
      clear H1
      obtain rfl := Option.some.inj H
      have p542 : 0 ≤ (x7_1 : Int) := of_decide_eq_true (by with_reducible assumption)
      have q542 : x7_1 < (l0.length : Int) := of_decide_eq_true (by with_reducible assumption)
      obtain ⟨ad542, e542, hx542_0⟩ := Kd.at_int HR0.out x7_1 p542 q542
      cases e542
      replace p542 := eq_true p542
      replace q542 := eq_true q542
      go_wp2_with (first | (go_at_call 56; (with_reducible refine (spec_l00In.calls (rd l0 x7_1) a1 a2 false _ A6.out).mono ?_); rintro e w' ⟨rfl, ⟨nd, rfl⟩⟩; (try first | exact ⟨rfl, _, World.drewN_drewN _ _ _⟩ | exact ⟨rfl, _, Eq.trans (World.drewN_drewN _ _ _) (congrArg (World.drewN _) (Nat.add_assoc _ _ _))⟩)))
      repeat (go_quiet (first | (go_at_call 56; (with_reducible refine (spec_l00In.calls (rd l0 x7_1) a1 a2 false _ A6.out).mono ?_); rintro e w' ⟨rfl, ⟨nd, rfl⟩⟩; (try first | exact ⟨rfl, _, World.drewN_drewN _ _ _⟩ | exact ⟨rfl, _, Eq.trans (World.drewN_drewN _ _ _) (congrArg (World.drewN _) (Nat.add_assoc _ _ _))⟩))); try go_wp2_with (first | (go_at_call 56; (with_reducible refine (spec_l00In.calls (rd l0 x7_1) a1 a2 false _ A6.out).mono ?_); rintro e w' ⟨rfl, ⟨nd, rfl⟩⟩; (try first | exact ⟨rfl, _, World.drewN_drewN _ _ _⟩ | exact ⟨rfl, _, Eq.trans (World.drewN_drewN _ _ _) (congrArg (World.drewN _) (Nat.add_assoc _ _ _))⟩))))
      go_ret
      exact ⟨by first | rfl | (simp; done) | (simp [*]; done), by repeat (first | exact Drawn0.refl _ | apply Drawn0.step)⟩
    ·rw [if_neg c5] at H
     exact absurd H (by simp)
   ·rw [if_neg c4] at H
    have c4b0 : decide (x7_1 < (l0.length : Int)) = false := decide_eq_false c4
    clear c4
    obtain rfl := Option.some.inj H
    go_wp2
    repeat (go_quiet (fail); try go_wp2)
    go_ret
    exact ⟨by first | rfl | (simp; done) | (simp [*]; done), by repeat (first | exact Drawn0.refl _ | apply Drawn0.step)⟩

end Go.Proofs.Ytahjcmmgdcedpaa.Pa

namespace Go.Proofs.Ytahjcmmgdcedpaa.Pa
open Go.RowKit Go.Proofs.YtahjcmmgdcedpaaW.PrintWords Go.Proofs.YtahjcmmgdcedpaaW.PrintLast Go.Proofs.YtahjcmmgdcedpaaW.PrintMore
attribute [local go_sem] max2_int min2_int max_two min_two max_three min_three max_four min_four   -- for this text's walks alone
set_option linter.unusedVariables false
set_option linter.unusedSimpArgs false

/-- A state of type 45 at block g of W; what its slices lead to came in by w0. -/
def IsS45 (w0 W : World) (g : Nat) (f0 : Int) (f1 : List (S56)) (f2 : List Int) (f3 : Int) (f4 : Int) (f5 : Int) (f6 : Int) : Prop := ∃ A1 c1, ∃ A2 c2, W.heap[g]? = some (.cells #[.int .i64 f0, .slice A1 f1.length c1, .slice A2 f2.length c2, .int .i64 f3, .int .i64 f4, .int .i64 f5, .int .i64 f6] 45 (0, 0)) ∧ w0.heap.size ≤ g ∧ Kd.C k56 w0 A1 f1.length f1 ∧ Kd.C (Kd.int .i64) w0 A2 f2.length f2
/-! ### spec_l06Is: function 54 -/
theorem in_tells (x l u : Int) : spec_l00In.f x l u = some (inB x l u) := by
 unfold spec_l00In.f inB
 by_cases h : l ≤ x <;> simp [h]
theorem delays_tells (a b : Int) : spec_l06Delays.f a b = some (inB b 0 100 && inB a 0 b) := by
 unfold spec_l06Delays.f
 rw [in_tells]
 simp only [Option.bind_some]
 cases h : inB b 0 100 with
 | true => simp [in_tells]
 | false => simp
theorem delay0_tells (b : Int) : spec_l06Delays.f 0 b = some (inB b 0 100) := by
 rw [delays_tells]
 cases h : inB b 0 100 with
 | false => rfl
 | true =>
  have := inB_iff.mp h
  rw [inB_iff.mpr ⟨Int.le_refl 0, this.1⟩]
  rfl
theorem rises_loop (l : List Int) (hi : Int) (hl : l.length ≤ 9223372036854775807) (d : Nat) : ∀ (k i : Nat), i + d = l.length → d < k → spec_l00Rises.l0 k l 0 hi (i : Int) = some (risesFrom hi (prev l i) (l.drop i)) := by
 induction d with
 | zero =>
  intro k i h hk
  obtain ⟨k, rfl⟩ : ∃ m, k = m + 1 := ⟨k - 1, by omega⟩
  simp only [spec_l00Rises.l0]
  rw [if_neg (by omega), List.drop_of_length_le (by omega)]
  unfold prev
  split <;> rfl
 | succ d ih =>
  intro k i h hk
  obtain ⟨k, rfl⟩ : ∃ m, k = m + 1 := ⟨k - 1, by omega⟩
  have h' : i < l.length := by omega
  have hgo : spec_l00Rises.l0 k l 0 hi (wrap64 ((i : Int) + 1)) = some (risesFrom hi (prev l (i + 1)) (l.drop (i + 1))) := by
   rw [wrap_in (by omega) (by omega)]
   exact ih k (i + 1) (by omega) (by omega)
  simp only [spec_l00Rises.l0]
  rw [if_pos (by omega), if_pos (by omega), rd_nth h', in_tells, rises_step hi h', hgo]
  simp only [Option.bind_some]
  cases hb : inB l[i] 0 hi with
  | false => simp
  | true =>
   rw [if_pos rfl]
   by_cases h0 : (i : Int) > 0
   ·have e1 : wrap64 ((i : Int) - 1) = ((i - 1 : Nat) : Int) := by rw [wrap_in (by omega) (by omega)]; omega
    rw [if_pos h0, e1, if_pos (by omega), if_pos (by omega)]
    have e2 : rd l ((i - 1 : Nat) : Int) = l.getD (i - 1) 0 := by unfold rd; rw [Int.toNat_natCast]
    rw [e2]
    by_cases hge : l.getD (i - 1) 0 ≥ l[i]
    ·rw [if_pos hge, decide_eq_false (show ¬ i = 0 by omega), decide_eq_false (show ¬ l.getD (i - 1) 0 < l[i] by omega)]
     rfl
    ·rw [if_neg hge, decide_eq_true (show l.getD (i - 1) 0 < l[i] by omega)]
     simp
   ·rw [if_neg h0, decide_eq_true (show i = 0 by omega)]
    simp
theorem rises_tells (l : List Int) (hi : Int) (hl : l.length ≤ 9223372036854775807) : spec_l00Rises.f (l.length + 1) l 0 hi = some (risesB l hi) := by
 unfold spec_l00Rises.f
 exact rises_loop l hi hl l.length (l.length + 1) 0 (by omega) (by omega)
def spec_l06Is.f (s0_0 : Int) (s0_1 : List (S56)) (s0_2 : List Int) (s0_3 s0_4 s0_5 s0_6 : Int) : Option (Bool × Int × Int × Int × Int × Int) := some (validB s0_0 s0_1 s0_2 s0_3 s0_4 s0_5 s0_6, s0_0, s0_3, s0_4, s0_5, s0_6)
theorem validS_no {n : Int} {gates : List S56} {data : List Int} {a3 a4 a5 a6 : Int} (hf : inB n 1 6 = false ∨ ¬ gates.length ≤ 10 ∨ ¬ (data.length : Int) = n ∨ inB a3 0 100 = false ∨ inB a4 0 100 = false ∨ (inB a6 0 100 && inB a5 0 a6) = false) : validB n gates data a3 a4 a5 a6 = false := by
 unfold validB
 rcases hf with h | h | h | h | h | h <;> simp [h]
theorem validS_yes {n : Int} {gates : List S56} {data : List Int} {a3 a4 a5 a6 : Int} (h1 : inB n 1 6 = true) (h2 : gates.length ≤ 10) (h3 : (data.length : Int) = n) (h4 : inB a3 0 100 = true) (h5 : inB a4 0 100 = true) (h6 : (inB a6 0 100 && inB a5 0 a6) = true) :
  validB n gates data a3 a4 a5 a6 = (gatesB n 0 gates && (data.drop 0).all fun x => inB x 0 (n + gates.length - 1)) := by
 unfold validB
 rw [h1, decide_eq_true h2, decide_eq_true h3, h4, h5, h6, List.drop_zero]
 simp
theorem all_step (p : Int → Bool) {l : List Int} {x : Int} (h0 : 0 ≤ x) (h1 : x < (l.length : Int)) : (l.drop x.toNat).all p = (p (rd l x) && (l.drop (x + 1).toNat).all p) := by
 rw [List.drop_eq_getElem_cons (by omega), show (x + 1).toNat = x.toNat + 1 from by omega, List.all_cons]
 unfold rd
 rw [List.getD_eq_getElem?_getD, List.getElem?_eq_getElem (by omega)]
 rfl
set_option maxHeartbeats 8000000 in
set_option maxRecDepth 100000 in
theorem spec_l06Is.walk (g : Nat) (n : Int) (A1 : Option Addr) (c1 : Nat) (gs : List (S56)) (A2 : Option Addr) (c2 : Nat) (ds : List Int) (a3 a4 a5 a6 : Int) (w0 w : World) (hb : w.heap[g]? = some (.cells #[.int .i64 n, .slice A1 gs.length c1, .slice A2 ds.length c2, .int .i64 a3, .int .i64 a4, .int .i64 a5, .int .i64 a6] 45 (0, 0)))
  (hr1 : Kd.C k56 w0 A1 gs.length gs) (hr2 : Kd.C (Kd.int .i64) w0 A2 ds.length ds) (hB : Below w0.heap.size w0 w) :
  Calls Try.prog 54 #[.pointer (some ⟨g, 0, none⟩)] w fun e w' => e = .returned (.bool (validB n gs ds a3 a4 a5 a6)) ∧ Below w.heap.size w w' := by
 have hu := Try.underlying45
 have hu2 := Try.underlying56
 obtain ⟨b0, b1, b2, b3, b4, b5, b6⟩ := cells7 hb
 have HX := Aside0.mk hb
 have HR1 := Aside0.mk (Kd.C_below hr1 hB)
 have HR2 := Aside0.mk (Kd.C_below hr2 hB)
 have hl1 : gs.length ≤ 9223372036854775807 := hr1.2.1
 have hl2 : ds.length ≤ 9223372036854775807 := hr2.2.1
 clear hb hr1 hr2 hB
 have K1 := Aside0.mk (in_tells n 1 6)
 have K2 := Aside0.mk (delay0_tells a3)
 have K3 := Aside0.mk (delay0_tells a4)
 have K4 := Aside0.mk (delays_tells a5 a6)
 by_cases hall : inB n 1 6 = true ∧ gs.length ≤ 10 ∧ (ds.length : Int) = n ∧ inB a3 0 100 = true ∧ inB a4 0 100 = true ∧ (inB a6 0 100 && inB a5 0 a6) = true
 ·obtain ⟨h1, h2, h3, h4, h5, h6⟩ := hall
  have HY := Aside0.mk (validS_yes h1 h2 h3 h4 h5 h6)
  have HN := Aside0.mk (inB_iff.mp h1)
  have HG := Aside0.mk h2
  have d2 : decide ((10 : Int) < (gs.length : Int)) = false := decide_eq_false (by omega)
  have d2' : decide (10 < gs.length) = false := decide_eq_false (by omega)
  have d3 : ((ds.length : Int) == n) = true := beq_iff_eq.mpr h3
  have d3' : ((ds.length : Int) != n) = false := bne_eq_false_iff_eq.mpr h3
  rw [h1] at K1
  rw [h4] at K2
  rw [h5] at K3
  rw [h6] at K4
  clear h1 h2 h3 h4 h5 h6
  generalize hq : validB n gs ds a3 a4 a5 a6 = q at HY ⊢
  clear hq
  go_enter Try.func54, Try.ntmps54
  go_wp2
  go_quiet (first | (go_at_call 56; (with_reducible refine (spec_l00In.calls _ _ _ _ _ K1.out).mono ?_); rintro e w' ⟨rfl, ⟨nd, rfl⟩⟩; exact ⟨rfl, _, World.drewN_drewN _ _ _⟩) | (go_at_call 76; (with_reducible refine (spec_l06Delays.calls _ _ _ _ K2.out).mono ?_); rintro e w' ⟨rfl, ⟨nd, rfl⟩⟩; exact ⟨rfl, _, World.drewN_drewN _ _ _⟩) | (go_at_call 76; (with_reducible refine (spec_l06Delays.calls _ _ _ _ K3.out).mono ?_); rintro e w' ⟨rfl, ⟨nd, rfl⟩⟩; exact ⟨rfl, _, World.drewN_drewN _ _ _⟩) | (go_at_call 76; (with_reducible refine (spec_l06Delays.calls _ _ _ _ K4.out).mono ?_); rintro e w' ⟨rfl, ⟨nd, rfl⟩⟩; exact ⟨rfl, _, World.drewN_drewN _ _ _⟩))
  go_wp2
  go_quiet (fail)
  go_wp2
  clear b0 b1 b2 b3 b4 b5 b6
  go_loopg [4] gs.length (fun gg s4 wr => ∃ x : Int, s4 = .int .i64 x ∧ Aside0 (0 ≤ x ∧ x ≤ gs.length ∧ (gs.length : Int) - x ≤ gg) ∧ Aside0 (Below w.heap.size w wr) ∧ Aside0 (gatesB n 0 gs = gatesB n x.toNat (gs.drop x.toNat)))
  case atStart => exact ⟨0, rfl, ⟨by omega⟩, ⟨by repeat (first | exact Below.refl _ _ | apply pw_below_drewN)⟩, ⟨rfl⟩⟩
  case round =>
   obtain ⟨x, rfl, HX1, HB, HF⟩ := hrel
   have HK := Aside0.mk (blk_below HX.out HB.out)
   obtain ⟨b0, b1, b2, b3, b4, b5, b6⟩ := cells7 HK.out
   have hne : g ≠ wr.heap.size := Nat.ne_of_lt (blk_lt HK.out)
   have hlt_ : g < wr.heap.size := blk_lt HK.out
   by_cases hlt : x < (gs.length : Int)
   ·have t0 : decide (0 ≤ x) = true := decide_eq_true HX1.out.1
    have t1 : decide (x < (gs.length : Int)) = true := decide_eq_true hlt
    have HL := Aside0.mk hlt
    clear hlt
    obtain ⟨ad, Ai, ci, e, e0, e1, e2, e3, e4⟩ := at_T56 HR1.out x HX1.out.1 HL.out
    cases e
    replace e0 := pw_cell_below HB.out e0
    replace e1 := pw_cell_below HB.out e1
    replace e2 := pw_cell_below HB.out e2
    have H3 := Aside0.mk e3
    have H4 := Aside0.mk (Kd.C_below e4 HB.out)
    have HI := Aside0.mk e4.2.1
    clear e3 e4
    have hst := gates_step n (l := gs) (i := x.toNat) (by have := HX1.out; have := HL.out; omega)
    rw [show ((x.toNat : Nat) : Int) = x by have := HX1.out; omega] at hst
    have HS := Aside0.mk hst
    have HW := Aside0.mk (show wrap64 (wrap64 (n + x) - 1) = n + x - 1 by have := HX1.out; have := HL.out; have := HN.out; have := HG.out; rw [wrap_in (x := n + x) (by omega) (by omega), wrap_in (by omega) (by omega)])
    have HSET := Aside0.mk (rises_tells (rd_T56 gs x).f2 (wrap64 (wrap64 (n + x) - 1)) HI.out)
    have KD := Aside0.mk (delays_tells (rd_T56 gs x).f0 (rd_T56 gs x).f1)
    clear hst
    have p0 := eq_true HX1.out.1
    have p1 := eq_true HL.out
    cases g1 : (inB (rd_T56 gs x).f1 0 100 && inB (rd_T56 gs x).f0 0 (rd_T56 gs x).f1)
    all_goals rw [g1] at KD
    case false =>
     have HNO := Aside0.mk (show gateB n x (rd_T56 gs x) = false by unfold gateB; rw [g1]; rfl)
     clear g1
     go_wp2
     go_quiet (first | (go_at_call 76; (with_reducible refine (spec_l06Delays.calls _ _ _ _ KD.out).mono ?_); rintro e w' ⟨rfl, ⟨nd, rfl⟩⟩; exact ⟨rfl, _, World.drewN_drewN _ _ _⟩) | (go_at_call 77; (try simp only [i64_w]); (try simp only [i64_w]); refine (spec_l00Rises.calls (hr0 := by repeat (first | exact H4.out | (with_reducible refine Kd.C_alloc ?_ _) | (with_reducible refine Kd.C_drewN ?_ _) | (with_reducible refine Kd.C_drew ?_))) (hc0 := H3.out) (h := HSET.out)).mono ?_; rintro e w' ⟨rfl, ⟨nd, rfl⟩⟩; exact ⟨rfl, _, World.drewN_drewN _ _ _⟩))
     go_wp2
     go_ret
     exact ⟨by rw [HY.out, HF.out, HS.out, HNO.out]; rfl, by repeat (first | exact HB.out | apply pw_below_drewN | apply below_alloc)⟩
    case true =>
     by_cases g3 : (rd_T56 gs x).f2.length = 0
     ·have g3a : (((rd_T56 gs x).f2.length : Int) == 0) = true := beq_iff_eq.mpr (by omega)
      have g3b : (((rd_T56 gs x).f2.length : Int) != 0) = false := bne_eq_false_iff_eq.mpr (by omega)
      have HNO := Aside0.mk (show gateB n x (rd_T56 gs x) = false by unfold gateB; rw [g1, decide_eq_true g3]; rfl)
      clear g1 g3
      go_wp2
      go_quiet (first | (go_at_call 76; (with_reducible refine (spec_l06Delays.calls _ _ _ _ KD.out).mono ?_); rintro e w' ⟨rfl, ⟨nd, rfl⟩⟩; exact ⟨rfl, _, World.drewN_drewN _ _ _⟩) | (go_at_call 77; (try simp only [i64_w]); (try simp only [i64_w]); refine (spec_l00Rises.calls (hr0 := by repeat (first | exact H4.out | (with_reducible refine Kd.C_alloc ?_ _) | (with_reducible refine Kd.C_drewN ?_ _) | (with_reducible refine Kd.C_drew ?_))) (hc0 := H3.out) (h := HSET.out)).mono ?_; rintro e w' ⟨rfl, ⟨nd, rfl⟩⟩; exact ⟨rfl, _, World.drewN_drewN _ _ _⟩))
      go_wp2
      go_ret
      exact ⟨by rw [HY.out, HF.out, HS.out, HNO.out]; rfl, by repeat (first | exact HB.out | apply pw_below_drewN | apply below_alloc)⟩
     ·have g3a : (((rd_T56 gs x).f2.length : Int) == 0) = false := beq_eq_false_iff_ne.mpr (by omega)
      have g3b : ¬ (rd_T56 gs x).f2 = [] := fun h_ => g3 (by rw [h_]; rfl)
      cases g4 : risesB (rd_T56 gs x).f2 (wrap64 (wrap64 (n + x) - 1))
      all_goals rw [g4] at HSET
      case false =>
       have HNO := Aside0.mk (show gateB n x (rd_T56 gs x) = false by unfold gateB; rw [← HW.out, g1, g4, decide_eq_false g3]; rfl)
       clear g1 g3 g4
       go_wp2
       go_quiet (first | (go_at_call 76; (with_reducible refine (spec_l06Delays.calls _ _ _ _ KD.out).mono ?_); rintro e w' ⟨rfl, ⟨nd, rfl⟩⟩; exact ⟨rfl, _, World.drewN_drewN _ _ _⟩) | (go_at_call 77; (try simp only [i64_w]); (try simp only [i64_w]); refine (spec_l00Rises.calls (hr0 := by repeat (first | exact H4.out | (with_reducible refine Kd.C_alloc ?_ _) | (with_reducible refine Kd.C_drewN ?_ _) | (with_reducible refine Kd.C_drew ?_))) (hc0 := H3.out) (h := HSET.out)).mono ?_; rintro e w' ⟨rfl, ⟨nd, rfl⟩⟩; exact ⟨rfl, _, World.drewN_drewN _ _ _⟩))
       go_wp2
       go_ret
       exact ⟨by rw [HY.out, HF.out, HS.out, HNO.out]; rfl, by repeat (first | exact HB.out | apply pw_below_drewN | apply below_alloc)⟩
      case true =>
       have HGB := Aside0.mk (show gateB n x (rd_T56 gs x) = true by unfold gateB; rw [← HW.out, g1, g4, decide_eq_false g3]; rfl)
       clear g1 g3 g4
       go_wp2
       go_quiet (first | (go_at_call 76; (with_reducible refine (spec_l06Delays.calls _ _ _ _ KD.out).mono ?_); rintro e w' ⟨rfl, ⟨nd, rfl⟩⟩; exact ⟨rfl, _, World.drewN_drewN _ _ _⟩) | (go_at_call 77; (try simp only [i64_w]); (try simp only [i64_w]); refine (spec_l00Rises.calls (hr0 := by repeat (first | exact H4.out | (with_reducible refine Kd.C_alloc ?_ _) | (with_reducible refine Kd.C_drewN ?_ _) | (with_reducible refine Kd.C_drew ?_))) (hc0 := H3.out) (h := HSET.out)).mono ?_; rintro e w' ⟨rfl, ⟨nd, rfl⟩⟩; exact ⟨rfl, _, World.drewN_drewN _ _ _⟩))
       go_wp2
       have hx1 := HX1.out
       have hl1' := HL.out
       go_roundg ((gs.length : Int) - (x + 1)).toNat
       case measure => omega
       case rel =>
        refine ⟨x + 1, by rw [wrap_in (by omega) (by omega)], ⟨by omega⟩, ⟨by repeat (first | exact HB.out | apply pw_below_drewN | apply below_alloc)⟩, ⟨?_⟩⟩
        rw [HF.out, HS.out, HGB.out, show (x + 1).toNat = x.toNat + 1 by omega]
        rfl
   ·have t1 : decide (x < (gs.length : Int)) = false := decide_eq_false hlt
    have hx := HX1.out
    have HE := Aside0.mk (show gatesB n 0 gs = true by rw [HF.out, List.drop_of_length_le (by omega)]; rfl)
    have HNW := Aside0.mk (show wrap64 (wrap64 (n + (gs.length : Int)) - 1) = n + gs.length - 1 by have := HN.out; have := HG.out; rw [wrap_in (x := n + (gs.length : Int)) (by omega) (by omega), wrap_in (by omega) (by omega)])
    clear hlt hx
    go_wp2
    clear b0 b1 b2 b3 b4 b5 b6 hne hlt_
    go_loopg [6] ds.length (fun gg s6 wz => ∃ y : Int, s6 = .int .i64 y ∧ Aside0 (0 ≤ y ∧ y ≤ ds.length ∧ (ds.length : Int) - y ≤ gg) ∧ Aside0 (Below wr.heap.size wr wz) ∧ Aside0 (q = (ds.drop y.toNat).all fun x => inB x 0 (n + gs.length - 1)))
    case atStart => exact ⟨0, rfl, ⟨by omega⟩, ⟨by repeat (first | exact Below.refl _ _ | apply pw_below_drewN)⟩, ⟨by rw [HY.out, HE.out]; rfl⟩⟩
    case round =>
     obtain ⟨y, rfl, HY1, HB2, HF2⟩ := hrel
     obtain ⟨b0, b1, b2, b3, b4, b5, b6⟩ := cells7 (blk_below HK.out HB2.out)
     by_cases hlt : y < (ds.length : Int)
     ·have t0 : decide (0 ≤ y) = true := decide_eq_true HY1.out.1
      have t1 : decide (y < (ds.length : Int)) = true := decide_eq_true hlt
      have HL := Aside0.mk hlt
      clear hlt
      obtain ⟨ad, e, e0⟩ := Kd.at_int HR2.out y HY1.out.1 HL.out
      cases e
      replace e0 := pw_cell_below HB2.out (pw_cell_below HB.out e0)
      have HD := Aside0.mk (all_step (fun x => inB x 0 (n + gs.length - 1)) HY1.out.1 HL.out)
      have KN := Aside0.mk (in_tells (rd ds y) 0 (wrap64 (wrap64 (n + (gs.length : Int)) - 1)))
      have p0 := eq_true HY1.out.1
      have p1 := eq_true HL.out
      cases g1 : inB (rd ds y) 0 (wrap64 (wrap64 (n + (gs.length : Int)) - 1))
      all_goals rw [g1] at KN; rw [HNW.out] at g1; have G1 := Aside0.mk g1; clear g1
      all_goals go_wp2_with (go_at_call 56; refine (spec_l00In.calls _ _ _ _ _ KN.out).mono ?_; rintro e w' ⟨rfl, ⟨nd, rfl⟩⟩)
      ·go_ret
       exact ⟨by rw [HF2.out, HD.out, G1.out]; rfl, by repeat (first | exact below_step HB.out HB2.out | apply pw_below_drewN)⟩
      ·have hx1 := HY1.out
       have hl1' := HL.out
       go_roundg ((ds.length : Int) - (y + 1)).toNat
       case measure => omega
       case rel => exact ⟨y + 1, by rw [wrap_in (by omega) (by omega)], ⟨by omega⟩, ⟨by repeat (first | exact HB2.out | apply pw_below_drewN)⟩, ⟨by rw [HF2.out, HD.out, G1.out]; rfl⟩⟩
     ·have t1 : decide (y < (ds.length : Int)) = false := decide_eq_false hlt
      have hx := HY1.out
      have HE2 := Aside0.mk (show q = true by rw [HF2.out, List.drop_of_length_le (by omega)]; rfl)
      clear hlt hx
      go_wp2
      go_ret
      exact ⟨by rw [HE2.out]; rfl, below_step HB.out HB2.out⟩
 ·have hcase : inB n 1 6 = false ∨ (inB n 1 6 = true ∧ decide ((10 : Int) < (gs.length : Int)) = true ∧ decide (10 < gs.length) = true) ∨ (inB n 1 6 = true ∧ decide ((10 : Int) < (gs.length : Int)) = false ∧ decide (10 < gs.length) = false ∧ ((ds.length : Int) == n) = false ∧ ((ds.length : Int) != n) = true) ∨ (inB n 1 6 = true ∧ decide ((10 : Int) < (gs.length : Int)) = false ∧ decide (10 < gs.length) = false ∧ ((ds.length : Int) == n) = true ∧ ((ds.length : Int) != n) = false ∧ (inB a3 0 100 = false ∨ (inB a3 0 100 = true ∧ inB a4 0 100 = false) ∨ (inB a3 0 100 = true ∧ inB a4 0 100 = true ∧ (inB a6 0 100 && inB a5 0 a6) = false))) := by
   cases h1 : inB n 1 6 with
   | false => exact .inl rfl
   | true =>
    by_cases h2 : gs.length ≤ 10
    ·by_cases h3 : (ds.length : Int) = n
     ·refine .inr (.inr (.inr ⟨rfl, decide_eq_false (by omega), decide_eq_false (by omega), beq_iff_eq.mpr h3, bne_eq_false_iff_eq.mpr h3, ?_⟩))
      cases h4 : inB a3 0 100 with
      | false => exact .inl rfl
      | true =>
       cases h5 : inB a4 0 100 with
       | false => exact .inr (.inl ⟨rfl, rfl⟩)
       | true => exact .inr (.inr ⟨rfl, rfl, Bool.eq_false_iff.mpr (fun h6 => hall ⟨h1, h2, h3, h4, h5, h6⟩)⟩)
     ·exact .inr (.inr (.inl ⟨rfl, decide_eq_false (by omega), decide_eq_false (by omega), beq_eq_false_iff_ne.mpr h3, bne_iff_ne.mpr h3⟩))
    ·exact .inr (.inl ⟨rfl, decide_eq_true (by omega), decide_eq_true (by omega)⟩)
  clear hall
  have HNO := Aside0.mk (show validB n gs ds a3 a4 a5 a6 = false from validS_no (by
   rcases hcase with h1 | ⟨_, _, h2⟩ | ⟨_, _, _, h3, _⟩ | ⟨_, _, _, _, _, h4 | ⟨_, h5⟩ | ⟨_, _, h6⟩⟩
   ·exact .inl h1
   ·exact .inr (.inl (by have := of_decide_eq_true h2; omega))
   ·exact .inr (.inr (.inl (beq_eq_false_iff_ne.mp h3)))
   ·exact .inr (.inr (.inr (.inl h4)))
   ·exact .inr (.inr (.inr (.inr (.inl h5))))
   ·exact .inr (.inr (.inr (.inr (.inr h6))))))
  generalize validB n gs ds a3 a4 a5 a6 = q at HNO ⊢
  rcases hcase with h1 | ⟨h1, h2, h2'⟩ | ⟨h1, h2, h2', h3, h3'⟩ | ⟨h1, h2, h2', h3, h3', h4 | ⟨h4, h5⟩ | ⟨h4, h5, h6⟩⟩
  all_goals
   rw [h1] at K1
   (try rw [h4] at K2)
   (try rw [h5] at K3)
   (try rw [h6] at K4)
   go_enter Try.func54, Try.ntmps54
   go_wp2
   go_quiet (first | (go_at_call 56; (with_reducible refine (spec_l00In.calls _ _ _ _ _ K1.out).mono ?_); rintro e w' ⟨rfl, ⟨nd, rfl⟩⟩; exact ⟨rfl, _, World.drewN_drewN _ _ _⟩) | (go_at_call 76; (with_reducible refine (spec_l06Delays.calls _ _ _ _ K2.out).mono ?_); rintro e w' ⟨rfl, ⟨nd, rfl⟩⟩; exact ⟨rfl, _, World.drewN_drewN _ _ _⟩) | (go_at_call 76; (with_reducible refine (spec_l06Delays.calls _ _ _ _ K3.out).mono ?_); rintro e w' ⟨rfl, ⟨nd, rfl⟩⟩; exact ⟨rfl, _, World.drewN_drewN _ _ _⟩) | (go_at_call 76; (with_reducible refine (spec_l06Delays.calls _ _ _ _ K4.out).mono ?_); rintro e w' ⟨rfl, ⟨nd, rfl⟩⟩; exact ⟨rfl, _, World.drewN_drewN _ _ _⟩))
   go_wp2
   go_ret
   exact ⟨by rw [HNO.out]; rfl, by repeat (first | exact Below.refl _ _ | apply pw_below_drewN)⟩
end Go.Proofs.Ytahjcmmgdcedpaa.Pa

namespace Go.Proofs.Ytahjcmmgdcedpaa.Pa
open Go.RowKit Go.Proofs.YtahjcmmgdcedpaaW.PrintWords Go.Proofs.YtahjcmmgdcedpaaW.PrintLast Go.Proofs.YtahjcmmgdcedpaaW.PrintMore
attribute [local go_sem] max2_int min2_int max_two min_two max_three min_three max_four min_four   -- for this text's walks alone
set_option linter.unusedVariables false
set_option linter.unusedSimpArgs false

/-! ### impl_within: function 38 -/
def impl_within.f (a0 : Int) (a1 : Int) (a2 : Int) : Option (Bool) := if a0 ≥ a1 then (some (decide (a0 ≤ a2))) else (some false)
set_option maxHeartbeats 8000000 in
set_option maxRecDepth 100000 in
theorem impl_within.calls (a0 : Int) (a1 : Int) (a2 : Int) (r : Bool) (w : World) (h : impl_within.f a0 a1 a2 = some r) :
  Calls Try.prog 38 #[.int .i64 a0, .int .i64 a1, .int .i64 a2] w fun e w' => e = .returned (.bool r) ∧ Drawn0 w w' := by
 have H : (if a0 ≥ a1 then (some (decide (a0 ≤ a2))) else (some false)) = some r := h
 clear h
 by_cases c4 : a0 ≥ a1
 ·rw [if_pos c4] at H
  have c4b0 : decide (a1 ≤ a0) = true := decide_eq_true c4
  clear c4
  obtain rfl := Option.some.inj H
  go_enter Try.func38, Try.ntmps38
  go_wp2
  go_ret
  exact ⟨by first | rfl | (simp; done) | (simp [*]; done), by repeat (first | exact Drawn0.refl _ | apply Drawn0.step)⟩
 ·rw [if_neg c4] at H
  have c4b0 : decide (a1 ≤ a0) = false := decide_eq_false c4
  clear c4
  obtain rfl := Option.some.inj H
  go_enter Try.func38, Try.ntmps38
  go_wp2
  go_ret
  exact ⟨by first | rfl | (simp; done) | (simp [*]; done), by repeat (first | exact Drawn0.refl _ | apply Drawn0.step)⟩

end Go.Proofs.Ytahjcmmgdcedpaa.Pa

namespace Go.Proofs.Ytahjcmmgdcedpaa.Pa
open Go.RowKit Go.Proofs.YtahjcmmgdcedpaaW.PrintWords Go.Proofs.YtahjcmmgdcedpaaW.PrintLast Go.Proofs.YtahjcmmgdcedpaaW.PrintMore
attribute [local go_sem] max2_int min2_int max_two min_two max_three min_three max_four min_four   -- for this text's walks alone
set_option linter.unusedVariables false
set_option linter.unusedSimpArgs false

/-! ### AUX firstOf -/
/-- The place of the first element for which a test holds, or -1. -/
def firstOf {α : Type} (p : α → Bool) : List α → Int → Int
 | [], _ => -1
 | x :: l, i => if p x = true then i else firstOf p l (i + 1)
theorem firstOf_step {α : Type} (p : α → Bool) (x : α) (l : List α) (i : Int) : firstOf p (x :: l) i = if p x = true then i else firstOf p l (i + 1) := rfl
theorem firstOf_iff {α : Type} (p : α → Bool) (l : List α) : ∀ i, 0 ≤ i → (0 ≤ firstOf p l i ↔ l.any p = true) := by
 induction l with
 | nil => intro i hi; simp [firstOf]
 | cons x l ih =>
  intro i hi
  rw [firstOf_step, List.any_cons]
  by_cases hx : p x = true
  ·rw [if_pos hx, hx]
   simp [hi]
  ·rw [if_neg hx, Bool.eq_false_iff.mpr hx]
   simpa using ih (i + 1) (by omega)
theorem firstOf_any {α : Type} (p : α → Bool) (l : List α) : decide (0 ≤ firstOf p l 0) = l.any p := by
 rw [Bool.eq_iff_iff, decide_eq_true_iff]
 exact firstOf_iff p l 0 (by omega)
end Go.Proofs.Ytahjcmmgdcedpaa.Pa

namespace Go.Proofs.Ytahjcmmgdcedpaa.Pa
open Go.RowKit Go.Proofs.YtahjcmmgdcedpaaW.PrintWords Go.Proofs.YtahjcmmgdcedpaaW.PrintLast Go.Proofs.YtahjcmmgdcedpaaW.PrintMore
attribute [local go_sem] max2_int min2_int max_two min_two max_three min_three max_four min_four   -- for this text's walks alone
set_option linter.unusedVariables false
set_option linter.unusedSimpArgs false

/-! ### AUX containsI -/
set_option maxHeartbeats 2000000 in
set_option maxRecDepth 100000 in
theorem indexI.calls (A : Option Addr) (c : Nat) (l : List Int) (g : Nat) (lb : Array Value) (p : Int → Bool) (w : World) (hr : Kd.C (Kd.int .i64) w A l.length l)
  (eg : ∀ args W, (callFunc g args).run Try.prog W = .ok (.enter g args) W)
  (hp : ∀ (W : World) (x : Int), x ∈ l → Below w.heap.size w W → Calls Try.prog g (#[.int .i64 x] ++ lb) W fun e w' => e = .returned (.bool (p x)) ∧ Below w.heap.size w w') :
  Calls Try.prog 68 #[.slice A l.length c, .func (.func g) #[] lb] w fun e w' => e = .returned (.int .i64 (firstOf p l 0)) ∧ Below w.heap.size w w' := by
 have HR := Aside0.mk hr
 have hlen : l.length ≤ 9223372036854775807 := hr.2.1
 clear hr
 have HP := Aside0.mk hp
 clear hp
 go_enter Try.func68, Try.ntmps68
 go_wp2
 go_loopg [5, 8] l.length (fun gg _ s8 wr => ∃ x : Int, s8 = .int .i64 x ∧ Aside0 (0 ≤ x ∧ x ≤ l.length ∧ (l.length : Int) - x ≤ gg) ∧ Aside0 (Below w.heap.size w wr) ∧ Aside0 (firstOf p l 0 = firstOf p (l.drop x.toNat) x))
 case atStart => exact ⟨0, rfl, ⟨by omega⟩, ⟨Below.refl _ w⟩, ⟨rfl⟩⟩
 case round =>
  obtain ⟨x, rfl, HX, HB, HF⟩ := hrel
  by_cases hlt : x < (l.length : Int)
  ·have c0 : decide (0 ≤ x) = true := decide_eq_true HX.out.1
   have c1 : decide (x < (l.length : Int)) = true := decide_eq_true hlt
   have HL := Aside0.mk hlt
   clear hlt
   obtain ⟨ad, e, h0⟩ := Kd.at_int HR.out x HX.out.1 HL.out
   cases e
   replace h0 := (HB.out.cell (World.block_lt_of_cell? w _ h0)).trans h0
   have hmem : rd l x ∈ l := by
    have hx := HX.out
    have hl := HL.out
    unfold rd
    rw [List.getD_eq_getElem?_getD, List.getElem?_eq_getElem (by omega)]
    exact List.getElem_mem _
   have hcall := HP.out wr (rd l x) hmem HB.out
   clear hmem
   have hd : l.drop x.toNat = rd l x :: l.drop (x + 1).toNat := by
    have hx := HX.out
    have hl := HL.out
    rw [List.drop_eq_getElem_cons (by omega), show (x + 1).toNat = x.toNat + 1 from by omega]
    unfold rd
    rw [List.getD_eq_getElem?_getD, List.getElem?_eq_getElem (by omega)]
    rfl
   have HD := Aside0.mk hd
   clear hd
   cases hq : p (rd l x) with
   | true =>
    rw [hq] at hcall
    have HQ := Aside0.mk hq
    clear hq
    have HC := Aside0.mk hcall
    clear hcall
    have p0 := eq_true HX.out.1
    have p1 := eq_true HL.out
    go_wp2_with (go_at_fn g; refine HC.out.mono ?_; rintro e w' ⟨rfl, hb'⟩)
    go_ret
    refine ⟨?_, hb'⟩
    rw [HF.out, HD.out, firstOf_step, if_pos HQ.out]
    rfl
   | false =>
    rw [hq] at hcall
    have HQ := Aside0.mk hq
    clear hq
    have HC := Aside0.mk hcall
    clear hcall
    have p0 := eq_true HX.out.1
    have p1 := eq_true HL.out
    go_wp2_with (go_at_fn g; refine HC.out.mono ?_; rintro e w' ⟨rfl, hb'⟩)
    have hx1 := HX.out
    have hl1 := HL.out
    go_roundg ((l.length : Int) - (x + 1)).toNat
    case measure => omega
    case rel =>
     have hw1 : wrap64 (x + 1) = x + 1 := by unfold wrap64; omega
     refine ⟨x + 1, by rw [hw1], ⟨by omega⟩, ⟨hb'⟩, ⟨?_⟩⟩
     rw [HF.out, HD.out, firstOf_step, if_neg (by rw [HQ.out]; simp)]
  ·have c1 : decide (x < (l.length : Int)) = false := decide_eq_false hlt
   have HL := Aside0.mk hlt
   clear hlt
   go_wp2
   go_ret
   refine ⟨?_, HB.out⟩
   have hx := HX.out
   have hl := HL.out
   rw [HF.out, List.drop_of_length_le (by omega)]
   rfl
set_option maxHeartbeats 1000000 in
theorem containsI.calls (A : Option Addr) (c : Nat) (l : List Int) (g : Nat) (lb : Array Value) (p : Int → Bool) (w : World) (hr : Kd.C (Kd.int .i64) w A l.length l)
  (eg : ∀ args W, (callFunc g args).run Try.prog W = .ok (.enter g args) W)
  (hp : ∀ (W : World) (x : Int), x ∈ l → Below w.heap.size w W → Calls Try.prog g (#[.int .i64 x] ++ lb) W fun e w' => e = .returned (.bool (p x)) ∧ Below w.heap.size w w') :
  Calls Try.prog 36 #[.slice A l.length c, .func (.func g) #[] lb] w fun e w' => e = .returned (.bool (l.any p)) ∧ Below w.heap.size w w' := by
 have hcall := Aside0.mk (indexI.calls A c l g lb p w hr eg hp)
 clear hp hr eg
 rw [← firstOf_any p l]
 generalize firstOf p l 0 = r at hcall ⊢
 go_enter Try.func36, Try.ntmps36
 go_wp2_with (go_at_call 68; refine hcall.out.mono ?_; rintro e w' ⟨rfl, hb'⟩)
 go_ret
 exact ⟨rfl, hb'⟩

end Go.Proofs.Ytahjcmmgdcedpaa.Pa

namespace Go.Proofs.Ytahjcmmgdcedpaa.Pa
open Go.RowKit Go.Proofs.YtahjcmmgdcedpaaW.PrintWords Go.Proofs.YtahjcmmgdcedpaaW.PrintLast Go.Proofs.YtahjcmmgdcedpaaW.PrintMore
attribute [local go_sem] max2_int min2_int max_two min_two max_three min_three max_four min_four   -- for this text's walks alone
set_option linter.unusedVariables false
set_option linter.unusedSimpArgs false

/-! ### impl_isDelay: function 51 -/
def impl_isDelay.f (a0 : Int) : Option (Bool) := (impl_within.f a0 0 100).bind fun t425 => (some t425)
set_option maxHeartbeats 8000000 in
set_option maxRecDepth 100000 in
theorem impl_isDelay.calls (a0 : Int) (r : Bool) (w : World) (h : impl_isDelay.f a0 = some r) :
  Calls Try.prog 51 #[.int .i64 a0] w fun e w' => e = .returned (.bool r) ∧ Drawn0 w w' := by
 have H : ((impl_within.f a0 0 100).bind fun t425 => (some t425)) = some r := h
 clear h
 replace H := Option.bind_eq_some_iff.mp H
 obtain ⟨t425, A20, H⟩ := H
 replace H : (some t425) = some r := H
 have A2 := Aside0.mk A20
 clear A20
 obtain rfl := Option.some.inj H
 go_enter Try.func51, Try.ntmps51
 go_wp2_with (first | ((with_reducible refine gate_callee (f := 38) rfl ?_); refine goesL_ (some 4) rfl rfl Try.func38 (by kernel_rfl) rfl #[.int .i64 a0, .int .i64 0, .int .i64 100] rfl (by (try simp only [List.map_toArray, List.map_cons, List.map_nil]); first | done | rfl | (simp only [List.length_drop, List.length_take]; rfl)) ?_; (with_reducible refine (impl_within.calls a0 0 100 t425 _ A2.out).mono ?_); rintro e w' ⟨rfl, ⟨nd, rfl⟩⟩; refine ⟨_, rfl, ?_⟩))
 go_ret
 exact ⟨by first | rfl | (simp; done) | (simp [*]; done), by repeat (first | exact Drawn0.refl _ | apply Drawn0.step)⟩

end Go.Proofs.Ytahjcmmgdcedpaa.Pa

namespace Go.Proofs.Ytahjcmmgdcedpaa.Pa
open Go.RowKit Go.Proofs.YtahjcmmgdcedpaaW.PrintWords Go.Proofs.YtahjcmmgdcedpaaW.PrintLast Go.Proofs.YtahjcmmgdcedpaaW.PrintMore
attribute [local go_sem] max2_int min2_int max_two min_two max_three min_three max_four min_four   -- for this text's walks alone
set_option linter.unusedVariables false
set_option linter.unusedSimpArgs false

/-! ### impl_isSet: function 57 -/
def impl_isSet.l0 : Nat → List Int → Int → Int → List Int → Int → Int → Option (Bool)
 | 0, _, _, _, _, _, _ => none
 | k + 1, x0, x1, x2, x9, x10, x11 => if x11 < x10 then (if 0 ≤ x11 then (if x11 < (x9.length : Int) then ((impl_within.f (rd x9 x11) x1 x2).bind fun t427 => (if t427 = true then (if x11 > 0 then (if 0 ≤ (wrap64 (x11 - 1)) then (if (wrap64 (x11 - 1)) < (x0.length : Int) then (if (rd x0 (wrap64 (x11 - 1))) ≥ (rd x9 x11) then (some false) else (impl_isSet.l0 k x0 x1 x2 x9 x10 (wrap64 (x11 + 1)))) else (none)) else (none)) else (impl_isSet.l0 k x0 x1 x2 x9 x10 (wrap64 (x11 + 1)))) else (some false))) else (none)) else (none)) else (some true)
def impl_isSet.f (k : Nat) (l0 : List Int) (a1 : Int) (a2 : Int) : Option (Bool) := impl_isSet.l0 k l0 a1 a2 l0 (l0.length : Int) 0
set_option maxHeartbeats 8000000 in
set_option maxRecDepth 100000 in
theorem impl_isSet.calls (k : Nat) (A0 : Option Addr) (c0 : Nat) (l0 : List Int) (a1 : Int) (a2 : Int) (r : Bool) (w : World) (hr0 : Kd.C (Kd.int .i64) w A0 l0.length l0) (hc0 : l0.length ≤ c0) (h : impl_isSet.f k l0 a1 a2 = some r) :
  Calls Try.prog 57 #[.slice A0 l0.length c0, .int .i64 a1, .int .i64 a2] w fun e w' => e = .returned (.bool r) ∧ Drawn0 w w' := by
 have HR0 := Aside0.mk hr0
 have HC0 := Aside0.mk hc0
 clear hr0 hc0
 have H : (impl_isSet.l0 k l0 a1 a2 l0 (l0.length : Int) 0) = some r := h
 clear h
 have H' := Aside0.mk H
 clear H
 go_enter Try.func57, Try.ntmps57
 go_wp2
 go_loopg [11] k (fun kq v11 w' => ∃ (x11_1 : Int), v11 = .int .i64 x11_1 ∧ Aside0 (impl_isSet.l0 kq l0 a1 a2 l0 (l0.length : Int) x11_1 = some r) ∧ Aside0 (kq ≤ k) ∧ Drawn0 w w')
 case atStart => exact ⟨(0), (by first | rfl | (simp; done) | (simp [*]; done)), H', ⟨Nat.le_refl _⟩, by repeat (first | exact Drawn0.refl _ | apply Drawn0.step)⟩
 case round =>
  clear H'
  try clear p2
  obtain ⟨x11_1, rfl, HA, HK1, ⟨m1, rfl⟩⟩ := hrel
  cases gk with
  | zero => exact absurd HA.out (by simp [impl_isSet.l0])
  | succ k1 =>
   have H := HA.out
   clear HA
   simp only [impl_isSet.l0] at H
   by_cases c4 : x11_1 < (l0.length : Int)
   ·rw [if_pos c4] at H
    have c4b0 : decide (x11_1 < (l0.length : Int)) = true := decide_eq_true c4
    clear c4
    by_cases c5 : 0 ≤ x11_1
    ·rw [if_pos c5] at H
     have c5b0 : decide (0 ≤ x11_1) = true := decide_eq_true c5
     clear c5
     by_cases c6 : x11_1 < (l0.length : Int)
     ·rw [if_pos c6] at H
      have c6b0 : decide (x11_1 < (l0.length : Int)) = true := decide_eq_true c6
      clear c6
      replace H := Option.bind_eq_some_iff.mp H
      obtain ⟨t427, A70, H⟩ := H
      replace H : (if t427 = true then (if x11_1 > 0 then (if 0 ≤ (wrap64 (x11_1 - 1)) then (if (wrap64 (x11_1 - 1)) < (l0.length : Int) then (if (rd l0 (wrap64 (x11_1 - 1))) ≥ (rd l0 x11_1) then (some false) else (impl_isSet.l0 k1 l0 a1 a2 l0 (l0.length : Int) (wrap64 (x11_1 + 1)))) else (none)) else (none)) else (impl_isSet.l0 k1 l0 a1 a2 l0 (l0.length : Int) (wrap64 (x11_1 + 1)))) else (some false)) = some r := H
      have A7 := Aside0.mk A70
      clear A70
      by_cases c8 : t427 = true
      ·subst c8
       have H1 : (if x11_1 > 0 then (if 0 ≤ (wrap64 (x11_1 - 1)) then (if (wrap64 (x11_1 - 1)) < (l0.length : Int) then (if (rd l0 (wrap64 (x11_1 - 1))) ≥ (rd l0 x11_1) then (some false) else (impl_isSet.l0 k1 l0 a1 a2 l0 (l0.length : Int) (wrap64 (x11_1 + 1)))) else (none)) else (none)) else (impl_isSet.l0 k1 l0 a1 a2 l0 (l0.length : Int) (wrap64 (x11_1 + 1)))) = some r := by rw [if_pos rfl] at H; exact H
       clear H
       have H := H1
       clear H1
       by_cases c9 : x11_1 > 0
       ·rw [if_pos c9] at H
        have c9b0 : decide (0 < x11_1) = true := decide_eq_true c9
        clear c9
        obtain ⟨ji10, hji10⟩ : ∃ j_ : Int, (wrap64 (x11_1 - 1)) = j_ := ⟨_, rfl⟩
        replace H : (if 0 ≤ (ji10) then (if (ji10) < (l0.length : Int) then (if (rd l0 (ji10)) ≥ (rd l0 x11_1) then (some false) else (impl_isSet.l0 k1 l0 a1 a2 l0 (l0.length : Int) (wrap64 (x11_1 + 1)))) else (none)) else (none)) = some r := by first | (rw [hji10] at H; exact H) | (simp only [hji10] at H ⊢; exact H)
        (try rw [hji10] at A7)
        have hji10w : (IntKind.i64.wrap (x11_1 - 1)) = ji10 := (i64_w _).trans hji10
        by_cases c11 : 0 ≤ (ji10)
        ·rw [if_pos c11] at H
         have c11b0 : decide (0 ≤ (ji10)) = true := decide_eq_true c11
         clear c11
         by_cases c12 : (ji10) < (l0.length : Int)
         ·rw [if_pos c12] at H
          have c12b0 : decide ((ji10) < (l0.length : Int)) = true := decide_eq_true c12
          clear c12
          by_cases c13 : (rd l0 (ji10)) ≥ (rd l0 x11_1)
          ·rw [if_pos c13] at H
           have c13b0 : decide ((rd l0 x11_1) ≤ (rd l0 (ji10))) = true := decide_eq_true c13
           clear c13
           obtain rfl := Option.some.inj H
           have p426 : 0 ≤ (x11_1 : Int) := of_decide_eq_true (by with_reducible assumption)
           have q426 : x11_1 < (l0.length : Int) := of_decide_eq_true (by with_reducible assumption)
           obtain ⟨ad426, e426, hx426_0⟩ := Kd.at_int HR0.out x11_1 p426 q426
           cases e426
           replace p426 := eq_true p426
           replace q426 := eq_true q426
           go_wp2_with (first | ((with_reducible refine gate_callee (f := 38) rfl ?_); refine goesL_ (some 19) rfl rfl Try.func38 (by kernel_rfl) rfl #[.int .i64 (rd l0 x11_1), .int .i64 a1, .int .i64 a2] rfl (by (try simp only [List.map_toArray, List.map_cons, List.map_nil]); first | done | rfl | (simp only [List.length_drop, List.length_take]; rfl)) ?_; (with_reducible refine (impl_within.calls (rd l0 x11_1) a1 a2 true _ A7.out).mono ?_); rintro e w' ⟨rfl, ⟨nd, rfl⟩⟩; refine ⟨_, rfl, ?_⟩; have p428 : 0 ≤ ((ji10) : Int) := of_decide_eq_true (by with_reducible assumption); have q428 : (ji10) < (l0.length : Int) := of_decide_eq_true (by with_reducible assumption); obtain ⟨ad428, e428, hx428_0⟩ := Kd.at_int HR0.out (ji10) p428 q428; obtain rfl : ad426 = ad428 := (by injection e428); replace p428 := eq_true p428; replace q428 := eq_true q428))
           go_ret
           exact ⟨by first | rfl | (simp; done) | (simp only [← hji10] <;> (first | rfl | simp)) | (simp [*]; done), by repeat (first | exact Drawn0.refl _ | apply Drawn0.step)⟩
          ·rw [if_neg c13] at H
           have c13b0 : decide ((rd l0 x11_1) ≤ (rd l0 (ji10))) = false := decide_eq_false c13
           clear c13
           have H' := Aside0.mk H
           clear H
           have p426 : 0 ≤ (x11_1 : Int) := of_decide_eq_true (by with_reducible assumption)
           have q426 : x11_1 < (l0.length : Int) := of_decide_eq_true (by with_reducible assumption)
           obtain ⟨ad426, e426, hx426_0⟩ := Kd.at_int HR0.out x11_1 p426 q426
           cases e426
           replace p426 := eq_true p426
           replace q426 := eq_true q426
           go_wp2_with (first | ((with_reducible refine gate_callee (f := 38) rfl ?_); refine goesL_ (some 19) rfl rfl Try.func38 (by kernel_rfl) rfl #[.int .i64 (rd l0 x11_1), .int .i64 a1, .int .i64 a2] rfl (by (try simp only [List.map_toArray, List.map_cons, List.map_nil]); first | done | rfl | (simp only [List.length_drop, List.length_take]; rfl)) ?_; (with_reducible refine (impl_within.calls (rd l0 x11_1) a1 a2 true _ A7.out).mono ?_); rintro e w' ⟨rfl, ⟨nd, rfl⟩⟩; refine ⟨_, rfl, ?_⟩; have p428 : 0 ≤ ((ji10) : Int) := of_decide_eq_true (by with_reducible assumption); have q428 : (ji10) < (l0.length : Int) := of_decide_eq_true (by with_reducible assumption); obtain ⟨ad428, e428, hx428_0⟩ := Kd.at_int HR0.out (ji10) p428 q428; obtain rfl : ad426 = ad428 := (by injection e428); replace p428 := eq_true p428; replace q428 := eq_true q428))
           go_roundg k1
           case measure => have := HK1.out; omega
           case rel => exact ⟨(wrap64 (x11_1 + 1)), (by first | rfl | (simp; done) | (simp [*]; done)), H', ⟨by have := HK1.out; omega⟩, by repeat (first | exact Drawn0.refl _ | apply Drawn0.step)⟩
         ·rw [if_neg c12] at H
          exact absurd H (by simp)
        ·rw [if_neg c11] at H
         exact absurd H (by simp)
       ·rw [if_neg c9] at H
        have c9b0 : decide (0 < x11_1) = false := decide_eq_false c9
        clear c9
        have H' := Aside0.mk H
        clear H
        have p426 : 0 ≤ (x11_1 : Int) := of_decide_eq_true (by with_reducible assumption)
        have q426 : x11_1 < (l0.length : Int) := of_decide_eq_true (by with_reducible assumption)
        obtain ⟨ad426, e426, hx426_0⟩ := Kd.at_int HR0.out x11_1 p426 q426
        cases e426
        replace p426 := eq_true p426
        replace q426 := eq_true q426
        go_wp2_with (first | ((with_reducible refine gate_callee (f := 38) rfl ?_); refine goesL_ (some 19) rfl rfl Try.func38 (by kernel_rfl) rfl #[.int .i64 (rd l0 x11_1), .int .i64 a1, .int .i64 a2] rfl (by (try simp only [List.map_toArray, List.map_cons, List.map_nil]); first | done | rfl | (simp only [List.length_drop, List.length_take]; rfl)) ?_; (with_reducible refine (impl_within.calls (rd l0 x11_1) a1 a2 true _ A7.out).mono ?_); rintro e w' ⟨rfl, ⟨nd, rfl⟩⟩; refine ⟨_, rfl, ?_⟩))
        go_roundg k1
        case measure => have := HK1.out; omega
        case rel => exact ⟨(wrap64 (x11_1 + 1)), (by first | rfl | (simp; done) | (simp [*]; done)), H', ⟨by have := HK1.out; omega⟩, by repeat (first | exact Drawn0.refl _ | apply Drawn0.step)⟩
      ·replace c8 := Bool.eq_false_iff.mpr c8
       subst c8
       have H1 : (some false) = some r := by rw [if_neg (show ¬ (false = true) by decide)] at H; exact H
       clear H
       have H := H1
       clear H1
       obtain rfl := Option.some.inj H
       have p426 : 0 ≤ (x11_1 : Int) := of_decide_eq_true (by with_reducible assumption)
       have q426 : x11_1 < (l0.length : Int) := of_decide_eq_true (by with_reducible assumption)
       obtain ⟨ad426, e426, hx426_0⟩ := Kd.at_int HR0.out x11_1 p426 q426
       cases e426
       replace p426 := eq_true p426
       replace q426 := eq_true q426
       go_wp2_with (first | ((with_reducible refine gate_callee (f := 38) rfl ?_); refine goesL_ (some 19) rfl rfl Try.func38 (by kernel_rfl) rfl #[.int .i64 (rd l0 x11_1), .int .i64 a1, .int .i64 a2] rfl (by (try simp only [List.map_toArray, List.map_cons, List.map_nil]); first | done | rfl | (simp only [List.length_drop, List.length_take]; rfl)) ?_; (with_reducible refine (impl_within.calls (rd l0 x11_1) a1 a2 false _ A7.out).mono ?_); rintro e w' ⟨rfl, ⟨nd, rfl⟩⟩; refine ⟨_, rfl, ?_⟩))
       go_ret
       exact ⟨by first | rfl | (simp; done) | (simp [*]; done), by repeat (first | exact Drawn0.refl _ | apply Drawn0.step)⟩
     ·rw [if_neg c6] at H
      exact absurd H (by simp)
    ·rw [if_neg c5] at H
     exact absurd H (by simp)
   ·rw [if_neg c4] at H
    have c4b0 : decide (x11_1 < (l0.length : Int)) = false := decide_eq_false c4
    clear c4
    obtain rfl := Option.some.inj H
    go_wp2
    go_ret
    exact ⟨by first | rfl | (simp; done) | (simp [*]; done), by repeat (first | exact Drawn0.refl _ | apply Drawn0.step)⟩

end Go.Proofs.Ytahjcmmgdcedpaa.Pa

namespace Go.Proofs.Ytahjcmmgdcedpaa.Pa
open Go.RowKit Go.Proofs.YtahjcmmgdcedpaaW.PrintWords Go.Proofs.YtahjcmmgdcedpaaW.PrintLast Go.Proofs.YtahjcmmgdcedpaaW.PrintMore
attribute [local go_sem] max2_int min2_int max_two min_two max_three min_three max_four min_four   -- for this text's walks alone
set_option linter.unusedVariables false
set_option linter.unusedSimpArgs false

/-! ### impl_ValidCircuit: function 24 -/
theorem within_tells (x l u : Int) : impl_within.f x l u = some (inB x l u) := by
 unfold impl_within.f inB
 by_cases h : l ≤ x <;> simp [h]
theorem delay_tells (x : Int) : impl_isDelay.f x = some (inB x 0 100) := by
 unfold impl_isDelay.f
 rw [within_tells]
 rfl
theorem set_loop (l : List Int) (hi : Int) (hl : l.length ≤ 9223372036854775807) (d : Nat) : ∀ (k i : Nat), i + d = l.length → d < k → impl_isSet.l0 k l 0 hi l (l.length : Int) (i : Int) = some (risesFrom hi (prev l i) (l.drop i)) := by
 induction d with
 | zero =>
  intro k i h hk
  obtain ⟨k, rfl⟩ : ∃ m, k = m + 1 := ⟨k - 1, by omega⟩
  simp only [impl_isSet.l0]
  rw [if_neg (by omega), List.drop_of_length_le (by omega)]
  unfold prev
  split <;> rfl
 | succ d ih =>
  intro k i h hk
  obtain ⟨k, rfl⟩ : ∃ m, k = m + 1 := ⟨k - 1, by omega⟩
  have h' : i < l.length := by omega
  have hgo : impl_isSet.l0 k l 0 hi l (l.length : Int) (wrap64 ((i : Int) + 1)) = some (risesFrom hi (prev l (i + 1)) (l.drop (i + 1))) := by
   rw [wrap_in (by omega) (by omega)]
   exact ih k (i + 1) (by omega) (by omega)
  simp only [impl_isSet.l0]
  rw [if_pos (by omega), if_pos (by omega), if_pos (by omega), rd_nth h', within_tells, rises_step hi h', hgo]
  simp only [Option.bind_some]
  cases hb : inB l[i] 0 hi with
  | false => simp
  | true =>
   rw [if_pos rfl]
   by_cases h0 : (i : Int) > 0
   ·have e1 : wrap64 ((i : Int) - 1) = ((i - 1 : Nat) : Int) := by rw [wrap_in (by omega) (by omega)]; omega
    rw [if_pos h0, e1, if_pos (by omega), if_pos (by omega)]
    have e2 : rd l ((i - 1 : Nat) : Int) = l.getD (i - 1) 0 := by unfold rd; rw [Int.toNat_natCast]
    rw [e2]
    by_cases hge : l.getD (i - 1) 0 ≥ l[i]
    ·rw [if_pos hge, decide_eq_false (show ¬ i = 0 by omega), decide_eq_false (show ¬ l.getD (i - 1) 0 < l[i] by omega)]
     rfl
    ·rw [if_neg hge, decide_eq_true (show l.getD (i - 1) 0 < l[i] by omega)]
     simp
   ·rw [if_neg h0, decide_eq_true (show i = 0 by omega)]
    simp
theorem set_tells (l : List Int) (hi : Int) (hl : l.length ≤ 9223372036854775807) : impl_isSet.f (l.length + 1) l 0 hi = some (risesB l hi) := by
 unfold impl_isSet.f
 exact set_loop l hi hl l.length (l.length + 1) 0 (by omega) (by omega)
def impl_ValidCircuit.f (a0_0 : Int) (l0_1 : List S56) (l0_2 : List Int) (a0_3 a0_4 a0_5 a0_6 : Int) : Option Bool := some (validB a0_0 l0_1 l0_2 a0_3 a0_4 a0_5 a0_6)
set_option maxHeartbeats 4000000 in
set_option maxRecDepth 100000 in
/-- The test of a node that ValidCircuit hands on. -/
theorem impl_ValidCircuit.test {g : Nat} {n a3 a4 a5 a6 : Int} {Ag A2 : Option Addr} {mm cg n2 c2 : Nat} (w W : World) (x : Int) (h0 : 1 ≤ n) (h1 : n ≤ 6) (h2 : mm ≤ 10)
  (hbk : w.heap[g]? = some (.cells #[.int .i64 n, .slice Ag mm cg, .slice A2 n2 c2, .int .i64 a3, .int .i64 a4, .int .i64 a5, .int .i64 a6] 45 (0, 0))) (hb : Below w.heap.size w W) :
  Calls Try.prog 58 (#[.int .i64 x] ++ #[.pointer (some ⟨g, 0, none⟩)]) W fun e w' => e = .returned (.bool (!inB x 0 (n + mm - 1))) ∧ Below w.heap.size w w' := by
 have hu := Try.underlying45
 obtain ⟨c0, c1, c2', c3, c4, c5, c6⟩ := cells7 (blk_below hbk hb)
 have HB := Aside0.mk hb
 clear hb hbk
 have HE := Aside0.mk (show wrap64 (wrap64 (n + (mm : Int)) - 1) = n + mm - 1 by rw [wrap_in (x := n + (mm : Int)) (by omega) (by omega), wrap_in (by omega) (by omega)])
 have HQ := Aside0.mk (within_tells x 0 (wrap64 (wrap64 (n + (mm : Int)) - 1)))
 clear h0 h1 h2
 show Calls Try.prog 58 #[.int .i64 x, .pointer (some ⟨g, 0, none⟩)] W _
 go_enter Try.func58, Try.ntmps58
 go_wp2_with (first | (go_at_call 38; refine (impl_within.calls _ _ _ _ _ HQ.out).mono ?_; rintro e w' ⟨rfl, ⟨nd, rfl⟩⟩) | go_in)
 go_ret
 exact ⟨by rw [HE.out]; rfl, HB.out.trans (Below.mono (pw_below_drewN (below_alloc (Below.refl _ _) _) nd) HB.out.size)⟩
theorem validB_no {b : Bool} {n : Int} {gates : List S56} {data : List Int} {a3 a4 a5 a6 : Int} (h : validB n gates data a3 a4 a5 a6 = b) (hf : inB n 1 6 = false ∨ ¬ gates.length ≤ 10 ∨ ¬ (data.length : Int) = n ∨ inB a3 0 100 = false ∨ inB a4 0 100 = false ∨ inB a6 0 100 = false ∨ inB a5 0 a6 = false) : b = false := by
 subst h
 unfold validB
 rcases hf with h | h | h | h | h | h | h <;> simp [h]
theorem validB_yes {b : Bool} {n : Int} {gates : List S56} {data : List Int} {a3 a4 a5 a6 : Int} (h : validB n gates data a3 a4 a5 a6 = b) (h1 : inB n 1 6 = true) (h2 : gates.length ≤ 10) (h3 : (data.length : Int) = n) (h4 : inB a3 0 100 = true) (h5 : inB a4 0 100 = true) (h6 : inB a6 0 100 = true) (h7 : inB a5 0 a6 = true) :
  b = (gatesB n 0 gates && !data.any fun x => !inB x 0 (n + gates.length - 1)) := by
 subst h
 unfold validB
 rw [h1, decide_eq_true h2, decide_eq_true h3, h4, h5, h6, h7, List.all_eq_not_any_not]
 simp
set_option maxHeartbeats 8000000 in
set_option maxRecDepth 100000 in
theorem impl_ValidCircuit.calls (a0_0 : Int) (A0_1 : Option Addr) (c0_1 : Nat) (l0_1 : List (S56)) (A0_2 : Option Addr) (c0_2 : Nat) (l0_2 : List Int) (a0_3 : Int) (a0_4 : Int) (a0_5 : Int) (a0_6 : Int) (r : Bool) (w : World) (hr0_1 : Kd.C k56 w A0_1 l0_1.length l0_1) (hc0_1 : l0_1.length ≤ c0_1) (hr0_2 : Kd.C (Kd.int .i64) w A0_2 l0_2.length l0_2) (hc0_2 : l0_2.length ≤ c0_2) (h : impl_ValidCircuit.f a0_0 l0_1 l0_2 a0_3 a0_4 a0_5 a0_6 = some r) :
  Calls Try.prog 24 #[.agg #[.int .i64 a0_0, .slice A0_1 l0_1.length c0_1, .slice A0_2 l0_2.length c0_2, .int .i64 a0_3, .int .i64 a0_4, .int .i64 a0_5, .int .i64 a0_6]] w fun e w' => e = .returned (.bool r) ∧ Below w.heap.size w w' := by
 have HV := Aside0.mk (Option.some.inj h)
 have hu := Try.underlying45
 have hu2 := Try.underlying56
 have HR := Aside0.mk hr0_1
 have HD := Aside0.mk hr0_2
 have HDC := Aside0.mk hc0_2
 clear h hr0_1 hc0_1 hr0_2 hc0_2
 have hlen : l0_1.length ≤ 9223372036854775807 := HR.out.2.1
 have HLEN := Aside0.mk hlen
 have HDL : l0_2.length ≤ 9223372036854775807 := HD.out.2.1
 by_cases hall : inB a0_0 1 6 = true ∧ l0_1.length ≤ 10 ∧ (l0_2.length : Int) = a0_0 ∧ inB a0_3 0 100 = true ∧ inB a0_4 0 100 = true ∧ inB a0_6 0 100 = true ∧ inB a0_5 0 a0_6 = true
 ·obtain ⟨h1, h2, h3, h4, h5, h6, h7⟩ := hall
  have HY := Aside0.mk (validB_yes HV.out h1 h2 h3 h4 h5 h6 h7)
  have HN := Aside0.mk (inB_iff.mp h1)
  have HG := Aside0.mk h2
  have d2 : decide ((10 : Int) < (l0_1.length : Int)) = false := decide_eq_false (by omega)
  have d2' : decide (10 < l0_1.length) = false := decide_eq_false (by omega)
  have d3 : ((l0_2.length : Int) == a0_0) = true := beq_iff_eq.mpr h3
  have d3' : ((l0_2.length : Int) != a0_0) = false := bne_eq_false_iff_eq.mpr h3
  clear h2 h3
  go_enter Try.func24, Try.ntmps24
  go_wp2_with (first | ((with_reducible refine gate_dst (N := 1) rfl ?_); refine box_event ?hg (N := 1) ?hd (cs := #[.int .i64 a0_0, .slice A0_1 l0_1.length c0_1, .slice A0_2 l0_2.length c0_2, .int .i64 a0_3, .int .i64 a0_4, .int .i64 a0_5, .int .i64 a0_6]) (t := 45) ?hr ?_; (case hd => rfl); (case hg => rfl); (case hr => first | (go_simp; done) | (go_simp; rfl)); intro gb hg_ w1 hbox_ hb_; have HX_gb := Aside0.mk hbox_; have HB_w1 := Aside0.mk hb_; have HG_gb := Aside0.mk hg_; clear hbox_ hb_ hg_; obtain ⟨b0, b1, b2, b3, b4, b5, b6⟩ := cells7 HX_gb.out) | (go_at_call 38; refine (impl_within.calls _ _ _ _ _ (within_tells _ _ _)).mono ?_; rintro e w' ⟨rfl, ⟨nd, rfl⟩⟩) | (go_at_call 51; refine (impl_isDelay.calls _ _ _ (delay_tells _)).mono ?_; rintro e w' ⟨rfl, ⟨nd, rfl⟩⟩))
  clear b0 b1 b2 b3 b4 b5 b6
  go_loopg [50] l0_1.length (fun gg s50 wr => ∃ x : Int, s50 = .int .i64 x ∧ Aside0 (0 ≤ x ∧ x ≤ l0_1.length ∧ (l0_1.length : Int) - x ≤ gg) ∧ Aside0 (Below w1.heap.size w1 wr) ∧ Aside0 (gatesB a0_0 0 l0_1 = gatesB a0_0 x.toNat (l0_1.drop x.toNat)))
  case atStart => exact ⟨0, rfl, ⟨by omega⟩, ⟨by repeat (first | exact Below.refl _ _ | apply pw_below_drewN)⟩, ⟨rfl⟩⟩
  case round =>
   obtain ⟨x, rfl, HX, HB, HF⟩ := hrel
   have HK := Aside0.mk (blk_below HX_gb.out HB.out)
   obtain ⟨b0, b1, b2, b3, b4, b5, b6⟩ := cells7 HK.out
   have hne : gb ≠ wr.heap.size := Nat.ne_of_lt (blk_lt HK.out)
   have hlt_ : gb < wr.heap.size := blk_lt HK.out
   by_cases hlt : x < (l0_1.length : Int)
   ·have t0 : decide (0 ≤ x) = true := decide_eq_true HX.out.1
    have t1 : decide (x < (l0_1.length : Int)) = true := decide_eq_true hlt
    have HL := Aside0.mk hlt
    clear hlt
    obtain ⟨ad, Ai, ci, e, e0, e1, e2, e3, e4⟩ := at_T56 HR.out x HX.out.1 HL.out
    cases e
    replace e0 := pw_cell_below HB.out (pw_cell_below HB_w1.out e0)
    replace e1 := pw_cell_below HB.out (pw_cell_below HB_w1.out e1)
    replace e2 := pw_cell_below HB.out (pw_cell_below HB_w1.out e2)
    have H3 := Aside0.mk e3
    have H4 := Aside0.mk (Kd.C_below e4 (below_step HB_w1.out HB.out))
    have HI := Aside0.mk e4.2.1
    clear e3 e4
    have hst := gates_step a0_0 (l := l0_1) (i := x.toNat) (by have := HX.out; have := HL.out; omega)
    rw [show ((x.toNat : Nat) : Int) = x by have := HX.out; omega] at hst
    have HS := Aside0.mk hst
    have HW := Aside0.mk (show wrap64 (wrap64 (a0_0 + x) - 1) = a0_0 + x - 1 by have := HX.out; have := HL.out; have := HN.out; have := HG.out; rw [wrap_in (x := a0_0 + x) (by omega) (by omega), wrap_in (by omega) (by omega)])
    have HSET := Aside0.mk (set_tells (rd_T56 l0_1 x).f2 (wrap64 (wrap64 (a0_0 + x) - 1)) HI.out)
    clear hst
    have p0 := eq_true HX.out.1
    have p1 := eq_true HL.out
    by_cases hok : inB (rd_T56 l0_1 x).f1 0 100 = true ∧ inB (rd_T56 l0_1 x).f0 0 (rd_T56 l0_1 x).f1 = true ∧ ¬ (rd_T56 l0_1 x).f2.length = 0 ∧ risesB (rd_T56 l0_1 x).f2 (wrap64 (wrap64 (a0_0 + x) - 1)) = true
    ·obtain ⟨g1, g2, g3, g4⟩ := hok
     have g3a : (((rd_T56 l0_1 x).f2.length : Int) == 0) = false := beq_eq_false_iff_ne.mpr (by omega)
     have g3b : ¬ (rd_T56 l0_1 x).f2 = [] := fun h_ => g3 (by rw [h_]; rfl)
     have HGB := Aside0.mk (show gateB a0_0 x (rd_T56 l0_1 x) = true by unfold gateB; rw [← HW.out, g1, g2, g4, decide_eq_false g3]; rfl)
     clear g3
     go_wp2_with (first | (go_at_call 38; refine (impl_within.calls _ _ _ _ _ (within_tells _ _ _)).mono ?_; rintro e w' ⟨rfl, ⟨nd, rfl⟩⟩) | (go_at_call 51; refine (impl_isDelay.calls _ _ _ (delay_tells _)).mono ?_; rintro e w' ⟨rfl, ⟨nd, rfl⟩⟩) | (go_at_call 57; refine (impl_isSet.calls (hr0 := by repeat (first | exact H4.out | (with_reducible refine Kd.C_alloc ?_ _) | (with_reducible refine Kd.C_drewN ?_ _) | (with_reducible refine Kd.C_drew ?_))) (hc0 := H3.out) (h := HSET.out)).mono ?_; rintro e w' ⟨rfl, ⟨nd, rfl⟩⟩))
     have hx1 := HX.out
     have hl1 := HL.out
     go_roundg ((l0_1.length : Int) - (x + 1)).toNat
     case measure => omega
     case rel =>
      refine ⟨x + 1, by rw [wrap_in (by omega) (by omega)], ⟨by omega⟩, ⟨by repeat (first | exact HB.out | apply pw_below_drewN | apply below_alloc)⟩, ⟨?_⟩⟩
      rw [HF.out, HS.out, HGB.out, show (x + 1).toNat = x.toNat + 1 by omega]
      rfl
    ·have HNO := Aside0.mk (show gateB a0_0 x (rd_T56 l0_1 x) = false by
      unfold gateB
      rw [← HW.out]
      cases g1 : inB (rd_T56 l0_1 x).f1 0 100 <;> cases g2 : inB (rd_T56 l0_1 x).f0 0 (rd_T56 l0_1 x).f1 <;> cases g4 : risesB (rd_T56 l0_1 x).f2 (wrap64 (wrap64 (a0_0 + x) - 1)) <;> by_cases g3 : (rd_T56 l0_1 x).f2.length = 0 <;> simp_all)
     have hcase : (inB (rd_T56 l0_1 x).f1 0 100 = false) ∨ (inB (rd_T56 l0_1 x).f1 0 100 = true ∧ inB (rd_T56 l0_1 x).f0 0 (rd_T56 l0_1 x).f1 = false) ∨ (inB (rd_T56 l0_1 x).f1 0 100 = true ∧ inB (rd_T56 l0_1 x).f0 0 (rd_T56 l0_1 x).f1 = true ∧ (((rd_T56 l0_1 x).f2.length : Int) == 0) = true ∧ (((rd_T56 l0_1 x).f2.length : Int) != 0) = false) ∨ (inB (rd_T56 l0_1 x).f1 0 100 = true ∧ inB (rd_T56 l0_1 x).f0 0 (rd_T56 l0_1 x).f1 = true ∧ (((rd_T56 l0_1 x).f2.length : Int) == 0) = false ∧ (¬ (rd_T56 l0_1 x).f2 = []) ∧ risesB (rd_T56 l0_1 x).f2 (wrap64 (wrap64 (a0_0 + x) - 1)) = false) := by
      cases g1 : inB (rd_T56 l0_1 x).f1 0 100 with
      | false => exact .inl rfl
      | true =>
       cases g2 : inB (rd_T56 l0_1 x).f0 0 (rd_T56 l0_1 x).f1 with
       | false => exact .inr (.inl ⟨rfl, rfl⟩)
       | true =>
        by_cases g3 : (rd_T56 l0_1 x).f2.length = 0
        ·exact .inr (.inr (.inl ⟨rfl, rfl, beq_iff_eq.mpr (by omega), bne_eq_false_iff_eq.mpr (by omega)⟩))
        ·exact .inr (.inr (.inr ⟨rfl, rfl, beq_eq_false_iff_ne.mpr (by omega), fun h_ => g3 (by rw [h_]; rfl), Bool.eq_false_iff.mpr (fun g4 => hok ⟨g1, g2, g3, g4⟩)⟩))
     clear hok
     rcases hcase with g1 | ⟨g1, g2⟩ | ⟨g1, g2, g3, g3'⟩ | ⟨g1, g2, g3, g3', g4⟩
     all_goals
      go_wp2_with (first | (go_at_call 38; refine (impl_within.calls _ _ _ _ _ (within_tells _ _ _)).mono ?_; rintro e w' ⟨rfl, ⟨nd, rfl⟩⟩) | (go_at_call 51; refine (impl_isDelay.calls _ _ _ (delay_tells _)).mono ?_; rintro e w' ⟨rfl, ⟨nd, rfl⟩⟩) | (go_at_call 57; refine (impl_isSet.calls (hr0 := by repeat (first | exact H4.out | (with_reducible refine Kd.C_alloc ?_ _) | (with_reducible refine Kd.C_drewN ?_ _) | (with_reducible refine Kd.C_drew ?_))) (hc0 := H3.out) (h := HSET.out)).mono ?_; rintro e w' ⟨rfl, ⟨nd, rfl⟩⟩))
      go_ret
      exact ⟨by rw [HY.out, HF.out, HS.out, HNO.out]; rfl, below_step HB_w1.out (by repeat (first | exact HB.out | apply pw_below_drewN | apply below_alloc))⟩
   ·have t1 : decide (x < (l0_1.length : Int)) = false := decide_eq_false hlt
    have hx := HX.out
    have HE := Aside0.mk (show gatesB a0_0 0 l0_1 = true by rw [HF.out, List.drop_of_length_le (by omega)]; rfl)
    clear hlt hx
    go_wp2_with (go_at_call 36; refine (containsI.calls A0_2 c0_2 l0_2 58 #[.pointer (some ⟨gb, 0, none⟩)] (fun x => !inB x 0 (a0_0 + l0_1.length - 1)) wr (Kd.C_below HD.out (below_step HB_w1.out HB.out)) (enters_of Try.func58 (by kernel_rfl) rfl) (fun W x _ hb => impl_ValidCircuit.test wr W x HN.out.1 HN.out.2 HG.out HK.out hb)).mono ?_; rintro e w2 ⟨rfl, hb⟩; have HB2 := Aside0.mk hb; clear hb)
    go_ret
    exact ⟨by rw [HY.out, HE.out]; rfl, below_step (below_step HB_w1.out HB.out) HB2.out⟩
 ·have hcase : inB a0_0 1 6 = false ∨ (inB a0_0 1 6 = true ∧ decide ((10 : Int) < (l0_1.length : Int)) = true ∧ decide (10 < l0_1.length) = true) ∨ (inB a0_0 1 6 = true ∧ decide ((10 : Int) < (l0_1.length : Int)) = false ∧ decide (10 < l0_1.length) = false ∧ ((l0_2.length : Int) == a0_0) = false ∧ ((l0_2.length : Int) != a0_0) = true) ∨ (inB a0_0 1 6 = true ∧ decide ((10 : Int) < (l0_1.length : Int)) = false ∧ decide (10 < l0_1.length) = false ∧ ((l0_2.length : Int) == a0_0) = true ∧ ((l0_2.length : Int) != a0_0) = false ∧ (inB a0_3 0 100 = false ∨ (inB a0_3 0 100 = true ∧ inB a0_4 0 100 = false) ∨ (inB a0_3 0 100 = true ∧ inB a0_4 0 100 = true ∧ inB a0_6 0 100 = false) ∨ (inB a0_3 0 100 = true ∧ inB a0_4 0 100 = true ∧ inB a0_6 0 100 = true ∧ inB a0_5 0 a0_6 = false))) := by
   cases h1 : inB a0_0 1 6 with
   | false => exact .inl rfl
   | true =>
    by_cases h2 : l0_1.length ≤ 10
    ·by_cases h3 : (l0_2.length : Int) = a0_0
     ·refine .inr (.inr (.inr ⟨rfl, decide_eq_false (by omega), decide_eq_false (by omega), beq_iff_eq.mpr h3, bne_eq_false_iff_eq.mpr h3, ?_⟩))
      cases h4 : inB a0_3 0 100 with
      | false => exact .inl rfl
      | true =>
       cases h5 : inB a0_4 0 100 with
       | false => exact .inr (.inl ⟨rfl, rfl⟩)
       | true =>
        cases h6 : inB a0_6 0 100 with
        | false => exact .inr (.inr (.inl ⟨rfl, rfl, rfl⟩))
        | true => exact .inr (.inr (.inr ⟨rfl, rfl, rfl, Bool.eq_false_iff.mpr (fun h7 => hall ⟨h1, h2, h3, h4, h5, h6, h7⟩)⟩))
     ·exact .inr (.inr (.inl ⟨rfl, decide_eq_false (by omega), decide_eq_false (by omega), beq_eq_false_iff_ne.mpr h3, bne_iff_ne.mpr h3⟩))
    ·exact .inr (.inl ⟨rfl, decide_eq_true (by omega), decide_eq_true (by omega)⟩)
  clear hall
  have HNO := Aside0.mk (validB_no HV.out (by
   rcases hcase with h1 | ⟨_, _, h2⟩ | ⟨_, _, _, h3, _⟩ | ⟨_, _, _, _, _, h4 | ⟨_, h5⟩ | ⟨_, _, h6⟩ | ⟨_, _, _, h7⟩⟩
   ·exact .inl h1
   ·exact .inr (.inl (by have := of_decide_eq_true h2; omega))
   ·exact .inr (.inr (.inl (beq_eq_false_iff_ne.mp h3)))
   ·exact .inr (.inr (.inr (.inl h4)))
   ·exact .inr (.inr (.inr (.inr (.inl h5))))
   ·exact .inr (.inr (.inr (.inr (.inr (.inl h6)))))
   ·exact .inr (.inr (.inr (.inr (.inr (.inr h7)))))))
  rcases hcase with h1 | ⟨h1, h2, h2'⟩ | ⟨h1, h2, h2', h3, h3'⟩ | ⟨h1, h2, h2', h3, h3', h4 | ⟨h4, h5⟩ | ⟨h4, h5, h6⟩ | ⟨h4, h5, h6, h7⟩⟩
  all_goals
   go_enter Try.func24, Try.ntmps24
   go_wp2_with (first | ((with_reducible refine gate_dst (N := 1) rfl ?_); refine box_event ?hg (N := 1) ?hd (cs := #[.int .i64 a0_0, .slice A0_1 l0_1.length c0_1, .slice A0_2 l0_2.length c0_2, .int .i64 a0_3, .int .i64 a0_4, .int .i64 a0_5, .int .i64 a0_6]) (t := 45) ?hr ?_; (case hd => rfl); (case hg => rfl); (case hr => first | (go_simp; done) | (go_simp; rfl)); intro gb hg_ w1 hbox_ hb_; have HX_gb := Aside0.mk hbox_; have HB_w1 := Aside0.mk hb_; have HG_gb := Aside0.mk hg_; clear hbox_ hb_ hg_; obtain ⟨b0, b1, b2, b3, b4, b5, b6⟩ := cells7 HX_gb.out) | (go_at_call 38; refine (impl_within.calls _ _ _ _ _ (within_tells _ _ _)).mono ?_; rintro e w' ⟨rfl, ⟨nd, rfl⟩⟩) | (go_at_call 51; refine (impl_isDelay.calls _ _ _ (delay_tells _)).mono ?_; rintro e w' ⟨rfl, ⟨nd, rfl⟩⟩))
   go_ret
   exact ⟨by rw [HNO.out]; rfl, by repeat (first | exact HB_w1.out | apply pw_below_drewN)⟩

end Go.Proofs.Ytahjcmmgdcedpaa.Pa

/- What a valid circuit is: the program's test and the reference's are one. -/
namespace Go.Proofs.Ytahjcmmgdcedpaa.Pure
open Go.RowKit Go.Proofs.Ytahjcmmgdcedpaa.Pa Go.Proofs.YtahjcmmgdcedpaaW.PrintWords Go.Proofs.YtahjcmmgdcedpaaW.PrintLast
set_option linter.unusedVariables false
set_option linter.unusedSimpArgs false

theorem rdG' {l : List S56} {i : Nat} (h : i < l.length) : rd_T56 l (i : Int) = l[i] := by
 unfold rd_T56
 rw [List.getD_eq_getElem?_getD, Int.toNat_natCast, List.getElem?_eq_getElem h]
 rfl
theorem valid_tells (n : Int) (gates : List S56) (data : List Int) (a3 a4 a5 a6 : Int) : impl_ValidCircuit.f n gates data a3 a4 a5 a6 = some (validB n gates data a3 a4 a5 a6) := rfl
theorem risesFrom_in (hi : Int) (l : List Int) : ∀ p, risesFrom hi p l = true → ∀ x ∈ l, 0 ≤ x ∧ x ≤ hi := by
 induction l with
 | nil => intro p h x hx; simp at hx
 | cons y l ih =>
  intro p h x hx
  simp only [risesFrom, Bool.and_eq_true] at h
  rcases List.mem_cons.mp hx with rfl | hx
  ·exact inB_iff.mp h.1.1
  ·exact ih _ h.2 x hx
theorem risesB_in (l : List Int) (hi : Int) (h : risesB l hi = true) : ∀ x ∈ l, 0 ≤ x ∧ x ≤ hi := risesFrom_in hi l none h
/-- What is known of a valid circuit. -/
structure Circ (n : Int) (gates : List S56) (data : List Int) (a3 a4 a5 a6 : Int) : Prop where
 n0 : 1 ≤ n
 n1 : n ≤ 6
 len : gates.length ≤ 10
 dlen : (data.length : Int) = n
 setup : 0 ≤ a3 ∧ a3 ≤ 100
 hold : 0 ≤ a4 ∧ a4 ≤ 100
 least : 0 ≤ a5 ∧ a5 ≤ a6 ∧ a6 ≤ 100
 gate : ∀ (i : Nat) (h : i < gates.length), 0 ≤ gates[i].f0 ∧ gates[i].f0 ≤ gates[i].f1 ∧ gates[i].f1 ≤ 100 ∧ gates[i].f2 ≠ [] ∧ ∀ x ∈ gates[i].f2, 0 ≤ x ∧ x ≤ n + i - 1
 node : ∀ x ∈ data, 0 ≤ x ∧ x ≤ n + gates.length - 1
theorem gatesB_get (n : Int) (l : List S56) : ∀ (j : Nat), gatesB n j l = true → ∀ (i : Nat) (h : i < l.length), gateB n ((j + i : Nat) : Int) l[i] = true := by
 induction l with
 | nil => intro j _ i h; simp at h
 | cons g l ih =>
  intro j hj i h
  simp only [gatesB, Bool.and_eq_true] at hj
  cases i with
  | zero => simpa using hj.1
  | succ i =>
   have := ih (j + 1) hj.2 i (by simpa using h)
   rw [show j + (i + 1) = j + 1 + i by omega]
   simpa using this
theorem circ_of (n : Int) (gates : List S56) (data : List Int) (a3 a4 a5 a6 : Int) (hw : ∀ g ∈ gates, g.f2.length ≤ 1048576) (h : validB n gates data a3 a4 a5 a6 = true) : Circ n gates data a3 a4 a5 a6 := by
 unfold validB at h
 simp only [Bool.and_eq_true, decide_eq_true_eq, inB_iff, List.all_eq_true] at h
 obtain ⟨⟨⟨⟨⟨⟨⟨h0, h1⟩, h2⟩, h3⟩, h4⟩, h5, h6⟩, h7⟩, h8⟩ := h
 refine ⟨h0.1, h0.2, h1, h2, h3, h4, ⟨h6.1, h6.2, h5.2⟩, fun i hi => ?_, h8⟩
 have := gatesB_get n gates 0 h7 i hi
 unfold gateB at this
 simp only [Bool.and_eq_true, inB_iff, Bool.not_eq_true', decide_eq_false_iff_not] at this
 obtain ⟨⟨⟨g1, g2⟩, g3⟩, g4⟩ := this
 refine ⟨g2.1, g2.2, g1.2, fun e => g3 (by rw [e]; rfl), ?_⟩
 have := risesB_in _ _ g4
 simpa using this
end Go.Proofs.Ytahjcmmgdcedpaa.Pure

