-- Written for this claim by a program of this session.
import Derived.Test.YtmipelgjmmgmnaaDoorPax0
import Derived.Test.YtmipelgjmmgmnaaDoorPaxaside
namespace Go.Proofs.YtmipelgjmmgmnaaDoor.Pa
open Go.RowKit Go.Proofs.YtmipelgjmmgmnaaDoorW.PrintWords Go.Proofs.YtmipelgjmmgmnaaDoorW.PrintLast Go.Proofs.YtmipelgjmmgmnaaDoorW.PrintMore
attribute [local go_sem] max2_int min2_int max_two min_two max_three min_three max_four min_four   -- for this text's walks alone
set_option linter.unusedVariables false
set_option linter.unusedSimpArgs false

/-! ### AUX strbox -/
/-- A cell of a block of one cell that is known whole. -/
theorem cell1 {w : World} {g : Nat} {t : TypeId} {v : Value} (h : w.heap[g]? = some (.cells #[v] t (0, 0))) : w.cell? ⟨g, 0, none⟩ = some v := (blk_cell h 0).trans rfl
theorem put1 {w : World} {g : Nat} {t : TypeId} {v : Value} (h : w.heap[g]? = some (.cells #[v] t (0, 0))) (u : Value) : (w.setCell ⟨g, 0, none⟩ u).heap[g]? = some (.cells #[u] t (0, 0)) := (blk_set h 0 u).trans rfl
/-- A block of the elder world stays where all below its size stays. -/
theorem blk_stays {M : Nat} {w w1 : World} {g : Nat} {o : Obj} (h : w.heap[g]? = some o) (hg : g < M) (hb : Below M w w1) : w1.heap[g]? = some o := (hb.block g hg).trans h
theorem keepPut (W : World) (g nd nq : Nat) (v : Value) : KeepBut W (((W.drewN nd).setCell ⟨g, 0, none⟩ v).drewN nq) g none :=
  ⟨by show W.heap.size ≤ ((W.drewN nd).setCell ⟨g, 0, none⟩ v).heap.size; simp [World.setCell], fun i _ hne _ => Below.heap_setCell (W.drewN nd) ⟨g, 0, none⟩ v i hne⟩
theorem keepN (W : World) (g n : Nat) : KeepBut W (W.drewN n) g none := KeepBut.of_below (pw_below_drewN (Below.refl _ W) n) _ _
theorem side_drewN {B M : Nat} {W w : World} (h : Side B M W w) (n : Nat) : Side B M W (w.drewN n) := h.trans (Side.of_below (pw_below_drewN (Below.refl _ w) n))
theorem keepTrans {w a b : World} {g : Nat} (h : KeepBut w a g none) (k : KeepBut a b g none) : KeepBut w b g none := ⟨Nat.le_trans h.1 k.1, fun i hi hne hr => (k.2 i (Nat.lt_of_lt_of_le hi h.1) hne hr).trans (h.2 i hi hne hr)⟩
theorem keepBelow {w a b : World} {g : Nat} (h : KeepBut w a g none) (k : Below w.heap.size a b) : KeepBut w b g none := ⟨Nat.le_trans h.1 k.size, fun i hi hne hr => (k.block i hi).trans (h.2 i hi hne hr)⟩

end Go.Proofs.YtmipelgjmmgmnaaDoor.Pa
