-- Written for this claim by a program of this session.
import Derived.Test.YtbgokpobaemibaaDoorCore2
import Derived.Test.YtbgokpobaemibaaDoorKPureMarkB
import Derived.Test.YtbgokpobaemibaaDoorKPaxf4
/- For every text the law of ReadDiagram answers yes. -/
namespace Go.Proofs.YtbgokpobaemibaaDoor.Pure
open Go.RowKit Go.Proofs.YtbgokpobaemibaaDoor.Pa Go.Proofs.YtbgokpobaemibaaDoorW.PrintWords Go.Proofs.YtbgokpobaemibaaDoorW.PrintLast Go.Proofs.YtbgokpobaemibaaDoorW.PrintMore
set_option linter.unusedVariables false
set_option linter.unusedSimpArgs false

theorem boundsFrom_get : ∀ (n : Nat) (a : Int) (i : Nat) (h : i < (boundsFrom a n).length), (boundsFrom a n)[i] = ⟨a + 3 * i, a + 3 * i + 1, a + 3 * i + 2⟩
 | 0, a, i, h => absurd h (by simp [boundsFrom])
 | n + 1, a, 0, h => by simp [boundsFrom]
 | n + 1, a, i + 1, h => by
  have h' : i < (boundsFrom (a + 3) n).length := by simpa [boundsFrom] using h
  have ih := boundsFrom_get n (a + 3) i h'
  show (boundsFrom (a + 3) n)[i] = _
  rw [ih]
  have : a + 3 + 3 * (i : Int) = a + 3 * ((i + 1 : Nat) : Int) := by push_cast; omega
  rw [this]
theorem heldB_loop (n : Nat) (hn : n ≤ 1000) : ∀ (d i k : Nat), i + d = n → d < k → laws_heldBoundS.l0 k (boundsFrom 1 n) (1 + 3 * (i : Int)) (i : Int) = some (1 + 3 * (n : Int))
 | 0, i, k, h, hk => by
  obtain ⟨k, rfl⟩ : ∃ m, k = m + 1 := ⟨k - 1, by omega⟩
  simp only [laws_heldBoundS.l0]
  rw [if_neg (by rw [boundsFrom_length]; omega), show i = n by omega]
 | d + 1, i, k, h, hk => by
  obtain ⟨k, rfl⟩ : ∃ m, k = m + 1 := ⟨k - 1, by omega⟩
  have hi : i < (boundsFrom 1 n).length := by rw [boundsFrom_length]; omega
  have hg := boundsFrom_get n 1 i hi
  simp only [laws_heldBoundS.l0]
  rw [if_pos (by omega), if_pos (by omega), rdB_get hi, hg]
  dsimp only
  rw [if_pos rfl, wrap_id (x := 1 + 3 * (i : Int) + 1) (by omega) (by omega), if_pos rfl, wrap_id (x := 1 + 3 * (i : Int) + 1 + 1) (by omega) (by omega), if_pos (by omega), wrap_id (x := 1 + 3 * (i : Int) + 1 + 1 + 1) (by omega) (by omega), wrap_id (x := (i : Int) + 1) (by omega) (by omega)]
  have := heldB_loop n hn d (i + 1) k (by omega) (by omega)
  push_cast at this
  rw [show 1 + 3 * (i : Int) + 1 + 1 + 1 = 1 + 3 * ((i : Int) + 1) by omega]
  exact this
theorem heldB (n : Nat) (hn : n ≤ 1000) (k : Nat) (hk : n < k) : laws_heldBoundS.f k (boundsFrom 1 n) 1 = some (1 + 3 * (n : Int)) := by
 unfold laws_heldBoundS.f
 have := heldB_loop n hn n 0 k (by omega) hk
 simpa using this
theorem eqDiaR (n : Int) (l : List S39) (hl : l.length ≤ 4611686018427387904) : ∀ k, l.length < k → laws_eqDiagram.f k n l n l = some true := by
 intro k hk
 unfold laws_eqDiagram.f
 rw [if_pos rfl, eqB l hl k hk]
 simp
theorem FnExactReadDiagram : laws_FnExactReadDiagram.Pure := by
 intro s hs
 by_cases h : s.size ≤ 1048576
 case neg =>
  refine ⟨0, ?_⟩
  unfold laws_FnExactReadDiagram.f
  rw [if_pos (by omega)]
 refine ⟨1002, ?_⟩
 have hsp : spec_ReadDiagram.f s = some (readF s) := by
  unfold spec_ReadDiagram.f
  rw [if_pos (by omega)]
  exact read_same s
 have him : impl_ReadDiagram.f s = some (readF s) := by
  unfold impl_ReadDiagram.f
  rw [if_pos (by omega)]
 have hl := readF_len s
 unfold laws_FnExactReadDiagram.f
 rw [if_neg (by omega), hsp, him]
 generalize readF s = q at hl him
 obtain ⟨n, bs, o⟩ := q
 dsimp only at hl
 simp only [Option.bind_some]
 rw [eqDiaR n bs (by omega) 1002 (by omega)]
 simp only [Option.bind_some, if_true, bne_self_eq_false]
 simp only [laws_FnExactReadDiagram.j0, Bool.false_eq_true, if_false]
 have hm : laws_markDiagram.f 1001 n bs 1 = some (1 + 3 * (bs.length : Int), boundsFrom 1 bs.length) := by
  unfold laws_markDiagram.f
  rw [markB bs (by omega) 1001 (by omega)]
  rfl
 have hh : ∀ k, 100 < k → laws_heldDiagram.f k n (boundsFrom 1 bs.length) 1 = some (1 + 3 * (bs.length : Int)) := by
  intro k hk
  unfold laws_heldDiagram.f
  rw [heldB bs.length (by omega) k (by omega), Option.bind_some, if_neg (by omega)]
 rw [hm, Option.bind_some]
 dsimp only
 rw [hh 1001 (by omega), Option.bind_some, if_neg (by omega), if_pos rfl, him, Option.bind_some, eqDiaR n bs (by omega) 1001 (by omega)]
 simp only [Option.bind_some, if_true, bne_self_eq_false]
 simp only [laws_FnExactReadDiagram.j1, Bool.false_eq_true, if_false]
 rw [hh 1000 (by omega), Option.bind_some, if_neg (by omega), if_pos rfl]
end Go.Proofs.YtbgokpobaemibaaDoor.Pure
