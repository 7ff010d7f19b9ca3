-- Written for this claim by a program of this session.
import Derived.Test.YtkdijegkoajdgaaFKFPaxf3
import Derived.Test.YtkdijegkoajdgaaFCoreF1
/- FallingRing answers as the reference does, for all arguments, and its answers share no memory. -/
namespace Go.Proofs.Ytkdijegkoajdgaa.Pure
open Go.RowKit Go.Proofs.Ytkdijegkoajdgaa.Pa Go.Proofs.YtkdijegkoajdgaaW.PrintWords Go.Proofs.YtkdijegkoajdgaaW.PrintLast
set_option linter.unusedVariables false
set_option linter.unusedSimpArgs false

theorem ringL_total (l : List S53) (rec : List Int → Int → Option (Option (List Int))) (ls : List Int) (hrec : ∀ x s, ∃ q, rec (ls ++ [x]) s = some q) : ∀ d i s, ∃ q, ringL l rec d i ls s = some q := by
 intro d
 induction d with
 | zero => intro i s; exact ⟨none, rfl⟩
 | succ d ih =>
  intro i s
  unfold ringL
  split
  ·exact ih _ _
  ·obtain ⟨q, hq⟩ := hrec (i : Int) (wrap64 (s + (rd_T53 l (i : Int)).f2))
   rw [hq]
   cases q with
   | some x => exact ⟨some x, rfl⟩
   | none => exact ih _ _
theorem ringP_total (l : List S53) (m : Nat) : ∀ r ls s, ls.length ≤ m → m < ls.length + r → ∃ q, ringP l m r ls s = some q := by
 intro r
 induction r with
 | zero => intro ls s h1 h2; omega
 | succ r ih =>
  intro ls s h1 h2
  unfold ringP
  split
  ·exact ⟨_, rfl⟩
  ·exact ringL_total l _ ls (fun x s' => ih (ls ++ [x]) s' (by simp; omega) (by simp; omega)) _ _ _
theorem frLoop_total (l : List S53) : ∀ d m, ∃ r b, frLoop l d m = some (r, b) ∧ r.length ≤ m + d := by
 intro d
 induction d with
 | zero => intro m; exact ⟨[], false, rfl, by simp⟩
 | succ d ih =>
  intro m
  obtain ⟨q, hq⟩ := ringP_total l m (m + 1) [] 0 (Nat.zero_le _) (by simp)
  unfold frLoop
  rw [hq]
  cases q with
  | some x => exact ⟨x, true, rfl, by rw [ringP_len _ _ _ _ _ _ hq]; omega⟩
  | none =>
   obtain ⟨r, b, h, hl⟩ := ih (m + 1)
   exact ⟨r, b, h, by omega⟩
theorem frF_total (n : Int) (l : List S53) : ∃ r b, frF n l = some (r, b) ∧ r.length ≤ 20 := by
 unfold frF
 split
 ·split
  ·exact ⟨[], false, rfl, by simp⟩
  ·obtain ⟨r, b, h, hl⟩ := frLoop_total l (n - 1).toNat 2
   exact ⟨r, b, h, by omega⟩
 ·exact ⟨[], false, rfl, by simp⟩
theorem FnExactFallingRing : laws_FnExactFallingRing.Pure := by
 intro n l _ hl
 by_cases h : 1048576 < l.length
 ·refine ⟨0, ?_⟩
  unfold laws_FnExactFallingRing.f
  rw [szDia n l hl.1, if_pos h]
  simp only [Option.bind_some]
  rw [if_pos (by omega)]
 ·obtain ⟨r, o, hA, hr⟩ := frF_total n (l.map convB)
  have s1 : spec_FallingRing.f n (l.map convB) = some (r, o) := hA
  have i1 : impl_FallingRing.f n (l.map convB) = some (r, o) := hA
  generalize hq : l.length + 1000 = q
  refine ⟨q + 3, ?_⟩
  have hm : (l.map convB).length = l.length := by simp
  have t1 := toDia n l (by omega) (q + 3) (by omega)
  have t2 := toDia n l (by omega) (q + 2) (by omega)
  have t3 := toDia n l (by omega) (q + 1) (by omega)
  have e1 := eqDia n (l.map convB) (by omega) (q + 2) (by omega)
  have mb := markB (l.map convB) (by omega) (q + 2) (by omega)
  have x1 := eqI r (by omega) (q + 3) (by omega)
  have x2 := eqI r (by omega) (q + 2) (by omega)
  have x3 := eqI r (by omega) (q + 1) (by omega)
  have m1 := markI r (by omega) (q + 1) (by omega)
  have h1 := heldI r.length (by omega) (q + 1) (by omega)
  have h2 := heldI r.length (by omega) q (by omega)
  unfold laws_FnExactFallingRing.f
  rw [szDia n l hl.1, if_neg h]
  simp only [Option.bind_some]
  rw [if_neg (by omega), t1]
  simp only [Option.bind_some]
  rw [s1]
  simp only [Option.bind_some]
  rw [i1]
  simp only [Option.bind_some]
  rw [x1]
  simp only [Option.bind_some, if_true, bne_self_eq_false]
  simp only [laws_FnExactFallingRing.j0, Bool.false_eq_true, if_false]
  rw [t2]
  simp only [Option.bind_some]
  rw [e1]
  simp only [Option.bind_some, if_true]
  unfold laws_markDiagram.f
  rw [mb]
  simp only [Option.bind_some]
  rw [if_neg (by omega), x2]
  simp only [Option.bind_some, if_true]
  simp only [laws_FnExactFallingRing.j1, bne_self_eq_false, Bool.false_eq_true, if_false]
  rw [m1]
  simp only [Option.bind_some]
  rw [h1]
  simp only [Option.bind_some]
  have hz : ¬ (1 + (r.length : Int) < 0) := by omega
  simp only [if_neg hz, if_true]
  rw [t3]
  simp only [Option.bind_some]
  rw [i1]
  simp only [Option.bind_some]
  rw [x3]
  simp only [Option.bind_some, if_true, bne_self_eq_false]
  simp only [laws_FnExactFallingRing.j2, Bool.false_eq_true, if_false]
  rw [h2]
  simp only [Option.bind_some]
  simp only [if_neg hz, if_true]
end Go.Proofs.Ytkdijegkoajdgaa.Pure
