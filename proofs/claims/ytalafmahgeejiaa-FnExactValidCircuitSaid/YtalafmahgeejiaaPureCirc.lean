/- Circuits that a law counts, lays anew and compares. -/
import Derived.Test.YtalafmahgeejiaaPureToI
import Derived.Test.YtalafmahgeejiaaPureEqI
import Derived.Test.YtalafmahgeejiaaPaxf14
import Derived.Test.YtalafmahgeejiaaPaxf16
import Derived.Test.YtalafmahgeejiaaPaxf18
namespace Go.Proofs.Ytalafmahgeejiaa.Pure
open Go.RowKit Go.Proofs.Ytalafmahgeejiaa.Pa Go.Proofs.YtalafmahgeejiaaW.PrintWords Go.Proofs.YtalafmahgeejiaaW.PrintLast
set_option linter.unusedVariables false
set_option linter.unusedSimpArgs false

/-- A gate of the laws as a gate of the program. -/
def convG (g : S89) : S62 := ⟨g.f0, g.f1, g.f2⟩
theorem rdG {l : List S62} {i : Nat} (h : i < l.length) : rd_T62 l (i : Int) = l[i] := by
  unfold rd_T62
  rw [List.getD_eq_getElem?_getD, Int.toNat_natCast, List.getElem?_eq_getElem h]
  rfl
theorem rdGl {l : List S89} {i : Nat} (h : i < l.length) : rd_T89 l (i : Int) = l[i] := by
  unfold rd_T89
  rw [List.getD_eq_getElem?_getD, Int.toNat_natCast, List.getElem?_eq_getElem h]
  rfl
theorem szG_loop (l : List S89) (hl : l.length ≤ 1048576) (hw : ∀ g ∈ l, g.f2.length ≤ 9223372036854775807) (d : Nat) : ∀ (i : Nat) (left : Int), i + d = l.length → 0 ≤ left → left ≤ 1048576 →
    ∃ r : Int, (∀ k, d < k → laws_szGateS.l0 k l left (i : Int) = some r) ∧ r ≤ 1048576 ∧ (0 ≤ r → ∀ g ∈ l.drop i, g.f2.length ≤ 1048576) := by
  induction d with
  | zero =>
    intro i left h h0 h1
    refine ⟨left, fun k hk => ?_, h1, fun _ g hg => ?_⟩
    · obtain ⟨k, rfl⟩ : ∃ m, k = m + 1 := ⟨k - 1, by omega⟩
      simp only [laws_szGateS.l0]
      rw [if_neg (by omega)]
    · rw [List.drop_of_length_le (by omega)] at hg
      simp at hg
  | succ d ih =>
    intro i left h h0 h1
    have hi : i < l.length := by omega
    have hwi := hw l[i] (List.getElem_mem _)
    by_cases hs : left - (l[i].f2.length : Int) < 0
    · refine ⟨-1, fun k hk => ?_, by omega, fun h => by omega⟩
      obtain ⟨k, rfl⟩ : ∃ m, k = m + 1 := ⟨k - 1, by omega⟩
      simp only [laws_szGateS.l0]
      rw [if_pos (by omega), if_pos (by omega), rdGl hi]
      unfold laws_szGate.f laws_szInt64S.f
      rw [wrap_id (by omega) (by omega), if_pos hs]
      simp
    · obtain ⟨r, hr, h2, h3⟩ := ih (i + 1) (left - (l[i].f2.length : Int)) (by omega) (by omega) (by omega)
      refine ⟨r, fun k hk => ?_, h2, fun h0 g hg => ?_⟩
      · obtain ⟨k, rfl⟩ : ∃ m, k = m + 1 := ⟨k - 1, by omega⟩
        simp only [laws_szGateS.l0]
        rw [if_pos (by omega), if_pos (by omega), rdGl hi]
        unfold laws_szGate.f laws_szInt64S.f
        rw [wrap_id (by omega) (by omega), if_neg hs]
        simp only [Option.bind_some]
        rw [if_neg hs]
        simp only [Option.bind_some]
        rw [if_neg hs, wrap_id (by omega) (by omega)]
        have := hr k (by omega)
        push_cast at this
        exact this
      · rw [List.drop_eq_getElem_cons hi] at hg
        rcases List.mem_cons.mp hg with rfl | hg
        · omega
        · exact h3 h0 g hg
/-- What the size tells: a law that goes on speaks of a circuit of few parts. -/
theorem szCir (n : Int) (gates : List S89) (data : List Int) (a3 a4 a5 a6 : Int) (hg : gates.length ≤ 9223372036854775807) (hw : ∀ g ∈ gates, g.f2.length ≤ 9223372036854775807) (hd : data.length ≤ 9223372036854775807) :
    ∃ r : Int, (∀ k, 1048577 < k → laws_szCircuit.f k n gates data a3 a4 a5 a6 1048576 = some r) ∧ (¬ r < 0 → gates.length ≤ 1048576 ∧ (∀ g ∈ gates, g.f2.length ≤ 1048576) ∧ data.length ≤ 1048576) := by
  unfold laws_szCircuit.f laws_szGateS.f
  rw [wrap_id (by omega) (by omega)]
  by_cases h1 : (1048576 : Int) - (gates.length : Int) < 0
  · refine ⟨-1, fun k _ => ?_, fun h => by omega⟩
    rw [if_pos h1]
    simp
  · obtain ⟨r, hr, h2, h3⟩ := szG_loop gates (by omega) hw gates.length 0 (1048576 - (gates.length : Int)) (by omega) (by omega) (by omega)
    by_cases h4 : r < 0
    · refine ⟨-1, fun k hk => ?_, fun h => by omega⟩
      rw [if_neg h1, show (0 : Int) = ((0 : Nat) : Int) from rfl, hr k (by omega)]
      simp only [Option.bind_some]
      rw [show ((0 : Nat) : Int) = 0 from rfl, if_pos h4]
    · by_cases h5 : r - (data.length : Int) < 0
      · refine ⟨-1, fun k hk => ?_, fun h => by omega⟩
        rw [if_neg h1, show (0 : Int) = ((0 : Nat) : Int) from rfl, hr k (by omega)]
        simp only [Option.bind_some]
        rw [show ((0 : Nat) : Int) = 0 from rfl, if_neg h4]
        unfold laws_szInt64S.f
        rw [wrap_id (by omega) (by omega), if_pos h5]
        simp
      · refine ⟨r - (data.length : Int), fun k hk => ?_, fun _ => ⟨by omega, by simpa using h3 (by omega), by omega⟩⟩
        rw [if_neg h1, show (0 : Int) = ((0 : Nat) : Int) from rfl, hr k (by omega)]
        simp only [Option.bind_some]
        rw [show ((0 : Nat) : Int) = 0 from rfl, if_neg h4]
        unfold laws_szInt64S.f
        rw [wrap_id (by omega) (by omega), if_neg h5]
        simp only [Option.bind_some]
        rw [if_neg h5]
theorem toG_loop (l : List S89) (hl : l.length ≤ 1048576) (hw : ∀ g ∈ l, g.f2.length ≤ 1048576) (d : Nat) : ∀ (k : Nat) (acc : List S62) (i : Nat), acc.length = l.length → i + d = l.length → d + 1048577 < k →
    laws_toGateS.l0 k l acc (i : Int) = some (acc.take i ++ (l.drop i).map convG) := by
  induction d with
  | zero =>
    intro k acc i ha h hk
    obtain ⟨k, rfl⟩ : ∃ m, k = m + 1 := ⟨k - 1, by omega⟩
    simp only [laws_toGateS.l0]
    rw [if_neg (by omega), List.take_of_length_le (by omega), List.drop_of_length_le (by omega)]
    simp
  | succ d ih =>
    intro k acc i ha h hk
    obtain ⟨k, rfl⟩ : ∃ m, k = m + 1 := ⟨k - 1, by omega⟩
    have hi : i < l.length := by omega
    simp only [laws_toGateS.l0]
    rw [if_pos (by omega), if_pos (by omega), rdGl hi]
    unfold laws_toGate.f
    rw [toI l[i].f2 (hw _ (List.getElem_mem _)) k (by have := hw l[i] (List.getElem_mem _); omega)]
    simp only [Option.bind_some]
    rw [if_pos (by omega), wrap_id (by omega) (by omega), Int.toNat_natCast]
    have := ih k (acc.set i (convG l[i])) (i + 1) (by simpa using ha) (by omega) (by omega)
    push_cast at this
    show laws_toGateS.l0 k l (acc.set i (convG l[i])) ((i : Int) + 1) = _
    rw [this, List.drop_eq_getElem_cons hi, List.map_cons]
    have ht : (acc.set i (convG l[i])).take (i + 1) = acc.take i ++ [convG l[i]] := by
      rw [List.take_succ_eq_append_getElem (by simp; omega), List.take_set_of_le (by omega)]
      simp
    rw [ht]
    simp
theorem toCir (n : Int) (gates : List S89) (data : List Int) (a3 a4 a5 a6 : Int) (hg : gates.length ≤ 1048576) (hw : ∀ g ∈ gates, g.f2.length ≤ 1048576) (hd : data.length ≤ 1048576) :
    ∀ k, 3000000 ≤ k → laws_toCircuit.f k n gates data a3 a4 a5 a6 = some (n, gates.map convG, data, a3, a4, a5, a6) := by
  intro k hk
  unfold laws_toCircuit.f laws_toGateS.f
  rw [if_pos (by omega), if_pos (by omega)]
  have := toG_loop gates hg hw gates.length k (List.replicate ((gates.length : Int)).toNat z62) 0 (by simp) (by omega) (by omega)
  rw [show ((0 : Nat) : Int) = 0 from rfl] at this
  rw [this, toI data hd k (by omega)]
  simp
theorem eqG_loop (l : List S62) (hl : l.length ≤ 1048576) (hw : ∀ g ∈ l, g.f2.length ≤ 1048576) (d : Nat) : ∀ (k i : Nat), i + d = l.length → d + 1048577 < k → laws_eqGateS.l0 k l l (i : Int) = some true := by
  induction d with
  | zero =>
    intro k i h hk
    obtain ⟨k, rfl⟩ : ∃ m, k = m + 1 := ⟨k - 1, by omega⟩
    simp only [laws_eqGateS.l0]
    rw [if_neg (by omega)]
  | succ d ih =>
    intro k i h hk
    obtain ⟨k, rfl⟩ : ∃ m, k = m + 1 := ⟨k - 1, by omega⟩
    have hi : i < l.length := by omega
    have hwi := hw l[i] (List.getElem_mem _)
    simp only [laws_eqGateS.l0]
    rw [if_pos (by omega), if_pos (by omega), if_pos (by omega)]
    unfold laws_eqGate.f
    rw [if_pos rfl, if_pos rfl, rdG hi, eqI l[i].f2 (by omega) k (by omega)]
    simp only [Option.bind_some]
    rw [wrap_id (by omega) (by omega)]
    exact ih k (i + 1) (by omega) (by omega)
theorem eqCir (n : Int) (gates : List S62) (data : List Int) (a3 a4 a5 a6 : Int) (hg : gates.length ≤ 1048576) (hw : ∀ g ∈ gates, g.f2.length ≤ 1048576) (hd : data.length ≤ 1048576) :
    ∀ k, 3000000 ≤ k → laws_eqCircuit.f k n gates data a3 a4 a5 a6 n gates data a3 a4 a5 a6 = some true := by
  intro k hk
  unfold laws_eqCircuit.f laws_eqGateS.f
  rw [if_pos rfl, if_pos rfl]
  have := eqG_loop gates hg hw gates.length k 0 (by omega) (by omega)
  rw [show ((0 : Nat) : Int) = 0 from rfl] at this
  rw [this, eqI data (by omega) k (by omega)]
  simp
theorem convG_len (gates : List S89) (hw : ∀ g ∈ gates, g.f2.length ≤ 1048576) : ∀ g ∈ gates.map convG, g.f2.length ≤ 1048576 := by
  intro g hg
  obtain ⟨x, hx, rfl⟩ := List.mem_map.mp hg
  exact hw x hx
end Go.Proofs.Ytalafmahgeejiaa.Pure
