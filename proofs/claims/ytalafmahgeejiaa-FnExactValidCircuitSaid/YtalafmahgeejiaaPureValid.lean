/- What a valid circuit is: the program's test and the reference's are one. -/
import Derived.Test.YtalafmahgeejiaaPureBase
import Derived.Test.YtalafmahgeejiaaPaxf47
import Derived.Test.YtalafmahgeejiaaPaxf17
namespace Go.Proofs.Ytalafmahgeejiaa.Pure
open Go.RowKit Go.Proofs.Ytalafmahgeejiaa.Pa Go.Proofs.YtalafmahgeejiaaW.PrintWords Go.Proofs.YtalafmahgeejiaaW.PrintLast
set_option linter.unusedVariables false
set_option linter.unusedSimpArgs false

/-- A number lies between two others. -/
def inB (x l u : Int) : Bool := decide (l ≤ x) && decide (x ≤ u)
theorem inB_iff {x l u : Int} : inB x l u = true ↔ l ≤ x ∧ x ≤ u := by
  unfold inB
  simp
theorem within_tells (x l u : Int) : impl_within.f x l u = some (inB x l u) := by
  unfold impl_within.f inB
  by_cases h : l ≤ x <;> simp [h]
theorem in_tells (x l u : Int) : spec_l00In.f x l u = some (inB x l u) := by
  unfold spec_l00In.f inB
  by_cases h : l ≤ x <;> simp [h]
theorem delay_tells (x : Int) : impl_isDelay.f x = some (inB x 0 100) := by
  unfold impl_isDelay.f
  rw [within_tells]
  rfl
theorem delays_tells (a b : Int) : spec_l06Delays.f a b = some (inB b 0 100 && inB a 0 b) := by
  unfold spec_l06Delays.f
  rw [in_tells]
  simp only [Option.bind_some]
  cases h : inB b 0 100 with
  | true => simp [in_tells]
  | false => simp
theorem rises_eq (l : List Int) (a b : Int) : ∀ k x, impl_isSet.l0 k l a b l (l.length : Int) x = spec_l00Rises.l0 k l a b x := by
  intro k
  induction k with
  | zero => intro x; rfl
  | succ k ih =>
    intro x
    simp only [impl_isSet.l0, spec_l00Rises.l0, within_tells, in_tells, Option.bind_some, ih]
    by_cases h : x < (l.length : Int)
    · simp [h]
    · simp [h]
theorem rises_loop (l : List Int) (hi : Int) (hl : l.length ≤ 1048576) (d : Nat) : ∀ (i : Nat), i + d = l.length →
    ∃ r : Bool, (∀ k, d < k → spec_l00Rises.l0 k l 0 hi (i : Int) = some r) ∧ (r = true → ∀ x ∈ l.drop i, 0 ≤ x ∧ x ≤ hi) := by
  induction d with
  | zero =>
    intro i h
    refine ⟨true, fun k hk => ?_, fun _ x hx => ?_⟩
    · obtain ⟨k, rfl⟩ : ∃ m, k = m + 1 := ⟨k - 1, by omega⟩
      simp only [spec_l00Rises.l0]
      rw [if_neg (by omega)]
    · rw [List.drop_of_length_le (by omega)] at hx
      simp at hx
  | succ d ih =>
    intro i h
    have hi' : i < l.length := by omega
    obtain ⟨r, h1, h2⟩ := ih (i + 1) (by omega)
    cases hb : inB l[i] 0 hi with
    | false =>
      refine ⟨false, fun k hk => ?_, fun h => by simp at h⟩
      obtain ⟨k, rfl⟩ : ∃ m, k = m + 1 := ⟨k - 1, by omega⟩
      simp only [spec_l00Rises.l0]
      rw [if_pos (by omega), if_pos (by omega), rd_get hi', in_tells, hb]
      simp
    | true =>
      have hin := inB_iff.mp hb
      have hgo : ∀ k, d < k → spec_l00Rises.l0 k l 0 hi (wrap64 ((i : Int) + 1)) = some r := by
        intro k hk
        rw [wrap_id (by omega) (by omega)]
        exact h1 k hk
      have hall : r = true → ∀ x ∈ l.drop i, 0 ≤ x ∧ x ≤ hi := by
        intro hr x hx
        rw [List.drop_eq_getElem_cons hi'] at hx
        rcases List.mem_cons.mp hx with rfl | hx
        · exact hin
        · exact h2 hr x hx
      by_cases h0 : (i : Int) > 0
      · by_cases hge : rd l (wrap64 ((i : Int) - 1)) ≥ l[i]
        · refine ⟨false, fun k hk => ?_, fun h => by simp at h⟩
          obtain ⟨k, rfl⟩ : ∃ m, k = m + 1 := ⟨k - 1, by omega⟩
          simp only [spec_l00Rises.l0]
          rw [if_pos (by omega), if_pos (by omega), rd_get hi', in_tells, hb]
          simp only [Option.bind_some, if_true]
          rw [if_pos h0, if_pos (by rw [wrap_id (by omega) (by omega)]; omega), if_pos (by rw [wrap_id (by omega) (by omega)]; omega), if_pos hge]
        · refine ⟨r, fun k hk => ?_, hall⟩
          obtain ⟨k, rfl⟩ : ∃ m, k = m + 1 := ⟨k - 1, by omega⟩
          simp only [spec_l00Rises.l0]
          rw [if_pos (by omega), if_pos (by omega), rd_get hi', in_tells, hb]
          simp only [Option.bind_some, if_true]
          rw [if_pos h0, if_pos (by rw [wrap_id (by omega) (by omega)]; omega), if_pos (by rw [wrap_id (by omega) (by omega)]; omega), if_neg hge]
          exact hgo k (by omega)
      · refine ⟨r, fun k hk => ?_, hall⟩
        obtain ⟨k, rfl⟩ : ∃ m, k = m + 1 := ⟨k - 1, by omega⟩
        simp only [spec_l00Rises.l0]
        rw [if_pos (by omega), if_pos (by omega), rd_get hi', in_tells, hb]
        simp only [Option.bind_some, if_true]
        rw [if_neg h0]
        exact hgo k (by omega)
/-- A list rises, within 0 and a number. -/
def risesB (l : List Int) (hi : Int) : Bool := (spec_l00Rises.f (l.length + 1) l 0 hi).getD false
theorem rises_tells (l : List Int) (hi : Int) (hl : l.length ≤ 1048576) : ∀ k, l.length < k → spec_l00Rises.f k l 0 hi = some (risesB l hi) := by
  intro k hk
  obtain ⟨r, h1, _⟩ := rises_loop l hi hl l.length 0 (by omega)
  have e : risesB l hi = r := by
    unfold risesB spec_l00Rises.f
    have e0 : ∀ k, l.length < k → spec_l00Rises.l0 k l 0 hi 0 = some r := h1
    rw [e0 _ (by omega)]
    rfl
  rw [e]
  unfold spec_l00Rises.f
  exact h1 k hk
theorem set_tells (l : List Int) (hi : Int) (hl : l.length ≤ 1048576) : ∀ k, l.length < k → impl_isSet.f k l 0 hi = some (risesB l hi) := by
  intro k hk
  unfold impl_isSet.f
  rw [rises_eq]
  exact rises_tells l hi hl k hk
theorem risesB_in (l : List Int) (hi : Int) (hl : l.length ≤ 1048576) (h : risesB l hi = true) : ∀ x ∈ l, 0 ≤ x ∧ x ≤ hi := by
  obtain ⟨r, h1, h2⟩ := rises_loop l hi hl l.length 0 (by omega)
  have e : risesB l hi = r := by
    unfold risesB spec_l00Rises.f
    have e0 : ∀ k, l.length < k → spec_l00Rises.l0 k l 0 hi 0 = some r := h1
    rw [e0 _ (by omega)]
    rfl
  rw [e] at h
  simpa using h2 h
/-- A gate is one of a circuit of so many registers, at its place. -/
def gateB (n i : Int) (g : S62) : Bool := inB g.f1 0 100 && inB g.f0 0 g.f1 && !decide (g.f2.length = 0) && risesB g.f2 (n + i - 1)
def gatesB (n : Int) : Nat → List S62 → Bool
  | _, [] => true
  | i, g :: l => gateB n (i : Int) g && gatesB n (i + 1) l
def validB (n : Int) (gates : List S62) (data : List Int) (a3 a4 a5 a6 : Int) : Bool :=
  inB n 1 6 && decide (gates.length ≤ 10) && decide ((data.length : Int) = n) && inB a3 0 100 && inB a4 0 100 && (inB a6 0 100 && inB a5 0 a6) && gatesB n 0 gates && data.all fun x => inB x 0 (n + gates.length - 1)
theorem rdG' {l : List S62} {i : Nat} (h : i < l.length) : rd_T62 l (i : Int) = l[i] := by
  unfold rd_T62
  rw [List.getD_eq_getElem?_getD, Int.toNat_natCast, List.getElem?_eq_getElem h]
  rfl
theorem is_data (n m : Int) (gates : List S62) (data : List Int) (a3 a4 a5 a6 : Int) (hm : 0 ≤ m) (hm2 : m ≤ 100) (hd : data.length ≤ 1048576) (d : Nat) : ∀ (k i : Nat), i + d = data.length → d < k →
    spec_l06Is.l1 k m (i : Int) n gates data a3 a4 a5 a6 = some ((data.drop i).all fun x => inB x 0 (m - 1), n, a3, a4, a5, a6) := by
  induction d with
  | zero =>
    intro k i h hk
    obtain ⟨k, rfl⟩ : ∃ m, k = m + 1 := ⟨k - 1, by omega⟩
    simp only [spec_l06Is.l1]
    rw [if_neg (by omega), List.drop_of_length_le (by omega)]
    rfl
  | succ d ih =>
    intro k i h hk
    obtain ⟨k, rfl⟩ : ∃ m, k = m + 1 := ⟨k - 1, by omega⟩
    have hi : i < data.length := by omega
    simp only [spec_l06Is.l1]
    rw [if_pos (by omega), if_pos (by omega), rd_get hi, wrap_id (x := m - 1) (by omega) (by omega), in_tells, List.drop_eq_getElem_cons hi, List.all_cons]
    simp only [Option.bind_some]
    cases hb : inB data[i] 0 (m - 1) with
    | false => simp
    | true =>
      rw [if_pos rfl, wrap_id (by omega) (by omega)]
      have := ih k (i + 1) (by omega) (by omega)
      push_cast at this
      rw [this]
      simp
theorem is_gates (n m : Int) (gates : List S62) (data : List Int) (a3 a4 a5 a6 : Int) (hn : 1 ≤ n) (hn2 : n ≤ 6) (hg : gates.length ≤ 10) (hw : ∀ g ∈ gates, g.f2.length ≤ 1048576) (d : Nat) : ∀ (k i : Nat), i + d = gates.length → d + 1048578 < k →
    spec_l06Is.l0 k m (i : Int) n gates data a3 a4 a5 a6 = cond (gatesB n i (gates.drop i)) (spec_l06Is.l1 (k - d - 1) m 0 n gates data a3 a4 a5 a6) (some (false, n, a3, a4, a5, a6)) := by
  induction d with
  | zero =>
    intro k i h hk
    obtain ⟨k, rfl⟩ : ∃ m, k = m + 1 := ⟨k - 1, by omega⟩
    simp only [spec_l06Is.l0]
    rw [if_neg (by omega), List.drop_of_length_le (by omega)]
    simp [gatesB]
  | succ d ih =>
    intro k i h hk
    obtain ⟨k, rfl⟩ : ∃ m, k = m + 1 := ⟨k - 1, by omega⟩
    have hi : i < gates.length := by omega
    have hwi := hw gates[i] (List.getElem_mem _)
    simp only [spec_l06Is.l0]
    rw [if_pos (by omega), if_pos (by omega), rdG' hi, delays_tells, List.drop_eq_getElem_cons hi, wrap_id (x := n + (i : Int)) (by omega) (by omega), wrap_id (x := n + (i : Int) - 1) (by omega) (by omega), rises_tells _ _ hwi k (by omega)]
    simp only [Option.bind_some, gatesB, gateB]
    cases h1 : (inB gates[i].f1 0 100 && inB gates[i].f0 0 gates[i].f1) with
    | false => simp
    | true =>
      rw [if_pos rfl]
      by_cases h2 : gates[i].f2.length = 0
      · rw [if_pos (by omega)]
        simp [h2]
      · rw [if_neg (by omega)]
        cases h3 : risesB gates[i].f2 (n + (i : Int) - 1) with
        | false => simp
        | true =>
          rw [if_pos rfl, wrap_id (by omega) (by omega)]
          have := ih k (i + 1) (by omega) (by omega)
          push_cast at this
          rw [this]
          simp [h2, show k + 1 - (d + 1) - 1 = k - d - 1 by omega]
theorem is_tells (n : Int) (gates : List S62) (data : List Int) (a3 a4 a5 a6 : Int) (hw : ∀ g ∈ gates, g.f2.length ≤ 1048576) (hd : data.length ≤ 1048576) :
    ∀ k, 2500000 ≤ k → spec_l06Is.f k n gates data a3 a4 a5 a6 = some (validB n gates data a3 a4 a5 a6, n, a3, a4, a5, a6) := by
  intro k hk
  obtain ⟨k, rfl⟩ : ∃ m, k = m + 1 := ⟨k - 1, by omega⟩
  unfold spec_l06Is.f validB
  simp only [spec_l06Is.j0, in_tells, delays_tells, Option.bind_some, if_true]
  cases h0 : inB n 1 6 with
  | false => simp
  | true =>
    have hn := inB_iff.mp h0
    rw [if_pos rfl]
    by_cases h1 : gates.length ≤ 10
    · rw [if_neg (by omega)]
      by_cases h2 : (data.length : Int) = n
      · rw [if_pos h2]
        cases h3 : inB a3 0 100 with
        | false => simp [inB]
        | true =>
          cases h4 : inB a4 0 100 with
          | false => simp [inB]
          | true =>
            cases h5 : (inB a6 0 100 && inB a5 0 a6) with
            | false => simp [inB, h1, h2]
            | true =>
              have e3 : inB 0 0 a3 = true := inB_iff.mpr ⟨by omega, (inB_iff.mp h3).1⟩
              have e4 : inB 0 0 a4 = true := inB_iff.mpr ⟨by omega, (inB_iff.mp h4).1⟩
              rw [e3, e4]
              simp only [Bool.and_self, if_true, Bool.not_true, Bool.false_eq_true, if_false]
              rw [wrap_id (by omega) (by omega)]
              have g1 := is_gates n (n + gates.length) gates data a3 a4 a5 a6 hn.1 hn.2 h1 hw gates.length k 0 (by omega) (by omega)
              rw [show ((0 : Nat) : Int) = 0 from rfl] at g1
              rw [g1, List.drop_zero]
              have g2 := is_data n (n + gates.length) gates data a3 a4 a5 a6 (by omega) (by omega) hd data.length (k - gates.length - 1) 0 (by omega) (by omega)
              rw [show ((0 : Nat) : Int) = 0 from rfl] at g2
              rw [g2, List.drop_zero]
              cases h6 : gatesB n 0 gates with
              | false => simp
              | true => simp [h1, h2]
      · rw [if_neg h2]
        simp [h2]
    · rw [if_pos (by omega)]
      simp [h1]
theorem valid_gates (n : Int) (gates : List S62) (data : List Int) (a3 a4 a5 a6 : Int) (hn : 1 ≤ n) (hn2 : n ≤ 6) (hg : gates.length ≤ 10) (hw : ∀ g ∈ gates, g.f2.length ≤ 1048576) (d : Nat) : ∀ (k i : Nat), i + d = gates.length → d + 1048578 < k →
    impl_ValidCircuit.l0 k gates (gates.length : Int) (i : Int) n gates data a3 a4 a5 a6 = some (gatesB n i (gates.drop i) && data.all fun x => inB x 0 (n + gates.length - 1)) := by
  induction d with
  | zero =>
    intro k i h hk
    obtain ⟨k, rfl⟩ : ∃ m, k = m + 1 := ⟨k - 1, by omega⟩
    simp only [impl_ValidCircuit.l0]
    rw [if_neg (by omega), List.drop_of_length_le (by omega)]
    unfold impl_ValidCircuit_1.f
    simp only [Option.bind_some, gatesB, Bool.true_and]
    rw [List.all_eq_not_any_not]
    congr 3
    funext x
    unfold badNode inB
    rw [wrap_id (x := n + (gates.length : Int)) (by omega) (by omega), wrap_id (by omega) (by omega)]
  | succ d ih =>
    intro k i h hk
    obtain ⟨k, rfl⟩ : ∃ m, k = m + 1 := ⟨k - 1, by omega⟩
    have hi : i < gates.length := by omega
    have hwi := hw gates[i] (List.getElem_mem _)
    simp only [impl_ValidCircuit.l0]
    rw [if_pos (by omega), if_pos (by omega), if_pos (by omega), rdG' hi, delay_tells, within_tells, List.drop_eq_getElem_cons hi, wrap_id (x := n + (i : Int)) (by omega) (by omega), wrap_id (x := n + (i : Int) - 1) (by omega) (by omega), set_tells _ _ hwi k (by omega)]
    simp only [Option.bind_some, gatesB, gateB]
    cases h1 : inB gates[i].f1 0 100 with
    | false => simp
    | true =>
      rw [if_pos rfl]
      cases h1' : inB gates[i].f0 0 gates[i].f1 with
      | false => simp
      | true =>
        rw [if_pos rfl]
        by_cases h2 : gates[i].f2.length = 0
        · rw [if_pos (by omega)]
          simp [h2]
        · rw [if_neg (by omega)]
          cases h3 : risesB gates[i].f2 (n + (i : Int) - 1) with
          | false => simp
          | true =>
            rw [if_pos rfl, wrap_id (by omega) (by omega)]
            have := ih k (i + 1) (by omega) (by omega)
            push_cast at this
            rw [this]
            simp [h2]
theorem valid_tells (n : Int) (gates : List S62) (data : List Int) (a3 a4 a5 a6 : Int) (hw : ∀ g ∈ gates, g.f2.length ≤ 1048576) :
    ∀ k, 2500000 ≤ k → impl_ValidCircuit.f k n gates data a3 a4 a5 a6 = some (validB n gates data a3 a4 a5 a6) := by
  intro k hk
  obtain ⟨k, rfl⟩ : ∃ m, k = m + 1 + 1 := ⟨k - 2, by omega⟩
  unfold impl_ValidCircuit.f validB
  simp only [impl_ValidCircuit.j0, impl_ValidCircuit.j1, within_tells, delay_tells, Option.bind_some, if_true]
  cases h0 : inB n 1 6 with
  | false => simp
  | true =>
    have hn := inB_iff.mp h0
    rw [if_pos rfl]
    by_cases h1 : gates.length ≤ 10
    · rw [if_neg (by omega)]
      by_cases h2 : (data.length : Int) = n
      · rw [show ((data.length : Int) != n) = false by simp [h2]]
        simp only [Bool.false_eq_true, if_false]
        cases h3 : inB a3 0 100 with
        | false => simp
        | true =>
          cases h4 : inB a4 0 100 with
          | false => simp
          | true =>
            cases h5 : inB a6 0 100 with
            | false => simp
            | true =>
              cases h6 : inB a5 0 a6 with
              | false => simp
              | true =>
                simp only [Bool.and_self, if_true, Bool.not_true, Bool.false_eq_true, if_false]
                have g1 := valid_gates n gates data a3 a4 a5 a6 hn.1 hn.2 h1 hw gates.length k 0 (by omega) (by omega)
                rw [show ((0 : Nat) : Int) = 0 from rfl] at g1
                rw [g1, List.drop_zero]
                simp [h1, h2]
      · rw [show ((data.length : Int) != n) = true by simp [h2]]
        simp [h2]
    · rw [if_pos (by omega)]
      simp [h1]
/-- What is known of a valid circuit. -/
structure Circ (n : Int) (gates : List S62) (data : List Int) (a3 a4 a5 a6 : Int) : Prop where
  n0 : 1 ≤ n
  n1 : n ≤ 6
  len : gates.length ≤ 10
  dlen : (data.length : Int) = n
  setup : 0 ≤ a3 ∧ a3 ≤ 100
  hold : 0 ≤ a4 ∧ a4 ≤ 100
  least : 0 ≤ a5 ∧ a5 ≤ a6 ∧ a6 ≤ 100
  gate : ∀ (i : Nat) (h : i < gates.length), 0 ≤ gates[i].f0 ∧ gates[i].f0 ≤ gates[i].f1 ∧ gates[i].f1 ≤ 100 ∧ gates[i].f2 ≠ [] ∧ ∀ x ∈ gates[i].f2, 0 ≤ x ∧ x ≤ n + i - 1
  node : ∀ x ∈ data, 0 ≤ x ∧ x ≤ n + gates.length - 1
theorem gatesB_get (n : Int) (l : List S62) : ∀ (j : Nat), gatesB n j l = true → ∀ (i : Nat) (h : i < l.length), gateB n ((j + i : Nat) : Int) l[i] = true := by
  induction l with
  | nil => intro j _ i h; simp at h
  | cons g l ih =>
    intro j hj i h
    simp only [gatesB, Bool.and_eq_true] at hj
    cases i with
    | zero => simpa using hj.1
    | succ i =>
      have := ih (j + 1) hj.2 i (by simpa using h)
      rw [show j + (i + 1) = j + 1 + i by omega]
      simpa using this
theorem circ_of (n : Int) (gates : List S62) (data : List Int) (a3 a4 a5 a6 : Int) (hw : ∀ g ∈ gates, g.f2.length ≤ 1048576) (h : validB n gates data a3 a4 a5 a6 = true) : Circ n gates data a3 a4 a5 a6 := by
  unfold validB at h
  simp only [Bool.and_eq_true, decide_eq_true_eq, inB_iff, List.all_eq_true] at h
  obtain ⟨⟨⟨⟨⟨⟨⟨h0, h1⟩, h2⟩, h3⟩, h4⟩, h5, h6⟩, h7⟩, h8⟩ := h
  refine ⟨h0.1, h0.2, h1, h2, h3, h4, ⟨h6.1, h6.2, h5.2⟩, fun i hi => ?_, h8⟩
  have := gatesB_get n gates 0 h7 i hi
  unfold gateB at this
  simp only [Bool.and_eq_true, inB_iff, Bool.not_eq_true', decide_eq_false_iff_not] at this
  obtain ⟨⟨⟨g1, g2⟩, g3⟩, g4⟩ := this
  refine ⟨g2.1, g2.2, g1.2, fun e => g3 (by rw [e]; rfl), ?_⟩
  have := risesB_in _ _ (hw _ (List.getElem_mem hi)) g4
  simpa using this
end Go.Proofs.Ytalafmahgeejiaa.Pure
