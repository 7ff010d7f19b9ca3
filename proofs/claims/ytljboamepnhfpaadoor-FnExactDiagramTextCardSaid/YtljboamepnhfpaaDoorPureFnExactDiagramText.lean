/- For every diagram the law of DiagramText answers yes. -/
import Derived.Test.YtljboamepnhfpaaDoorPureDia
import Derived.Test.YtljboamepnhfpaaDoorPureDecimal
import Derived.Test.YtljboamepnhfpaaDoorPaxf3
namespace Go.Proofs.YtljboamepnhfpaaDoor.Pure
open Go.RowKit Go.Proofs.YtljboamepnhfpaaDoor.Pa Go.Proofs.YtljboamepnhfpaaDoorW.PrintWords Go.Proofs.YtljboamepnhfpaaDoorW.PrintLast Go.Proofs.YtljboamepnhfpaaDoorW.PrintMore
set_option linter.unusedVariables false
set_option linter.unusedSimpArgs false

/-- What a bound adds to the text. -/
def addB (b : S42) : ByteArray := (((((⟨#[44]⟩ : ByteArray) ++ decB b.f0) ++ (⟨#[46]⟩ : ByteArray)) ++ decB b.f1) ++ (⟨#[46]⟩ : ByteArray)) ++ decB b.f2
def tx (out : ByteArray) : List S42 → ByteArray
  | [] => out
  | b :: l => tx (out ++ addB b) l
def Near (b : S42) : Prop := (-1000 ≤ b.f0 ∧ b.f0 ≤ 1000) ∧ (-1000 ≤ b.f1 ∧ b.f1 ≤ 1000) ∧ (-1000 ≤ b.f2 ∧ b.f2 ≤ 1000)
theorem e44 : (⟨#[44]⟩ : ByteArray).size = 1 := rfl
theorem e46 : (⟨#[46]⟩ : ByteArray).size = 1 := rfl
theorem addB_size {b : S42} (h : Near b) : (addB b).size ≤ 66 := by
  have h1 := decB_size b.f0 h.1.1 h.1.2
  have h2 := decB_size b.f1 h.2.1.1 h.2.1.2
  have h3 := decB_size b.f2 h.2.2.1 h.2.2.2
  unfold addB
  simp only [ByteArray.size_append, e44, e46]
  omega
theorem rdBd_get {l : List S42} {i : Nat} (h : i < l.length) : rd_T42 l (i : Int) = l[i] := by
  unfold rd_T42
  rw [List.getD_eq_getElem?_getD, Int.toNat_natCast, List.getElem?_eq_getElem h]
  rfl
theorem text_spec (n : Int) (l : List S42) (hl : l.length ≤ 24) (hn : ∀ b ∈ l, Near b) : ∀ d i k (out : ByteArray), l.length - i = d → i ≤ l.length → out.size ≤ 100 * (i + 1) → d + 1200 < k →
    spec_l04Text.l0 k out (i : Int) n l = some (tx out (l.drop i), n)
  | 0, i, k, out, hd, hi, ho, hk => by
    obtain ⟨k, rfl⟩ : ∃ q, k = q + 1 := ⟨k - 1, by omega⟩
    simp only [spec_l04Text.l0]
    rw [if_neg (by omega), List.drop_of_length_le (by omega)]
    rfl
  | d + 1, i, k, out, hd, hi, ho, hk => by
    obtain ⟨k, rfl⟩ : ∃ q, k = q + 1 := ⟨k - 1, by omega⟩
    have hl2 : i < l.length := by omega
    have hb := hn l[i] (List.getElem_mem hl2)
    have hw : wrap64 ((i : Int) + 1) = ((i + 1 : Nat) : Int) := by rw [wrap_id (by omega) (by omega)]; omega
    have s0 := decB_size _ hb.1.1 hb.1.2
    have s1 := decB_size _ hb.2.1.1 hb.2.1.2
    have s2 := decB_size _ hb.2.2.1 hb.2.2.2
    have hs := addB_size hb
    simp only [spec_l04Text.l0]
    rw [if_pos (by omega), if_pos (by omega), rdBd_get hl2, dec_tells _ hb.1.1 hb.1.2 k (by omega), Option.bind_some, dec_tells _ hb.2.1.1 hb.2.1.2 k (by omega), Option.bind_some, dec_tells _ hb.2.2.1 hb.2.2.2 k (by omega), Option.bind_some,
      if_pos (by omega), if_pos (by simp only [ByteArray.size_append, e44, e46]; omega), if_pos (by simp only [ByteArray.size_append, e44, e46]; omega), if_pos (by simp only [ByteArray.size_append, e44, e46]; omega), if_pos (by simp only [ByteArray.size_append, e44, e46]; omega), if_pos (by simp only [ByteArray.size_append, e44, e46]; omega), hw]
    have := text_spec n l hl hn d (i + 1) k (out ++ addB l[i]) (by omega) (by omega) (by rw [ByteArray.size_append]; omega) (by omega)
    rw [List.drop_eq_getElem_cons hl2]
    exact this
theorem text_impl (l : List S42) (hl : l.length ≤ 24) (hn : ∀ b ∈ l, Near b) : ∀ d i k (out : ByteArray), l.length - i = d → i ≤ l.length → out.size ≤ 100 * (i + 1) → d + 1200 < k →
    impl_DiagramText.l0 k out l (l.length : Int) (i : Int) = some (tx out (l.drop i), true)
  | 0, i, k, out, hd, hi, ho, hk => by
    obtain ⟨k, rfl⟩ : ∃ q, k = q + 1 := ⟨k - 1, by omega⟩
    simp only [impl_DiagramText.l0]
    rw [if_neg (by omega), List.drop_of_length_le (by omega)]
    rfl
  | d + 1, i, k, out, hd, hi, ho, hk => by
    obtain ⟨k, rfl⟩ : ∃ q, k = q + 1 := ⟨k - 1, by omega⟩
    have hl2 : i < l.length := by omega
    have hb := hn l[i] (List.getElem_mem hl2)
    have hw : wrap64 ((i : Int) + 1) = ((i + 1 : Nat) : Int) := by rw [wrap_id (by omega) (by omega)]; omega
    have s0 := decB_size _ hb.1.1 hb.1.2
    have s1 := decB_size _ hb.2.1.1 hb.2.1.2
    have s2 := decB_size _ hb.2.2.1 hb.2.2.2
    have hs := addB_size hb
    simp only [impl_DiagramText.l0]
    rw [if_pos (by omega), if_pos (by omega), if_pos (by omega), rdBd_get hl2, dec_prog _ hb.1.1 hb.1.2, Option.bind_some, dec_prog _ hb.2.1.1 hb.2.1.2, Option.bind_some, dec_prog _ hb.2.2.1 hb.2.2.2, Option.bind_some,
      if_pos (by omega), if_pos (by simp only [ByteArray.size_append, e44, e46]; omega), if_pos (by simp only [ByteArray.size_append, e44, e46]; omega), if_pos (by simp only [ByteArray.size_append, e44, e46]; omega), if_pos (by simp only [ByteArray.size_append, e44, e46]; omega), if_pos (by simp only [ByteArray.size_append, e44, e46]; omega), hw]
    have := text_impl l hl hn d (i + 1) k (out ++ addB l[i]) (by omega) (by omega) (by rw [ByteArray.size_append]; omega) (by omega)
    rw [List.drop_eq_getElem_cons hl2]
    exact this
theorem FnExactDiagramText : laws_FnExactDiagramText.Pure := by
  intro n l _ hl
  obtain ⟨K, hK⟩ : ∃ K : Nat, l.length + 2000 < K := ⟨l.length + 2001, by omega⟩
  refine ⟨K + 1, ?_⟩
  unfold laws_FnExactDiagramText.f
  rw [szDia n l hl.1]
  simp only [Option.bind_some]
  by_cases h : 1048576 < l.length
  · rw [if_pos h, if_pos (by omega)]
  rw [if_neg h, if_neg (by omega), toDia n l (by omega) (K + 1) (by omega)]
  simp only [Option.bind_some]
  have e1 := eqDia n (l.map convB) (by simp; omega) K (by simp; omega)
  obtain ⟨x, hx, hy⟩ : ∃ x, impl_DiagramText.f (K + 1) n (l.map convB) = some x ∧ spec_DiagramText.f (K + 1) n (l.map convB) = some x := by
    generalize l.map convB = q
    unfold impl_DiagramText.f spec_DiagramText.f spec_DiagramText.fB spec_l04Is.f impl_ValidDiagram.f
    simp only [Option.bind_some]
    rw [show diagramOk n q = diagramOkS n q from rfl]
    cases hd : diagramOkS n q with
    | false => exact ⟨_, rfl, rfl⟩
    | true =>
      unfold diagramOkS at hd
      simp only [Bool.and_eq_true, decide_eq_true_eq, List.all_eq_true] at hd
      have hlen := hd.1.2
      have h1 := hd.1.1.1
      have h2 := hd.1.1.2
      have hnear : ∀ b ∈ q, Near b := by
        intro b hb
        have := hd.2 b hb
        unfold boundOkS at this
        simp only [Bool.and_eq_true, decide_eq_true_eq] at this
        unfold Near
        omega
      have hs := decB_size n (by omega) (by omega)
      have t1 := text_impl q hlen hnear q.length 0 (K + 1) (decB n) (by omega) (by omega) (by omega) (by omega)
      have t2 := text_spec n q hlen hnear q.length 0 (K + 1) (decB n) (by omega) (by omega) (by omega) (by omega)
      rw [show ((0 : Nat) : Int) = 0 from rfl] at t1 t2
      rw [if_pos rfl, if_pos rfl, dec_prog n (by omega) (by omega)]
      unfold spec_l04Text.f
      rw [dec_tells n (by omega) (by omega) (K + 1) (by omega)]
      simp only [Option.bind_some]
      rw [t1, t2]
      exact ⟨_, rfl, rfl⟩
  rw [hx, hy]
  simp only [Option.bind_some, bne_self_eq_false, if_true]
  simp only [laws_FnExactDiagramText.j0, Bool.false_eq_true, if_false]
  rw [toDia n l (by omega) K (by omega)]
  simp only [Option.bind_some]
  rw [e1]
  rfl
end Go.Proofs.YtljboamepnhfpaaDoor.Pure
