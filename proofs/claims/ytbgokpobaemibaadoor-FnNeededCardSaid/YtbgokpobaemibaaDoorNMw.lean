/- Small words of this claim's own: the step that lays a struct parameter in memory; data that came in, read as values of a kind. -/
import Derived.Test.YtbgokpobaemibaaDoorNMore
import Derived.ChangeArms
import Derived.ChangeShapes
import Derived.WideShapes
import Derived.Lib.SmallJoins
namespace Go.Proofs.YtbgokpobaemibaaDoor.Pa
open Go.RowKit Go.Proofs.YtbgokpobaemibaaDoorW.PrintWords Go.Proofs.YtbgokpobaemibaaDoorW.PrintLast Go.Proofs.YtbgokpobaemibaaDoorW.PrintMore
section
variable {P : Program} {ops : Array Oper} {o : Oper} {rest : List Oper} {a : Act} {Q : Exit → Act → World → Prop}
theorem box_here {W w1 : World} {g : Nat} (hgd : o.guard = none) {N : Tmp} (_hd : o.dst = some N) (hg : g = W.heap.size) {cs : Array Value} {t : TypeId} (hw : w1 = W.alloc (.cells cs t (0, 0)))
    (hrun : (execOp a.eval o).run P W = .ok (.value (.pointer (some ⟨W.heap.size, 0, none⟩))) (W.alloc (.cells cs t (0, 0))))
    (h : wpList P ops Q rest (a.put o.dst (.pointer (some ⟨g, 0, none⟩))) w1) : wpList P ops Q (o :: rest) a W := by
  subst hg hw
  exact Kd.event_run hgd hrun h
end
section
open Go.ChangeShapes Go.WideShapes
variable {P : Program}
/-- What reads as data of type t holds values of this kind. -/
structure Opens (P : Program) {α : Type} (d : Kd α) (t : TypeId) (good : α → Prop) : Prop where
  cells : P.cellsOf t = d.sz
  opens : ∀ (H : Type) (enc : TypeId × Value → H) (w : World) (fuel : Nat) (cs : List Value) (x : DataW H × List MemPlace),
    DataW.trod enc P w 0 (fun _ => true) true fuel t cs = some x → ∃ a : α, d.K w a cs ∧ good a
theorem Opens.int {t : TypeId} {k : IntKind} (hu : P.underlying t = some (.int k)) (hc : P.cellsOf t = 1) : Opens P (Kd.int k) t (fun n => (Lit.int k n).wf = true) := by
  refine ⟨hc, fun H enc w fuel cs x h => ?_⟩
  obtain ⟨n, rfl, _, hw⟩ := DataW.trod_int hu h
  exact ⟨n, rfl, hw⟩
/-- The same of the fields of a struct from a place on. -/
structure OpensF (P : Program) {α : Type} (d : Kd α) (fs : List Field) (off : Nat) (good : α → Prop) : Prop where
  opens : ∀ (H : Type) (enc : TypeId × Value → H) (w : World) (n : Nat) (cs : List Value), cs.length = off + d.sz →
    (∀ f ∈ fs, ∃ y, DataW.trod enc P w 0 (fun _ => true) true n f.type ((cs.drop f.offset).take (P.cellsOf f.type)) = some y) → ∃ a : α, d.K w a (cs.drop off) ∧ good a
theorem OpensF.one {α : Type} {d : Kd α} {f : Field} {off : Nat} {good : α → Prop} (h : Opens P d f.type good) (ho : f.offset = off) : OpensF P d [f] off good := by
  refine ⟨fun H enc w n cs hl hf => ?_⟩
  obtain ⟨y, hy⟩ := hf f (by simp)
  rw [ho, h.cells, List.take_of_length_le (by simp; omega)] at hy
  exact h.opens H enc w n _ y hy
theorem OpensF.cons {α β : Type} {d : Kd α} {d' : Kd β} {f : Field} {fs : List Field} {off : Nat} {good : α → Prop} {good' : β → Prop} (h : Opens P d f.type good) (ho : f.offset = off)
    (h' : OpensF P d' fs (off + d.sz) good') : OpensF P (Kd.pair d d') (f :: fs) off (fun x => good x.1 ∧ good' x.2) := by
  refine ⟨fun H enc w n cs hl hf => ?_⟩
  obtain ⟨y, hy⟩ := hf f (by simp)
  rw [ho, h.cells] at hy
  obtain ⟨a, ha, ga⟩ := h.opens H enc w n _ y hy
  obtain ⟨b, hb, gb⟩ := h'.opens H enc w n cs (by rw [hl]; simp only [Kd.pair]; omega) (fun g hg => hf g (by simp [hg]))
  refine ⟨(a, b), ⟨_, _, ?_, ha, hb⟩, ga, gb⟩
  rw [← List.drop_drop, List.take_append_drop]
theorem Opens.struct {α : Type} {d : Kd α} {t : TypeId} {fs : Array Field} {good : α → Prop} (hu : P.underlying t = some (.struct fs)) (hc : P.cellsOf t = d.sz) (h : OpensF P d fs.toList 0 good) : Opens P d t good := by
  refine ⟨hc, fun H enc w fuel cs x hx => ?_⟩
  obtain ⟨xs, n, rfl, _, hl, hlx, hf⟩ := DataW.trod_struct hu hx
  obtain ⟨a, ha, ga⟩ := h.opens H enc w n cs (by rw [hl, hc]; omega) (fun f hfm => by
    obtain ⟨i, hi, he⟩ := List.getElem_of_mem hfm
    have hi' : i < fs.size := by simpa using hi
    have he' : fs[i]? = some f := by rw [Array.getElem?_eq_getElem hi']; simpa using he
    have := hf i f he'
    rw [List.getElem?_eq_getElem (by omega)] at this
    exact ⟨_, this⟩)
  exact ⟨a, by simpa using ha, ga⟩
theorem Opens.iso {α β : Type} {d : Kd α} {t : TypeId} {good : α → Prop} (h : Opens P d t good) (f : β → α) (g : α → β) (hfg : ∀ a, f (g a) = a) : Opens P (Kd.iso d f) t (fun b => good (f b)) := by
  refine ⟨h.cells, fun H enc w fuel cs x hx => ?_⟩
  obtain ⟨a, ha, ga⟩ := h.opens H enc w fuel cs x hx
  exact ⟨g a, by show d.K w (f (g a)) cs; rw [hfg]; exact ha, by rw [hfg]; exact ga⟩
theorem list_of_each {α : Type} (n : Nat) (R : Nat → α → Prop) (h : ∀ i, i < n → ∃ a, R i a) : ∃ l : List α, l.length = n ∧ ∀ i a, l[i]? = some a → R i a := by
  induction n with
  | zero => exact ⟨[], rfl, fun i a h => by simp at h⟩
  | succ n ih =>
    obtain ⟨l, hl, hR⟩ := ih (fun i hi => h i (by omega))
    obtain ⟨a, ha⟩ := h n (by omega)
    refine ⟨l ++ [a], by simp [hl], fun i b hb => ?_⟩
    by_cases hi : i < l.length
    · rw [List.getElem?_append_left hi] at hb
      exact hR i b hb
    · rw [List.getElem?_append_right (by omega)] at hb
      have e : i - l.length = 0 := by
        cases hz : i - l.length with
        | zero => rfl
        | succ m => rw [hz] at hb; simp at hb
      rw [e] at hb
      have : i = n := by omega
      subst this
      simp at hb
      rwa [← hb]
theorem Opens.slice {α : Type} {d : Kd α} {t e : TypeId} {good : α → Prop} (e' : Nat) (hu : P.underlying t = some (.slice e)) (hc : P.cellsOf t = 1) (h : Opens P d e good) :
    Opens P (Kd.slice e' d) t (fun l => l.length ≤ 9223372036854775807 ∧ ∀ a ∈ l, good a) := by
  refine ⟨hc, fun H enc w fuel cs x hx => ?_⟩
  rcases DataW.trod_slice hu hx with ⟨rfl, _⟩ | ⟨ad, len, cap, elems, rest, n, _, rfl, _, _, hl, hm, hlen, hel, _, _⟩
  · exact ⟨[], ⟨none, 0, rfl, Nat.le_refl _, rfl, by simp, fun h0 => by simp at h0⟩, by simp, fun a ha => by simp at ha⟩
  · have each : ∀ i, i < len → ∃ a : α, good a ∧ ∃ c : List Value, c.length = d.sz ∧ d.K w a c ∧ ∀ j u, c[j]? = some u → w.cell? (ad.add (i * d.sz + j)) = some u := by
      intro i hi
      have he := hel i hi
      rw [List.getElem?_eq_getElem (by omega)] at he
      obtain ⟨c, hcc, ht⟩ := Option.bind_eq_some_iff.mp he
      rw [h.cells] at hcc
      obtain ⟨_, hcl, hat⟩ := World.cells?_some hcc
      obtain ⟨a, ha, ga⟩ := h.opens H enc w n c _ ht
      refine ⟨a, ga, c, hcl, ha, fun j u hu => ?_⟩
      have hj : j < d.sz := by
        rw [← hcl]
        exact (List.getElem?_eq_some_iff.mp hu).1
      have := hat j hj
      rw [hu] at this
      rwa [Go.Deep.add_add] at this
    obtain ⟨l, hll, hR⟩ := list_of_each len _ each
    have hm' : cap ≤ 9223372036854775807 := by unfold maxLen at hm; exact hm
    refine ⟨l, ⟨some ad, cap, by rw [hll], by omega, rfl, by omega, fun _ => ⟨ad, rfl, fun j p hp => ?_⟩⟩, by omega, fun a ha => ?_⟩
    · obtain ⟨_, c, h1, h2, h3⟩ := hR j p hp
      exact ⟨c, h1, h2, h3⟩
    · obtain ⟨i, hi, he⟩ := List.getElem_of_mem ha
      exact (hR i a (by rw [List.getElem?_eq_getElem hi, he])).1
end
section
/-- A slice of so many elements, and whether it is another one than nil. -/
def NonNil (v : Value) (n : Nat) (b : Bool) : Prop := ∃ (A : Option Addr) (c : Nat), v = .slice A n c ∧ A.isNone = !b
theorem NonNil.none : NonNil (.slice none 0 0) 0 false := ⟨_, _, rfl, rfl⟩
theorem ne_none_of {v : Value} {W : World} (h : ∃ b, v.ownBlock = some b ∧ W.heap.size ≤ b) : v.ownBlock ≠ Option.none := by
  obtain ⟨b, h, _⟩ := h
  rw [h]
  simp
theorem ne_none_app {v v1 : Value} {W : World} (h : v1.ownBlock = v.ownBlock ∨ ∃ b, v1.ownBlock = some b ∧ W.heap.size ≤ b) (h0 : v.ownBlock ≠ Option.none) : v1.ownBlock ≠ Option.none := by
  rcases h with h | h
  · rw [h]
    exact h0
  · exact ne_none_of h
theorem NonNil.of_own {α : Type} {d : Kd α} {e : Nat} {w : World} {base : Nat} {ok : Nat → Prop} {v : Value} {xs : List α} (h : d.R e w base ok v xs) (h0 : v.ownBlock ≠ Option.none) : NonNil v xs.length true := by
  obtain ⟨A, c, rfl⟩ := Kd.R_slice h
  refine ⟨A, c, rfl, ?_⟩
  cases A with
  | none => exact absurd rfl h0
  | some a => rfl
end
end Go.Proofs.YtbgokpobaemibaaDoor.Pa
