-- Written for this claim by a program of this session.
import Derived.Test.YtahjcmmgdcedpaaXCoreP6
import Derived.Test.YtahjcmmgdcedpaaXCoreP8
import Derived.Test.YtahjcmmgdcedpaaXCoreP9
/- A circuit with pads: the program's and the reference's, and the ways in it. -/
namespace Go.Proofs.Ytahjcmmgdcedpaa.Pure
open Go.RowKit Go.Proofs.Ytahjcmmgdcedpaa.Pa Go.Proofs.YtahjcmmgdcedpaaW.PrintWords Go.Proofs.YtahjcmmgdcedpaaW.PrintLast
set_option linter.unusedVariables false
set_option linter.unusedSimpArgs false

/-- The gates and the data behind the pads from a register on. -/
def padC (n : Int) : List Int → Nat → List S56 → List Int → List S56 × List Int
 | [], _, gs, ds => (gs, ds)
 | p :: ps, r, gs, ds => if p > 0 then padC n ps (r + 1) (gs ++ [⟨p, p, [ds.getD r 0]⟩]) (ds.set r (n + gs.length)) else padC n ps (r + 1) gs ds
/-- Where the pads stand: the gates ahead, those behind, and the data. -/
structure PadInv (n : Int) (gates : List S56) (data pads : List Int) (r : Nat) (gs : List S56) (ds : List Int) : Prop where
 len : ds.length = data.length
 ext : ∃ ex : List S56, gs = gates ++ ex ∧ ex.length ≤ r ∧ (∀ g ∈ ex, ∃ p x, g = ⟨p, p, [x]⟩ ∧ 0 < p ∧ p ∈ pads ∧ x ∈ data) ∧
  ∀ b, b < data.length → (r ≤ b → ds.getD b 0 = data.getD b 0) ∧ (b < r → pads.getD b 0 ≤ 0 → ds.getD b 0 = data.getD b 0) ∧
   (b < r → 0 < pads.getD b 0 → ∃ i, ∃ h : i < ex.length, ds.getD b 0 = n + gates.length + i ∧ ex[i] = ⟨pads.getD b 0, pads.getD b 0, [data.getD b 0]⟩)
theorem getD_mem' {l : List Int} {b : Nat} (h : b < l.length) : l.getD b 0 ∈ l := by
 rw [List.getD_eq_getElem?_getD, List.getElem?_eq_getElem h]
 exact List.getElem_mem h
theorem getD_set' {l : List Int} {i j : Nat} {v : Int} (h : i < l.length) : (l.set i v).getD j 0 = if i = j then v else l.getD j 0 := by
 rw [List.getD_eq_getElem?_getD, List.getElem?_set]
 split
 ·first | rfl | (rw [if_pos (by omega)]; rfl)
 ·rw [List.getD_eq_getElem?_getD]
theorem PadInv.begin (n : Int) (gates : List S56) (data pads : List Int) : PadInv n gates data pads 0 gates data :=
 ⟨rfl, [], by simp, by simp, by simp, fun b _ => ⟨fun _ => rfl, fun h => by omega, fun h => by omega⟩⟩
theorem PadInv.skip {n : Int} {gates : List S56} {data pads : List Int} {r : Nat} {gs : List S56} {ds : List Int} (I : PadInv n gates data pads r gs ds) (hp : pads.getD r 0 ≤ 0) : PadInv n gates data pads (r + 1) gs ds := by
 obtain ⟨hl, ex, h1, h2, h3, h4⟩ := I
 refine ⟨hl, ex, h1, by omega, h3, fun b hb => ?_⟩
 obtain ⟨a1, a2, a3⟩ := h4 b hb
 refine ⟨fun h => a1 (by omega), fun h hq => ?_, fun h hq => ?_⟩
 ·by_cases c : b = r
  ·exact a1 (by omega)
  ·exact a2 (by omega) hq
 ·by_cases c : b = r
  ·subst c; omega
  ·exact a3 (by omega) hq
theorem PadInv.put {n : Int} {gates : List S56} {data pads : List Int} {r : Nat} {gs : List S56} {ds : List Int} (I : PadInv n gates data pads r gs ds) (hr : r < data.length) (hr2 : r < pads.length) (hp : 0 < pads.getD r 0) :
  PadInv n gates data pads (r + 1) (gs ++ [⟨pads.getD r 0, pads.getD r 0, [ds.getD r 0]⟩]) (ds.set r (n + gs.length)) := by
 obtain ⟨hl, ex, h1, h2, h3, h4⟩ := I
 have e0 : ds.getD r 0 = data.getD r 0 := (h4 r hr).1 (Nat.le_refl _)
 refine ⟨by simpa using hl, ex ++ [⟨pads.getD r 0, pads.getD r 0, [ds.getD r 0]⟩], by rw [h1, List.append_assoc], by simp; omega, fun g hg => ?_, fun b hb => ?_⟩
 ·rcases List.mem_append.mp hg with hg | hg
  ·exact h3 g hg
  ·rw [List.mem_singleton] at hg
   exact ⟨_, _, hg, hp, getD_mem' hr2, by rw [e0]; exact getD_mem' hr⟩
 ·obtain ⟨a1, a2, a3⟩ := h4 b hb
  rw [getD_set' (by omega)]
  by_cases c : r = b
  ·subst c
   rw [if_pos rfl]
   refine ⟨fun h => by omega, fun _ h => by omega, fun _ _ => ⟨ex.length, by simp, ?_, ?_⟩⟩
   ·rw [h1, List.length_append]; push_cast; omega
   ·rw [List.getElem_append_right (Nat.le_refl _)]
    simp only [Nat.sub_self, List.getElem_cons_zero]
    rw [e0]
  ·rw [if_neg c]
   refine ⟨fun h => a1 (by omega), fun h hq => a2 (by omega) hq, fun h hq => ?_⟩
   obtain ⟨i, hi, x1, x2⟩ := a3 (by omega) hq
   exact ⟨i, by simp; omega, x1, by rw [List.getElem_append_left hi]; exact x2⟩
theorem padC_inv (n : Int) (gates : List S56) (data pads : List Int) (hp : pads.length = data.length) (ps : List Int) : ∀ (r : Nat) (gs : List S56) (ds : List Int), pads.drop r = ps → r ≤ pads.length → PadInv n gates data pads r gs ds →
  PadInv n gates data pads pads.length (padC n ps r gs ds).1 (padC n ps r gs ds).2 := by
 induction ps with
 | nil =>
  intro r gs ds hd hr I
  have : pads.length ≤ r := by
   have := congrArg List.length hd
   simp at this
   omega
  have e : r = pads.length := by omega
  subst e
  exact I
 | cons p ps ih =>
  intro r gs ds hd hr I
  have hlt : r < pads.length := by
   have := congrArg List.length hd
   simp at this
   omega
  have hd2 := hd
  rw [List.drop_eq_getElem_cons hlt] at hd2
  have hp0 : pads[r] = p := (List.cons.inj hd2).1
  have hps : pads.drop (r + 1) = ps := (List.cons.inj hd2).2
  have hg : pads.getD r 0 = p := by rw [List.getD_eq_getElem?_getD, List.getElem?_eq_getElem hlt, hp0]; rfl
  unfold padC
  by_cases c : p > 0
  ·rw [if_pos c]
   have := I.put (by omega) hlt (by omega)
   rw [hg] at this
   exact ih (r + 1) _ _ hps (by omega) this
  ·rw [if_neg c]
   exact ih (r + 1) _ _ hps (by omega) (I.skip (by omega))
/-- Whether all pads are delays. -/
def padsOk (n : Int) (pads : List Int) : Bool := decide ((pads.length : Int) = n) && pads.all fun p => inB p 0 100
def padOut (n : Int) (gates : List S56) (data pads : List Int) : List S56 × List Int := padC n pads 0 gates data
theorem padOut_inv {n : Int} {gates : List S56} {data pads : List Int} (hd : (data.length : Int) = n) (h : padsOk n pads = true) : PadInv n gates data pads pads.length (padOut n gates data pads).1 (padOut n gates data pads).2 := by
 unfold padsOk at h
 simp only [Bool.and_eq_true, decide_eq_true_eq] at h
 exact padC_inv n gates data pads (by omega) pads 0 gates data (by simp) (by omega) (PadInv.begin n gates data pads)
theorem gatesB_append (n : Int) (ex : List S56) (l : List S56) : ∀ j : Nat, gatesB n j (l ++ ex) = (gatesB n j l && gatesB n (j + l.length) ex) := by
 induction l with
 | nil => intro j; simp [gatesB]
 | cons g l ih =>
  intro j
  simp only [List.cons_append, gatesB, List.length_cons]
  rw [ih (j + 1), Bool.and_assoc, show j + 1 + l.length = j + (l.length + 1) by omega]
theorem gatesB_ex (n : Int) (M : Int) (ex : List S56) (h : ∀ g ∈ ex, ∃ p x, g = ⟨p, p, [x]⟩ ∧ 0 ≤ p ∧ p ≤ 100 ∧ 0 ≤ x ∧ x ≤ M) : ∀ j : Nat, M ≤ n + j - 1 → gatesB n j ex = true := by
 induction ex with
 | nil => intro j _; rfl
 | cons g ex ih =>
  intro j hj
  obtain ⟨p, x, rfl, h0, h1, h2, h3⟩ := h g (by simp)
  simp only [gatesB, gateB, Bool.and_eq_true]
  refine ⟨⟨⟨⟨inB_iff.mpr ⟨h0, h1⟩, inB_iff.mpr ⟨h0, Int.le_refl _⟩⟩, by simp⟩, ?_⟩, ih (fun y hy => h y (by simp [hy])) (j + 1) (by push_cast; omega)⟩
  simp only [risesB, risesFrom]
  rw [inB_iff.mpr ⟨h2, by omega⟩]
  rfl
/-- What a circuit with pads wants to be valid: not too many gates. -/
theorem padOut_valid {n a3 a4 a5 a6 : Int} {gates : List S56} {data pads : List Int} (hv : validB n gates data a3 a4 a5 a6 = true) (h : padsOk n pads = true) :
  validB n (padOut n gates data pads).1 (padOut n gates data pads).2 a3 a4 a5 a6 = decide ((padOut n gates data pads).1.length ≤ 10) := by
 have hv0 := hv
 unfold validB at hv
 simp only [Bool.and_eq_true, decide_eq_true_eq, List.all_eq_true, inB_iff] at hv
 obtain ⟨⟨⟨⟨⟨⟨⟨hn, hg⟩, hd⟩, h3⟩, h4⟩, h5⟩, hgs⟩, hds⟩ := hv
 obtain ⟨hl, ex, e1, e2, e3, e4⟩ := padOut_inv (gates := gates) hd h
 unfold padsOk at h
 simp only [Bool.and_eq_true, decide_eq_true_eq, List.all_eq_true, inB_iff] at h
 generalize (padOut n gates data pads).1 = gs at *
 generalize (padOut n gates data pads).2 = ds at *
 subst e1
 rw [Bool.eq_iff_iff, decide_eq_true_eq]
 constructor
 ·intro hx
  unfold validB at hx
  simp only [Bool.and_eq_true, decide_eq_true_eq] at hx
  exact hx.1.1.1.1.1.1.2
 ·intro hx
  unfold validB
  simp only [Bool.and_eq_true, decide_eq_true_eq, List.all_eq_true, inB_iff]
  refine ⟨⟨⟨⟨⟨⟨⟨hn, hx⟩, by omega⟩, h3⟩, h4⟩, h5⟩, ?_⟩, fun x hxm => ?_⟩
  ·rw [gatesB_append, hgs, Bool.true_and]
   refine gatesB_ex n (n + gates.length - 1) ex (fun g hg => ?_) _ (by push_cast; omega)
   obtain ⟨p, x, rfl, p0, p1, p2⟩ := e3 g hg
   have := h.2 p p1
   have := hds x p2
   exact ⟨p, x, rfl, by omega, by omega, by omega, by omega⟩
  ·obtain ⟨b, hb, rfl⟩ := List.getElem_of_mem hxm
   have e : ds[b] = ds.getD b 0 := by rw [List.getD_eq_getElem?_getD, List.getElem?_eq_getElem hb]; rfl
   obtain ⟨_, a2, a3'⟩ := e4 b (by omega)
   rw [e, List.length_append]
   push_cast
   by_cases c : 0 < pads.getD b 0
   ·obtain ⟨i, hi, x1, _⟩ := a3' (by omega) c
    rw [x1]
    omega
   ·rw [a2 (by omega) (by omega)]
    have := hds _ (getD_mem' (l := data) (b := b) (by omega))
    omega
theorem tabG_append (l m : List S56) : ∀ t, tabG t (l ++ m) = tabG (tabG t l) m := by
 induction l with
 | nil => intro t; rfl
 | cons g l ih => intro t; rw [List.cons_append, tabG_cons, tabG_cons, ih]
/-- The ways in a circuit with pads: those of the circuit, longer by the pad. -/
theorem padOut_path {n a3 a4 a5 a6 : Int} {gates : List S56} {data pads : List Int} (hw : ∀ g ∈ gates, g.f2.length ≤ 1048576) (hv : validB n gates data a3 a4 a5 a6 = true) (h : padsOk n pads = true) (hten : (padOut n gates data pads).1.length ≤ 10) (a b : Int) (hb0 : 0 ≤ b) (hb1 : b < n) :
  pathO n (padOut n gates data pads).1 (padOut n gates data pads).2 a5 a6 a b = (pathO n gates data a5 a6 a b).map fun p => (p.1 + rd pads b, p.2 + rd pads b) := by
 have C := circ_of n gates data a3 a4 a5 a6 hw hv
 have hv2 := padOut_valid hv h
 rw [decide_eq_true hten] at hv2
 have hd := C.dlen
 have hn0 := C.n0
 obtain ⟨hl, ex, e1, e2, e3, e4⟩ := padOut_inv (gates := gates) hd h
 unfold padsOk at h
 simp only [Bool.and_eq_true, decide_eq_true_eq, List.all_eq_true, inB_iff] at h
 generalize (padOut n gates data pads).1 = gs at *
 generalize (padOut n gates data pads).2 = ds at *
 subst e1
 have hw2 : ∀ g ∈ gates ++ ex, g.f2.length ≤ 1048576 := fun g hg => by
  rcases List.mem_append.mp hg with hg | hg
  ·exact hw g hg
  ·obtain ⟨p, x, rfl, _⟩ := e3 g hg
   simp
 have C2 := circ_of n (gates ++ ex) ds a3 a4 a5 a6 hw2 hv2
 have R2 := C2.ready hw2
 have R1 := C.ready hw
 have hls := C.least
 have hbn : b.toNat < data.length := by omega
 obtain ⟨_, a2, a3'⟩ := e4 b.toNat hbn
 have pre : ∀ v : Nat, (v : Int) < n + gates.length → (tab a n (gates ++ ex)).getD v none = (tab a n gates).getD v none := fun v hv => by
  unfold tab
  rw [tabG_append, tabG_prefix _ _ _ (by rw [tabG_len, tab0_len]; omega)]
 have hnode := C.node _ (getD_mem' hbn)
 unfold pathO rd
 by_cases c : 0 < pads.getD b.toNat 0
 ·obtain ⟨i, hi, x1, x2⟩ := a3' (by omega) c
  have hp := h.2 _ (getD_mem' (l := pads) (b := b.toNat) (by omega))
  have hiL : gates.length + i < (gates ++ ex).length := by simp; omega
  have hnd := tab_node a n (gates ++ ex) R2.gs (gates.length + i) hiL
  rw [x1, show (n + (gates.length : Int) + (i : Int)).toNat = n.toNat + (gates.length + i) by omega, hnd]
  have hge : (gates ++ ex)[gates.length + i] = ex[i] := by
   rw [List.getElem_append_right (by omega)]
   simp
  rw [hge, x2]
  simp only [joins]
  rw [pre _ (by omega)]
  generalize pads.getD b.toNat 0 = q at *
  have hbd : Bd 1000 ((tab a n gates).getD (data.getD b.toNat 0).toNat none) := getD_bd (tab_bd a n gates R1.gs) _
  cases hv : (tab a n gates).getD (data.getD b.toNat 0).toNat none with
  | none => rfl
  | some p =>
   rw [hv] at hbd
   obtain ⟨b0, b1, b2⟩ := hbd p rfl
   simp only [joinG, Option.map_some, Option.some.injEq, Prod.mk.injEq]
   constructor
   ·rw [wrap_id (x := p.1 + q + a5) (by omega) (by omega), wrap_id (x := p.1 + a5) (by omega) (by omega)]; omega
   ·rw [wrap_id (x := p.2 + q + a6) (by omega) (by omega), wrap_id (x := p.2 + a6) (by omega) (by omega)]; omega
 ·have hp := h.2 _ (getD_mem' (l := pads) (b := b.toNat) (by omega))
  rw [a2 (by omega) (by omega), pre _ (by omega), show pads.getD b.toNat 0 = 0 by omega]
  cases (tab a n gates).getD (data.getD b.toNat 0).toNat none with
  | none => rfl
  | some p => simp
/-- What both answer. -/
def padR (n : Int) (gates : List S56) (data : List Int) (a3 a4 a5 a6 : Int) (pads : List Int) : Int × List S56 × List Int × Int × Int × Int × Int × Bool :=
 if validB n gates data a3 a4 a5 a6 = true ∧ padsOk n pads = true ∧ (padOut n gates data pads).1.length ≤ 10 then (n, (padOut n gates data pads).1, (padOut n gates data pads).2, a3, a4, a5, a6, true) else (0, [], [], 0, 0, 0, 0, false)
/-- The pads ahead of one that is no delay. -/
theorem clone_tells (l : List Int) (h : l.length ≤ 1048576) : slices_Clone_int64_int64.f l = some l := if_pos (by omega)
theorem copy_loop (n a3 a4 a5 a6 : Int) (gates : List S56) (data : List Int) (hg : gates.length ≤ 10) (hw : ∀ g ∈ gates, g.f2.length ≤ 1048576) (hd : data.length ≤ 1048576) (d : Nat) : ∀ (k i : Nat) (acc : List S56), i + d = gates.length → d < k → acc = gates.take i →
  impl_copyCircuit.l0 k acc gates (gates.length : Int) (i : Int) n gates data a3 a4 a5 a6 = some (n, gates, data, a3, a4, a5, a6) := by
 induction d with
 | zero =>
  intro k i acc h hk ha
  obtain ⟨k, rfl⟩ : ∃ m, k = m + 1 := ⟨k - 1, by omega⟩
  simp only [impl_copyCircuit.l0]
  rw [if_neg (by omega), clone_tells data hd, ha, List.take_of_length_le (by omega)]
  rfl
 | succ d ih =>
  intro k i acc h hk ha
  obtain ⟨k, rfl⟩ : ∃ m, k = m + 1 := ⟨k - 1, by omega⟩
  have hi : i < gates.length := by omega
  have hal : acc.length ≤ 10 := by rw [ha, List.length_take]; omega
  simp only [impl_copyCircuit.l0]
  rw [if_pos (by omega), if_pos (by omega), if_pos (by omega), rdG' hi, clone_tells _ (hw _ (List.getElem_mem hi))]
  simp only [Option.bind_some]
  rw [if_pos (by omega), wrap_id (x := (i : Int) + 1) (by omega) (by omega)]
  have := ih k (i + 1) (acc ++ [gates[i]]) (by omega) (by omega) (by rw [ha, List.take_succ_eq_append_getElem hi])
  push_cast at this
  exact this
theorem copy_tells (n a3 a4 a5 a6 : Int) (gates : List S56) (data : List Int) (hg : gates.length ≤ 10) (hw : ∀ g ∈ gates, g.f2.length ≤ 1048576) (hd : data.length ≤ 1048576) (k : Nat) (hk : 100 ≤ k) :
  impl_copyCircuit.f k n gates data a3 a4 a5 a6 = some (n, gates, data, a3, a4, a5, a6) := by
 unfold impl_copyCircuit.f
 exact copy_loop n a3 a4 a5 a6 gates data hg hw hd gates.length k 0 [] (by omega) (by omega) rfl
theorem implPad_loop (n a3 a4 a5 a6 : Int) (pads : List Int) (hp : pads.length ≤ 6) (hn0 : 1 ≤ n) (hn : n ≤ 6) (d : Nat) : ∀ (k i : Nat) (gs : List S56) (ds : List Int), i + d = pads.length → d < k → ds.length = pads.length → gs.length + d ≤ 20 →
  impl_PadCircuit.l0 k pads (pads.length : Int) (i : Int) n gs ds a3 a4 a5 a6 = some (if validB n (padC n (pads.drop i) i gs ds).1 (padC n (pads.drop i) i gs ds).2 a3 a4 a5 a6 = true then (n, (padC n (pads.drop i) i gs ds).1, (padC n (pads.drop i) i gs ds).2, a3, a4, a5, a6, true) else (0, [], [], 0, 0, 0, 0, false)) := by
 induction d with
 | zero =>
  intro k i gs ds h hk hd hg
  obtain ⟨k, rfl⟩ : ∃ m, k = m + 1 := ⟨k - 1, by omega⟩
  simp only [impl_PadCircuit.l0]
  rw [if_neg (by omega), List.drop_of_length_le (by omega), valid_tells]
  simp only [Option.bind_some]
  show (if validB n gs ds a3 a4 a5 a6 = true then some (n, gs, ds, a3, a4, a5, a6, true) else some (0, [], [], 0, 0, 0, 0, false)) = some (if validB n gs ds a3 a4 a5 a6 = true then (n, gs, ds, a3, a4, a5, a6, true) else (0, [], [], 0, 0, 0, 0, false))
  by_cases hv : validB n gs ds a3 a4 a5 a6 = true
  ·rw [if_pos hv, if_pos hv]
  ·rw [if_neg hv, if_neg hv]
 | succ d ih =>
  intro k i gs ds h hk hd hg
  obtain ⟨k, rfl⟩ : ∃ m, k = m + 1 := ⟨k - 1, by omega⟩
  have hi : i < pads.length := by omega
  have hw1 : wrap64 ((i : Int) + 1) = ((i + 1 : Nat) : Int) := by rw [wrap_id (by omega) (by omega)]; omega
  simp only [impl_PadCircuit.l0]
  rw [if_pos (by omega), if_pos (by omega), if_pos (by omega), rd_get hi, hw1, List.drop_eq_getElem_cons hi]
  unfold padC
  by_cases c : pads[i] > 0
  ·rw [if_pos c, if_pos c, if_pos (by omega), if_pos (by omega)]
   simp only [Option.bind_some, impl_Circuit_nodes.f]
   have e1 : rd ds (i : Int) = ds.getD i 0 := by unfold rd; rw [Int.toNat_natCast]
   have e2 : wrap64 (wrap64 (n + ((gs ++ [(⟨pads[i], pads[i], [rd ds (i : Int)]⟩ : S56)]).length : Int)) - 1) = n + (gs.length : Int) := by
    have e3 : ((gs ++ [(⟨pads[i], pads[i], [rd ds (i : Int)]⟩ : S56)]).length : Int) = (gs.length : Int) + 1 := by simp
    rw [e3, wrap_id (x := n + ((gs.length : Int) + 1)) (by omega) (by omega), wrap_id (by omega) (by omega)]
    omega
   rw [e2, e1, Int.toNat_natCast]
   exact ih k (i + 1) _ _ (by omega) (by omega) (by simpa using hd) (by simp; omega)
  ·rw [if_neg c, if_neg c]
   exact ih k (i + 1) _ _ (by omega) (by omega) hd (by omega)
theorem implPad (n : Int) (gates : List S56) (data : List Int) (a3 a4 a5 a6 : Int) (pads : List Int) (hw : ∀ g ∈ gates, g.f2.length ≤ 1048576) (k : Nat) (hk : 1000 ≤ k) :
  impl_PadCircuit.f k n gates data a3 a4 a5 a6 pads = some (padR n gates data a3 a4 a5 a6 pads) := by
 obtain ⟨k, rfl⟩ : ∃ m, k = m + 1 := ⟨k - 1, by omega⟩
 unfold impl_PadCircuit.f padR
 rw [valid_tells]
 simp only [Option.bind_some]
 cases hv : validB n gates data a3 a4 a5 a6 with
 | false => simp [impl_PadCircuit.j0]
 | true =>
  have C := circ_of n gates data a3 a4 a5 a6 hw hv
  have hn0 := C.n0
  have hn1 := C.n1
  have hd := C.dlen
  have hgl := C.len
  rw [if_pos rfl]
  by_cases hl : (pads.length : Int) = n
  ·rw [if_pos hl]
   have hbad : impl_PadCircuit_1.f pads = some (pads.any badPad) := rfl
   rw [hbad]
   simp only [Option.bind_some, impl_PadCircuit.j0]
   have hok : padsOk n pads = !(pads.any badPad) := by
    unfold padsOk
    rw [decide_eq_true hl, Bool.true_and, List.all_eq_not_any_not]
    congr 1
   cases hb : pads.any badPad with
   | true =>
    rw [hb] at hok
    rw [if_pos rfl, if_neg (by rw [hok]; simp)]
   | false =>
    rw [hb] at hok
    rw [if_neg (by decide), copy_tells n a3 a4 a5 a6 gates data hgl hw (by omega) k (by omega)]
    simp only [Option.bind_some]
    have := implPad_loop n a3 a4 a5 a6 pads (by omega) hn0 hn1 pads.length k 0 gates data (by omega) (by omega) (by omega) (by omega)
    rw [List.drop_zero] at this
    rw [show ((0 : Nat) : Int) = 0 from rfl] at this
    rw [this]
    have hv2 := padOut_valid hv (show padsOk n pads = true by rw [hok]; rfl)
    unfold padOut at hv2 ⊢
    rw [hv2]
    congr 1
    by_cases c : (padC n pads 0 gates data).1.length ≤ 10
    ·rw [decide_eq_true c, if_pos rfl, if_pos ⟨trivial, by rw [hok]; rfl, c⟩]
    ·rw [decide_eq_false c, if_neg (by decide), if_neg (fun h => c h.2.2)]
  ·rw [if_neg hl, if_neg (by unfold padsOk; simp [hl])]
   simp [impl_PadCircuit.j0]
theorem own_tells (l : List Int) (h : l.length ≤ 1048576) : spec_l00Own.f l = some l := by
 unfold spec_l00Own.f
 simp only [Option.bind_some, List.nil_append, List.length_nil, Nat.zero_add]
 rw [if_pos (by omega)]
def padEnd (ok : Bool) (n a3 a4 a5 a6 : Int) (q : List S56 × List Int) : Int × List S56 × List Int × Int × Int × Int × Int × Bool := match ok && validB n q.1 q.2 a3 a4 a5 a6 with
 | true => (n, q.1, q.2, a3, a4, a5, a6, true)
 | false => (0, [], [], 0, 0, 0, 0, false)
theorem specPad_loop (n a3 a4 a5 a6 : Int) (gates : List S56) (data pads : List Int) (hp : pads.length ≤ 6) (hn0 : 1 ≤ n) (hn : n ≤ 6) (d : Nat) : ∀ (k i : Nat) (gs : List S56) (ds : List Int), i + d = pads.length → d < k → ds.length = pads.length → data.length = pads.length → gs.length + d ≤ 20 → (∀ b, i ≤ b → ds.getD b 0 = data.getD b 0) →
  spec_PadCircuit.l1 k pads (i : Int) n gates data a3 a4 a5 a6 n gs ds a3 a4 a5 a6 = some (padEnd ((pads.drop i).all fun p => inB p 0 100) n a3 a4 a5 a6 (padC n (pads.drop i) i gs ds)) := by
 induction d with
 | zero =>
  intro k i gs ds h hk hd hdd hg hb
  obtain ⟨k, rfl⟩ : ∃ m, k = m + 1 := ⟨k - 1, by omega⟩
  simp only [spec_PadCircuit.l1]
  rw [if_neg (by omega), List.drop_of_length_le (by omega)]
  show (if validB n gs ds a3 a4 a5 a6 = true then some (n, gs, ds, a3, a4, a5, a6, true) else some (0, [], [], 0, 0, 0, 0, false)) = some (padEnd true n a3 a4 a5 a6 (gs, ds))
  unfold padEnd
  dsimp only
  cases hv : validB n gs ds a3 a4 a5 a6 with
  | true => rfl
  | false => rfl
 | succ d ih =>
  intro k i gs ds h hk hd hdd hg hb
  obtain ⟨k, rfl⟩ : ∃ m, k = m + 1 := ⟨k - 1, by omega⟩
  have hi : i < pads.length := by omega
  have hw1 : wrap64 ((i : Int) + 1) = ((i + 1 : Nat) : Int) := by rw [wrap_id (by omega) (by omega)]; omega
  simp only [spec_PadCircuit.l1]
  rw [if_pos (by omega), if_pos (by omega), rd_get hi, in_tells, hw1, List.drop_eq_getElem_cons hi]
  simp only [Option.bind_some, List.all_cons]
  by_cases hin : inB pads[i] 0 100 = true
  ·rw [if_pos hin]
   have hx : (inB pads[i] 0 100 && (pads.drop (i + 1)).all fun p => inB p 0 100) = ((pads.drop (i + 1)).all fun p => inB p 0 100) := by rw [hin]; rfl
   rw [hx]
   unfold padC
   by_cases c : pads[i] > 0
   ·rw [if_pos c, if_pos c, if_pos (by omega), if_pos (by omega), if_pos (by omega)]
    have e1 : rd data (i : Int) = ds.getD i 0 := by unfold rd; rw [Int.toNat_natCast, hb i (Nat.le_refl _)]
    have e3 : ((gs ++ [(⟨pads[i], pads[i], [rd data (i : Int)]⟩ : S56)]).length : Int) = (gs.length : Int) + 1 := by simp
    have e2 : wrap64 (wrap64 (n + ((gs ++ [(⟨pads[i], pads[i], [rd data (i : Int)]⟩ : S56)]).length : Int)) - 1) = n + (gs.length : Int) := by
     rw [e3, wrap_id (x := n + ((gs.length : Int) + 1)) (by omega) (by omega), wrap_id (by omega) (by omega)]
     omega
    rw [e2, e1, Int.toNat_natCast]
    exact ih k (i + 1) _ _ (by omega) (by omega) (by simpa using hd) hdd (by simp; omega) (fun b hbb => by rw [getD_set' (by omega), if_neg (by omega)]; exact hb b (by omega))
   ·rw [if_neg c, if_neg c]
    exact ih k (i + 1) _ _ (by omega) (by omega) hd hdd (by omega) (fun b hbb => hb b (by omega))
  ·rw [if_neg hin]
   have hx : (inB pads[i] 0 100 && (pads.drop (i + 1)).all fun p => inB p 0 100) = false := by
    cases h : inB pads[i] 0 100 with
    | true => exact absurd h hin
    | false => rfl
   rw [hx]
   rfl
theorem specCopy_loop (n a3 a4 a5 a6 : Int) (gates : List S56) (data pads ds : List Int) (hg : gates.length ≤ 10) (hw : ∀ g ∈ gates, g.f2.length ≤ 1048576) (r : Int × List S56 × List Int × Int × Int × Int × Int × Bool) (K : Nat) (hr : ∀ k, K ≤ k → spec_PadCircuit.l1 k pads 0 n gates data a3 a4 a5 a6 n gates ds a3 a4 a5 a6 = some r) (d : Nat) : ∀ (k i : Nat) (acc : List S56), i + d = gates.length → d + K < k → acc = gates.take i →
  spec_PadCircuit.l0 k pads (i : Int) n gates data a3 a4 a5 a6 n acc ds a3 a4 a5 a6 = some r := by
 induction d with
 | zero =>
  intro k i acc h hk ha
  obtain ⟨k, rfl⟩ : ∃ m, k = m + 1 := ⟨k - 1, by omega⟩
  simp only [spec_PadCircuit.l0]
  rw [if_neg (by omega), ha, List.take_of_length_le (by omega)]
  exact hr k (by omega)
 | succ d ih =>
  intro k i acc h hk ha
  obtain ⟨k, rfl⟩ : ∃ m, k = m + 1 := ⟨k - 1, by omega⟩
  have hi : i < gates.length := by omega
  have hal : acc.length ≤ 10 := by rw [ha, List.length_take]; omega
  simp only [spec_PadCircuit.l0]
  rw [if_pos (by omega), if_pos (by omega), rdG' hi, own_tells _ (hw _ (List.getElem_mem hi))]
  simp only [Option.bind_some]
  rw [if_pos (by omega), wrap_id (x := (i : Int) + 1) (by omega) (by omega)]
  have := ih k (i + 1) (acc ++ [gates[i]]) (by omega) (by omega) (by rw [ha, List.take_succ_eq_append_getElem hi])
  push_cast at this
  exact this
theorem specPad (n : Int) (gates : List S56) (data : List Int) (a3 a4 a5 a6 : Int) (pads : List Int) (hw : ∀ g ∈ gates, g.f2.length ≤ 1048576) (k : Nat) (hk : 1000 ≤ k) :
  spec_PadCircuit.f k n gates data a3 a4 a5 a6 pads = some (padR n gates data a3 a4 a5 a6 pads) := by
 obtain ⟨k, rfl⟩ : ∃ m, k = m + 1 := ⟨k - 1, by omega⟩
 unfold spec_PadCircuit.f padR
 rw [show spec_l06Is_at.f n gates data a3 a4 a5 a6 = some (validB n gates data a3 a4 a5 a6) from rfl]
 simp only [Option.bind_some]
 cases hv : validB n gates data a3 a4 a5 a6 with
 | false => simp [spec_PadCircuit.j0]
 | true =>
  have C := circ_of n gates data a3 a4 a5 a6 hw hv
  have hn0 := C.n0
  have hn1 := C.n1
  have hd := C.dlen
  have hgl := C.len
  rw [if_pos rfl]
  simp only [spec_PadCircuit.j0]
  by_cases hl : (pads.length : Int) = n
  ·rw [show ((pads.length : Int) != n) = false by simp [hl], if_neg (by decide), own_tells data (by omega)]
   simp only [Option.bind_some]
   have h1 := fun k hk => specPad_loop n a3 a4 a5 a6 gates data pads (by omega) hn0 hn1 pads.length k 0 gates data (by omega) hk (by omega) (by omega) (by omega) (fun _ _ => rfl)
   rw [show ((0 : Nat) : Int) = 0 from rfl] at h1
   have h2 := specCopy_loop n a3 a4 a5 a6 gates data pads data hgl hw _ (pads.length + 1) (fun k hk => h1 k (by omega)) gates.length k 0 [] (by omega) (by omega) rfl
   rw [show ((0 : Nat) : Int) = 0 from rfl] at h2
   rw [h2, List.drop_zero]
   congr 1
   have hall : padsOk n pads = (pads.all fun p => inB p 0 100) := by unfold padsOk; rw [decide_eq_true hl, Bool.true_and]
   rw [← hall]
   unfold padEnd
   cases hok : padsOk n pads with
   | true =>
    have hv2 := padOut_valid hv hok
    unfold padOut at hv2 ⊢
    rw [hv2, Bool.true_and]
    by_cases c : (padC n pads 0 gates data).1.length ≤ 10
    ·rw [decide_eq_true c, if_pos ⟨trivial, rfl, c⟩]
    ·rw [decide_eq_false c, if_neg (fun h => c h.2.2)]
   | false =>
    rw [Bool.false_and, if_neg (fun h => by simp at h)]
  ·rw [show ((pads.length : Int) != n) = true by simp [hl], if_pos rfl, if_neg (by unfold padsOk; simp [hl])]
end Go.Proofs.Ytahjcmmgdcedpaa.Pure

