-- Written for this claim by a program of this session.
import Derived.Test.YtalafmahgeejiaaXCoreP5
import Derived.Test.YtalafmahgeejiaaXCoreP6
import Derived.Test.YtalafmahgeejiaaXCoreP7
import Derived.Test.YtalafmahgeejiaaXPax0
import Derived.Test.YtalafmahgeejiaaXCoreP1
/- A circuit with pads: the program's and the reference's, and the ways in it. -/
namespace Go.Proofs.Ytalafmahgeejiaa.Pure
open Go.RowKit Go.Proofs.Ytalafmahgeejiaa.Pa Go.Proofs.YtalafmahgeejiaaW.PrintWords Go.Proofs.YtalafmahgeejiaaW.PrintLast
set_option linter.unusedVariables false
set_option linter.unusedSimpArgs false

/-- The gates and the data behind the pads from a register on. -/
def padC (n : Int) : List Int → Nat → List S62 → List Int → List S62 × List Int
 | [], _, gs, ds => (gs, ds)
 | p :: ps, r, gs, ds => if p > 0 then padC n ps (r + 1) (gs ++ [⟨p, p, [ds.getD r 0]⟩]) (ds.set r (n + gs.length)) else padC n ps (r + 1) gs ds
/-- Where the pads stand: the gates ahead, those behind, and the data. -/
structure PadInv (n : Int) (gates : List S62) (data pads : List Int) (r : Nat) (gs : List S62) (ds : List Int) : Prop where
 len : ds.length = data.length
 ext : ∃ ex : List S62, gs = gates ++ ex ∧ ex.length ≤ r ∧ (∀ g ∈ ex, ∃ p x, g = ⟨p, p, [x]⟩ ∧ 0 < p ∧ p ∈ pads ∧ x ∈ data) ∧
  ∀ b, b < data.length → (r ≤ b → ds.getD b 0 = data.getD b 0) ∧ (b < r → pads.getD b 0 ≤ 0 → ds.getD b 0 = data.getD b 0) ∧
   (b < r → 0 < pads.getD b 0 → ∃ i, ∃ h : i < ex.length, ds.getD b 0 = n + gates.length + i ∧ ex[i] = ⟨pads.getD b 0, pads.getD b 0, [data.getD b 0]⟩)
theorem getD_mem' {l : List Int} {b : Nat} (h : b < l.length) : l.getD b 0 ∈ l := by
 rw [List.getD_eq_getElem?_getD, List.getElem?_eq_getElem h]
 exact List.getElem_mem h
theorem getD_set' {l : List Int} {i j : Nat} {v : Int} (h : i < l.length) : (l.set i v).getD j 0 = if i = j then v else l.getD j 0 := by
 rw [List.getD_eq_getElem?_getD, List.getElem?_set]
 split
 ·first | rfl | (rw [if_pos (by omega)]; rfl)
 ·rw [List.getD_eq_getElem?_getD]
theorem PadInv.begin (n : Int) (gates : List S62) (data pads : List Int) : PadInv n gates data pads 0 gates data :=
 ⟨rfl, [], by simp, by simp, by simp, fun b _ => ⟨fun _ => rfl, fun h => by omega, fun h => by omega⟩⟩
theorem PadInv.skip {n : Int} {gates : List S62} {data pads : List Int} {r : Nat} {gs : List S62} {ds : List Int} (I : PadInv n gates data pads r gs ds) (hp : pads.getD r 0 ≤ 0) : PadInv n gates data pads (r + 1) gs ds := by
 obtain ⟨hl, ex, h1, h2, h3, h4⟩ := I
 refine ⟨hl, ex, h1, by omega, h3, fun b hb => ?_⟩
 obtain ⟨a1, a2, a3⟩ := h4 b hb
 refine ⟨fun h => a1 (by omega), fun h hq => ?_, fun h hq => ?_⟩
 ·by_cases c : b = r
  ·exact a1 (by omega)
  ·exact a2 (by omega) hq
 ·by_cases c : b = r
  ·subst c; omega
  ·exact a3 (by omega) hq
theorem PadInv.put {n : Int} {gates : List S62} {data pads : List Int} {r : Nat} {gs : List S62} {ds : List Int} (I : PadInv n gates data pads r gs ds) (hr : r < data.length) (hr2 : r < pads.length) (hp : 0 < pads.getD r 0) :
  PadInv n gates data pads (r + 1) (gs ++ [⟨pads.getD r 0, pads.getD r 0, [ds.getD r 0]⟩]) (ds.set r (n + gs.length)) := by
 obtain ⟨hl, ex, h1, h2, h3, h4⟩ := I
 have e0 : ds.getD r 0 = data.getD r 0 := (h4 r hr).1 (Nat.le_refl _)
 refine ⟨by simpa using hl, ex ++ [⟨pads.getD r 0, pads.getD r 0, [ds.getD r 0]⟩], by rw [h1, List.append_assoc], by simp; omega, fun g hg => ?_, fun b hb => ?_⟩
 ·rcases List.mem_append.mp hg with hg | hg
  ·exact h3 g hg
  ·rw [List.mem_singleton] at hg
   exact ⟨_, _, hg, hp, getD_mem' hr2, by rw [e0]; exact getD_mem' hr⟩
 ·obtain ⟨a1, a2, a3⟩ := h4 b hb
  rw [getD_set' (by omega)]
  by_cases c : r = b
  ·subst c
   rw [if_pos rfl]
   refine ⟨fun h => by omega, fun _ h => by omega, fun _ _ => ⟨ex.length, by simp, ?_, ?_⟩⟩
   ·rw [h1, List.length_append]; push_cast; omega
   ·rw [List.getElem_append_right (Nat.le_refl _)]
    simp only [Nat.sub_self, List.getElem_cons_zero]
    rw [e0]
  ·rw [if_neg c]
   refine ⟨fun h => a1 (by omega), fun h hq => a2 (by omega) hq, fun h hq => ?_⟩
   obtain ⟨i, hi, x1, x2⟩ := a3 (by omega) hq
   exact ⟨i, by simp; omega, x1, by rw [List.getElem_append_left hi]; exact x2⟩
theorem padC_inv (n : Int) (gates : List S62) (data pads : List Int) (hp : pads.length = data.length) (ps : List Int) : ∀ (r : Nat) (gs : List S62) (ds : List Int), pads.drop r = ps → r ≤ pads.length → PadInv n gates data pads r gs ds →
  PadInv n gates data pads pads.length (padC n ps r gs ds).1 (padC n ps r gs ds).2 := by
 induction ps with
 | nil =>
  intro r gs ds hd hr I
  have : pads.length ≤ r := by
   have := congrArg List.length hd
   simp at this
   omega
  have e : r = pads.length := by omega
  subst e
  exact I
 | cons p ps ih =>
  intro r gs ds hd hr I
  have hlt : r < pads.length := by
   have := congrArg List.length hd
   simp at this
   omega
  have hd2 := hd
  rw [List.drop_eq_getElem_cons hlt] at hd2
  have hp0 : pads[r] = p := (List.cons.inj hd2).1
  have hps : pads.drop (r + 1) = ps := (List.cons.inj hd2).2
  have hg : pads.getD r 0 = p := by rw [List.getD_eq_getElem?_getD, List.getElem?_eq_getElem hlt, hp0]; rfl
  unfold padC
  by_cases c : p > 0
  ·rw [if_pos c]
   have := I.put (by omega) hlt (by omega)
   rw [hg] at this
   exact ih (r + 1) _ _ hps (by omega) this
  ·rw [if_neg c]
   exact ih (r + 1) _ _ hps (by omega) (I.skip (by omega))
/-- Whether all pads are delays. -/
def padsOk (n : Int) (pads : List Int) : Bool := decide ((pads.length : Int) = n) && pads.all fun p => inB p 0 100
def padOut (n : Int) (gates : List S62) (data pads : List Int) : List S62 × List Int := padC n pads 0 gates data
theorem padOut_inv {n : Int} {gates : List S62} {data pads : List Int} (hd : (data.length : Int) = n) (h : padsOk n pads = true) : PadInv n gates data pads pads.length (padOut n gates data pads).1 (padOut n gates data pads).2 := by
 unfold padsOk at h
 simp only [Bool.and_eq_true, decide_eq_true_eq] at h
 exact padC_inv n gates data pads (by omega) pads 0 gates data (by simp) (by omega) (PadInv.begin n gates data pads)
theorem gatesB_append (n : Int) (ex : List S62) (l : List S62) : ∀ j : Nat, gatesB n j (l ++ ex) = (gatesB n j l && gatesB n (j + l.length) ex) := by
 induction l with
 | nil => intro j; simp [gatesB]
 | cons g l ih =>
  intro j
  simp only [List.cons_append, gatesB, List.length_cons]
  rw [ih (j + 1), Bool.and_assoc, show j + 1 + l.length = j + (l.length + 1) by omega]
theorem gatesB_ex (n : Int) (M : Int) (ex : List S62) (h : ∀ g ∈ ex, ∃ p x, g = ⟨p, p, [x]⟩ ∧ 0 ≤ p ∧ p ≤ 100 ∧ 0 ≤ x ∧ x ≤ M) : ∀ j : Nat, M ≤ n + j - 1 → gatesB n j ex = true := by
 induction ex with
 | nil => intro j _; rfl
 | cons g ex ih =>
  intro j hj
  obtain ⟨p, x, rfl, h0, h1, h2, h3⟩ := h g (by simp)
  simp only [gatesB, gateB, Bool.and_eq_true]
  refine ⟨⟨⟨⟨inB_iff.mpr ⟨h0, h1⟩, inB_iff.mpr ⟨h0, Int.le_refl _⟩⟩, by simp⟩, ?_⟩, ih (fun y hy => h y (by simp [hy])) (j + 1) (by push_cast; omega)⟩
  simp only [risesB, risesFrom]
  rw [inB_iff.mpr ⟨h2, by omega⟩]
  rfl
/-- What a circuit with pads wants to be valid: not too many gates. -/
theorem padOut_valid {n a3 a4 a5 a6 : Int} {gates : List S62} {data pads : List Int} (hv : validB n gates data a3 a4 a5 a6 = true) (h : padsOk n pads = true) :
  validB n (padOut n gates data pads).1 (padOut n gates data pads).2 a3 a4 a5 a6 = decide ((padOut n gates data pads).1.length ≤ 10) := by
 have hv0 := hv
 unfold validB at hv
 simp only [Bool.and_eq_true, decide_eq_true_eq, List.all_eq_true, inB_iff] at hv
 obtain ⟨⟨⟨⟨⟨⟨⟨hn, hg⟩, hd⟩, h3⟩, h4⟩, h5⟩, hgs⟩, hds⟩ := hv
 obtain ⟨hl, ex, e1, e2, e3, e4⟩ := padOut_inv (gates := gates) hd h
 unfold padsOk at h
 simp only [Bool.and_eq_true, decide_eq_true_eq, List.all_eq_true, inB_iff] at h
 generalize (padOut n gates data pads).1 = gs at *
 generalize (padOut n gates data pads).2 = ds at *
 subst e1
 rw [Bool.eq_iff_iff, decide_eq_true_eq]
 constructor
 ·intro hx
  unfold validB at hx
  simp only [Bool.and_eq_true, decide_eq_true_eq] at hx
  exact hx.1.1.1.1.1.1.2
 ·intro hx
  unfold validB
  simp only [Bool.and_eq_true, decide_eq_true_eq, List.all_eq_true, inB_iff]
  refine ⟨⟨⟨⟨⟨⟨⟨hn, hx⟩, by omega⟩, h3⟩, h4⟩, h5⟩, ?_⟩, fun x hxm => ?_⟩
  ·rw [gatesB_append, hgs, Bool.true_and]
   refine gatesB_ex n (n + gates.length - 1) ex (fun g hg => ?_) _ (by push_cast; omega)
   obtain ⟨p, x, rfl, p0, p1, p2⟩ := e3 g hg
   have := h.2 p p1
   have := hds x p2
   exact ⟨p, x, rfl, by omega, by omega, by omega, by omega⟩
  ·obtain ⟨b, hb, rfl⟩ := List.getElem_of_mem hxm
   have e : ds[b] = ds.getD b 0 := by rw [List.getD_eq_getElem?_getD, List.getElem?_eq_getElem hb]; rfl
   obtain ⟨_, a2, a3'⟩ := e4 b (by omega)
   rw [e, List.length_append]
   push_cast
   by_cases c : 0 < pads.getD b 0
   ·obtain ⟨i, hi, x1, _⟩ := a3' (by omega) c
    rw [x1]
    omega
   ·rw [a2 (by omega) (by omega)]
    have := hds _ (getD_mem' (l := data) (b := b) (by omega))
    omega
/-- What both answer. -/
def padR (n : Int) (gates : List S62) (data : List Int) (a3 a4 a5 a6 : Int) (pads : List Int) : Int × List S62 × List Int × Int × Int × Int × Int × Bool :=
 if validB n gates data a3 a4 a5 a6 = true ∧ padsOk n pads = true ∧ (padOut n gates data pads).1.length ≤ 10 then (n, (padOut n gates data pads).1, (padOut n gates data pads).2, a3, a4, a5, a6, true) else (0, [], [], 0, 0, 0, 0, false)
/-- The pads ahead of one that is no delay. -/
theorem clone_tells (l : List Int) (h : l.length ≤ 1048576) : slices_Clone_int64_int64.f l = some l := if_pos (by omega)
theorem copy_loop (n a3 a4 a5 a6 : Int) (gates : List S62) (data : List Int) (hg : gates.length ≤ 10) (hw : ∀ g ∈ gates, g.f2.length ≤ 1048576) (hd : data.length ≤ 1048576) (d : Nat) : ∀ (k i : Nat) (acc : List S62), i + d = gates.length → d < k → acc = gates.take i →
  impl_copyCircuit.l0 k acc gates (gates.length : Int) (i : Int) n gates data a3 a4 a5 a6 = some (n, gates, data, a3, a4, a5, a6) := by
 induction d with
 | zero =>
  intro k i acc h hk ha
  obtain ⟨k, rfl⟩ : ∃ m, k = m + 1 := ⟨k - 1, by omega⟩
  simp only [impl_copyCircuit.l0]
  rw [if_neg (by omega), clone_tells data hd, ha, List.take_of_length_le (by omega)]
  rfl
 | succ d ih =>
  intro k i acc h hk ha
  obtain ⟨k, rfl⟩ : ∃ m, k = m + 1 := ⟨k - 1, by omega⟩
  have hi : i < gates.length := by omega
  have hal : acc.length ≤ 10 := by rw [ha, List.length_take]; omega
  simp only [impl_copyCircuit.l0]
  rw [if_pos (by omega), if_pos (by omega), if_pos (by omega), rdG' hi, clone_tells _ (hw _ (List.getElem_mem hi))]
  simp only [Option.bind_some]
  rw [if_pos (by omega), wrap_id (x := (i : Int) + 1) (by omega) (by omega)]
  have := ih k (i + 1) (acc ++ [gates[i]]) (by omega) (by omega) (by rw [ha, List.take_succ_eq_append_getElem hi])
  push_cast at this
  exact this
theorem copy_tells (n a3 a4 a5 a6 : Int) (gates : List S62) (data : List Int) (hg : gates.length ≤ 10) (hw : ∀ g ∈ gates, g.f2.length ≤ 1048576) (hd : data.length ≤ 1048576) (k : Nat) (hk : 100 ≤ k) :
  impl_copyCircuit.f k n gates data a3 a4 a5 a6 = some (n, gates, data, a3, a4, a5, a6) := by
 unfold impl_copyCircuit.f
 exact copy_loop n a3 a4 a5 a6 gates data hg hw hd gates.length k 0 [] (by omega) (by omega) rfl
theorem implPad_loop (n a3 a4 a5 a6 : Int) (pads : List Int) (hp : pads.length ≤ 6) (hn0 : 1 ≤ n) (hn : n ≤ 6) (d : Nat) : ∀ (k i : Nat) (gs : List S62) (ds : List Int), i + d = pads.length → d < k → ds.length = pads.length → gs.length + d ≤ 20 →
  impl_PadCircuit.l0 k pads (pads.length : Int) (i : Int) n gs ds a3 a4 a5 a6 = some (if validB n (padC n (pads.drop i) i gs ds).1 (padC n (pads.drop i) i gs ds).2 a3 a4 a5 a6 = true then (n, (padC n (pads.drop i) i gs ds).1, (padC n (pads.drop i) i gs ds).2, a3, a4, a5, a6, true) else (0, [], [], 0, 0, 0, 0, false)) := by
 induction d with
 | zero =>
  intro k i gs ds h hk hd hg
  obtain ⟨k, rfl⟩ : ∃ m, k = m + 1 := ⟨k - 1, by omega⟩
  simp only [impl_PadCircuit.l0]
  rw [if_neg (by omega), List.drop_of_length_le (by omega), valid_tells]
  simp only [Option.bind_some]
  show (if validB n gs ds a3 a4 a5 a6 = true then some (n, gs, ds, a3, a4, a5, a6, true) else some (0, [], [], 0, 0, 0, 0, false)) = some (if validB n gs ds a3 a4 a5 a6 = true then (n, gs, ds, a3, a4, a5, a6, true) else (0, [], [], 0, 0, 0, 0, false))
  by_cases hv : validB n gs ds a3 a4 a5 a6 = true
  ·rw [if_pos hv, if_pos hv]
  ·rw [if_neg hv, if_neg hv]
 | succ d ih =>
  intro k i gs ds h hk hd hg
  obtain ⟨k, rfl⟩ : ∃ m, k = m + 1 := ⟨k - 1, by omega⟩
  have hi : i < pads.length := by omega
  have hw1 : wrap64 ((i : Int) + 1) = ((i + 1 : Nat) : Int) := by rw [wrap_id (by omega) (by omega)]; omega
  simp only [impl_PadCircuit.l0]
  rw [if_pos (by omega), if_pos (by omega), if_pos (by omega), rd_get hi, hw1, List.drop_eq_getElem_cons hi]
  unfold padC
  by_cases c : pads[i] > 0
  ·rw [if_pos c, if_pos c, if_pos (by omega), if_pos (by omega)]
   simp only [Option.bind_some, impl_Circuit_nodes.f]
   have e1 : rd ds (i : Int) = ds.getD i 0 := by unfold rd; rw [Int.toNat_natCast]
   have e2 : wrap64 (wrap64 (n + ((gs ++ [(⟨pads[i], pads[i], [rd ds (i : Int)]⟩ : S62)]).length : Int)) - 1) = n + (gs.length : Int) := by
    have e3 : ((gs ++ [(⟨pads[i], pads[i], [rd ds (i : Int)]⟩ : S62)]).length : Int) = (gs.length : Int) + 1 := by simp
    rw [e3, wrap_id (x := n + ((gs.length : Int) + 1)) (by omega) (by omega), wrap_id (by omega) (by omega)]
    omega
   rw [e2, e1, Int.toNat_natCast]
   exact ih k (i + 1) _ _ (by omega) (by omega) (by simpa using hd) (by simp; omega)
  ·rw [if_neg c, if_neg c]
   exact ih k (i + 1) _ _ (by omega) (by omega) hd (by omega)
theorem implPad (n : Int) (gates : List S62) (data : List Int) (a3 a4 a5 a6 : Int) (pads : List Int) (hw : ∀ g ∈ gates, g.f2.length ≤ 1048576) (k : Nat) (hk : 1000 ≤ k) :
  impl_PadCircuit.f k n gates data a3 a4 a5 a6 pads = some (padR n gates data a3 a4 a5 a6 pads) := by
 obtain ⟨k, rfl⟩ : ∃ m, k = m + 1 := ⟨k - 1, by omega⟩
 unfold impl_PadCircuit.f padR
 rw [valid_tells]
 simp only [Option.bind_some]
 cases hv : validB n gates data a3 a4 a5 a6 with
 | false => simp [impl_PadCircuit.j0]
 | true =>
  have C := circ_of n gates data a3 a4 a5 a6 hw hv
  have hn0 := C.n0
  have hn1 := C.n1
  have hd := C.dlen
  have hgl := C.len
  rw [if_pos rfl]
  by_cases hl : (pads.length : Int) = n
  ·rw [if_pos hl]
   have hbad : impl_PadCircuit_1.f pads = some (pads.any badPad) := rfl
   rw [hbad]
   simp only [Option.bind_some, impl_PadCircuit.j0]
   have hok : padsOk n pads = !(pads.any badPad) := by
    unfold padsOk
    rw [decide_eq_true hl, Bool.true_and, List.all_eq_not_any_not]
    congr 1
   cases hb : pads.any badPad with
   | true =>
    rw [hb] at hok
    rw [if_pos rfl, if_neg (by rw [hok]; simp)]
   | false =>
    rw [hb] at hok
    rw [if_neg (by decide), copy_tells n a3 a4 a5 a6 gates data hgl hw (by omega) k (by omega)]
    simp only [Option.bind_some]
    have := implPad_loop n a3 a4 a5 a6 pads (by omega) hn0 hn1 pads.length k 0 gates data (by omega) (by omega) (by omega) (by omega)
    rw [List.drop_zero] at this
    rw [show ((0 : Nat) : Int) = 0 from rfl] at this
    rw [this]
    have hv2 := padOut_valid hv (show padsOk n pads = true by rw [hok]; rfl)
    unfold padOut at hv2 ⊢
    rw [hv2]
    congr 1
    by_cases c : (padC n pads 0 gates data).1.length ≤ 10
    ·rw [decide_eq_true c, if_pos rfl, if_pos ⟨trivial, by rw [hok]; rfl, c⟩]
    ·rw [decide_eq_false c, if_neg (by decide), if_neg (fun h => c h.2.2)]
  ·rw [if_neg hl, if_neg (by unfold padsOk; simp [hl])]
   simp [impl_PadCircuit.j0]
theorem own_tells (l : List Int) (h : l.length ≤ 1048576) : spec_l00Own.f l = some l := by
 unfold spec_l00Own.f
 simp only [Option.bind_some, List.nil_append, List.length_nil, Nat.zero_add]
 rw [if_pos (by omega)]
def padEnd (ok : Bool) (n a3 a4 a5 a6 : Int) (q : List S62 × List Int) : Int × List S62 × List Int × Int × Int × Int × Int × Bool := match ok && validB n q.1 q.2 a3 a4 a5 a6 with
 | true => (n, q.1, q.2, a3, a4, a5, a6, true)
 | false => (0, [], [], 0, 0, 0, 0, false)
theorem specPad_loop (n a3 a4 a5 a6 : Int) (gates : List S62) (data pads : List Int) (hp : pads.length ≤ 6) (hn0 : 1 ≤ n) (hn : n ≤ 6) (d : Nat) : ∀ (k i : Nat) (gs : List S62) (ds : List Int), i + d = pads.length → d < k → ds.length = pads.length → data.length = pads.length → gs.length + d ≤ 20 → (∀ b, i ≤ b → ds.getD b 0 = data.getD b 0) →
  spec_PadCircuit.l1 k pads (i : Int) n gates data a3 a4 a5 a6 n gs ds a3 a4 a5 a6 = some (padEnd ((pads.drop i).all fun p => inB p 0 100) n a3 a4 a5 a6 (padC n (pads.drop i) i gs ds)) := by
 induction d with
 | zero =>
  intro k i gs ds h hk hd hdd hg hb
  obtain ⟨k, rfl⟩ : ∃ m, k = m + 1 := ⟨k - 1, by omega⟩
  simp only [spec_PadCircuit.l1]
  rw [if_neg (by omega), List.drop_of_length_le (by omega)]
  show (if validB n gs ds a3 a4 a5 a6 = true then some (n, gs, ds, a3, a4, a5, a6, true) else some (0, [], [], 0, 0, 0, 0, false)) = some (padEnd true n a3 a4 a5 a6 (gs, ds))
  unfold padEnd
  dsimp only
  cases hv : validB n gs ds a3 a4 a5 a6 with
  | true => rfl
  | false => rfl
 | succ d ih =>
  intro k i gs ds h hk hd hdd hg hb
  obtain ⟨k, rfl⟩ : ∃ m, k = m + 1 := ⟨k - 1, by omega⟩
  have hi : i < pads.length := by omega
  have hw1 : wrap64 ((i : Int) + 1) = ((i + 1 : Nat) : Int) := by rw [wrap_id (by omega) (by omega)]; omega
  simp only [spec_PadCircuit.l1]
  rw [if_pos (by omega), if_pos (by omega), rd_get hi, in_tells, hw1, List.drop_eq_getElem_cons hi]
  simp only [Option.bind_some, List.all_cons]
  by_cases hin : inB pads[i] 0 100 = true
  ·rw [if_pos hin]
   have hx : (inB pads[i] 0 100 && (pads.drop (i + 1)).all fun p => inB p 0 100) = ((pads.drop (i + 1)).all fun p => inB p 0 100) := by rw [hin]; rfl
   rw [hx]
   unfold padC
   by_cases c : pads[i] > 0
   ·rw [if_pos c, if_pos c, if_pos (by omega), if_pos (by omega), if_pos (by omega)]
    have e1 : rd data (i : Int) = ds.getD i 0 := by unfold rd; rw [Int.toNat_natCast, hb i (Nat.le_refl _)]
    have e3 : ((gs ++ [(⟨pads[i], pads[i], [rd data (i : Int)]⟩ : S62)]).length : Int) = (gs.length : Int) + 1 := by simp
    have e2 : wrap64 (wrap64 (n + ((gs ++ [(⟨pads[i], pads[i], [rd data (i : Int)]⟩ : S62)]).length : Int)) - 1) = n + (gs.length : Int) := by
     rw [e3, wrap_id (x := n + ((gs.length : Int) + 1)) (by omega) (by omega), wrap_id (by omega) (by omega)]
     omega
    rw [e2, e1, Int.toNat_natCast]
    exact ih k (i + 1) _ _ (by omega) (by omega) (by simpa using hd) hdd (by simp; omega) (fun b hbb => by rw [getD_set' (by omega), if_neg (by omega)]; exact hb b (by omega))
   ·rw [if_neg c, if_neg c]
    exact ih k (i + 1) _ _ (by omega) (by omega) hd hdd (by omega) (fun b hbb => hb b (by omega))
  ·rw [if_neg hin]
   have hx : (inB pads[i] 0 100 && (pads.drop (i + 1)).all fun p => inB p 0 100) = false := by
    cases h : inB pads[i] 0 100 with
    | true => exact absurd h hin
    | false => rfl
   rw [hx]
   rfl
theorem specCopy_loop (n a3 a4 a5 a6 : Int) (gates : List S62) (data pads ds : List Int) (hg : gates.length ≤ 10) (hw : ∀ g ∈ gates, g.f2.length ≤ 1048576) (r : Int × List S62 × List Int × Int × Int × Int × Int × Bool) (K : Nat) (hr : ∀ k, K ≤ k → spec_PadCircuit.l1 k pads 0 n gates data a3 a4 a5 a6 n gates ds a3 a4 a5 a6 = some r) (d : Nat) : ∀ (k i : Nat) (acc : List S62), i + d = gates.length → d + K < k → acc = gates.take i →
  spec_PadCircuit.l0 k pads (i : Int) n gates data a3 a4 a5 a6 n acc ds a3 a4 a5 a6 = some r := by
 induction d with
 | zero =>
  intro k i acc h hk ha
  obtain ⟨k, rfl⟩ : ∃ m, k = m + 1 := ⟨k - 1, by omega⟩
  simp only [spec_PadCircuit.l0]
  rw [if_neg (by omega), ha, List.take_of_length_le (by omega)]
  exact hr k (by omega)
 | succ d ih =>
  intro k i acc h hk ha
  obtain ⟨k, rfl⟩ : ∃ m, k = m + 1 := ⟨k - 1, by omega⟩
  have hi : i < gates.length := by omega
  have hal : acc.length ≤ 10 := by rw [ha, List.length_take]; omega
  simp only [spec_PadCircuit.l0]
  rw [if_pos (by omega), if_pos (by omega), rdG' hi, own_tells _ (hw _ (List.getElem_mem hi))]
  simp only [Option.bind_some]
  rw [if_pos (by omega), wrap_id (x := (i : Int) + 1) (by omega) (by omega)]
  have := ih k (i + 1) (acc ++ [gates[i]]) (by omega) (by omega) (by rw [ha, List.take_succ_eq_append_getElem hi])
  push_cast at this
  exact this
theorem specPad (n : Int) (gates : List S62) (data : List Int) (a3 a4 a5 a6 : Int) (pads : List Int) (hw : ∀ g ∈ gates, g.f2.length ≤ 1048576) (k : Nat) (hk : 1000 ≤ k) :
  spec_PadCircuit.f k n gates data a3 a4 a5 a6 pads = some (padR n gates data a3 a4 a5 a6 pads) := by
 obtain ⟨k, rfl⟩ : ∃ m, k = m + 1 := ⟨k - 1, by omega⟩
 unfold spec_PadCircuit.f padR
 rw [show spec_l06Is_at.f n gates data a3 a4 a5 a6 = some (validB n gates data a3 a4 a5 a6) from rfl]
 simp only [Option.bind_some]
 cases hv : validB n gates data a3 a4 a5 a6 with
 | false => simp [spec_PadCircuit.j0]
 | true =>
  have C := circ_of n gates data a3 a4 a5 a6 hw hv
  have hn0 := C.n0
  have hn1 := C.n1
  have hd := C.dlen
  have hgl := C.len
  rw [if_pos rfl]
  simp only [spec_PadCircuit.j0]
  by_cases hl : (pads.length : Int) = n
  ·rw [show ((pads.length : Int) != n) = false by simp [hl], if_neg (by decide), own_tells data (by omega)]
   simp only [Option.bind_some]
   have h1 := fun k hk => specPad_loop n a3 a4 a5 a6 gates data pads (by omega) hn0 hn1 pads.length k 0 gates data (by omega) hk (by omega) (by omega) (by omega) (fun _ _ => rfl)
   rw [show ((0 : Nat) : Int) = 0 from rfl] at h1
   have h2 := specCopy_loop n a3 a4 a5 a6 gates data pads data hgl hw _ (pads.length + 1) (fun k hk => h1 k (by omega)) gates.length k 0 [] (by omega) (by omega) rfl
   rw [show ((0 : Nat) : Int) = 0 from rfl] at h2
   rw [h2, List.drop_zero]
   congr 1
   have hall : padsOk n pads = (pads.all fun p => inB p 0 100) := by unfold padsOk; rw [decide_eq_true hl, Bool.true_and]
   rw [← hall]
   unfold padEnd
   cases hok : padsOk n pads with
   | true =>
    have hv2 := padOut_valid hv hok
    unfold padOut at hv2 ⊢
    rw [hv2, Bool.true_and]
    by_cases c : (padC n pads 0 gates data).1.length ≤ 10
    ·rw [decide_eq_true c, if_pos ⟨trivial, rfl, c⟩]
    ·rw [decide_eq_false c, if_neg (fun h => c h.2.2)]
   | false =>
    rw [Bool.false_and, if_neg (fun h => by simp at h)]
  ·rw [show ((pads.length : Int) != n) = true by simp [hl], if_pos rfl, if_neg (by unfold padsOk; simp [hl])]
end Go.Proofs.Ytalafmahgeejiaa.Pure

namespace Go.Proofs.Ytalafmahgeejiaa.Pa
open Go.RowKit Go.Proofs.YtalafmahgeejiaaW.PrintWords Go.Proofs.YtalafmahgeejiaaW.PrintLast Go.Proofs.YtalafmahgeejiaaW.PrintMore
attribute [local go_sem] max2_int min2_int max_two min_two max_three min_three max_four min_four   -- for this text's walks alone
set_option linter.unusedVariables false
set_option linter.unusedSimpArgs false

/-! ### laws_eqInt64S: function 24 -/
def laws_eqInt64S.l0 : Nat → List Int → List Int → Int → Option (Bool)
 | 0, _, _, _ => none
 | k + 1, x0, x1, x5 => if x5 < (x0.length : Int) then (if 0 ≤ x5 then (if x5 < (x1.length : Int) then (if (rd x0 x5) = (rd x1 x5) then (laws_eqInt64S.l0 k x0 x1 (wrap64 (x5 + 1))) else (some false)) else (none)) else (none)) else (some true)
def laws_eqInt64S.f (k : Nat) (l0 : List Int) (l1 : List Int) : Option (Bool) := if (l0.length : Int) = (l1.length : Int) then (laws_eqInt64S.l0 k l0 l1 0) else (some false)
set_option maxHeartbeats 8000000 in
set_option maxRecDepth 100000 in
theorem laws_eqInt64S.calls (k : Nat) (A0 : Option Addr) (c0 : Nat) (l0 : List Int) (A1 : Option Addr) (c1 : Nat) (l1 : List Int) (r : Bool) (w : World) (hr0 : Kd.C (Kd.int .i64) w A0 l0.length l0) (hc0 : l0.length ≤ c0) (hr1 : Kd.C (Kd.int .i64) w A1 l1.length l1) (hc1 : l1.length ≤ c1) (h : laws_eqInt64S.f k l0 l1 = some r) :
  Calls Try.prog 24 #[.slice A0 l0.length c0, .slice A1 l1.length c1] w fun e w' => e = .returned (.bool r) ∧ Drawn0 w w' := by
 have HR0 := Aside0.mk hr0
 have HC0 := Aside0.mk hc0
 clear hr0 hc0
 have HR1 := Aside0.mk hr1
 have HC1 := Aside0.mk hc1
 clear hr1 hc1
 have H : (if (l0.length : Int) = (l1.length : Int) then (laws_eqInt64S.l0 k l0 l1 0) else (some false)) = some r := h
 clear h
 by_cases c3 : (l0.length : Int) = (l1.length : Int)
 ·rw [if_pos c3] at H
  have c3b0 : ((l0.length : Int) == (l1.length : Int)) = true := beq_iff_eq.mpr c3
  have c3b1 : ((l0.length : Int) != (l1.length : Int)) = false := bne_eq_false_iff_eq.mpr c3
  have c3b2 : (l0.length == l1.length) = true := by first | simpa using c3 | (simp at c3 ⊢; omega)
  clear c3
  have H' := Aside0.mk H
  clear H
  go_enter Try.func24, Try.ntmps24
  go_wp2
  repeat (go_quiet (fail); try go_wp2)
  go_loopg [5] k (fun kq v5 w' => ∃ (x5_1 : Int), v5 = .int .i64 x5_1 ∧ Aside0 (laws_eqInt64S.l0 kq l0 l1 x5_1 = some r) ∧ Aside0 (kq ≤ k) ∧ Drawn0 w w')
  case atStart => exact ⟨(0), (by first | rfl | (simp; done) | (simp [*]; done)), H', ⟨Nat.le_refl _⟩, by repeat (first | exact Drawn0.refl _ | apply Drawn0.step)⟩
  case round =>
   clear H'
   try clear c1
   try clear c2
   try clear p2
   try clear c3
   try clear c3b0
   try clear c3b1
   try clear c3b2
   obtain ⟨x5_1, rfl, HA, HK1, ⟨m1, rfl⟩⟩ := hrel
   cases gk with
   | zero => exact absurd HA.out (by simp [laws_eqInt64S.l0])
   | succ k1 =>
    have H := HA.out
    clear HA
    simp only [laws_eqInt64S.l0] at H
    by_cases c4 : x5_1 < (l0.length : Int)
    ·rw [if_pos c4] at H
     have c4b0 : decide (x5_1 < (l0.length : Int)) = true := decide_eq_true c4
     clear c4
     by_cases c5 : 0 ≤ x5_1
     ·rw [if_pos c5] at H
      have c5b0 : decide (0 ≤ x5_1) = true := decide_eq_true c5
      clear c5
      by_cases c6 : x5_1 < (l1.length : Int)
      ·rw [if_pos c6] at H
       have c6b0 : decide (x5_1 < (l1.length : Int)) = true := decide_eq_true c6
       clear c6
       by_cases c7 : (rd l0 x5_1) = (rd l1 x5_1)
       ·rw [if_pos c7] at H
        have c7b0 : ((rd l0 x5_1) == (rd l1 x5_1)) = true := beq_iff_eq.mpr c7
        have c7b1 : ((rd l0 x5_1) != (rd l1 x5_1)) = false := bne_eq_false_iff_eq.mpr c7
        clear c7
        have H' := Aside0.mk H
        clear H
        have p155 : 0 ≤ (x5_1 : Int) := of_decide_eq_true (by with_reducible assumption)
        have q155 : x5_1 < (l0.length : Int) := of_decide_eq_true (by with_reducible assumption)
        obtain ⟨ad155, e155, hx155_0⟩ := Kd.at_int HR0.out x5_1 p155 q155
        cases e155
        replace p155 := eq_true p155
        replace q155 := eq_true q155
        have p156 : 0 ≤ (x5_1 : Int) := of_decide_eq_true (by with_reducible assumption)
        have q156 : x5_1 < (l1.length : Int) := of_decide_eq_true (by with_reducible assumption)
        obtain ⟨ad156, e156, hx156_0⟩ := Kd.at_int HR1.out x5_1 p156 q156
        cases e156
        replace p156 := eq_true p156
        replace q156 := eq_true q156
        go_wp2
        repeat (go_quiet (fail); try go_wp2)
        go_roundg k1
        case measure => have := HK1.out; omega
        case rel => exact ⟨(wrap64 (x5_1 + 1)), (by first | rfl | (simp; done) | (simp [*]; done)), H', ⟨by have := HK1.out; omega⟩, by repeat (first | exact Drawn0.refl _ | apply Drawn0.step)⟩
       ·rw [if_neg c7] at H
        have c7b0 : ((rd l0 x5_1) == (rd l1 x5_1)) = false := beq_eq_false_iff_ne.mpr c7
        have c7b1 : ((rd l0 x5_1) != (rd l1 x5_1)) = true := bne_iff_ne.mpr c7
        obtain rfl := Option.some.inj H
        have p155 : 0 ≤ (x5_1 : Int) := of_decide_eq_true (by with_reducible assumption)
        have q155 : x5_1 < (l0.length : Int) := of_decide_eq_true (by with_reducible assumption)
        obtain ⟨ad155, e155, hx155_0⟩ := Kd.at_int HR0.out x5_1 p155 q155
        cases e155
        replace p155 := eq_true p155
        replace q155 := eq_true q155
        have p156 : 0 ≤ (x5_1 : Int) := of_decide_eq_true (by with_reducible assumption)
        have q156 : x5_1 < (l1.length : Int) := of_decide_eq_true (by with_reducible assumption)
        obtain ⟨ad156, e156, hx156_0⟩ := Kd.at_int HR1.out x5_1 p156 q156
        cases e156
        replace p156 := eq_true p156
        replace q156 := eq_true q156
        go_wp2
        repeat (go_quiet (fail); try go_wp2)
        go_ret
        exact ⟨by first | rfl | (simp; done) | (simp [*]; done), by repeat (first | exact Drawn0.refl _ | apply Drawn0.step)⟩
      ·rw [if_neg c6] at H
       exact absurd H (by simp)
     ·rw [if_neg c5] at H
      exact absurd H (by simp)
    ·rw [if_neg c4] at H
     have c4b0 : decide (x5_1 < (l0.length : Int)) = false := decide_eq_false c4
     clear c4
     obtain rfl := Option.some.inj H
     go_wp2
     repeat (go_quiet (fail); try go_wp2)
     go_ret
     exact ⟨by first | rfl | (simp; done) | (simp [*]; done), by repeat (first | exact Drawn0.refl _ | apply Drawn0.step)⟩
 ·rw [if_neg c3] at H
  have c3b0 : ((l0.length : Int) == (l1.length : Int)) = false := beq_eq_false_iff_ne.mpr c3
  have c3b1 : ((l0.length : Int) != (l1.length : Int)) = true := bne_iff_ne.mpr c3
  have c3b2 : (l0.length == l1.length) = false := by first | simpa using c3 | (simp at c3 ⊢; omega)
  obtain rfl := Option.some.inj H
  go_enter Try.func24, Try.ntmps24
  go_wp2
  repeat (go_quiet (fail); try go_wp2)
  go_ret
  exact ⟨by first | rfl | (simp; done) | (simp [*]; done), by repeat (first | exact Drawn0.refl _ | apply Drawn0.step)⟩

end Go.Proofs.Ytalafmahgeejiaa.Pa

namespace Go.Proofs.Ytalafmahgeejiaa.Pa
open Go.RowKit Go.Proofs.YtalafmahgeejiaaW.PrintWords Go.Proofs.YtalafmahgeejiaaW.PrintLast Go.Proofs.YtalafmahgeejiaaW.PrintMore
attribute [local go_sem] max2_int min2_int max_two min_two max_three min_three max_four min_four   -- for this text's walks alone
set_option linter.unusedVariables false
set_option linter.unusedSimpArgs false

/-! ### laws_eqGate: function 84 -/
instance : DecidableEq S62 := fun a b => decidable_of_iff (a.f0 = b.f0 ∧ a.f1 = b.f1 ∧ a.f2 = b.f2) (by cases a; cases b; simp)
theorem eqInts_loop (l : List Int) (hl : l.length ≤ 9223372036854775807) (d : Nat) : ∀ (k i : Nat), i + d = l.length → d < k → laws_eqInt64S.l0 k l l (i : Int) = some true := by
 induction d with
 | zero =>
  intro k i h hk
  obtain ⟨k, rfl⟩ : ∃ m, k = m + 1 := ⟨k - 1, by omega⟩
  simp only [laws_eqInt64S.l0]
  rw [if_neg (by omega)]
 | succ d ih =>
  intro k i h hk
  obtain ⟨k, rfl⟩ : ∃ m, k = m + 1 := ⟨k - 1, by omega⟩
  simp only [laws_eqInt64S.l0]
  rw [if_pos (by omega), if_pos (by omega), if_pos (by omega), if_pos trivial, show wrap64 ((i : Int) + 1) = ((i + 1 : Nat) : Int) by unfold wrap64; omega]
  exact ih k (i + 1) (by omega) (by omega)
theorem eqInts (l : List Int) (hl : l.length ≤ 9223372036854775807) : laws_eqInt64S.f (l.length + 1) l l = some true := by
 unfold laws_eqInt64S.f
 rw [if_pos rfl]
 exact eqInts_loop l hl l.length (l.length + 1) 0 (by omega) (by omega)
/-- Told of equal ones alone. -/
def laws_eqGate.f (a0_0 a0_1 : Int) (l0_2 : List Int) (a1_0 a1_1 : Int) (l1_2 : List Int) : Option Bool := if a0_0 = a1_0 ∧ a0_1 = a1_1 ∧ l0_2 = l1_2 then some true else none
set_option maxHeartbeats 4000000 in
set_option maxRecDepth 100000 in
theorem laws_eqGate.calls (a0_0 : Int) (a0_1 : Int) (A0_2 : Option Addr) (c0_2 : Nat) (l0_2 : List Int) (a1_0 : Int) (a1_1 : Int) (A1_2 : Option Addr) (c1_2 : Nat) (l1_2 : List Int) (r : Bool) (w : World) (hr0_2 : Kd.C (Kd.int .i64) w A0_2 l0_2.length l0_2) (hc0_2 : l0_2.length ≤ c0_2) (hr1_2 : Kd.C (Kd.int .i64) w A1_2 l1_2.length l1_2) (hc1_2 : l1_2.length ≤ c1_2) (h : laws_eqGate.f a0_0 a0_1 l0_2 a1_0 a1_1 l1_2 = some r) :
  Calls Try.prog 84 #[.agg #[.int .i64 a0_0, .int .i64 a0_1, .slice A0_2 l0_2.length c0_2], .agg #[.int .i64 a1_0, .int .i64 a1_1, .slice A1_2 l1_2.length c1_2]] w fun e w' => e = .returned (.bool r) ∧ Below w.heap.size w w' := by
 unfold laws_eqGate.f at h
 split at h
 ·rename_i hh
  obtain ⟨rfl, rfl, rfl⟩ := hh
  obtain rfl := Option.some.inj h
  clear h
  have hu := Try.underlying62
  have HR0 := Aside0.mk hr0_2
  have HC0 := Aside0.mk hc0_2
  have HR1 := Aside0.mk hr1_2
  have HC1 := Aside0.mk hc1_2
  have HE := Aside0.mk (eqInts l0_2 hr0_2.2.1)
  clear hr0_2 hc0_2 hr1_2 hc1_2
  go_enter Try.func84, Try.ntmps84
  go_wp2_with (first | ((with_reducible refine gate_dst (N := 2) rfl ?_); refine box_event ?hg (N := 2) ?hd (cs := #[.int .i64 a0_0, .int .i64 a0_1, .slice A0_2 l0_2.length c0_2]) (t := 62) ?hr ?_; (case hd => rfl); (case hg => rfl); (case hr => first | (go_simp; done) | (go_simp; rfl)); intro ga hg_ w1 hbox_ hb_; have HX_ga := Aside0.mk hbox_; have HB_w1 := Aside0.mk hb_; have HG_ga := Aside0.mk hg_; clear hbox_ hb_ hg_) | ((with_reducible refine gate_dst (N := 3) rfl ?_); refine box_event ?hg (N := 3) ?hd (cs := #[.int .i64 a0_0, .int .i64 a0_1, .slice A1_2 l0_2.length c1_2]) (t := 62) ?hr ?_; (case hd => rfl); (case hg => rfl); (case hr => first | (go_simp; done) | (go_simp; rfl)); intro gb hg_ w2 hbox_ hb_; have HX_gb := Aside0.mk hbox_; have HB_w2 := Aside0.mk hb_; have HG_gb := Aside0.mk hg_; clear hbox_ hb_ hg_; obtain ⟨b0, b1, b2⟩ := cells3 (blk_below HX_ga.out HB_w2.out); obtain ⟨d0, d1, d2⟩ := cells3 HX_gb.out) | (go_at_call 24; refine (laws_eqInt64S.calls (hr0 := Kd.C_below HR0.out (below_step HB_w1.out HB_w2.out)) (hc0 := HC0.out) (hr1 := Kd.C_below HR1.out (below_step HB_w1.out HB_w2.out)) (hc1 := HC1.out) (h := HE.out)).mono ?_; rintro e w' ⟨rfl, ⟨nd, rfl⟩⟩))
  go_ret
  exact ⟨rfl, pw_below_drewN (below_step HB_w1.out HB_w2.out) nd⟩
 ·simp at h

end Go.Proofs.Ytalafmahgeejiaa.Pa

namespace Go.Proofs.Ytalafmahgeejiaa.Pa
open Go.RowKit Go.Proofs.YtalafmahgeejiaaW.PrintWords Go.Proofs.YtalafmahgeejiaaW.PrintLast Go.Proofs.YtalafmahgeejiaaW.PrintMore
attribute [local go_sem] max2_int min2_int max_two min_two max_three min_three max_four min_four   -- for this text's walks alone
set_option linter.unusedVariables false
set_option linter.unusedSimpArgs false

/-! ### laws_eqGateS: function 55 -/
/-- Told of equal ones alone. -/
def laws_eqGateS.f (l0 l1 : List S62) : Option Bool := if l0 = l1 then some true else none
set_option maxHeartbeats 4000000 in
set_option maxRecDepth 100000 in
theorem laws_eqGateS.calls (A0 : Option Addr) (c0 : Nat) (l0 : List S62) (A1 : Option Addr) (c1 : Nat) (l1 : List S62) (r : Bool) (w : World) (hr0 : Kd.C k62 w A0 l0.length l0) (hc0 : l0.length ≤ c0) (hr1 : Kd.C k62 w A1 l1.length l1) (hc1 : l1.length ≤ c1) (h : laws_eqGateS.f l0 l1 = some r) :
  Calls Try.prog 55 #[.slice A0 l0.length c0, .slice A1 l1.length c1] w fun e w' => e = .returned (.bool r) ∧ Below w.heap.size w w' := by
 unfold laws_eqGateS.f at h
 split at h
 ·rename_i hh
  subst hh
  obtain rfl := Option.some.inj h
  clear h
  have hu := Try.underlying62
  have HR0 := Aside0.mk hr0
  have HR1 := Aside0.mk hr1
  have hlen : l0.length ≤ 9223372036854775807 := hr0.2.1
  clear hr0 hr1 hc0 hc1
  go_enter Try.func55, Try.ntmps55
  go_wp2
  go_loopg [5] l0.length (fun gg s5 wr => ∃ x : Int, s5 = .int .i64 x ∧ Aside0 (0 ≤ x ∧ x ≤ l0.length ∧ (l0.length : Int) - x ≤ gg) ∧ Aside0 (Below w.heap.size w wr))
  case atStart => exact ⟨0, rfl, ⟨by omega⟩, ⟨Below.refl _ _⟩⟩
  case round =>
   obtain ⟨x, rfl, HX, HB⟩ := hrel
   by_cases hlt : x < (l0.length : Int)
   ·have d0 : decide (0 ≤ x) = true := decide_eq_true HX.out.1
    have d1 : decide (x < (l0.length : Int)) = true := decide_eq_true hlt
    have HL := Aside0.mk hlt
    clear hlt
    obtain ⟨ad, Ai, ci, e, e0, e1, e2, e3, e4⟩ := at_T62 HR0.out x HX.out.1 HL.out
    cases e
    obtain ⟨bd, Bi, di, f, f0, f1, f2, f3, f4⟩ := at_T62 HR1.out x HX.out.1 HL.out
    cases f
    replace e0 := pw_cell_below HB.out e0
    replace e1 := pw_cell_below HB.out e1
    replace e2 := pw_cell_below HB.out e2
    replace f0 := pw_cell_below HB.out f0
    replace f1 := pw_cell_below HB.out f1
    replace f2 := pw_cell_below HB.out f2
    have H3 := Aside0.mk e3
    have H4 := Aside0.mk (Kd.C_below e4 HB.out)
    have G3 := Aside0.mk f3
    have G4 := Aside0.mk (Kd.C_below f4 HB.out)
    clear e3 e4 f3 f4
    have p0 := eq_true HX.out.1
    have p1 := eq_true HL.out
    have HQ := Aside0.mk (show laws_eqGate.f (rd_T62 l0 x).f0 (rd_T62 l0 x).f1 (rd_T62 l0 x).f2 (rd_T62 l0 x).f0 (rd_T62 l0 x).f1 (rd_T62 l0 x).f2 = some true from if_pos ⟨rfl, rfl, rfl⟩)
    go_wp2
    go_region_held3 (fun w' => Aside0 (Below wr.heap.size wr w') ∧ w'.cell? (ad.add (x.toNat * 3)) = some (.int .i64 (rd_T62 l0 x).f0) ∧ w'.cell? ⟨(ad.add (x.toNat * 3)).block, (ad.add (x.toNat * 3)).off + 1, none⟩ = some (.int .i64 (rd_T62 l0 x).f1) ∧ w'.cell? ⟨(ad.add (x.toNat * 3)).block, (ad.add (x.toNat * 3)).off + 2, none⟩ = some (.slice Ai (rd_T62 l0 x).f2.length ci) ∧ w'.cell? (bd.add (x.toNat * 3)) = some (.int .i64 (rd_T62 l0 x).f0) ∧ w'.cell? ⟨(bd.add (x.toNat * 3)).block, (bd.add (x.toNat * 3)).off + 1, none⟩ = some (.int .i64 (rd_T62 l0 x).f1) ∧ w'.cell? ⟨(bd.add (x.toNat * 3)).block, (bd.add (x.toNat * 3)).off + 2, none⟩ = some (.slice Bi (rd_T62 l0 x).f2.length di)) ((first | exact ⟨⟨below_drew (Below.refl _ _)⟩, e0, e1, e2, f0, f1, f2⟩ | exact ⟨⟨below_step (below_drew (Below.refl _ _)) hb'⟩, pw_cell_below hb' e0, pw_cell_below hb' e1, pw_cell_below hb' e2, pw_cell_below hb' f0, pw_cell_below hb' f1, pw_cell_below hb' f2⟩)) ((go_at_call 84; refine (laws_eqGate.calls (hr0_2 := by repeat (first | exact H4.out | (with_reducible refine Kd.C_drewN ?_ _) | (with_reducible refine Kd.C_drew ?_))) (hc0_2 := H3.out) (hr1_2 := by repeat (first | exact G4.out | (with_reducible refine Kd.C_drewN ?_ _) | (with_reducible refine Kd.C_drew ?_))) (hc1_2 := G3.out) (h := HQ.out)).mono ?_; rintro e w' ⟨rfl, hb'⟩))
    go_wp2
    have hx1 := HX.out
    have hl1 := HL.out
    have hb2 := below_step HB.out (below_step (below_drew (Below.refl wr.heap.size wr)) hb')
    go_roundg ((l0.length : Int) - (x + 1)).toNat
    case measure => omega
    case rel => exact ⟨x + 1, by rw [show wrap64 (x + 1) = x + 1 by unfold wrap64; omega], ⟨by omega⟩, ⟨hb2⟩⟩
   ·have d1 : decide (x < (l0.length : Int)) = false := decide_eq_false hlt
    clear hlt
    go_wp2
    go_ret
    exact ⟨rfl, HB.out⟩
 ·simp at h

end Go.Proofs.Ytalafmahgeejiaa.Pa

namespace Go.Proofs.Ytalafmahgeejiaa.Pa
open Go.RowKit Go.Proofs.YtalafmahgeejiaaW.PrintWords Go.Proofs.YtalafmahgeejiaaW.PrintLast Go.Proofs.YtalafmahgeejiaaW.PrintMore
attribute [local go_sem] max2_int min2_int max_two min_two max_three min_three max_four min_four   -- for this text's walks alone
set_option linter.unusedVariables false
set_option linter.unusedSimpArgs false

/-! ### laws_eqCircuit: function 18 -/
/-- Told of equal ones alone. -/
def laws_eqCircuit.f (a0_0 : Int) (l0_1 : List (S62)) (l0_2 : List Int) (a0_3 : Int) (a0_4 : Int) (a0_5 : Int) (a0_6 : Int) (a1_0 : Int) (l1_1 : List (S62)) (l1_2 : List Int) (a1_3 : Int) (a1_4 : Int) (a1_5 : Int) (a1_6 : Int) : Option Bool :=
 if a0_0 = a1_0 ∧ l0_1 = l1_1 ∧ l0_2 = l1_2 ∧ a0_3 = a1_3 ∧ a0_4 = a1_4 ∧ a0_5 = a1_5 ∧ a0_6 = a1_6 then some true else none
set_option maxHeartbeats 4000000 in
set_option maxRecDepth 100000 in
theorem laws_eqCircuit.calls (a0_0 : Int) (A0_1 : Option Addr) (c0_1 : Nat) (l0_1 : List (S62)) (A0_2 : Option Addr) (c0_2 : Nat) (l0_2 : List Int) (a0_3 : Int) (a0_4 : Int) (a0_5 : Int) (a0_6 : Int) (a1_0 : Int) (A1_1 : Option Addr) (c1_1 : Nat) (l1_1 : List (S62)) (A1_2 : Option Addr) (c1_2 : Nat) (l1_2 : List Int) (a1_3 : Int) (a1_4 : Int) (a1_5 : Int) (a1_6 : Int) (r : Bool) (w : World) (hr0_1 : Kd.C k62 w A0_1 l0_1.length l0_1) (hc0_1 : l0_1.length ≤ c0_1) (hr0_2 : Kd.C (Kd.int .i64) w A0_2 l0_2.length l0_2) (hc0_2 : l0_2.length ≤ c0_2) (hr1_1 : Kd.C k62 w A1_1 l1_1.length l1_1) (hc1_1 : l1_1.length ≤ c1_1) (hr1_2 : Kd.C (Kd.int .i64) w A1_2 l1_2.length l1_2) (hc1_2 : l1_2.length ≤ c1_2) (h : laws_eqCircuit.f a0_0 l0_1 l0_2 a0_3 a0_4 a0_5 a0_6 a1_0 l1_1 l1_2 a1_3 a1_4 a1_5 a1_6 = some r) :
  Calls Try.prog 18 #[.agg #[.int .i64 a0_0, .slice A0_1 l0_1.length c0_1, .slice A0_2 l0_2.length c0_2, .int .i64 a0_3, .int .i64 a0_4, .int .i64 a0_5, .int .i64 a0_6], .agg #[.int .i64 a1_0, .slice A1_1 l1_1.length c1_1, .slice A1_2 l1_2.length c1_2, .int .i64 a1_3, .int .i64 a1_4, .int .i64 a1_5, .int .i64 a1_6]] w fun e w' => e = .returned (.bool r) ∧ Below w.heap.size w w' := by
 unfold laws_eqCircuit.f at h
 split at h
 ·rename_i hh
  obtain ⟨rfl, rfl, rfl, rfl, rfl, rfl, rfl⟩ := hh
  obtain rfl := Option.some.inj h
  clear h
  have hu := Try.underlying30
  have HR0 := Aside0.mk hr0_1
  have HR1 := Aside0.mk hr0_2
  have HR2 := Aside0.mk hr1_1
  have HR3 := Aside0.mk hr1_2
  have HC0 := Aside0.mk hc0_1
  have HC1 := Aside0.mk hc0_2
  have HC2 := Aside0.mk hc1_1
  have HC3 := Aside0.mk hc1_2
  have HE := Aside0.mk (eqInts l0_2 hr0_2.2.1)
  have HG := Aside0.mk (show laws_eqGateS.f l0_1 l0_1 = some true from if_pos rfl)
  clear hr0_1 hr0_2 hr1_1 hr1_2 hc0_1 hc0_2 hc1_1 hc1_2
  go_enter Try.func18, Try.ntmps18
  go_wp2_with (first | ((with_reducible refine gate_dst (N := 2) rfl ?_); refine box_event ?hg (N := 2) ?hd (cs := #[.int .i64 a0_0, .slice A0_1 l0_1.length c0_1, .slice A0_2 l0_2.length c0_2, .int .i64 a0_3, .int .i64 a0_4, .int .i64 a0_5, .int .i64 a0_6]) (t := 30) ?hr ?_; (case hd => rfl); (case hg => rfl); (case hr => first | (go_simp; done) | (go_simp; rfl)); intro ga hg_ w1 hbox_ hb_; have HX_ga := Aside0.mk hbox_; have HB_w1 := Aside0.mk hb_; have HG_ga := Aside0.mk hg_; clear hbox_ hb_ hg_) | ((with_reducible refine gate_dst (N := 3) rfl ?_); refine box_event ?hg (N := 3) ?hd (cs := #[.int .i64 a0_0, .slice A1_1 l0_1.length c1_1, .slice A1_2 l0_2.length c1_2, .int .i64 a0_3, .int .i64 a0_4, .int .i64 a0_5, .int .i64 a0_6]) (t := 30) ?hr ?_; (case hd => rfl); (case hg => rfl); (case hr => first | (go_simp; done) | (go_simp; rfl)); intro gb hg_ w2 hbox_ hb_; have HX_gb := Aside0.mk hbox_; have HB_w2 := Aside0.mk hb_; have HG_gb := Aside0.mk hg_; clear hbox_ hb_ hg_; have HB := Aside0.mk (below_step HB_w1.out HB_w2.out); have HA := Aside0.mk (blk_below HX_ga.out HB_w2.out); obtain ⟨b0, b1, b2, b3, b4, b5, b6⟩ := cells7 HA.out; obtain ⟨d0, d1, d2, d3, d4, d5, d6⟩ := cells7 HX_gb.out) | (go_at_call 55; refine (laws_eqGateS.calls (hr0 := Kd.C_below HR0.out HB.out) (hc0 := HC0.out) (hr1 := Kd.C_below HR2.out HB.out) (hc1 := HC2.out) (h := HG.out)).mono ?_; rintro e w3 ⟨rfl, hb⟩; clear b0 b1 b2 b3 b4 b5 b6 d0 d1 d2 d3 d4 d5 d6; have HB3 := Aside0.mk (below_step HB.out hb); obtain ⟨b0, b1, b2, b3, b4, b5, b6⟩ := cells7 (blk_below HA.out hb); obtain ⟨d0, d1, d2, d3, d4, d5, d6⟩ := cells7 (blk_below HX_gb.out hb); clear hb) | (go_at_call 24; refine (laws_eqInt64S.calls (hr0 := Kd.C_below HR1.out HB3.out) (hc0 := HC1.out) (hr1 := Kd.C_below HR3.out HB3.out) (hc1 := HC3.out) (h := HE.out)).mono ?_; rintro e w' ⟨rfl, ⟨nd, rfl⟩⟩))
  go_ret
  exact ⟨rfl, pw_below_drewN HB3.out nd⟩
 ·simp at h

end Go.Proofs.Ytalafmahgeejiaa.Pa

