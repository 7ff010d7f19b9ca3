-- Written for this claim by a program of this session.
import Derived.Test.YtalafmahgeejiaaKPureSkews
import Derived.Test.YtalafmahgeejiaaKPaxf36
import Derived.Test.YtalafmahgeejiaaKPaxf37
/- The pads: the program's and the reference's. -/
namespace Go.Proofs.Ytalafmahgeejiaa.Pure
open Go.RowKit Go.Proofs.Ytalafmahgeejiaa.Pa Go.Proofs.YtalafmahgeejiaaW.PrintWords Go.Proofs.YtalafmahgeejiaaW.PrintLast
set_option linter.unusedVariables false
set_option linter.unusedSimpArgs false

/-- What a way from a to b asks for. -/
def padV (hold : Int) (skews : List Int) (a b m : Int) : Int := wrap64 (wrap64 (wrap64 (rd skews b + hold) - rd skews a) - m)
def padS (hold : Int) (skews : List Int) (P : Int → Int → Way) (b x a : Int) : Int := match P a b with
 | none => x
 | some p => mx x (padV hold skews a b p.1)
/-- The pad of b, over the registers from a on. -/
def padF (hold : Int) (skews : List Int) (P : Int → Int → Way) (b : Int) : Nat → Nat → Int → Int
 | _, 0, x => x
 | a, d + 1, x => padF hold skews P b (a + 1) d (padS hold skews P b x (a : Int))
def padsL (hold : Int) (skews : List Int) (P : Int → Int → Way) (n : Nat) : Nat → Nat → List Int
 | _, 0 => []
 | j, d + 1 => padF hold skews P (j : Int) 0 n 0 :: padsL hold skews P n (j + 1) d
theorem padsL_len (hold : Int) (skews : List Int) (P : Int → Int → Way) (n d : Nat) : ∀ j, (padsL hold skews P n j d).length = d := by
 induction d with
 | zero => intro j; rfl
 | succ d ih => intro j; simp [padsL, ih]
theorem padsL_get (hold : Int) (skews : List Int) (P : Int → Int → Way) (n d : Nat) : ∀ j i, i < d → (padsL hold skews P n j d).getD i 0 = padF hold skews P ((j + i : Nat) : Int) 0 n 0 := by
 induction d with
 | zero => intro j i h; omega
 | succ d ih =>
  intro j i h
  cases i with
  | zero => rfl
  | succ i =>
   have := ih (j + 1) i (by omega)
   rw [show j + (i + 1) = j + 1 + i by omega, ← this]
   rfl
section
variable (n a3 a4 a5 a6 : Int) (gates : List S62) (data skews : List Int) (C : Ready n gates data) (hs : (skews.length : Int) = n)
include C hs
theorem pads_l1 (j : Int) (hj : 0 ≤ j) (hj1 : j < n) (x6 : List Int) (hx : x6.length < 17592186044416) (d : Nat) : ∀ (a : Nat) (x : Int) (r : List Int × Bool × Int × Int × Int × Int × Int), (a : Int) + d = n →
  Ev (fun k => spec_PadsOf.l0 k skews (x6 ++ [padF a4 skews (pathO n gates data a5 a6) j a d x]) (wrap64 (j + 1)) n gates data a3 a4 a5 a6) r →
  Ev (fun k => spec_PadsOf.l1 k skews x6 j x (a : Int) n gates data a3 a4 a5 a6) r := by
 have hn := C.gs.n0
 have hn1 := C.gs.n1
 induction d with
 | zero =>
  rintro a x r h ⟨K, hK⟩
  refine ⟨K + 1, fun k hk => ?_⟩
  obtain ⟨k, rfl⟩ : ∃ m, k = m + 1 := ⟨k - 1, by omega⟩
  simp only [spec_PadsOf.l1]
  rw [if_neg (by omega), if_pos hx]
  exact hK k (by omega)
 | succ d ih =>
  intro a x r h hE
  obtain ⟨u, v, ⟨K1, hK1⟩, hxy⟩ := path_tells n a3 a4 a5 a6 gates data C.gs C.dlen C.node (a : Int) j hj hj1
  have hw : wrap64 ((a : Int) + 1) = (a : Int) + 1 := wrap_id (by omega) (by omega)
  simp only [padF, padS] at hE
  cases hp : pathO n gates data a5 a6 (a : Int) j with
  | none =>
   rw [hp] at hE hK1
   obtain ⟨K2, hK2⟩ := ih (a + 1) x r (by omega) hE
   refine ⟨K1 + K2 + 1, fun k hk => ?_⟩
   obtain ⟨k, rfl⟩ : ∃ m, k = m + 1 := ⟨k - 1, by omega⟩
   have k1 : spec_l06Path.f k n gates data a3 a4 a5 a6 (a : Int) j = _ := hK1 k (by omega)
   have k2 := hK2 k (by omega)
   push_cast at k2
   simp only [spec_PadsOf.l1]
   rw [if_pos (by omega), k1]
   simp only [Option.bind_some, Option.isSome_none]
   rw [if_neg (by decide), hw]
   exact k2
  | some p =>
   rw [hp] at hE hK1
   obtain ⟨rfl, rfl⟩ := hxy p hp
   obtain ⟨K2, hK2⟩ := ih (a + 1) _ r (by omega) hE
   refine ⟨K1 + K2 + 1, fun k hk => ?_⟩
   obtain ⟨k, rfl⟩ : ∃ m, k = m + 1 := ⟨k - 1, by omega⟩
   have k1 : spec_l06Path.f k n gates data a3 a4 a5 a6 (a : Int) j = _ := hK1 k (by omega)
   have k2 := hK2 k (by omega)
   push_cast at k2
   simp only [spec_PadsOf.l1]
   rw [if_pos (by omega), k1]
   simp only [Option.bind_some, Option.isSome_some, if_true]
   rw [if_pos hj, if_pos (by omega), if_pos (by omega), if_pos (by omega), max_tells]
   simp only [Option.bind_some, hw]
   have e : ∀ y z : Int, (if y > z then y else z) = mx y z := by
    intro y z
    rw [mx_def]
    split <;> split <;> omega
   rw [e]
   exact k2
theorem pads_l0 (d : Nat) : ∀ (j : Nat) (x6 : List Int), (j : Int) + d = n → x6.length = j →
  Ev (fun k => spec_PadsOf.l0 k skews x6 (j : Int) n gates data a3 a4 a5 a6) (x6 ++ padsL a4 skews (pathO n gates data a5 a6) n.toNat j d, true, n, a3, a4, a5, a6) := by
 have hn := C.gs.n0
 have hn1 := C.gs.n1
 induction d with
 | zero =>
  intro j x6 h hl
  refine ⟨1, fun k hk => ?_⟩
  obtain ⟨k, rfl⟩ : ∃ m, k = m + 1 := ⟨k - 1, by omega⟩
  simp only [spec_PadsOf.l0]
  rw [if_neg (by omega)]
  simp [padsL]
 | succ d ih =>
  intro j x6 h hl
  have hw : wrap64 ((j : Int) + 1) = (j : Int) + 1 := wrap_id (by omega) (by omega)
  have h1 := ih (j + 1) (x6 ++ [padF a4 skews (pathO n gates data a5 a6) (j : Int) 0 n.toNat 0]) (by omega) (by simp [hl])
  rw [List.append_assoc] at h1
  obtain ⟨K, hK⟩ := pads_l1 n a3 a4 a5 a6 gates data skews C hs (j : Int) (by omega) (by omega) x6 (by omega) n.toNat 0 0 _ (by omega) (by rw [hw]; exact_mod_cast h1)
  refine ⟨K + 1, fun k hk => ?_⟩
  obtain ⟨k, rfl⟩ : ∃ m, k = m + 1 := ⟨k - 1, by omega⟩
  have hk2 := hK k (by omega)
  simp only [spec_PadsOf.l0]
  rw [if_pos (by omega)]
  exact hk2
end
def linkV (hold : Int) (skews : List Int) (l : S72) : Int := wrap64 (wrap64 (wrap64 (rd skews l.f1 + hold) - l.f2) - rd skews l.f0)
def padU (hold : Int) (skews : List Int) (x6 : List Int) (l : S72) : List Int := x6.set l.f1.toNat (mx (rd x6 l.f1) (linkV hold skews l))
theorem linkV_padV (hold : Int) (skews : List Int) (a b m M : Int) : linkV hold skews ⟨a, b, m, M⟩ = padV hold skews a b m := by
 unfold linkV padV
 dsimp only
 generalize rd skews b + hold = s
 generalize rd skews a = q
 unfold wrap64
 omega
theorem padU_len (hold : Int) (skews : List Int) (ls : List S72) : ∀ x6 : List Int, (ls.foldl (padU hold skews) x6).length = x6.length := by
 induction ls with
 | nil => intro x6; rfl
 | cons l ls ih => intro x6; rw [List.foldl_cons, ih]; simp [padU]
def stepJ (hold : Int) (skews : List Int) (j : Nat) (x : Int) (l : S72) : Int := if l.f1 = (j : Int) then mx x (linkV hold skews l) else x
theorem padU_get (hold : Int) (skews : List Int) (j : Nat) (ls : List S72) : ∀ x6 : List Int, (∀ l ∈ ls, 0 ≤ l.f1) → j < x6.length → (ls.foldl (padU hold skews) x6).getD j 0 = ls.foldl (stepJ hold skews j) (x6.getD j 0) := by
 induction ls with
 | nil => intro x6 _ _; rfl
 | cons l ls ih =>
  intro x6 h hj
  have h0 := h l (by simp)
  rw [List.foldl_cons, List.foldl_cons, ih _ (fun y hy => h y (by simp [hy])) (by simpa [padU] using hj)]
  congr 1
  unfold padU stepJ
  rw [List.getD_eq_getElem?_getD, List.getElem?_set]
  by_cases c : l.f1 = (j : Int)
  ·rw [if_pos c, if_pos (by omega), if_pos (by omega)]
   unfold rd
   rw [c, Int.toNat_natCast]
   rfl
  ·rw [if_neg c, if_neg (by omega), List.getD_eq_getElem?_getD]
theorem fold_to (hold : Int) (skews : List Int) (P : Int → Int → Way) (a : Int) (j : Nat) (d : Nat) : ∀ (b : Nat) (x : Int), (linksTo P a b d).foldl (stepJ hold skews j) x = if b ≤ j ∧ j < b + d then padS hold skews P (j : Int) x a else x := by
 induction d with
 | zero => intro b x; rw [if_neg (by omega)]; rfl
 | succ d ih =>
  intro b x
  simp only [linksTo]
  rw [List.foldl_append, ih]
  by_cases c : b = j
  ·subst c
   rw [if_neg (by omega), if_pos (by omega)]
   unfold padS
   cases hp : P a (b : Int) with
   | none => rfl
   | some p =>
    simp only [linkO, List.foldl_cons, List.foldl_nil, stepJ, if_true]
    rw [linkV_padV]
  ·have e : (linkO a (b : Int) (P a (b : Int))).foldl (stepJ hold skews j) x = x := by
    cases P a (b : Int) with
    | none => rfl
    | some p =>
     simp only [linkO, List.foldl_cons, List.foldl_nil, stepJ]
     rw [if_neg (by omega)]
   rw [e]
   by_cases c2 : b + 1 ≤ j ∧ j < b + 1 + d
   ·rw [if_pos c2, if_pos (by omega)]
   ·rw [if_neg c2, if_neg (by omega)]
theorem fold_from (hold : Int) (skews : List Int) (P : Int → Int → Way) (n : Nat) (j : Nat) (hj : j < n) (d : Nat) : ∀ (a : Nat) (x : Int), (linksFrom P n a d).foldl (stepJ hold skews j) x = padF hold skews P (j : Int) a d x := by
 induction d with
 | zero => intro a x; rfl
 | succ d ih =>
  intro a x
  simp only [linksFrom, padF]
  rw [List.foldl_append, ih, fold_to, if_pos (by omega)]
theorem pads_eq (hold : Int) (skews : List Int) (P : Int → Int → Way) (n : Nat) : (linksOf P n).foldl (padU hold skews) (List.replicate n 0) = padsL hold skews P n 0 n := by
 refine List.ext_getElem (by rw [padU_len, padsL_len, List.length_replicate]) fun i h1 h2 => ?_
 have hi : i < n := by simpa [padsL_len] using h2
 have e1 := padU_get hold skews i (linksOf P n) (List.replicate n 0) (fun l hl => (linksOf_mem P n l hl).2.2.1) (by simpa using hi)
 have e2 := padsL_get hold skews P n n 0 i hi
 rw [List.getD_eq_getElem?_getD, List.getElem?_eq_getElem h1, Option.getD_some] at e1
 rw [List.getD_eq_getElem?_getD, List.getElem?_eq_getElem h2, Option.getD_some] at e2
 rw [e1, e2]
 unfold linksOf
 rw [fold_from hold skews P n i hi n 0]
 simp [List.getD_eq_getElem?_getD, hi]
theorem padU_loop (hold : Int) (skews : List Int) (ls : List S72) (hl : ls.length ≤ 1000) (hin : ∀ l ∈ ls, 0 ≤ l.f0 ∧ l.f0 < skews.length ∧ 0 ≤ l.f1 ∧ l.f1 < skews.length) (n a3 a5 a6 : Int) (gates : List S62) (data : List Int) (d : Nat) :
  ∀ (k i : Nat) (x6 : List Int), i + d = ls.length → d < k → x6.length = skews.length → impl_PadsOf.l0 k skews x6 ls (ls.length : Int) (i : Int) n gates data a3 hold a5 a6 = some ((ls.drop i).foldl (padU hold skews) x6, true) := by
 induction d with
 | zero =>
  intro k i x6 h hk hx
  obtain ⟨k, rfl⟩ : ∃ m, k = m + 1 := ⟨k - 1, by omega⟩
  simp only [impl_PadsOf.l0]
  rw [if_neg (by omega), List.drop_of_length_le (by omega)]
  rfl
 | succ d ih =>
  intro k i x6 h hk hx
  obtain ⟨k, rfl⟩ : ∃ m, k = m + 1 := ⟨k - 1, by omega⟩
  have hi : i < ls.length := by omega
  have hr : rd_T72 ls (i : Int) = ls[i] := by
   unfold rd_T72
   rw [List.getD_eq_getElem?_getD, Int.toNat_natCast, List.getElem?_eq_getElem hi]
   rfl
  have hm := hin ls[i] (List.getElem_mem hi)
  simp only [impl_PadsOf.l0]
  rw [hr, if_pos (by omega), if_pos (by omega), if_pos (by omega), if_pos (by omega), if_pos (by omega), if_pos (by omega), if_pos (by omega), if_pos (by omega), List.drop_eq_getElem_cons hi, wrap_id (x := (i : Int) + 1) (by omega) (by omega)]
  have := ih k (i + 1) (padU hold skews x6 ls[i]) (by omega) (by omega) (by simpa [padU] using hx)
  push_cast at this
  rw [List.foldl_cons, ← this]
  rfl
theorem padsFrom_len (P : Int → Int → Way) (n : Nat) (d : Nat) : ∀ a, (linksFrom P n a d).length ≤ d * n := by
 induction d with
 | zero => intro a; simp [linksFrom]
 | succ d ih =>
  intro a
  have := ih (a + 1)
  have h2 := linksTo_len P (a : Int) n 0
  simp only [linksFrom, List.length_append]
  rw [Nat.succ_mul]
  omega
/-- What both answer. -/
def padsR (n : Int) (gates : List S62) (data : List Int) (a3 a4 a5 a6 : Int) (skews : List Int) : List Int × Bool :=
 if skewsB n gates data a3 a4 a5 a6 skews = true then (padsL a4 skews (pathO n gates data a5 a6) n.toNat 0 n.toNat, true) else ([], false)
theorem padsR_len (n : Int) (gates : List S62) (data : List Int) (a3 a4 a5 a6 : Int) (skews : List Int) (hw : ∀ g ∈ gates, g.f2.length ≤ 1048576) : (padsR n gates data a3 a4 a5 a6 skews).1.length ≤ 1048576 := by
 unfold padsR
 by_cases h : skewsB n gates data a3 a4 a5 a6 skews = true
 ·rw [if_pos h]
  obtain ⟨R, _, _⟩ := skews_ready hw h
  have := R.gs.n1
  rw [padsL_len]
  omega
 ·rw [if_neg h]
  simp
theorem implPads (n : Int) (gates : List S62) (data : List Int) (a3 a4 a5 a6 : Int) (skews : List Int) (hw : ∀ g ∈ gates, g.f2.length ≤ 1048576) : Ev (fun k => impl_PadsOf.f k n gates data a3 a4 a5 a6 skews) (padsR n gates data a3 a4 a5 a6 skews) := by
 unfold padsR
 cases h : skewsB n gates data a3 a4 a5 a6 skews with
 | false =>
  refine ⟨0, fun k hk => ?_⟩
  show impl_PadsOf.f k n gates data a3 a4 a5 a6 skews = _
  unfold impl_PadsOf.f
  rw [implSkews n gates data a3 a4 a5 a6 skews, h]
  simp
 | true =>
  obtain ⟨R, hl, _⟩ := skews_ready hw h
  have hn := R.gs.n0
  have hn1 := R.gs.n1
  obtain ⟨K, hK⟩ := links_tells n a3 a4 a5 a6 gates data R
  have hlen : (linksOf (pathO n gates data a5 a6) n.toNat).length ≤ 36 := by
   have h1 := padsFrom_len (pathO n gates data a5 a6) n.toNat n.toNat 0
   have h2 : n.toNat * n.toNat ≤ 6 * 6 := Nat.mul_le_mul (by omega) (by omega)
   unfold linksOf
   omega
  refine ⟨K + 1000, fun k hk => ?_⟩
  have k1 : impl_Circuit_links.f k n gates data a3 a4 a5 a6 = _ := hK k (by omega)
  have k2 := padU_loop a4 skews (linksOf (pathO n gates data a5 a6) n.toNat) (by omega) (fun l hm => by have := linksOf_mem _ _ l hm; omega) n a3 a5 a6 gates data _ k 0 (List.replicate n.toNat 0) (Nat.zero_add _) (by omega) (by simp; omega)
  show impl_PadsOf.f k n gates data a3 a4 a5 a6 skews = _
  unfold impl_PadsOf.f
  rw [implSkews n gates data a3 a4 a5 a6 skews, h]
  simp only [Option.bind_some, if_true]
  rw [if_pos (by omega), if_pos (by omega), k1]
  simp only [Option.bind_some]
  rw [List.drop_zero, pads_eq] at k2
  exact k2
theorem specPads (n : Int) (gates : List S62) (data : List Int) (a3 a4 a5 a6 : Int) (skews : List Int) (hw : ∀ g ∈ gates, g.f2.length ≤ 1048576) (hd : data.length ≤ 1048576) (hs : skews.length ≤ 1048576) : Ev (fun k => spec_PadsOf.f k n gates data a3 a4 a5 a6 skews) (padsR n gates data a3 a4 a5 a6 skews) := by
 unfold padsR
 cases h : skewsB n gates data a3 a4 a5 a6 skews with
 | false =>
  refine ⟨2500000, fun k hk => ?_⟩
  show spec_PadsOf.f k n gates data a3 a4 a5 a6 skews = _
  unfold spec_PadsOf.f spec_PadsOf.fB
  rw [specSkews n gates data a3 a4 a5 a6 skews hw hd hs k hk, h]
  simp
 | true =>
  obtain ⟨R, hl, _⟩ := skews_ready hw h
  have hn := R.gs.n0
  obtain ⟨K, hK⟩ := pads_l0 n a3 a4 a5 a6 gates data skews R hl n.toNat 0 [] (by omega) rfl
  refine ⟨K + 2500000, fun k hk => ?_⟩
  have k1 : spec_PadsOf.l0 k skews [] 0 n gates data a3 a4 a5 a6 = _ := hK k (by omega)
  show spec_PadsOf.f k n gates data a3 a4 a5 a6 skews = _
  unfold spec_PadsOf.f spec_PadsOf.fB
  rw [specSkews n gates data a3 a4 a5 a6 skews hw hd hs k (by omega), h]
  simp only [Option.bind_some, if_true]
  rw [k1]
  rfl
end Go.Proofs.Ytalafmahgeejiaa.Pure
