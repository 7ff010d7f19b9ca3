-- Written for this claim by a program of this session.
import Derived.Test.YtalafmahgeejiaaCore4
import Derived.Test.YtalafmahgeejiaaKPaxf66
import Derived.Test.YtalafmahgeejiaaKPaxf65
import Derived.Test.YtalafmahgeejiaaKPaxf67
import Derived.Test.YtalafmahgeejiaaKPaxf71
import Derived.Test.YtalafmahgeejiaaKPaxf68
/- Skews, and the least rooms of all paths: the program's and the reference's. -/
namespace Go.Proofs.Ytalafmahgeejiaa.Pure
open Go.RowKit Go.Proofs.Ytalafmahgeejiaa.Pa Go.Proofs.YtalafmahgeejiaaW.PrintWords Go.Proofs.YtalafmahgeejiaaW.PrintLast
set_option linter.unusedVariables false
set_option linter.unusedSimpArgs false

def skewsB (n : Int) (gates : List S62) (data : List Int) (a3 a4 a5 a6 : Int) (skews : List Int) : Bool :=
 validB n gates data a3 a4 a5 a6 && decide ((skews.length : Int) = n) && skews.all fun x => inB x 0 100000
theorem skews_loop (n a3 a4 a5 a6 : Int) (gates : List S62) (data skews : List Int) (hl : skews.length ≤ 1048576) (d : Nat) : ∀ (k i : Nat), i + d = skews.length → d < k →
  spec_l06Skews.l0 k skews (i : Int) n gates data a3 a4 a5 a6 = some ((skews.drop i).all (fun x => inB x 0 100000), n, a3, a4, a5, a6) := by
 induction d with
 | zero =>
  intro k i h hk
  obtain ⟨k, rfl⟩ : ∃ m, k = m + 1 := ⟨k - 1, by omega⟩
  simp only [spec_l06Skews.l0]
  rw [if_neg (by omega), List.drop_of_length_le (by omega)]
  rfl
 | succ d ih =>
  intro k i h hk
  obtain ⟨k, rfl⟩ : ∃ m, k = m + 1 := ⟨k - 1, by omega⟩
  have hi : i < skews.length := by omega
  simp only [spec_l06Skews.l0]
  rw [if_pos (by omega), if_pos (by omega), rd_get hi, in_tells, List.drop_eq_getElem_cons hi, List.all_cons]
  simp only [Option.bind_some]
  cases hb : inB skews[i] 0 100000 with
  | false => simp
  | true =>
   rw [if_pos rfl, wrap_id (by omega) (by omega)]
   have := ih k (i + 1) (by omega) (by omega)
   push_cast at this
   rw [this]
   simp
theorem specSkews (n : Int) (gates : List S62) (data : List Int) (a3 a4 a5 a6 : Int) (skews : List Int) (hw : ∀ g ∈ gates, g.f2.length ≤ 1048576) (hd : data.length ≤ 1048576) (hs : skews.length ≤ 1048576) :
  ∀ k, 2500000 ≤ k → spec_l06Skews.f k n gates data a3 a4 a5 a6 skews = some (skewsB n gates data a3 a4 a5 a6 skews, n, a3, a4, a5, a6) := by
 intro k hk
 obtain ⟨k, rfl⟩ : ∃ m, k = m + 1 := ⟨k - 1, by omega⟩
 unfold spec_l06Skews.f skewsB
 rw [is_tells n gates data a3 a4 a5 a6]
 simp only [Option.bind_some, spec_l06Skews.j0]
 cases hv : validB n gates data a3 a4 a5 a6 with
 | false => simp
 | true =>
  rw [if_pos rfl]
  by_cases h1 : (skews.length : Int) = n
  ·rw [show ((skews.length : Int) != n) = false by simp [h1], if_neg (by decide)]
   have := skews_loop n a3 a4 a5 a6 gates data skews hs skews.length k 0 (by omega) (by omega)
   rw [show ((0 : Nat) : Int) = 0 from rfl, List.drop_zero] at this
   rw [this]
   simp [h1]
  ·rw [show ((skews.length : Int) != n) = true by simp [h1]]
   simp [h1]
theorem implSkews (n : Int) (gates : List S62) (data : List Int) (a3 a4 a5 a6 : Int) (skews : List Int) : impl_areSkews.f n gates data a3 a4 a5 a6 skews = some (skewsB n gates data a3 a4 a5 a6 skews) := by
 unfold impl_areSkews.f skewsB
 rw [valid_tells n gates data a3 a4 a5 a6]
 simp only [Option.bind_some]
 cases hv : validB n gates data a3 a4 a5 a6 with
 | false => simp
 | true =>
  rw [if_pos rfl]
  by_cases h1 : (skews.length : Int) = n
  ·rw [if_pos h1]
   unfold impl_areSkews_1.f
   simp only [Option.bind_some, Bool.true_and]
   rw [decide_eq_true h1, List.all_eq_not_any_not]
   simp only [Bool.true_and]
   rfl
  ·rw [if_neg h1]
   simp [h1]
abbrev su : Option (Int × Int) → Int
 | none => 0
 | some q => q.1
abbrev sv : Option (Int × Int) → Int
 | none => 0
 | some q => q.2
theorem rooms_l1 (per n a3 a4 a5 a6 : Int) (gates : List S62) (data skews : List Int) (C : Ready n gates data) (hs : (skews.length : Int) = n) (a : Int) (ha : 0 ≤ a) (ha1 : a < n) (d : Nat) :
  ∀ (b : Nat) (st : Option (Int × Int)) (r : Int × Int × Int × Int × Int × Int × Int), (b : Int) + d = n →
  Ev (fun k => spec_l06Rooms.l0 k per skews (su (rooms (setupP per a3 skews) (holdP a4 skews) st (linksTo (pathO n gates data a5 a6) a b d))) (sv (rooms (setupP per a3 skews) (holdP a4 skews) st (linksTo (pathO n gates data a5 a6) a b d))) (rooms (setupP per a3 skews) (holdP a4 skews) st (linksTo (pathO n gates data a5 a6) a b d)).isSome (wrap64 (a + 1)) n gates data a3 a4 a5 a6) r →
  Ev (fun k => spec_l06Rooms.l1 k per skews (su st) (sv st) st.isSome a (b : Int) n gates data a3 a4 a5 a6) r := by
 have hn := C.gs.n0
 have hn1 := C.gs.n1
 induction d with
 | zero =>
  rintro b st r h ⟨K, hK⟩
  refine ⟨K + 1, fun k hk => ?_⟩
  obtain ⟨k, rfl⟩ : ∃ m, k = m + 1 := ⟨k - 1, by omega⟩
  simp only [spec_l06Rooms.l1]
  rw [if_neg (by omega)]
  exact hK k (by omega)
 | succ d ih =>
  intro b st r h hE
  obtain ⟨x, y, ⟨K1, hK1⟩, hxy⟩ := path_tells n a3 a4 a5 a6 gates data C.gs C.dlen C.node a (b : Int) (by omega) (by omega)
  have hw : wrap64 ((b : Int) + 1) = (b : Int) + 1 := wrap_id (by omega) (by omega)
  simp only [linksTo] at hE
  rw [rooms_append] at hE
  cases hp : pathO n gates data a5 a6 a (b : Int) with
  | none =>
   rw [hp] at hE hK1
   obtain ⟨K2, hK2⟩ := ih (b + 1) st r (by omega) hE
   refine ⟨K1 + K2 + 1, fun k hk => ?_⟩
   obtain ⟨k, rfl⟩ : ∃ m, k = m + 1 := ⟨k - 1, by omega⟩
   have k1 : spec_l06Path.f k n gates data a3 a4 a5 a6 a (b : Int) = _ := hK1 k (by omega)
   have k2 := hK2 k (by omega)
   push_cast at k2
   simp only [spec_l06Rooms.l1]
   rw [if_pos (by omega), k1]
   simp only [Option.bind_some, Option.isSome_none]
   rw [if_neg (by decide), hw]
   exact k2
  | some p =>
   rw [hp] at hE hK1
   obtain ⟨rfl, rfl⟩ := hxy p hp
   have hE2 := ih (b + 1) _ r (by omega) hE
   obtain ⟨K2, hK2⟩ := hE2
   refine ⟨K1 + K2 + 2, fun k hk => ?_⟩
   obtain ⟨k, rfl⟩ : ∃ m, k = m + 1 + 1 := ⟨k - 2, by omega⟩
   have k1 : spec_l06Path.f (k + 1) n gates data a3 a4 a5 a6 a (b : Int) = _ := hK1 (k + 1) (by omega)
   have k2 := hK2 k (by omega)
   push_cast at k2
   simp only [spec_l06Rooms.l1]
   rw [if_pos (by omega), k1]
   simp only [Option.bind_some, Option.isSome_some, if_true]
   rw [if_pos (by omega), if_pos (by omega), if_pos ha, if_pos (by omega)]
   simp only [spec_l06Rooms.j2, hw]
   cases st with
   | none => simpa [rooms, linkO, roomStep, su, sv, setupP, holdP] using k2
   | some q =>
    simp only [rooms, linkO, List.foldl_cons, List.foldl_nil, roomStep, su, sv, Option.isSome_some] at k2
    simp only [Option.isSome_some, if_true, su, sv]
    have e1 : setupP per a3 skews ⟨a, (b : Int), p.1, p.2⟩ = wrap64 (wrap64 (wrap64 (wrap64 (per + rd skews (b : Int)) - rd skews a) - p.2) - a3) := rfl
    have e2 : holdP a4 skews ⟨a, (b : Int), p.1, p.2⟩ = wrap64 (wrap64 (wrap64 (p.1 + rd skews a) - rd skews (b : Int)) - a4) := rfl
    rw [e1, e2] at k2
    by_cases c1 : wrap64 (wrap64 (wrap64 (wrap64 (per + rd skews (b : Int)) - rd skews a) - p.2) - a3) < q.1
    ·rw [if_pos c1] at k2
     rw [decide_eq_true c1, if_pos rfl]
     by_cases c2 : wrap64 (wrap64 (wrap64 (p.1 + rd skews a) - rd skews (b : Int)) - a4) < q.2
     ·rw [if_pos c2] at k2 ⊢
      exact k2
     ·rw [if_neg c2] at k2 ⊢
      exact k2
    ·rw [if_neg c1] at k2
     rw [decide_eq_false c1, if_neg (by decide)]
     by_cases c2 : wrap64 (wrap64 (wrap64 (p.1 + rd skews a) - rd skews (b : Int)) - a4) < q.2
     ·rw [if_pos c2] at k2 ⊢
      exact k2
     ·rw [if_neg c2] at k2 ⊢
      exact k2
theorem rooms_l0 (per n a3 a4 a5 a6 : Int) (gates : List S62) (data skews : List Int) (C : Ready n gates data) (hs : (skews.length : Int) = n) (d : Nat) : ∀ (a : Nat) (st : Option (Int × Int)), (a : Int) + d = n →
  Ev (fun k => spec_l06Rooms.l0 k per skews (su st) (sv st) st.isSome (a : Int) n gates data a3 a4 a5 a6) (su (rooms (setupP per a3 skews) (holdP a4 skews) st (linksFrom (pathO n gates data a5 a6) n.toNat a d)), sv (rooms (setupP per a3 skews) (holdP a4 skews) st (linksFrom (pathO n gates data a5 a6) n.toNat a d)), n, a3, a4, a5, a6) := by
 have hn := C.gs.n0
 have hn1 := C.gs.n1
 induction d with
 | zero =>
  intro a st h
  refine ⟨1, fun k hk => ?_⟩
  obtain ⟨k, rfl⟩ : ∃ m, k = m + 1 := ⟨k - 1, by omega⟩
  simp only [spec_l06Rooms.l0]
  rw [if_neg (by omega)]
  rfl
 | succ d ih =>
  intro a st h
  have hw : wrap64 ((a : Int) + 1) = (a : Int) + 1 := wrap_id (by omega) (by omega)
  have h1 := ih (a + 1) (rooms (setupP per a3 skews) (holdP a4 skews) st (linksTo (pathO n gates data a5 a6) (a : Int) 0 n.toNat)) (by omega)
  rw [← rooms_append] at h1
  obtain ⟨K, hK⟩ := rooms_l1 per n a3 a4 a5 a6 gates data skews C hs (a : Int) (by omega) (by omega) n.toNat 0 st _ (by omega) (by rw [hw]; exact_mod_cast h1)
  refine ⟨K + 1, fun k hk => ?_⟩
  obtain ⟨k, rfl⟩ : ∃ m, k = m + 1 := ⟨k - 1, by omega⟩
  have hk2 := hK k (by omega)
  simp only [spec_l06Rooms.l0]
  rw [if_pos (by omega)]
  exact hk2
/-- The least rooms of all links. -/
def setupL (per n a3 a5 a6 : Int) (gates : List S62) (data skews : List Int) : Int := leastL (setupP per a3 skews) (linksOf (pathO n gates data a5 a6) n.toNat)
def holdL (n a4 a5 a6 : Int) (gates : List S62) (data skews : List Int) : Int := leastL (holdP a4 skews) (linksOf (pathO n gates data a5 a6) n.toNat)
theorem rooms_tells (per n a3 a4 a5 a6 : Int) (gates : List S62) (data skews : List Int) (C : Ready n gates data) (hs : (skews.length : Int) = n) :
  Ev (fun k => spec_l06Rooms.f k n gates data a3 a4 a5 a6 per skews) (setupL per n a3 a5 a6 gates data skews, holdL n a4 a5 a6 gates data skews, n, a3, a4, a5, a6) := by
 have hn := C.gs.n0
 have h1 := rooms_l0 per n a3 a4 a5 a6 gates data skews C hs n.toNat 0 none (by omega)
 have h2 := rooms_least (setupP per a3 skews) (holdP a4 skews) (linksFrom (pathO n gates data a5 a6) n.toNat 0 n.toNat) (links_some n a5 a6 gates data C)
 rw [h2] at h1
 exact h1
theorem links_in (n a5 a6 : Int) (gates : List S62) (data skews : List Int) (hs : (skews.length : Int) = n) : (linksOf (pathO n gates data a5 a6) n.toNat).all (linkIn skews) = true := by
 rw [List.all_eq_true]
 intro x hx
 have := linksOf_mem _ _ x hx
 unfold linkIn
 simp only [Bool.and_eq_true, decide_eq_true_eq]
 omega
theorem setup_tells (per n a3 a4 a5 a6 : Int) (gates : List S62) (data skews : List Int) (C : Ready n gates data) (hs : (skews.length : Int) = n) :
  Ev (fun k => impl_setupRoom.f k n gates data a3 a4 a5 a6 per skews) (setupL per n a3 a5 a6 gates data skews) := by
 obtain ⟨K, hK⟩ := links_tells n a3 a4 a5 a6 gates data C
 refine ⟨K, fun k hk => ?_⟩
 have hk2 : impl_Circuit_links.f k n gates data a3 a4 a5 a6 = _ := hK k hk
 show impl_setupRoom.f k n gates data a3 a4 a5 a6 per skews = _
 unfold impl_setupRoom.f
 rw [hk2]
 simp only [Option.bind_some]
 rw [if_pos ⟨links_some n a5 a6 gates data C, links_in n a5 a6 gates data skews hs⟩]
 rfl
theorem hold_tells (n a3 a4 a5 a6 : Int) (gates : List S62) (data skews : List Int) (C : Ready n gates data) (hs : (skews.length : Int) = n) :
  Ev (fun k => impl_holdRoom.f k n gates data a3 a4 a5 a6 skews) (holdL n a4 a5 a6 gates data skews) := by
 obtain ⟨K, hK⟩ := links_tells n a3 a4 a5 a6 gates data C
 refine ⟨K, fun k hk => ?_⟩
 have hk2 : impl_Circuit_links.f k n gates data a3 a4 a5 a6 = _ := hK k hk
 show impl_holdRoom.f k n gates data a3 a4 a5 a6 skews = _
 unfold impl_holdRoom.f
 rw [hk2]
 simp only [Option.bind_some]
 rw [if_pos ⟨links_some n a5 a6 gates data C, links_in n a5 a6 gates data skews hs⟩]
 rfl
theorem skews_ready {n : Int} {gates : List S62} {data : List Int} {a3 a4 a5 a6 : Int} {skews : List Int} (hw : ∀ g ∈ gates, g.f2.length ≤ 1048576) (h : skewsB n gates data a3 a4 a5 a6 skews = true) :
  Ready n gates data ∧ (skews.length : Int) = n ∧ ∀ x ∈ skews, 0 ≤ x ∧ x ≤ 100000 := by
 unfold skewsB at h
 simp only [Bool.and_eq_true, decide_eq_true_eq, List.all_eq_true, inB_iff] at h
 exact ⟨(circ_of n gates data a3 a4 a5 a6 hw h.1.1).ready hw, h.1.2, h.2⟩
end Go.Proofs.Ytalafmahgeejiaa.Pure
