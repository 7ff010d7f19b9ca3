/- A chain's factors multiply to the number, ascend in bounds, and are as few as there can be. -/
import Derived.Test.YtpgejlnhbggkkaaPaxf6
import Derived.Test.YtpgejlnhbggkkaaPureB10
import Derived.Test.YtpgejlnhbggkkaaPureChain
namespace Go.Proofs.Ytpgejlnhbggkkaa.Pure
open Go.RowKit Go.Proofs.Ytpgejlnhbggkkaa.Pa Go.Proofs.YtpgejlnhbggkkaaW.PrintWords Go.Proofs.YtpgejlnhbggkkaaW.PrintLast
set_option linter.unusedVariables false
set_option linter.unusedSimpArgs false

/-- Ascending factors from least to most whose product is b. -/
def Good (most : Int) : Int → List Int → Int → Prop
  | _, [], b => b = 1
  | least, x :: xs, b => least ≤ x ∧ x ≤ most ∧ ∃ q, b = x * q ∧ 1 ≤ q ∧ Good most x xs q

theorem tdiv_mul' {b n : Int} (h0 : 1 ≤ n) (h1 : 1 ≤ b) (hm : Int.tmod b n = 0) : b = n * Int.tdiv b n := by
  have := Int.mul_tdiv_add_tmod b n
  omega
theorem loopF_sound (most : Int) (rec : Int → Int → List Int × Bool) (m : Nat) (hrec : ∀ b n, 1 ≤ b → 1 ≤ n → (rec b n).2 = true → Good most n (rec b n).1 b ∧ (rec b n).1.length = m) (b : Int) (hb : 1 ≤ b) (d : Nat) : ∀ n least, 1 ≤ n → least ≤ n → (loopF most b rec d n).2 = true → Good most least (loopF most b rec d n).1 b ∧ (loopF most b rec d n).1.length = m + 1 := by
  induction d with
  | zero => intro n least _ _ h; simp [loopF] at h
  | succ d ih =>
    intro n least hn hl
    simp only [loopF]
    by_cases h1 : n ≤ most ∧ n ≤ b
    · rw [if_pos h1]
      by_cases h2 : Int.tmod b n = 0
      · rw [if_pos h2]
        by_cases h3 : (rec (Int.tdiv b n) n).2 = true
        · rw [if_pos h3]
          intro _
          have hq := (tdiv_range hn h1.2).1
          obtain ⟨g1, g2⟩ := hrec _ n hq hn h3
          refine ⟨⟨hl, h1.1, _, tdiv_mul' hn hb h2, hq, g1⟩, by simp [g2]⟩
        · rw [if_neg h3]
          exact ih (n + 1) least (by omega) (by omega)
      · rw [if_neg h2]
        exact ih (n + 1) least (by omega) (by omega)
    · rw [if_neg h1]
      intro h
      simp at h
theorem facL_sound (most : Int) (m : Nat) : ∀ b least, 1 ≤ b → 1 ≤ least → (facL most m b least).2 = true → Good most least (facL most m b least).1 b ∧ (facL most m b least).1.length = m := by
  induction m with
  | zero =>
    intro b least _ _ h
    simp only [facL] at h ⊢
    by_cases hb : b = 1
    · rw [if_pos hb]; exact ⟨hb, rfl⟩
    · rw [if_neg hb] at h; simp at h
  | succ m ih =>
    intro b least hb hl h
    simp only [facL] at h ⊢
    exact loopF_sound most _ m ih b hb _ least least hl (by omega) h
theorem loopF_none (most b : Int) (rec : Int → Int → List Int × Bool) (d : Nat) : ∀ n, (loopF most b rec d n).2 = false → (loopF most b rec d n).1 = [] := by
  induction d with
  | zero => intro n h; rfl
  | succ d ih =>
    intro n
    simp only [loopF]
    split
    · split
      · split
        · intro h; simp at h
        · exact ih _
      · exact ih _
    · intro _; rfl
theorem loopF_finds (most b : Int) (rec : Int → Int → List Int × Bool) (f : Int) (hf1 : f ≤ most) (hf2 : f ≤ b) (hf3 : Int.tmod b f = 0) (hf4 : (rec (Int.tdiv b f) f).2 = true) (d : Nat) : ∀ n, n ≤ f → (most + 1 - n).toNat ≤ d → (loopF most b rec d n).2 = true := by
  induction d with
  | zero => intro n h1 h2; omega
  | succ d ih =>
    intro n h1 h2
    simp only [loopF]
    rw [if_pos (by omega)]
    by_cases he : n = f
    · subst he
      rw [if_pos hf3, if_pos hf4]
    · have := ih (n + 1) (by omega) (by omega)
      split
      · split
        · rfl
        · exact this
      · exact this
/-- One factor. -/
theorem facL_one (most b least : Int) (h1 : 1 ≤ least) (hb : 1 ≤ b) : (facL most 1 b least).2 = true ↔ least ≤ b ∧ b ≤ most := by
  constructor
  · intro h
    obtain ⟨g, hl⟩ := facL_sound most 1 b least hb h1 h
    obtain ⟨x, hx⟩ := List.length_eq_one_iff.mp hl
    rw [hx] at g
    obtain ⟨g1, g2, q, g3, g4, g5⟩ := g
    have hq : q = 1 := g5
    subst hq
    omega
  · intro ⟨h2, h3⟩
    simp only [facL]
    have e : Int.tdiv b b = 1 := Int.tdiv_self (by omega)
    refine loopF_finds most b _ b h3 (by omega) (by simp) ?_ _ least h2 (by omega)
    rw [e]
    simp
def Div (most b f : Int) : Prop := Int.tmod b f = 0 ∧ Int.tdiv b f ≤ most ∧ 2 ≤ Int.tdiv b f
/-- Two factors. -/
theorem facL_two (most b : Int) (hb : 1 ≤ b) : (facL most 2 b 2).2 = true ↔ ∃ f, 2 ≤ f ∧ f ≤ most ∧ Div most b f := by
  constructor
  · intro h
    obtain ⟨g, hl⟩ := facL_sound most 2 b 2 hb (by omega) h
    have two : ∀ l : List Int, l.length = 2 → ∃ x y, l = [x, y] := by
      intro l h
      match l, h with
      | [x, y], _ => exact ⟨x, y, rfl⟩
    obtain ⟨x, y, hx⟩ := two _ hl
    rw [hx] at g
    obtain ⟨g1, g2, q, g3, g4, g5, g6, r, g7, g8, g9⟩ := g
    have hr : r = 1 := g9
    subst hr
    have e : Int.tdiv b x = q := by rw [g3]; exact Int.mul_tdiv_cancel_left q (by omega)
    refine ⟨x, g1, g2, ?_, ?_, ?_⟩
    · rw [g3]; exact Int.mul_tmod_right x q
    · omega
    · omega
  · intro ⟨f, h1, h2, h3, h4, h5⟩
    have e := tdiv_mul' (by omega) hb h3
    generalize hq : Int.tdiv b f = q at *
    have main : ∀ x y : Int, 2 ≤ x → x ≤ y → y ≤ most → b = x * y → (facL most 2 b 2).2 = true := by
      intro x y hx hxy hy hb'
      have e1 : Int.tdiv b x = y := by rw [hb']; exact Int.mul_tdiv_cancel_left y (by omega)
      have hxb : x ≤ b := by
        rw [hb']
        have : x * 1 ≤ x * y := Int.mul_le_mul_of_nonneg_left (by omega) (by omega)
        omega
      simp only [facL]
      refine loopF_finds most b _ x (by omega) hxb (by rw [hb']; exact Int.mul_tmod_right x y) ?_ _ 2 hx (by omega)
      rw [e1]
      exact (facL_one most y x (by omega) (by omega)).2 ⟨hxy, hy⟩
    by_cases hle : f ≤ q
    · exact main f q h1 hle h4 e
    · exact main q f h5 (by omega) h2 (by rw [e, Int.mul_comm])
theorem chainL_none (most b : Int) (d : Nat) : ∀ m, (chainL most b d m).2 = false → (chainL most b d m).1 = [] := by
  induction d with
  | zero => intro m _; rfl
  | succ d ih =>
    intro m
    simp only [chainL]
    split
    · intro h; simp at h
    · exact ih _
theorem chainL_good (most b : Int) (hb : 1 ≤ b) (d : Nat) : ∀ m, (chainL most b d m).2 = true → Good most 2 (chainL most b d m).1 b := by
  induction d with
  | zero => intro m h; simp [chainL] at h
  | succ d ih =>
    intro m
    simp only [chainL]
    split
    · rename_i h1
      intro _
      exact (facL_sound most m b 2 hb (by omega) h1).1
    · exact ih _
theorem chainL_from (most b : Int) (hb : 1 ≤ b) (d : Nat) : ∀ m, (chainL most b d m).2 = true → m ≤ (chainL most b d m).1.length := by
  induction d with
  | zero => intro m h; simp [chainL] at h
  | succ d ih =>
    intro m
    simp only [chainL]
    split
    · rename_i h1
      intro _
      exact Nat.le_of_eq (facL_sound most m b 2 hb (by omega) h1).2.symm
    · intro h
      have := ih _ h
      omega

/-- The law's first loop passes over a good chain. -/
theorem pass_l0 (b most : Int) (ok : Bool) (hb1 : 1 ≤ b) (hb2 : b ≤ 1000) (xs : List Int) : ∀ (pre : List Int) (p q lst : Int), 1 ≤ p → 1 ≤ q → p * q = b → Good most lst xs q → 2 ≤ lst → (∀ h : pre ≠ [], pre.getLast h = lst) → pre.length + xs.length ≤ 100 → ∀ k, laws_FnChains.l0 (k + xs.length) b most (pre ++ xs) ok p (pre.length : Int) = laws_FnChains.l0 k b most (pre ++ xs) ok b ((pre ++ xs).length : Int) := by
  induction xs with
  | nil =>
    intro pre p q lst hp hq hpq g hl hlast hlen k
    have : q = 1 := g
    subst this
    rw [show p = b by omega]
    simp
  | cons x xs ih =>
    intro pre p q lst hp hq hpq g hl hlast hlen k
    obtain ⟨g1, g2, q', g3, g4, g5⟩ := g
    have hx : 2 ≤ x := by omega
    have e1 : rd (pre ++ x :: xs) (pre.length : Int) = x := by
      rw [rd_get (by simp)]; simp
    have hpx : 1 ≤ p * x := by
      have : 1 * 1 ≤ p * x := Int.mul_le_mul hp (by omega) (by omega) (by omega)
      omega
    have hpx2 : p * x * q' = b := by rw [Int.mul_assoc, ← g3, hpq]
    have hpx3 : p * x ≤ b := by
      have : p * x * 1 ≤ p * x * q' := Int.mul_le_mul_of_nonneg_left g4 (by omega)
      omega
    simp only [List.length_cons] at hlen ⊢
    have step : laws_FnChains.l0 (k + (xs.length + 1)) b most (pre ++ x :: xs) ok p (pre.length : Int) = laws_FnChains.l0 (k + xs.length) b most (pre ++ x :: xs) ok (p * x) ((pre.length : Int) + 1) := by
      rw [show k + (xs.length + 1) = (k + xs.length) + 1 from rfl]
      conv => lhs; simp only [laws_FnChains.l0]
      rw [if_pos (by simp; omega), if_pos (by omega), e1, if_neg (by omega), if_neg (by omega), wrap_id (x := p * x) (by omega) (by omega), wrap_id (x := (pre.length : Int) + 1) (by omega) (by omega)]
      by_cases hpre : pre = []
      · subst hpre
        rw [if_neg (by simp)]
      · have hpl : 0 < pre.length := List.length_pos_iff.mpr hpre
        have e2 : rd (pre ++ x :: xs) ((pre.length : Int) - 1) = lst := by
          have e3 : ((pre.length : Int) - 1) = ((pre.length - 1 : Nat) : Int) := by omega
          rw [e3, rd_get (by simp; omega)]
          rw [List.getElem_append_left (by omega), ← hlast hpre, List.getLast_eq_getElem]
        rw [if_pos (by omega), wrap_id (x := (pre.length : Int) - 1) (by omega) (by omega), if_pos (by omega), if_pos (by simp; omega), e2, if_neg (by omega)]
    rw [step]
    have := ih (pre ++ [x]) (p * x) q' x hpx g4 hpx2 g5 hx (by simp) (by simp; omega) k
    simp only [List.append_assoc, List.singleton_append, List.length_append, List.length_singleton] at this
    push_cast at this
    rw [this]
    simp

open Classical in
/-- The fewest factors that the law has seen below n. -/
noncomputable def st (most b n : Int) : Int := if b < n then 1 else if ∃ f, 2 ≤ f ∧ f < n ∧ Div most b f then 2 else 0

theorem Div_past {most b n : Int} (hb : 1 ≤ b) (h : b < n) : ¬ Div most b n := by
  intro ⟨h1, h2, h3⟩
  have : Int.tdiv b n = 0 := Int.tdiv_eq_zero_of_lt (by omega) h
  omega
theorem Div_self {most b : Int} (hb : 1 ≤ b) : ¬ Div most b b := by
  intro ⟨h1, h2, h3⟩
  have : Int.tdiv b b = 1 := Int.tdiv_self (by omega)
  omega
theorem st_at {most b n : Int} (h : n = b) : st most b (n + 1) = 1 := by
  unfold st; rw [if_pos (by omega)]
theorem st_div {most b n : Int} (hb : 1 ≤ b) (hn : 2 ≤ n) (hne : n ≠ b) (h : Div most b n) : st most b (n + 1) = 2 ∧ (st most b n = 0 ∨ st most b n = 2) := by
  have hlt : n < b := by
    rcases Int.lt_or_gt_of_ne hne with h' | h'
    · exact h'
    · exact absurd h (Div_past hb h')
  unfold st
  constructor
  · rw [if_neg (by omega), if_pos ⟨n, hn, by omega, h⟩]
  · rw [if_neg (by omega)]
    split
    · exact .inr rfl
    · exact .inl rfl
theorem st_not {most b n : Int} (hne : n ≠ b) (h : ¬ Div most b n) : st most b (n + 1) = st most b n := by
  unfold st
  by_cases hlt : b < n
  · rw [if_pos hlt, if_pos (by omega)]
  · rw [if_neg hlt, if_neg (by omega)]
    have : (∃ f, 2 ≤ f ∧ f < n + 1 ∧ Div most b f) ↔ (∃ f, 2 ≤ f ∧ f < n ∧ Div most b f) := by
      constructor
      · intro ⟨f, h1, h2, h3⟩
        refine ⟨f, h1, ?_, h3⟩
        by_cases e : f = n
        · subst e; exact absurd h3 h
        · omega
      · intro ⟨f, h1, h2, h3⟩
        exact ⟨f, h1, by omega, h3⟩
    by_cases e : ∃ f, 2 ≤ f ∧ f < n + 1 ∧ Div most b f
    · rw [if_pos e, if_pos (this.1 e)]
    · rw [if_neg e, if_neg (fun h => e (this.2 h))]

theorem run_l1 (b most : Int) (l : List Int) (ok : Bool) (hb1 : 2 ≤ b) (hb2 : b ≤ 1000) (hm : most ≤ 64) (hm2 : 2 ≤ most)
    (h1 : st most b (most + 1) = 1 → ok = true ∧ l.length = 1) (h2 : st most b (most + 1) = 2 → ok = true ∧ l.length = 2) (h0 : st most b (most + 1) = 0 → ok = true → 2 < l.length)
    (d : Nat) : ∀ n, 2 ≤ n → n + d = most + 1 → ∀ k, d + 1 ≤ k → laws_FnChains.l1 k b most l ok (st most b n) n = some true := by
  induction d with
  | zero =>
    intro n hn hd k hk
    obtain ⟨k, rfl⟩ : ∃ q, k = q + 1 := ⟨k - 1, by omega⟩
    have : n = most + 1 := by omega
    subst this
    simp only [laws_FnChains.l1]
    rw [if_neg (by omega)]
    have hst : st most b (most + 1) = 0 ∨ st most b (most + 1) = 1 ∨ st most b (most + 1) = 2 := by
      unfold st
      split
      · simp
      · split <;> simp
    rcases hst with e | e | e
    · have := h0 e
      rw [e]
      cases ok with
      | false => simp
      | true => have := this rfl; simp; omega
    · obtain ⟨a, c⟩ := h1 e
      rw [e, a, c]; simp
    · obtain ⟨a, c⟩ := h2 e
      rw [e, a, c]; simp
  | succ d ih =>
    intro n hn hd k hk
    obtain ⟨k, rfl⟩ : ∃ q, k = q + 1 := ⟨k - 1, by omega⟩
    have next := ih (n + 1) (by omega) (by omega) k (by omega)
    have hq : Int.tdiv b n = b / n := Int.tdiv_eq_ediv_of_nonneg (by omega)
    have hq0 : 0 ≤ b / n := Int.ediv_nonneg (by omega) (by omega)
    have hq1 : b / n ≤ b := Int.ediv_le_self _ (by omega)
    have hw : wrap64 (Int.tdiv b n) = Int.tdiv b n := wrap_id (by omega) (by omega)
    simp only [laws_FnChains.l1]
    rw [if_pos (by omega), wrap_id (x := n + 1) (by omega) (by omega), hw]
    by_cases e : n = b
    · rw [if_pos e, if_neg (by omega)]
      rw [st_at e] at next
      subst e
      have : Int.tdiv n n = 1 := Int.tdiv_self (by omega)
      rw [this]
      simp only [next]
      simp
    · rw [if_neg e, if_neg (by omega)]
      by_cases hD : Div most b n
      · obtain ⟨s1, s2⟩ := st_div (by omega) hn e hD
        obtain ⟨d1, d2, d3⟩ := hD
        rw [s1] at next
        rw [if_pos d1, if_pos d2, if_pos (by omega)]
        rcases s2 with s2 | s2
        · rw [s2, if_pos rfl, next]
        · rw [s2, if_neg (by omega), next]
      · rw [st_not e hD] at next
        by_cases d1 : Int.tmod b n = 0
        · rw [if_pos d1]
          by_cases d2 : Int.tdiv b n ≤ most
          · rw [if_pos d2, if_neg (fun d3 => hD ⟨d1, d2, by omega⟩), next]
          · rw [if_neg d2, next]
        · rw [if_neg d1, next]

theorem run_j0 (b most : Int) (l1 : List Int) (hb1 : 1 ≤ b) (hb2 : b ≤ 1000) (hm2 : 2 ≤ most) (hm : most ≤ 64) (t : Int) (ht : laws_b10At.f l1 0 40 = some t) (htm : wrap64 (2 + t) = most) : ∃ k0, ∀ k, k0 ≤ k → laws_FnChains.j0 k l1 b = some true := by
  obtain ⟨K, hK⟩ := chain_tells b most
  obtain ⟨l, ok, hlo⟩ : ∃ l o, chainS b most = (l, o) := ⟨_, _, rfl⟩
  have hcl : chainL most b 11 0 = (l, ok) := by rw [← hlo]; unfold chainS; rw [if_pos ⟨⟨hb1, hb2⟩, hm2, hm⟩]
  have hlen : l.length ≤ 11 := by have := chainS_length b most; rw [hlo] at this; exact this
  -- after the first loop
  have fin : ∀ k, 100 ≤ k → laws_FnChains.j2 k b most l ok false = some true := by
    intro k hk
    obtain ⟨k, rfl⟩ : ∃ q, k = q + 1 := ⟨k - 1, by omega⟩
    simp only [laws_FnChains.j2]
    rw [if_neg (by simp)]
    by_cases e1 : b = 1
    · subst e1
      have : chainL most 1 11 0 = ([], true) := by simp [chainL, facL]
      rw [this] at hcl
      obtain ⟨rfl, rfl⟩ := Prod.mk.inj hcl
      simp
    · rw [if_neg e1]
      have hf0 : (facL most 0 b 2).2 = false := by simp [facL, e1]
      have g1 : (2 : Int) ≤ b := by omega
      have g2 : (2 : Int) + ((most - 1).toNat : Int) = most + 1 := by omega
      have g3 : (most - 1).toNat + 1 ≤ k := by omega
      have s0 : st most b 2 = 0 := by
        unfold st
        rw [if_neg (by omega), if_neg (by intro ⟨f, a1, a2, _⟩; omega)]
      rw [← s0]
      have c1 : chainL most b 10 1 = (l, ok) := by rw [← hcl]; conv => rhs; unfold chainL; rw [if_neg (by simp [hf0])]
      have q1 := facL_one most b 2 (by omega) hb1
      have q2 := facL_two most b hb1
      have main1 : b ≤ most → ok = true ∧ l.length = 1 := by
        intro h
        have hf := q1.2 ⟨by omega, h⟩
        have : (l, ok) = ((facL most 1 b 2).1, true) := by rw [← c1]; conv => lhs; unfold chainL; rw [if_pos hf]
        obtain ⟨rfl, rfl⟩ := Prod.mk.inj this
        exact ⟨rfl, (facL_sound most 1 b 2 hb1 (by omega) hf).2⟩
      have c2 : ¬ b ≤ most → chainL most b 9 2 = (l, ok) := by
        intro h
        rw [← c1]; conv => rhs; unfold chainL; rw [if_neg (fun hf => h (q1.1 hf).2)]
      refine run_l1 b most l ok g1 hb2 hm hm2 ?_ ?_ ?_ (most - 1).toNat 2 (Int.le_refl _) g2 k g3
      · intro h
        refine main1 ?_
        unfold st at h
        by_cases hb : b < most + 1
        · omega
        · rw [if_neg hb] at h
          split at h <;> omega
      · intro h
        unfold st at h
        by_cases hb : b < most + 1
        · rw [if_pos hb] at h; omega
        · rw [if_neg hb] at h
          have hc2 := c2 (by omega)
          split at h
          · rename_i hex
            obtain ⟨f, f1, f2, f3⟩ := hex
            have hf := q2.2 ⟨f, f1, by omega, f3⟩
            have : (l, ok) = ((facL most 2 b 2).1, true) := by rw [← hc2]; conv => lhs; unfold chainL; rw [if_pos hf]
            obtain ⟨rfl, rfl⟩ := Prod.mk.inj this
            exact ⟨rfl, (facL_sound most 2 b 2 hb1 (by omega) hf).2⟩
          · omega
      · intro h hok
        unfold st at h
        by_cases hb : b < most + 1
        · rw [if_pos hb] at h; omega
        · rw [if_neg hb] at h
          have hc2 := c2 (by omega)
          split at h
          · omega
          · rename_i hex
            have hf : ¬ (facL most 2 b 2).2 = true := by
              intro hf
              obtain ⟨f, f1, f2, f3⟩ := q2.1 hf
              exact hex ⟨f, f1, by omega, f3⟩
            have c3 : chainL most b 8 3 = (l, ok) := by rw [← hc2]; conv => rhs; unfold chainL; rw [if_neg hf]
            have := chainL_from most b hb1 8 3 (by rw [c3]; exact hok)
            rw [c3] at this
            exact this
  refine ⟨K + 200, fun k hk => ?_⟩
  obtain ⟨k, rfl⟩ : ∃ q, k = q + 1 := ⟨k - 1, by omega⟩
  obtain ⟨i1, i2⟩ := hK k (by omega)
  simp only [laws_FnChains.j0]
  rw [ht]
  simp only [Option.bind_some, htm]
  rw [i1, i2, hlo]
  simp only [Option.bind_some, bne_self_eq_false]
  rw [if_neg (by simp)]
  cases ok with
  | false =>
    have : l = [] := by
      have := chainL_none most b 11 0 (by rw [hcl])
      rw [hcl] at this
      exact this
    subst this
    obtain ⟨k, rfl⟩ : ∃ q, k = q + 1 := ⟨k - 1, by omega⟩
    simp only [laws_FnChains.l0]
    rw [if_neg (by simp), if_neg (by simp)]
    exact fin k (by omega)
  | true =>
    have g := chainL_good most b hb1 11 0 (by rw [hcl])
    rw [hcl] at g
    have p := pass_l0 b most true hb1 hb2 l [] 1 b 2 (by omega) hb1 (by omega) g (by omega) (by simp) (by simp; omega) (k - l.length)
    rw [show k - l.length + l.length = k by omega] at p
    simp only [List.nil_append, List.length_nil] at p
    rw [show ((0 : Nat) : Int) = 0 from rfl] at p
    rw [p]
    obtain ⟨k', hk'⟩ : ∃ q, k - l.length = q + 1 := ⟨k - l.length - 1, by omega⟩
    rw [hk']
    simp only [laws_FnChains.l0]
    rw [if_neg (by omega), if_pos trivial, bne_self_eq_false]
    exact fin k' (by omega)

theorem FnChains : laws_FnChains.Pure := by
  intro l0 l1 _ _ hw0 _ _ hw1
  unfold laws_FnChains.f laws_b10Long.f
  obtain ⟨t0, e0, a0, c0⟩ := b10At_in l0 hw0 0 250 (by omega) (by omega) (by omega)
  obtain ⟨t1, e1, a1, c1⟩ := b10At_in l0 hw0 1 4 (by omega) (by omega) (by omega)
  obtain ⟨t2, e2, a2, c2⟩ := b10At_in l1 hw1 0 40 (by omega) (by omega) (by omega)
  rw [e0, e1]
  simp only [Option.bind_some]
  rw [wrap_id (x := 4 * t0) (by omega) (by omega), wrap_id (x := 1 + 4 * t0) (by omega) (by omega), wrap_id (x := 1 + 4 * t0 + t1) (by omega) (by omega)]
  obtain ⟨K, hK⟩ := run_j0 1000 (2 + t2) l1 (by omega) (by omega) (by omega) (by omega) t2 e2 (wrap_id (by omega) (by omega))
  by_cases hbig : 1 + 4 * t0 + t1 > 1000
  · refine ⟨K, ?_⟩
    rw [if_pos hbig, hK K (by omega)]
    split
    · simp
    · simp only [Option.bind_some]
      split <;> rfl
  · obtain ⟨K, hK⟩ := run_j0 (1 + 4 * t0 + t1) (2 + t2) l1 (by omega) (by omega) (by omega) (by omega) t2 e2 (wrap_id (by omega) (by omega))
    refine ⟨K, ?_⟩
    rw [if_neg hbig, hK K (by omega)]
    split
    · simp
    · simp only [Option.bind_some]
      split <;> rfl
end Go.Proofs.Ytpgejlnhbggkkaa.Pure
