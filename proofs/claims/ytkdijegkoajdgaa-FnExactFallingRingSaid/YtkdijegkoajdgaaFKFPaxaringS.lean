-- Written for this claim by a program of this session.
import Derived.Test.YtkdijegkoajdgaaFPax0
import Derived.Test.YtkdijegkoajdgaaFKFPaxf25
import Derived.Test.YtkdijegkoajdgaaFCoreF2
namespace Go.Proofs.Ytkdijegkoajdgaa.Pa
open Go.RowKit Go.Proofs.YtkdijegkoajdgaaW.PrintWords Go.Proofs.YtkdijegkoajdgaaW.PrintLast Go.Proofs.YtkdijegkoajdgaaW.PrintMore
attribute [local go_sem] max2_int min2_int max_two min_two max_three min_three max_four min_four   -- for this text's walks alone
set_option linter.unusedVariables false
set_option linter.unusedSimpArgs false

/-! ### AUX ringS -/
/-- The sum of some bounds. -/
def sumOf (l : List S53) (ls : List Int) : Int := ls.foldl (fun s i => wrap64 (s + (rd_T53 l i).f2)) 0
theorem sumOf_snoc (l : List S53) (ls : List Int) (i : Int) : sumOf l (ls ++ [i]) = wrap64 (sumOf l ls + (rd_T53 l i).f2) := by
 unfold sumOf
 rw [List.foldl_append]
 rfl
theorem take_snoc (ls : List Int) (i : Nat) (h : i < ls.length) : ls.take (i + 1) = ls.take i ++ [rd ls (i : Int)] := by
 have e : rd ls (i : Int) = ls[i] := by
  unfold rd
  rw [List.getD_eq_getElem?_getD, Int.toNat_natCast, List.getElem?_eq_getElem h]
  rfl
 rw [e, List.take_succ_eq_append_getElem h]
/-- Whether a bound goes on a list, the first i bounds of it looked at. -/
def fitK (l : List S53) (ls : List Int) (k : Int) (i : Nat) : Bool := (ls.isEmpty || ((rd_T53 l k).f0 == endOf l ls)) && !usedIn l (ls.take i) (rd_T53 l k).f0
theorem usedIn_take (l : List S53) (ls : List Int) (x : Int) (i : Nat) (h : usedIn l (ls.take i) x = true) : usedIn l ls x = true := by
 unfold usedIn at h ⊢
 obtain ⟨y, hy, hx⟩ := List.any_eq_true.1 h
 exact List.any_eq_true.2 ⟨y, List.mem_of_mem_take hy, hx⟩
theorem fitK_all (l : List S53) (ls : List Int) (k : Int) : fitK l ls k ls.length = !skipB l ls k := by
 unfold fitK skipB
 rw [List.take_length]
 have hc : ((rd_T53 l k).f0 == endOf l ls) = !(endOf l ls != (rd_T53 l k).f0) := by
  unfold bne
  rw [Bool.not_not, Bool.eq_iff_iff, beq_iff_eq, beq_iff_eq]
  exact eq_comm
 rw [hc]
 cases ls.isEmpty <;> cases usedIn l ls (rd_T53 l k).f0 <;> cases (endOf l ls != (rd_T53 l k).f0) <;> rfl
theorem fitK_stop (l : List S53) (ls : List Int) (k : Int) (i : Nat) (h : fitK l ls k i = false) : fitK l ls k ls.length = false := by
 unfold fitK at h ⊢
 rw [List.take_length]
 cases hu : usedIn l (ls.take i) (rd_T53 l k).f0 with
 | true => rw [usedIn_take _ _ _ _ hu]; simp
 | false => rw [hu] at h; simp at h ⊢; intro h1; exact absurd h1 (by simpa using h)
theorem fitK_succ (l : List S53) (ls : List Int) (k : Int) (i : Nat) (h : i < ls.length) (hf : fitK l ls k i = true) : fitK l ls k (i + 1) = ((rd_T53 l (rd ls (i : Int))).f0 != (rd_T53 l k).f0) := by
 unfold fitK at hf ⊢
 rw [Bool.and_eq_true] at hf
 rw [hf.1, take_snoc ls i h, usedIn_snoc]
 have h2 := hf.2
 rw [Bool.not_eq_true'] at h2
 rw [h2, Bool.false_or, Bool.true_and]
 rfl
set_option maxHeartbeats 16000000 in
set_option maxRecDepth 100000 in
theorem rings.calls (g : Nat) (ev : Int) (A : Option Addr) (c : Nat) (l : List S53) (sz : Nat) (w0 : World) (hcl : Kd.C k53 w0 A l.length l) (hl : l.length ≤ 24) (hz : sz ≤ 10) (r : Nat) :
  ∀ (ls : List Int) (v : Value) (w : World) (q : Option (List Int)) (b : Bool) (x : List Int), ls.length ≤ sz → 1 ≤ sz → (∀ j : Int, 0 ≤ j → j < (ls.length : Int) → 0 ≤ rd ls j ∧ rd ls j < (l.length : Int)) → Below w0.heap.size w0 w → w.heap[g]? = some (.cells #[.int .i64 ev, .slice A l.length c] 31 (0, 0)) → Kd.R (Kd.int .i64) 2 w w0.heap.size (fun _ => True) (v) ls → ringP l sz r ls (sumOf l ls) = some q → q.isSome = b → q.getD [] = x →
   Calls Try.prog 18 #[.pointer (some ⟨g, 0, none⟩), v, .int .i64 (sz : Int)] w fun e w' => ∃ (v' : Value) (x' : List Int), e = .returned (.tuple #[v', .bool b]) ∧ Kd.R (Kd.int .i64) 2 w' w0.heap.size (fun _ => True) (v') x' ∧ (b = true → x' = x) ∧ Below w.heap.size w w' := by
 have hu := Try.underlying31
 have hu2 := Try.underlying53
 have HCL := Aside0.mk hcl; have HL := Aside0.mk hl; have HZ := Aside0.mk hz
 clear hcl hl hz
 induction r with
 | zero => intro ls v w q b x _ _ _ _ _ _ hq; exact absurd hq (by simp [ringP])
 | succ r ih =>
  have IH := Aside0.mk ih
  clear ih
  intro ls v w q b x hls h1 hix hB hg hr hq hb hx
  obtain ⟨Ar, cr, rfl⟩ := Kd.R_slice hr
  have hlen : ls.length ≤ 10 := Nat.le_trans hls HZ.out
  unfold ringP at hq
  have HB := Aside0.mk hB; have HG := Aside0.mk hg; have HR := Aside0.mk hr; have HIX := Aside0.mk hix; have HBB := Aside0.mk hb; have HX := Aside0.mk hx; have HLEN := Aside0.mk hlen; have H1 := Aside0.mk h1; have HLS := Aside0.mk hls
  clear hB hg hr hix hb hx
  obtain ⟨la, hla⟩ : ∃ z, (ls.length : Int) - 1 = z := ⟨_, rfl⟩
  have hwl : wrap64 la = la := by unfold wrap64; omega
  have hwi : IntKind.i64.wrap la = la := (i64_w _).trans hwl
  have HLA := Aside0.mk hla
  by_cases hsz : ls.length = sz
  ·rw [if_pos hsz] at hq
   have hq := Option.some.inj hq
   have HQ := Aside0.mk hq
   clear hq
   have e1 : ((ls.length : Int) == (sz : Int)) = true := beq_iff_eq.mpr (by omega)
   have hpos : 0 < ls.length := by omega
   have HPOS := Aside0.mk hpos
   clear hsz h1 hls hpos
   go_enter Try.func18, Try.ntmps18
   go_wp2_with (fail)
   clear e1
   go_loopg [9, 10] (ls.length + 1) (fun gg s9 s10 wr => ∃ (i : Nat), s10 = .int .i64 (i : Int) ∧ s9 = .int .i64 (sumOf l (ls.take i)) ∧ Aside0 (i ≤ ls.length ∧ ls.length - i < gg) ∧ Aside0 (Below w0.heap.size w0 wr) ∧ Aside0 (Below w.heap.size w wr) ∧ Aside0 (wr.heap[g]? = some (.cells #[.int .i64 ev, .slice A l.length c] 31 (0, 0))) ∧ Aside0 (Kd.R (Kd.int .i64) 2 wr w0.heap.size (fun _ => True) (.slice Ar ls.length cr) ls))
   case atStart => exact ⟨0, rfl, rfl, ⟨by simp⟩, HB, ⟨Below.refl _ _⟩, HG, HR⟩
   case round =>
    clear HB HG HR
    obtain ⟨i, rfl, rfl, HI, HB, HBW, HG, HR⟩ := hrel
    generalize hxi : (i : Int) = xi
    have HXI := Aside0.mk hxi
    generalize hs0 : sumOf l (ls.take i) = s0
    have HS0 := Aside0.mk hs0
    have k1 := blk_cell HG.out 1
    by_cases hlt : i < ls.length
    ·have h0 : (0 : Int) ≤ xi := by omega
     have h1 : xi < (ls.length : Int) := by omega
     obtain ⟨ada, eaa, ka⟩ := Kd.at_int (Kd.R_reads' HR.out).2.2 (xi) h0 h1
     cases eaa
     obtain ⟨hja0, hja1⟩ := HIX.out (xi) h0 h1
     obtain ⟨zi, hza⟩ : ∃ z, rd ls (xi) = z := ⟨_, rfl⟩
     rw [hza] at ka hja0 hja1
     have hCl := Kd.C_below HCL.out HB.out
     obtain ⟨aca, eba, ba0, ba1, ba2⟩ := at_T53 hCl zi hja0 hja1
     cases eba
     clear hCl
     have paa := eq_true hja0; have pba := eq_true hja1; have pca := decide_eq_true hja0; have pda := decide_eq_true hja1
     have q0 := eq_true h0; have q1 := eq_true h1; have q2 := decide_eq_true h0; have q3 := decide_eq_true h1
     have hst : sumOf l (ls.take (i + 1)) = wrap64 (s0 + (rd_T53 l zi).f2) := by rw [take_snoc ls i hlt, sumOf_snoc, hs0, hxi, hza]
     have HST := Aside0.mk hst
     have HLT := Aside0.mk hlt
     clear hst hlt hs0 hxi hza
     generalize (rd_T53 l zi).f2 = z2 at ba2 HST
     go_wp2_with (fail)
     go_quiet (fail)
     clear q0 q1 q2 q3 k1 h0 h1
     clear ka ba0 ba1 ba2 paa pba pca pda hja0 hja1
     have hb := pw_below_drewN (Below.refl wr.heap.size wr) nq; replace HB := Aside0.mk (below_step HB.out hb); replace HBW := Aside0.mk (below_step HBW.out hb); replace HG := Aside0.mk (blk_below HG.out hb); replace HR := Aside0.mk (Kd.R_below HR.out hb); clear hb; generalize wr.drewN nq = wr at HB HBW HG HR ⊢
     go_wp2
     have hxi := HXI.out
     have hi := HI.out
     have hlt := HLT.out
     have hlen := HLEN.out
     go_roundg (ls.length - i)
     case measure => omega
     case rel => exact ⟨i + 1, by first | (rw [show wrap64 (xi + 1) = ((i + 1 : Nat) : Int) from by unfold wrap64; omega]) | (rw [i64_w, show wrap64 (xi + 1) = ((i + 1 : Nat) : Int) from by unfold wrap64; omega]) | (rw [show xi + 1 = ((i + 1 : Nat) : Int) from by omega]), by rw [HST.out], ⟨by omega⟩, HB, HBW, HG, HR⟩
    ·have hil : i = ls.length := by have := HI.out; omega
     have hlt' : ¬ (xi < (ls.length : Int)) := by omega
     have c1 : decide (xi < (ls.length : Int)) = false := decide_eq_false hlt'
     have p1 := eq_false hlt'
     have hs1 : sumOf l ls = s0 := by rw [← hs0, hil, List.take_length]
     have HS1 := Aside0.mk hs1
     clear hlt hs0 hil hs1 hxi hlt'
     have h0 : (0 : Int) ≤ la := by have h1 := HLA.out; have h2 := HPOS.out; omega
     have h1 : la < (ls.length : Int) := by have h1 := HLA.out; omega
     have h00 : (0 : Int) < (ls.length : Int) := by have h2 := HPOS.out; omega
     have h000 : 0 < ls.length := HPOS.out
     obtain ⟨ada, eaa, ka⟩ := Kd.at_int (Kd.R_reads' HR.out).2.2 (la) h0 h1
     cases eaa
     obtain ⟨hja0, hja1⟩ := HIX.out (la) h0 h1
     obtain ⟨zj, hza⟩ : ∃ z, rd ls (la) = z := ⟨_, rfl⟩
     rw [hza] at ka hja0 hja1
     have hCl := Kd.C_below HCL.out HB.out
     obtain ⟨aca, eba, ba0, ba1, ba2⟩ := at_T53 hCl zj hja0 hja1
     cases eba
     clear hCl
     have paa := eq_true hja0; have pba := eq_true hja1; have pca := decide_eq_true hja0; have pda := decide_eq_true hja1
     obtain ⟨adb, eab, kb⟩ := Kd.at_int (Kd.R_reads' HR.out).2.2 (0) (Int.le_refl _) h00
     obtain rfl : ada = adb := by injection eab
     obtain ⟨hjb0, hjb1⟩ := HIX.out (0) (Int.le_refl _) h00
     obtain ⟨zi, hzb⟩ : ∃ z, rd ls (0) = z := ⟨_, rfl⟩
     rw [hzb] at kb hjb0 hjb1
     have hCl := Kd.C_below HCL.out HB.out
     obtain ⟨acb, ebb, bb0, bb1, bb2⟩ := at_T53 hCl zi hjb0 hjb1
     obtain rfl : aca = acb := by injection ebb
     clear hCl
     have pab := eq_true hjb0; have pbb := eq_true hjb1; have pcb := decide_eq_true hjb0; have pdb := decide_eq_true hjb1
     have k0a : wr.cell? (ada.add 0) = some (.int .i64 zi) := kb
     have k0b : wr.cell? ada = some (.int .i64 zi) := kb
     have q0 := eq_true h0; have q1 := eq_true h1; have q2 := decide_eq_true h0; have q3 := decide_eq_true h1
     have q4 := eq_true h00; have q5 := decide_eq_true h00; have q6 := eq_true h000; have q7 := decide_eq_true h000
     have he : (decide (s0 < 0) && (endOf l ls == (rd_T53 l (rd ls 0)).f0)) = (decide (s0 < 0) && ((rd_T53 l zj).f1 == (rd_T53 l zi).f0)) := by unfold endOf; rw [HLA.out, hza, hzb]
     have HE := Aside0.mk he
     clear he hza hzb
     generalize (rd_T53 l zj).f1 = z1 at ba1 HE
     generalize hz0_ : (rd_T53 l zi).f0 = z0 at bb0 HE
     clear hz0_
     rw [HS1.out, HE.out] at HQ
     have hqb : b = ((z1 == z0) && decide (s0 < 0)) := by rw [← HBB.out, ← HQ.out, Bool.and_comm]; cases ((z1 == z0) && decide (s0 < 0)) <;> rfl
     have hqx : b = true → ls = x := fun hbt => by rw [hqb, Bool.and_comm] at hbt; rw [← HX.out, ← HQ.out, if_pos hbt]; rfl
     have HQB := Aside0.mk hqb; have HQX := Aside0.mk hqx
     clear hqb hqx HQ HE
     cases ez : (z1 == z0) with
     | true =>
      by_cases hs : s0 < 0
      ·have s1 : decide (s0 < 0) = true := decide_eq_true hs
       rw [ez, s1] at HQB
       clear hs
       go_wp2_with (fail)
       go_quiet (fail)
       go_wp2
       go_ret2
       exact ⟨_, ls, by rw [HQB.out]; rfl, Kd.R_drewN HR.out nq, HQX.out, pw_below_drewN HBW.out nq⟩
      ·have s1 : decide (s0 < 0) = false := decide_eq_false hs
       rw [ez, s1] at HQB
       clear hs
       go_wp2_with (fail)
       go_quiet (fail)
       go_wp2
       go_ret2
       exact ⟨_, ls, by rw [HQB.out]; rfl, Kd.R_drewN HR.out nq, HQX.out, pw_below_drewN HBW.out nq⟩
     | false =>
      rw [ez] at HQB
      go_wp2_with (fail)
      go_quiet (fail)
      go_wp2
      go_ret2
      exact ⟨_, ls, by rw [HQB.out]; rfl, Kd.R_drewN HR.out nq, HQX.out, pw_below_drewN HBW.out nq⟩
  ·rw [if_neg hsz] at hq
   have HQ := Aside0.mk hq
   clear hq
   have e1 : ((ls.length : Int) == (sz : Int)) = false := beq_eq_false_iff_ne.mpr (by omega)
   have HLT1 : Aside0 (ls.length + 1 ≤ sz) := ⟨by omega⟩
   clear hsz h1 hls
   go_enter Try.func18, Try.ntmps18
   go_wp2_with (fail)
   clear e1
   go_loopg [11] (l.length + 1) (fun gg s11 wr => ∃ (k : Nat), s11 = .int .i64 (k : Int) ∧ Aside0 (k ≤ l.length ∧ l.length - k < gg) ∧ Aside0 (Below w0.heap.size w0 wr) ∧ Aside0 (Below w.heap.size w wr) ∧ Aside0 (wr.heap[g]? = some (.cells #[.int .i64 ev, .slice A l.length c] 31 (0, 0))) ∧ Aside0 (Kd.R (Kd.int .i64) 2 wr w0.heap.size (fun _ => True) (.slice Ar ls.length cr) ls) ∧ Aside0 (ringL l (ringP l sz r) (l.length - k) k ls (sumOf l ls) = some q))
   case atStart => exact ⟨0, rfl, ⟨by simp⟩, HB, ⟨Below.refl _ _⟩, HG, HR, HQ⟩
   case round =>
    clear HB HG HR HQ
    obtain ⟨k, rfl, HK, HB, HBW, HG, HR, HQ⟩ := hrel
    generalize hxk : (k : Int) = xk
    have HXK := Aside0.mk hxk
    have k1 := blk_cell HG.out 1
    by_cases hlt : k < l.length
    ·have h0' : (0 : Int) ≤ xk := by omega
     have h1' : xk < (l.length : Int) := by omega
     have hq := HQ.out
     obtain ⟨d, hd⟩ : ∃ d, l.length - k = d + 1 := ⟨l.length - k - 1, by omega⟩
     rw [hd] at hq
     unfold ringL at hq
     rw [hxk] at hq
     have HHQ := Aside0.mk hq; have HD := Aside0.mk hd; have HLT := Aside0.mk hlt; have HXB := Aside0.mk (And.intro h0' h1')
     clear hq hd hlt hxk HQ
     have u0 := eq_true h0'; have u1 := eq_true h1'; have u2 := decide_eq_true h0'; have u3 := decide_eq_true h1'
     have hCl := Kd.C_below HCL.out HB.out
     obtain ⟨ac0, eb0, bk0, bk1, bk2⟩ := at_T53 hCl xk h0' h1'
     clear hCl
     by_cases hem : ls = []
     ·have g1 : ((ls.length : Int) == 0) = true := by rw [hem]; rfl
      have g2 : ls.length = 0 := by rw [hem]; rfl
      have HF0 : Aside0 (fitK l ls xk 0 = true) := ⟨by rw [hem]; rfl⟩
      have HEM := Aside0.mk hem
      cases eb0
      have g3 := decide_eq_true g2
      have g4 := eq_true g2
      have g5 := eq_true hem
      clear hem g2
      go_wp2_with (fail)
      go_quiet (fail)
      clear bk0 bk1 bk2 u0 u1 u2 u3 h0' h1' k1 g1 g3 g4 g5
      have hb := pw_below_drewN (Below.refl wr.heap.size wr) nq; replace HB := Aside0.mk (below_step HB.out hb); replace HBW := Aside0.mk (below_step HBW.out hb); replace HG := Aside0.mk (blk_below HG.out hb); replace HR := Aside0.mk (Kd.R_below HR.out hb); clear hb; generalize wr.drewN nq = wr at HB HBW HG HR ⊢
      go_wp2_with (fail)
      go_loopg [12, 13] (ls.length + 1) (fun gg s12 s13 wt => ∃ (i : Nat), s13 = .int .i64 (i : Int) ∧ s12 = .bool (fitK l ls xk i) ∧ Aside0 (i ≤ ls.length ∧ ls.length - i < gg) ∧ Aside0 (Below w0.heap.size w0 wt) ∧ Aside0 (Below w.heap.size w wt) ∧ Aside0 (wt.heap[g]? = some (.cells #[.int .i64 ev, .slice (some ac0) l.length c] 31 (0, 0))) ∧ Aside0 (Kd.R (Kd.int .i64) 2 wt w0.heap.size (fun _ => True) (.slice Ar ls.length cr) ls))
      case atStart => exact ⟨0, rfl, by rw [HF0.out], ⟨by simp⟩, HB, HBW, HG, HR⟩
      case round =>
       clear HB HBW HG HR HF0
       obtain ⟨i, rfl, rfl, HI, HB, HBW, HG, HR⟩ := hrel
       generalize hxi : (i : Int) = xi
       have HXI := Aside0.mk hxi
       have k1 := blk_cell HG.out 1
       by_cases hlt : i < ls.length
       ·have h0 : (0 : Int) ≤ xi := by omega
        have h1 : xi < (ls.length : Int) := by omega
        cases hf : fitK l ls xk i with
        | true =>
         obtain ⟨ada, eaa, ka⟩ := Kd.at_int (Kd.R_reads' HR.out).2.2 (xi) h0 h1
         cases eaa
         obtain ⟨hja0, hja1⟩ := HIX.out (xi) h0 h1
         obtain ⟨zi, hza⟩ : ∃ z, rd ls (xi) = z := ⟨_, rfl⟩
         rw [hza] at ka hja0 hja1
         have hCl := Kd.C_below HCL.out HB.out
         obtain ⟨aca, eba, ba0, ba1, ba2⟩ := at_T53 hCl zi hja0 hja1
         obtain rfl : ac0 = aca := by injection eba
         clear hCl
         have paa := eq_true hja0; have pba := eq_true hja1; have pca := decide_eq_true hja0; have pda := decide_eq_true hja1
         have hCl := Kd.C_below HCL.out HB.out
         have hx0 := HXB.out.1; have hx1 := HXB.out.2
         obtain ⟨acb, ebb, bb0, bb1, bb2⟩ := at_T53 hCl xk hx0 hx1
         obtain rfl : ac0 = acb := by injection ebb
         clear hCl
         have u0 := eq_true hx0; have u1 := eq_true hx1; have u2 := decide_eq_true hx0; have u3 := decide_eq_true hx1
         have q0 := eq_true h0; have q1 := eq_true h1; have q2 := decide_eq_true h0; have q3 := decide_eq_true h1
         have hst : fitK l ls xk (i + 1) = ((rd_T53 l zi).f0 != (rd_T53 l xk).f0) := by rw [fitK_succ l ls xk i hlt hf, hxi, hza]
         have HST := Aside0.mk hst
         have HLTI := Aside0.mk hlt
         clear hst hlt hf hxi hza
         obtain ⟨z0, ez0⟩ : ∃ z, (rd_T53 l zi).f0 = z := ⟨_, rfl⟩
         rw [ez0] at ba0 HST
         obtain ⟨z1, ez1⟩ : ∃ z, (rd_T53 l xk).f0 = z := ⟨_, rfl⟩
         rw [ez1] at bb0 HST
         clear ez0 ez1
         go_wp2_with (fail)
         go_quiet (fail)
         clear q0 q1 q2 q3 k1 h0 h1 u0 u1 u2 u3 bb0 bb1 bb2 hx0 hx1
         clear ka ba0 ba1 ba2 paa pba pca pda hja0 hja1
         have hb := pw_below_drewN (Below.refl wr.heap.size wr) nq; replace HB := Aside0.mk (below_step HB.out hb); replace HBW := Aside0.mk (below_step HBW.out hb); replace HG := Aside0.mk (blk_below HG.out hb); replace HR := Aside0.mk (Kd.R_below HR.out hb); clear hb; generalize wr.drewN nq = wr at HB HBW HG HR ⊢
         go_wp2
         have hxi := HXI.out
         have hi := HI.out
         have hlt := HLTI.out
         have hlen := HLEN.out
         go_roundg (ls.length - i)
         case measure => omega
         case rel => exact ⟨i + 1, by first | (rw [show wrap64 (xi + 1) = ((i + 1 : Nat) : Int) from by unfold wrap64; omega]) | (rw [i64_w, show wrap64 (xi + 1) = ((i + 1 : Nat) : Int) from by unfold wrap64; omega]) | (rw [show xi + 1 = ((i + 1 : Nat) : Int) from by omega]), by rw [HST.out], ⟨by omega⟩, HB, HBW, HG, HR⟩
        | false =>
         have HFA : Aside0 (fitK l ls xk ls.length = false) := ⟨fitK_stop l ls xk i hf⟩
         have q0 := eq_true h0; have q1 := eq_true h1; have q2 := decide_eq_true h0; have q3 := decide_eq_true h1
         clear hf hlt hxi h0 h1
         have hq := HHQ.out
         have hsk : skipB l ls xk = true := by have h := HFA.out; rw [fitK_all] at h; simpa using h
         rw [hsk, if_pos rfl] at hq
         have HQ2 := Aside0.mk hq
         clear hq hsk HHQ HFA
         go_wp2
         have hxk := HXK.out
         have hk := HK.out
         have hd := HD.out
         have hll := HL.out
         go_roundg (l.length - k)
         case measure => omega
         case rel => exact ⟨k + 1, by first | (rw [show wrap64 (xk + 1) = ((k + 1 : Nat) : Int) from by unfold wrap64; omega]) | (rw [i64_w, show wrap64 (xk + 1) = ((k + 1 : Nat) : Int) from by unfold wrap64; omega]) | (rw [show xk + 1 = ((k + 1 : Nat) : Int) from by omega]), ⟨by omega⟩, HB, HBW, HG, HR, ⟨by rw [show l.length - (k + 1) = d by omega]; exact HQ2.out⟩⟩
       ·have hil : i = ls.length := by have := HI.out; omega
        have hlt' : ¬ (xi < (ls.length : Int)) := by omega
        have c1 : decide (xi < (ls.length : Int)) = false := decide_eq_false hlt'
        have p1 := eq_false hlt'
        cases hf : fitK l ls xk i with
        | true =>
         have HFA : Aside0 (fitK l ls xk ls.length = true) := ⟨by rw [← hil]; exact hf⟩
         clear hf hil hlt hxi hlt'
         have hq := HHQ.out
         have hsk : skipB l ls xk = false := by have h := HFA.out; rw [fitK_all] at h; simpa using h
         rw [hsk, if_neg (by decide), ← sumOf_snoc] at hq
         obtain ⟨q', hq', hq⟩ := Option.bind_eq_some_iff.mp hq
         have HQ1 := Aside0.mk hq'; have HQ2 := Aside0.mk hq
         clear hq hq' hsk HHQ HFA
         have hlen := HLEN.out
         have HOWN : Aside0 (spec_l00Own.f ls = some ls) := ⟨by show (if ([] : List Int).length + ls.length < 17592186044416 then some ([] ++ ls) else none) = some ls; rw [if_pos (by simp; omega), List.nil_append]⟩
         have HIX2 : Aside0 (∀ j : Int, 0 ≤ j → j < ((ls ++ [xk]).length : Int) → 0 ≤ rd (ls ++ [xk]) j ∧ rd (ls ++ [xk]) j < (l.length : Int)) := ⟨fun j h0 h1 => by
           by_cases hj : j < (ls.length : Int)
           ·have e : rd (ls ++ [xk]) j = rd ls j := by unfold rd; rw [List.getD_eq_getElem?_getD, List.getD_eq_getElem?_getD, List.getElem?_append_left (by omega)]
            rw [e]; exact HIX.out j h0 hj
           ·have e1 : j = ((ls ++ [xk]).length : Int) - 1 := by simp at h1 ⊢; omega
            rw [e1, rd_snoc]; exact HXB.out⟩
         cases q' with
         | some xs =>
          dsimp only at HQ2
          go_wp2_with (first | (go_at_call 25; refine (spec_l00Own.calls Ar cr ls ls _ (Kd.R_reads' HR.out).2.2 (Kd.R_reads' HR.out).2.1 HOWN.out).mono ?_; rintro e w5 ⟨v5, rfl, ho5, hb5⟩; have HO5 := Aside0.mk (Kd.R_lower ho5 (below_size HB.out)); have HB5 := Aside0.mk (below_step HB.out hb5); have HBW5 := Aside0.mk (below_step HBW.out hb5); have HG5 := Aside0.mk (blk_below HG.out hb5); have HR5 := Aside0.mk (Kd.R_elder' HR.out (Kd.R_base ho5) hb5); have hb5_ := Aside0.mk hb5; obtain ⟨A5, c5, rfl⟩ := Kd.R_slice ho5; have HO5n := Aside0.mk ho5; clear ho5 hb5 k1) | ((with_reducible refine gate_builtin (b := .append) (xs := #[.tmp 134, .tmp 136]) rfl ?_); at_builtin; refine Kd.R_append (Kd.int .i64) (w0 := wr) wr.heap.size rfl (.tmp 134) (.tmp 136) 26 2 (.int .i64 0) 8 rfl Try.underlying26 info2 rfl (by decide) (by omega) _ ls xk [.int .i64 xk] (fun _ => True) (fun _ => False) rfl rfl rfl (fun _ hk => hk.elim) (fun _ _ => trivial) HO5n.out hb5_.out (below_size hb5_.out) (by omega) ?_; intro v6 w6 ho hb hg hat; have HB6 := Aside0.mk (below_step HB.out hb); have HBW6 := Aside0.mk (below_step HBW.out hb); have HO6 := Aside0.mk (Kd.R_lower ho (below_size HB.out)); have HG6 := Aside0.mk (blk_below HG.out hb); have HR6 := Aside0.mk (Kd.R_below HR.out hb); clear ho hb hg hat) | (go_at_call 18; refine (IH.out (ls ++ [xk]) v6 _ _ true xs (by have := HLT1.out; simp; omega) H1.out HIX2.out HB6.out HG6.out HO6.out HQ1.out rfl rfl).mono ?_; rintro e w7 ⟨v7, x7, rfl, ho7, hx7, hb7⟩; have HB7 := Aside0.mk (below_step HB6.out hb7); have HBW7 := Aside0.mk (below_step HBW6.out hb7); have HG7 := Aside0.mk (blk_below HG6.out hb7); have HR7 := Aside0.mk (Kd.R_below HR6.out hb7); have HO7 := Aside0.mk ho7; have HX7 := Aside0.mk hx7; clear ho7 hx7 hb7))
          go_ret2
          obtain rfl := Option.some.inj HQ2.out
          have hb := HBB.out
          have hx := HX.out
          dsimp only [Option.isSome, Option.getD] at hb hx
          subst hb
          subst hx
          exact ⟨_, x7, rfl, HO7.out, fun _ => (by have h := HX7.out; first | exact h rfl | exact h trivial | exact h), HBW7.out⟩
         | none =>
          dsimp only at HQ2
          go_wp2_with (first | (go_at_call 25; refine (spec_l00Own.calls Ar cr ls ls _ (Kd.R_reads' HR.out).2.2 (Kd.R_reads' HR.out).2.1 HOWN.out).mono ?_; rintro e w5 ⟨v5, rfl, ho5, hb5⟩; have HO5 := Aside0.mk (Kd.R_lower ho5 (below_size HB.out)); have HB5 := Aside0.mk (below_step HB.out hb5); have HBW5 := Aside0.mk (below_step HBW.out hb5); have HG5 := Aside0.mk (blk_below HG.out hb5); have HR5 := Aside0.mk (Kd.R_elder' HR.out (Kd.R_base ho5) hb5); have hb5_ := Aside0.mk hb5; obtain ⟨A5, c5, rfl⟩ := Kd.R_slice ho5; have HO5n := Aside0.mk ho5; clear ho5 hb5 k1) | ((with_reducible refine gate_builtin (b := .append) (xs := #[.tmp 134, .tmp 136]) rfl ?_); at_builtin; refine Kd.R_append (Kd.int .i64) (w0 := wr) wr.heap.size rfl (.tmp 134) (.tmp 136) 26 2 (.int .i64 0) 8 rfl Try.underlying26 info2 rfl (by decide) (by omega) _ ls xk [.int .i64 xk] (fun _ => True) (fun _ => False) rfl rfl rfl (fun _ hk => hk.elim) (fun _ _ => trivial) HO5n.out hb5_.out (below_size hb5_.out) (by omega) ?_; intro v6 w6 ho hb hg hat; have HB6 := Aside0.mk (below_step HB.out hb); have HBW6 := Aside0.mk (below_step HBW.out hb); have HO6 := Aside0.mk (Kd.R_lower ho (below_size HB.out)); have HG6 := Aside0.mk (blk_below HG.out hb); have HR6 := Aside0.mk (Kd.R_below HR.out hb); clear ho hb hg hat) | (go_at_call 18; refine (IH.out (ls ++ [xk]) v6 _ _ false [] (by have := HLT1.out; simp; omega) H1.out HIX2.out HB6.out HG6.out HO6.out HQ1.out rfl rfl).mono ?_; rintro e w7 ⟨v7, x7, rfl, ho7, hx7, hb7⟩; have HB7 := Aside0.mk (below_step HB6.out hb7); have HBW7 := Aside0.mk (below_step HBW6.out hb7); have HG7 := Aside0.mk (blk_below HG6.out hb7); have HR7 := Aside0.mk (Kd.R_below HR6.out hb7); have HO7 := Aside0.mk ho7; have HX7 := Aside0.mk hx7; clear ho7 hx7 hb7))
          clear HB HBW HG HR HB5 HBW5 HG5 HR5 HB6 HBW6 HG6 HR6
          have HB := HB7; have HBW := HBW7; have HG := HG7; have HR := HR7
          have hxk := HXK.out
          have hk := HK.out
          have hd := HD.out
          have hll := HL.out
          go_roundg (l.length - k)
          case measure => omega
          case rel => exact ⟨k + 1, by first | (rw [show wrap64 (xk + 1) = ((k + 1 : Nat) : Int) from by unfold wrap64; omega]) | (rw [i64_w, show wrap64 (xk + 1) = ((k + 1 : Nat) : Int) from by unfold wrap64; omega]) | (rw [show xk + 1 = ((k + 1 : Nat) : Int) from by omega]), ⟨by omega⟩, HB, HBW, HG, HR, ⟨by rw [show l.length - (k + 1) = d by omega]; exact HQ2.out⟩⟩
        | false =>
         have HFA : Aside0 (fitK l ls xk ls.length = false) := ⟨fitK_stop l ls xk i hf⟩
         clear hf hil hlt hxi hlt'
         have hq := HHQ.out
         have hsk : skipB l ls xk = true := by have h := HFA.out; rw [fitK_all] at h; simpa using h
         rw [hsk, if_pos rfl] at hq
         have HQ2 := Aside0.mk hq
         clear hq hsk HHQ HFA
         go_wp2
         have hxk := HXK.out
         have hk := HK.out
         have hd := HD.out
         have hll := HL.out
         go_roundg (l.length - k)
         case measure => omega
         case rel => exact ⟨k + 1, by first | (rw [show wrap64 (xk + 1) = ((k + 1 : Nat) : Int) from by unfold wrap64; omega]) | (rw [i64_w, show wrap64 (xk + 1) = ((k + 1 : Nat) : Int) from by unfold wrap64; omega]) | (rw [show xk + 1 = ((k + 1 : Nat) : Int) from by omega]), ⟨by omega⟩, HB, HBW, HG, HR, ⟨by rw [show l.length - (k + 1) = d by omega]; exact HQ2.out⟩⟩
     ·have hpos : 0 < ls.length := List.length_pos_iff.2 hem
      have h0 : (0 : Int) ≤ la := by have h := HLA.out; omega
      have h1 : la < (ls.length : Int) := by have h := HLA.out; omega
      have g1 : ((ls.length : Int) == 0) = false := beq_eq_false_iff_ne.mpr (by omega)
      have g2 := eq_false hem
      obtain ⟨ada, eaa, ka⟩ := Kd.at_int (Kd.R_reads' HR.out).2.2 la h0 h1
      cases eaa
      obtain ⟨hja0, hja1⟩ := HIX.out la h0 h1
      obtain ⟨zj, hza⟩ : ∃ z, rd ls la = z := ⟨_, rfl⟩
      rw [hza] at ka hja0 hja1
      have hCl := Kd.C_below HCL.out HB.out
      obtain ⟨aca, eba, ba0, ba1, ba2⟩ := at_T53 hCl zj hja0 hja1
      clear hCl
      cases eb0
      obtain rfl : ac0 = aca := by injection eba
      have paa := eq_true hja0; have pba := eq_true hja1; have pca := decide_eq_true hja0; have pda := decide_eq_true hja1
      have q0 := eq_true h0; have q1 := eq_true h1; have q2 := decide_eq_true h0; have q3 := decide_eq_true h1
      have hf0 : fitK l ls xk 0 = ((rd_T53 l xk).f0 == (rd_T53 l zj).f1) := by unfold fitK endOf; rw [HLA.out, hza]; have : ls.isEmpty = false := (by rw [Bool.eq_false_iff]; intro h; exact hem (List.isEmpty_iff.1 h)); rw [this]; simp [usedIn]
      generalize hbv : ((rd_T53 l xk).f0 == (rd_T53 l zj).f1) = bv at hf0
      have HF0 := Aside0.mk hf0
      have HBV := Aside0.mk hbv
      clear hf0 hem hpos hza
      go_wp2_with (fail)
      go_quiet (fail)
      clear bk0 bk1 bk2 u0 u1 u2 u3 h0' h1' k1 g1 g2 ka ba0 ba1 ba2 paa pba pca pda hja0 hja1 q0 q1 q2 q3 h0 h1 hbv
      have hb := pw_below_drewN (Below.refl wr.heap.size wr) nq; replace HB := Aside0.mk (below_step HB.out hb); replace HBW := Aside0.mk (below_step HBW.out hb); replace HG := Aside0.mk (blk_below HG.out hb); replace HR := Aside0.mk (Kd.R_below HR.out hb); clear hb; generalize wr.drewN nq = wr at HB HBW HG HR ⊢
      go_wp2_with (fail)
      go_loopg [12, 13] (ls.length + 1) (fun gg s12 s13 wt => ∃ (i : Nat), s13 = .int .i64 (i : Int) ∧ s12 = .bool (fitK l ls xk i) ∧ Aside0 (i ≤ ls.length ∧ ls.length - i < gg) ∧ Aside0 (Below w0.heap.size w0 wt) ∧ Aside0 (Below w.heap.size w wt) ∧ Aside0 (wt.heap[g]? = some (.cells #[.int .i64 ev, .slice (some ac0) l.length c] 31 (0, 0))) ∧ Aside0 (Kd.R (Kd.int .i64) 2 wt w0.heap.size (fun _ => True) (.slice (some ada) ls.length cr) ls))
      case atStart => exact ⟨0, rfl, by rw [HF0.out], ⟨by simp⟩, HB, HBW, HG, HR⟩
      case round =>
       clear HB HBW HG HR HF0
       obtain ⟨i, rfl, rfl, HI, HB, HBW, HG, HR⟩ := hrel
       generalize hxi : (i : Int) = xi
       have HXI := Aside0.mk hxi
       have k1 := blk_cell HG.out 1
       by_cases hlt : i < ls.length
       ·have h0 : (0 : Int) ≤ xi := by omega
        have h1 : xi < (ls.length : Int) := by omega
        cases hf : fitK l ls xk i with
        | true =>
         obtain ⟨ada, eaa, ka⟩ := Kd.at_int (Kd.R_reads' HR.out).2.2 (xi) h0 h1
         cases eaa
         obtain ⟨hja0, hja1⟩ := HIX.out (xi) h0 h1
         obtain ⟨zi, hza⟩ : ∃ z, rd ls (xi) = z := ⟨_, rfl⟩
         rw [hza] at ka hja0 hja1
         have hCl := Kd.C_below HCL.out HB.out
         obtain ⟨aca, eba, ba0, ba1, ba2⟩ := at_T53 hCl zi hja0 hja1
         obtain rfl : ac0 = aca := by injection eba
         clear hCl
         have paa := eq_true hja0; have pba := eq_true hja1; have pca := decide_eq_true hja0; have pda := decide_eq_true hja1
         have hCl := Kd.C_below HCL.out HB.out
         have hx0 := HXB.out.1; have hx1 := HXB.out.2
         obtain ⟨acb, ebb, bb0, bb1, bb2⟩ := at_T53 hCl xk hx0 hx1
         obtain rfl : ac0 = acb := by injection ebb
         clear hCl
         have u0 := eq_true hx0; have u1 := eq_true hx1; have u2 := decide_eq_true hx0; have u3 := decide_eq_true hx1
         have q0 := eq_true h0; have q1 := eq_true h1; have q2 := decide_eq_true h0; have q3 := decide_eq_true h1
         have hst : fitK l ls xk (i + 1) = ((rd_T53 l zi).f0 != (rd_T53 l xk).f0) := by rw [fitK_succ l ls xk i hlt hf, hxi, hza]
         have HST := Aside0.mk hst
         have HLTI := Aside0.mk hlt
         clear hst hlt hf hxi hza
         obtain ⟨z0, ez0⟩ : ∃ z, (rd_T53 l zi).f0 = z := ⟨_, rfl⟩
         rw [ez0] at ba0 HST
         obtain ⟨z1, ez1⟩ : ∃ z, (rd_T53 l xk).f0 = z := ⟨_, rfl⟩
         rw [ez1] at bb0 HST
         clear ez0 ez1
         go_wp2_with (fail)
         go_quiet (fail)
         clear q0 q1 q2 q3 k1 h0 h1 u0 u1 u2 u3 bb0 bb1 bb2 hx0 hx1
         clear ka ba0 ba1 ba2 paa pba pca pda hja0 hja1
         have hb := pw_below_drewN (Below.refl wr.heap.size wr) nq; replace HB := Aside0.mk (below_step HB.out hb); replace HBW := Aside0.mk (below_step HBW.out hb); replace HG := Aside0.mk (blk_below HG.out hb); replace HR := Aside0.mk (Kd.R_below HR.out hb); clear hb; generalize wr.drewN nq = wr at HB HBW HG HR ⊢
         go_wp2
         have hxi := HXI.out
         have hi := HI.out
         have hlt := HLTI.out
         have hlen := HLEN.out
         go_roundg (ls.length - i)
         case measure => omega
         case rel => exact ⟨i + 1, by first | (rw [show wrap64 (xi + 1) = ((i + 1 : Nat) : Int) from by unfold wrap64; omega]) | (rw [i64_w, show wrap64 (xi + 1) = ((i + 1 : Nat) : Int) from by unfold wrap64; omega]) | (rw [show xi + 1 = ((i + 1 : Nat) : Int) from by omega]), by rw [HST.out], ⟨by omega⟩, HB, HBW, HG, HR⟩
        | false =>
         have HFA : Aside0 (fitK l ls xk ls.length = false) := ⟨fitK_stop l ls xk i hf⟩
         have q0 := eq_true h0; have q1 := eq_true h1; have q2 := decide_eq_true h0; have q3 := decide_eq_true h1
         clear hf hlt hxi h0 h1
         have hq := HHQ.out
         have hsk : skipB l ls xk = true := by have h := HFA.out; rw [fitK_all] at h; simpa using h
         rw [hsk, if_pos rfl] at hq
         have HQ2 := Aside0.mk hq
         clear hq hsk HHQ HFA
         go_wp2
         have hxk := HXK.out
         have hk := HK.out
         have hd := HD.out
         have hll := HL.out
         go_roundg (l.length - k)
         case measure => omega
         case rel => exact ⟨k + 1, by first | (rw [show wrap64 (xk + 1) = ((k + 1 : Nat) : Int) from by unfold wrap64; omega]) | (rw [i64_w, show wrap64 (xk + 1) = ((k + 1 : Nat) : Int) from by unfold wrap64; omega]) | (rw [show xk + 1 = ((k + 1 : Nat) : Int) from by omega]), ⟨by omega⟩, HB, HBW, HG, HR, ⟨by rw [show l.length - (k + 1) = d by omega]; exact HQ2.out⟩⟩
       ·have hil : i = ls.length := by have := HI.out; omega
        have hlt' : ¬ (xi < (ls.length : Int)) := by omega
        have c1 : decide (xi < (ls.length : Int)) = false := decide_eq_false hlt'
        have p1 := eq_false hlt'
        cases hf : fitK l ls xk i with
        | true =>
         have HFA : Aside0 (fitK l ls xk ls.length = true) := ⟨by rw [← hil]; exact hf⟩
         clear hf hil hlt hxi hlt'
         have hq := HHQ.out
         have hsk : skipB l ls xk = false := by have h := HFA.out; rw [fitK_all] at h; simpa using h
         rw [hsk, if_neg (by decide), ← sumOf_snoc] at hq
         obtain ⟨q', hq', hq⟩ := Option.bind_eq_some_iff.mp hq
         have HQ1 := Aside0.mk hq'; have HQ2 := Aside0.mk hq
         clear hq hq' hsk HHQ HFA
         have hlen := HLEN.out
         have HOWN : Aside0 (spec_l00Own.f ls = some ls) := ⟨by show (if ([] : List Int).length + ls.length < 17592186044416 then some ([] ++ ls) else none) = some ls; rw [if_pos (by simp; omega), List.nil_append]⟩
         have HIX2 : Aside0 (∀ j : Int, 0 ≤ j → j < ((ls ++ [xk]).length : Int) → 0 ≤ rd (ls ++ [xk]) j ∧ rd (ls ++ [xk]) j < (l.length : Int)) := ⟨fun j h0 h1 => by
           by_cases hj : j < (ls.length : Int)
           ·have e : rd (ls ++ [xk]) j = rd ls j := by unfold rd; rw [List.getD_eq_getElem?_getD, List.getD_eq_getElem?_getD, List.getElem?_append_left (by omega)]
            rw [e]; exact HIX.out j h0 hj
           ·have e1 : j = ((ls ++ [xk]).length : Int) - 1 := by simp at h1 ⊢; omega
            rw [e1, rd_snoc]; exact HXB.out⟩
         cases q' with
         | some xs =>
          dsimp only at HQ2
          go_wp2_with (first | (go_at_call 25; refine (spec_l00Own.calls _ cr ls ls _ (Kd.R_reads' HR.out).2.2 (Kd.R_reads' HR.out).2.1 HOWN.out).mono ?_; rintro e w5 ⟨v5, rfl, ho5, hb5⟩; have HO5 := Aside0.mk (Kd.R_lower ho5 (below_size HB.out)); have HB5 := Aside0.mk (below_step HB.out hb5); have HBW5 := Aside0.mk (below_step HBW.out hb5); have HG5 := Aside0.mk (blk_below HG.out hb5); have HR5 := Aside0.mk (Kd.R_elder' HR.out (Kd.R_base ho5) hb5); have hb5_ := Aside0.mk hb5; obtain ⟨A5, c5, rfl⟩ := Kd.R_slice ho5; have HO5n := Aside0.mk ho5; clear ho5 hb5 k1) | ((with_reducible refine gate_builtin (b := .append) (xs := #[.tmp 134, .tmp 136]) rfl ?_); at_builtin; refine Kd.R_append (Kd.int .i64) (w0 := wr) wr.heap.size rfl (.tmp 134) (.tmp 136) 26 2 (.int .i64 0) 8 rfl Try.underlying26 info2 rfl (by decide) (by omega) _ ls xk [.int .i64 xk] (fun _ => True) (fun _ => False) rfl rfl rfl (fun _ hk => hk.elim) (fun _ _ => trivial) HO5n.out hb5_.out (below_size hb5_.out) (by omega) ?_; intro v6 w6 ho hb hg hat; have HB6 := Aside0.mk (below_step HB.out hb); have HBW6 := Aside0.mk (below_step HBW.out hb); have HO6 := Aside0.mk (Kd.R_lower ho (below_size HB.out)); have HG6 := Aside0.mk (blk_below HG.out hb); have HR6 := Aside0.mk (Kd.R_below HR.out hb); clear ho hb hg hat) | (go_at_call 18; refine (IH.out (ls ++ [xk]) v6 _ _ true xs (by have := HLT1.out; simp; omega) H1.out HIX2.out HB6.out HG6.out HO6.out HQ1.out rfl rfl).mono ?_; rintro e w7 ⟨v7, x7, rfl, ho7, hx7, hb7⟩; have HB7 := Aside0.mk (below_step HB6.out hb7); have HBW7 := Aside0.mk (below_step HBW6.out hb7); have HG7 := Aside0.mk (blk_below HG6.out hb7); have HR7 := Aside0.mk (Kd.R_below HR6.out hb7); have HO7 := Aside0.mk ho7; have HX7 := Aside0.mk hx7; clear ho7 hx7 hb7))
          go_ret2
          obtain rfl := Option.some.inj HQ2.out
          have hb := HBB.out
          have hx := HX.out
          dsimp only [Option.isSome, Option.getD] at hb hx
          subst hb
          subst hx
          exact ⟨_, x7, rfl, HO7.out, fun _ => (by have h := HX7.out; first | exact h rfl | exact h trivial | exact h), HBW7.out⟩
         | none =>
          dsimp only at HQ2
          go_wp2_with (first | (go_at_call 25; refine (spec_l00Own.calls _ cr ls ls _ (Kd.R_reads' HR.out).2.2 (Kd.R_reads' HR.out).2.1 HOWN.out).mono ?_; rintro e w5 ⟨v5, rfl, ho5, hb5⟩; have HO5 := Aside0.mk (Kd.R_lower ho5 (below_size HB.out)); have HB5 := Aside0.mk (below_step HB.out hb5); have HBW5 := Aside0.mk (below_step HBW.out hb5); have HG5 := Aside0.mk (blk_below HG.out hb5); have HR5 := Aside0.mk (Kd.R_elder' HR.out (Kd.R_base ho5) hb5); have hb5_ := Aside0.mk hb5; obtain ⟨A5, c5, rfl⟩ := Kd.R_slice ho5; have HO5n := Aside0.mk ho5; clear ho5 hb5 k1) | ((with_reducible refine gate_builtin (b := .append) (xs := #[.tmp 134, .tmp 136]) rfl ?_); at_builtin; refine Kd.R_append (Kd.int .i64) (w0 := wr) wr.heap.size rfl (.tmp 134) (.tmp 136) 26 2 (.int .i64 0) 8 rfl Try.underlying26 info2 rfl (by decide) (by omega) _ ls xk [.int .i64 xk] (fun _ => True) (fun _ => False) rfl rfl rfl (fun _ hk => hk.elim) (fun _ _ => trivial) HO5n.out hb5_.out (below_size hb5_.out) (by omega) ?_; intro v6 w6 ho hb hg hat; have HB6 := Aside0.mk (below_step HB.out hb); have HBW6 := Aside0.mk (below_step HBW.out hb); have HO6 := Aside0.mk (Kd.R_lower ho (below_size HB.out)); have HG6 := Aside0.mk (blk_below HG.out hb); have HR6 := Aside0.mk (Kd.R_below HR.out hb); clear ho hb hg hat) | (go_at_call 18; refine (IH.out (ls ++ [xk]) v6 _ _ false [] (by have := HLT1.out; simp; omega) H1.out HIX2.out HB6.out HG6.out HO6.out HQ1.out rfl rfl).mono ?_; rintro e w7 ⟨v7, x7, rfl, ho7, hx7, hb7⟩; have HB7 := Aside0.mk (below_step HB6.out hb7); have HBW7 := Aside0.mk (below_step HBW6.out hb7); have HG7 := Aside0.mk (blk_below HG6.out hb7); have HR7 := Aside0.mk (Kd.R_below HR6.out hb7); have HO7 := Aside0.mk ho7; have HX7 := Aside0.mk hx7; clear ho7 hx7 hb7))
          clear HB HBW HG HR HB5 HBW5 HG5 HR5 HB6 HBW6 HG6 HR6
          have HB := HB7; have HBW := HBW7; have HG := HG7; have HR := HR7
          have hxk := HXK.out
          have hk := HK.out
          have hd := HD.out
          have hll := HL.out
          go_roundg (l.length - k)
          case measure => omega
          case rel => exact ⟨k + 1, by first | (rw [show wrap64 (xk + 1) = ((k + 1 : Nat) : Int) from by unfold wrap64; omega]) | (rw [i64_w, show wrap64 (xk + 1) = ((k + 1 : Nat) : Int) from by unfold wrap64; omega]) | (rw [show xk + 1 = ((k + 1 : Nat) : Int) from by omega]), ⟨by omega⟩, HB, HBW, HG, HR, ⟨by rw [show l.length - (k + 1) = d by omega]; exact HQ2.out⟩⟩
        | false =>
         have HFA : Aside0 (fitK l ls xk ls.length = false) := ⟨fitK_stop l ls xk i hf⟩
         clear hf hil hlt hxi hlt'
         have hq := HHQ.out
         have hsk : skipB l ls xk = true := by have h := HFA.out; rw [fitK_all] at h; simpa using h
         rw [hsk, if_pos rfl] at hq
         have HQ2 := Aside0.mk hq
         clear hq hsk HHQ HFA
         go_wp2
         have hxk := HXK.out
         have hk := HK.out
         have hd := HD.out
         have hll := HL.out
         go_roundg (l.length - k)
         case measure => omega
         case rel => exact ⟨k + 1, by first | (rw [show wrap64 (xk + 1) = ((k + 1 : Nat) : Int) from by unfold wrap64; omega]) | (rw [i64_w, show wrap64 (xk + 1) = ((k + 1 : Nat) : Int) from by unfold wrap64; omega]) | (rw [show xk + 1 = ((k + 1 : Nat) : Int) from by omega]), ⟨by omega⟩, HB, HBW, HG, HR, ⟨by rw [show l.length - (k + 1) = d by omega]; exact HQ2.out⟩⟩
    ·have hlt' : ¬ (xk < (l.length : Int)) := by omega
     have c2 : decide (xk < (l.length : Int)) = false := decide_eq_false hlt'
     have p2 := eq_false hlt'
     have hq := HQ.out
     rw [show l.length - k = 0 by omega] at hq
     have hq : none = q := Option.some.inj hq
     have HQN := Aside0.mk hq
     clear HQ hlt hxk hq hlt'
     go_wp2_with ((with_reducible refine gate_dst (N := 144) rfl ?_); refine Kd.R_lit (Kd.int .i64) _ 2 ?hg (N := 144) ?hd (xs := ([] : List Int)) (inner := []) (ok := fun _ => True) (okp := fun _ => True) ?hr ?hp (fun _ hk => hk) trivial (Below.refl _ _) (Nat.le_refl _) (by simp) ?_; (case hd => rfl); (case hg => rfl); (case hr => first | (go_simp; done) | (go_simp; rfl)); (case hp => exact (Reps.none _ _)); intro v8 w8 ho hb hg_ hnew_; have HO8 := Aside0.mk (Kd.R_lower ho (below_size HB.out)); have HBW8 := Aside0.mk (below_step HBW.out hb); clear hg_ hnew_ ho hb)
     go_ret2
     have hq := HQN.out
     subst hq
     have hb := HBB.out
     dsimp only [Option.isSome] at hb
     subst hb
     exact ⟨_, [], rfl, HO8.out, (fun h => by cases h), HBW8.out⟩

end Go.Proofs.Ytkdijegkoajdgaa.Pa
