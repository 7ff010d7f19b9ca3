-- Written for this claim by a program of this session.
import Derived.Test.YtkdijegkoajdgaaFPax0
import Derived.Test.YtkdijegkoajdgaaFCoreF1
namespace Go.Proofs.Ytkdijegkoajdgaa.Pa
open Go.RowKit Go.Proofs.YtkdijegkoajdgaaW.PrintWords Go.Proofs.YtkdijegkoajdgaaW.PrintLast Go.Proofs.YtkdijegkoajdgaaW.PrintMore
attribute [local go_sem] max2_int min2_int max_two min_two max_three min_three max_four min_four   -- for this text's walks alone
set_option linter.unusedVariables false
set_option linter.unusedSimpArgs false

/-! ### AUX ringGo -/
def ringGo.T8 : Bool × List (List Nat × List Nat) := (true, [([], []), ([], []), ([1], [1]), ([], []), ([], []), ([4], [4]), ([3, 5], [3, 5]), ([6, 6, 3, 4, 5, 6], [6]), ([0, 2, 7, 0, 1, 2, 3, 4, 5, 6, 7], [0, 2])])
def ringGo.B8 : List Nat := [0, 0, 2, 0, 0, 16, 56, 120, 255]
theorem ringGo.tab8 : rtab .any (opsOf Try.f37 8) = ringGo.T8 := by kernel_rfl
theorem ringGo.bits8 : waitsOk ringGo.T8.2 ringGo.B8 = true := by kernel_rfl
def ringGo.T11 : Bool × List (List Nat × List Nat) := (true, [([], []), ([], []), ([1], [1]), ([], []), ([], []), ([4], [4]), ([3, 5], [3, 5]), ([6, 3, 4, 5, 6], [6]), ([0, 2, 7, 0, 1, 2, 3, 4, 5, 6, 7], [0, 2])])
def ringGo.B11 : List Nat := [0, 0, 2, 0, 0, 16, 56, 120, 255]
theorem ringGo.tab11 : rtab .any (opsOf Try.f37 11) = ringGo.T11 := by kernel_rfl
theorem ringGo.bits11 : waitsOk ringGo.T11.2 ringGo.B11 = true := by kernel_rfl
/-- Whether a bound of a list leaves an event. -/
def usedIn (l : List S53) (ls : List Int) (x : Int) : Bool := ls.any fun i => (rd_T53 l i).f0 == x
/-- The end of a list's last bound. -/
def endOf (l : List S53) (ls : List Int) : Int := (rd_T53 l (rd ls ((ls.length : Int) - 1))).f1
/-- A bound that cannot go on a list. -/
def skipB (l : List S53) (ls : List Int) (i : Int) : Bool := usedIn l ls (rd_T53 l i).f0 || (!ls.isEmpty && (endOf l ls != (rd_T53 l i).f0))
/-- The bounds from i on: the first with which the list goes on to a ring. -/
def ringL (l : List S53) (rec : List Int → Int → Option (Option (List Int))) : Nat → Nat → List Int → Int → Option (Option (List Int))
 | 0, _, _, _ => some none
 | d + 1, i, ls, sum => if skipB l ls (i : Int) = true then ringL l rec d (i + 1) ls sum else (rec (ls ++ [(i : Int)]) (wrap64 (sum + (rd_T53 l (i : Int)).f2))).bind fun q => match q with
  | some x => some (some x)
  | none => ringL l rec d (i + 1) ls sum
/-- A list of bounds goes on to a falling ring of so many. -/
def ringP (l : List S53) (many : Nat) : Nat → List Int → Int → Option (Option (List Int))
 | 0, _, _ => none
 | r + 1, ls, sum => if ls.length = many then some (if (decide (sum < 0) && (endOf l ls == (rd_T53 l (rd ls 0)).f0)) = true then some ls else none) else ringL l (ringP l many r) l.length 0 ls sum
/-- How many entries a search may lay at most. -/
def searchU : Nat → Nat
 | 0 => 0
 | r + 1 => 24 * (searchU r + 2)
theorem usedIn_snoc (l : List S53) (ls : List Int) (i x : Int) : usedIn l (ls ++ [i]) x = (usedIn l ls x || ((rd_T53 l i).f0 == x)) := by
 unfold usedIn
 rw [List.any_append]
 simp
theorem rd_snoc (ls : List Int) (i : Int) : rd (ls ++ [i]) (((ls ++ [i]).length : Int) - 1) = i := by
 unfold rd
 simp [List.getD_eq_getElem?_getD]
set_option maxHeartbeats 16000000 in
set_option maxRecDepth 100000 in
theorem ringGo.calls (gr gm gd gl ge bm mn : Nat) (ev : Int) (A : Option Addr) (c : Nat) (l : List S53) (w0 : World) (hcl : Kd.C k53 w0 A l.length l) (hc : l.length ≤ c) (hl : l.length ≤ 24) (hm1 : 1 ≤ mn) (hm2 : mn ≤ 10) (hf : ∀ i : Int, 0 ≤ i → i < (l.length : Int) → 0 ≤ (rd_T53 l i).f0 ∧ (rd_T53 l i).f0 ≤ 1000) (hgr : w0.heap.size ≤ gr) (hbm : w0.heap.size ≤ bm) (r : Nat) :
  ∀ (ls : List Int) (sum : Int) (n : Nat) (v : Value) (w : World) (q : Option (List Int)) (b : Bool) (ls' : List Int), ls.length ≤ mn → (∀ j : Int, 0 ≤ j → j < (ls.length : Int) → 0 ≤ rd ls j ∧ rd ls j < (l.length : Int)) → n + searchU r ≤ 9000000000000000000 → Below w0.heap.size w0 w →
   w.heap[gr]? = some (.cells #[v] 26 (0, 0)) → Kd.R (Kd.int .i64) 2 w w0.heap.size (fun _ => True) (v) ls → w.heap[gm]? = some (.cells #[.int .i64 (mn : Int)] 3 (0, 0)) → w.heap[gd]? = some (.cells #[.int .i64 ev, .slice A l.length c] 31 (0, 0)) → w.heap[gl]? = some (.cells #[.map (some bm)] 64 (0, 0)) → w.heap[ge]? = some (.cells #[.func (.func 37) #[] #[.pointer (some ⟨gr, 0, none⟩), .pointer (some ⟨gm, 0, none⟩), .pointer (some ⟨gd, 0, none⟩), .pointer (some ⟨gl, 0, none⟩), .pointer (some ⟨ge, 0, none⟩)]] 65 (0, 0)) → MapIs w bm n (usedIn l ls) → ringP l mn r ls sum = some q → q.isSome = b → q.getD ls = ls' →
   Calls Try.prog 37 #[.int .i64 sum, .pointer (some ⟨gr, 0, none⟩), .pointer (some ⟨gm, 0, none⟩), .pointer (some ⟨gd, 0, none⟩), .pointer (some ⟨gl, 0, none⟩), .pointer (some ⟨ge, 0, none⟩)] w fun e w' => e = .returned (.bool b) ∧ Below w0.heap.size w0 w' ∧ KeepT 2 26 w w' ∧ (∃ v', w'.heap[gr]? = some (.cells #[v'] 26 (0, 0)) ∧ Kd.R (Kd.int .i64) 2 w' w0.heap.size (fun _ => True) (v') ls') ∧ (b = false → ∃ n', n' ≤ n + searchU r ∧ MapIs w' bm n' (usedIn l ls)) := by
 have hu := Try.underlying31
 have hu2 := Try.underlying53
 have hu3 := Try.underlying4
 have hu4 := Try.underlying65
 have hu5 := Try.underlying64
 have HCL := Aside0.mk hcl; have HC := Aside0.mk hc; have HL := Aside0.mk hl; have HM1 := Aside0.mk hm1; have HM2 := Aside0.mk hm2; have HF := Aside0.mk hf; have HGE := Aside0.mk (And.intro hgr hbm)
 clear hcl hc hl hm1 hm2 hf hgr hbm
 obtain ⟨i53, hi53, hzz⟩ := Option.map_eq_some_iff.1 info2
 have HI53 := Aside0.mk hi53
 clear hi53 hzz
 induction r with
 | zero => intro ls sum n v w q b ls' _ _ _ _ _ _ _ _ _ _ _ hq; exact absurd hq (by simp [ringP])
 | succ r ih =>
  have IH := Aside0.mk ih
  clear ih
  intro ls sum n v w q b ls' hlm hls hnu hB hg hr hgm hgd hgl hge hmp hq hb hx
  obtain ⟨Ar, cr, rfl⟩ := Kd.R_slice hr
  have hlen : ls.length ≤ 10 := Nat.le_trans hlm HM2.out
  have HB := Aside0.mk hB; have HG0 := Aside0.mk hg; have HR := Aside0.mk hr; have HGM := Aside0.mk hgm; have HGD := Aside0.mk hgd; have HGL := Aside0.mk hgl; have HGEE := Aside0.mk hge; have M0 := Aside0.mk hmp; have HLS := Aside0.mk hls; have HNU := Aside0.mk hnu; have HBB := Aside0.mk hb; have HX := Aside0.mk hx; have HLM := Aside0.mk hlm; have HLEN0 := Aside0.mk hlen
  unfold ringP at hq
  obtain ⟨la, hla⟩ : ∃ z, (ls.length : Int) - 1 = z := ⟨_, rfl⟩
  have hwl : wrap64 la = la := by unfold wrap64; omega
  have hwi : IntKind.i64.wrap la = la := (i64_w _).trans hwl
  have HLA := Aside0.mk hla
  have t1 := blk_cell HG0.out 0
  have t2 := blk_cell HGM.out 0
  have t3 := blk_cell HGD.out 1
  clear hB hg hr hgm hgd hgl hge hmp hls hnu hb hx
  by_cases hlm2 : ls.length = mn
  ·rw [if_pos hlm2] at hq
   have hq := Option.some.inj hq
   have HQ := Aside0.mk hq
   clear hq
   have e1 : ((ls.length : Int) == (mn : Int)) = true := beq_iff_eq.mpr (by omega)
   have hl1 : 0 < ls.length := by have := HM1.out; omega
   have h0 : (0 : Int) ≤ la := by omega
   have h1 : la < (ls.length : Int) := by omega
   have h00 : (0 : Int) < (ls.length : Int) := by omega
   obtain ⟨ad, ea, k1⟩ := Kd.at_int (Kd.R_reads' HR.out).2.2 la h0 h1
   cases ea
   obtain ⟨ad', ea, k0⟩ := Kd.at_int (Kd.R_reads' HR.out).2.2 0 (Int.le_refl _) h00
   cases ea
   obtain ⟨hj0, hj1⟩ := HLS.out la h0 h1
   obtain ⟨hi0, hi1⟩ := HLS.out 0 (Int.le_refl _) h00
   obtain ⟨zj, hzj⟩ : ∃ z, rd ls la = z := ⟨_, rfl⟩
   obtain ⟨zi, hzi⟩ : ∃ z, rd ls 0 = z := ⟨_, rfl⟩
   rw [hzj] at k1 hj0 hj1
   rw [hzi] at k0 hi0 hi1
   have hCl := Kd.C_below HCL.out HB.out
   obtain ⟨ac, ea, b0, b1, b2⟩ := at_T53 hCl zj hj0 hj1
   cases ea
   obtain ⟨ac', ea, d0, d1, d2⟩ := at_T53 hCl zi hi0 hi1
   cases ea
   clear hCl
   have he : (decide (sum < 0) && (endOf l ls == (rd_T53 l (rd ls 0)).f0)) = (decide (sum < 0) && ((rd_T53 l zj).f1 == (rd_T53 l zi).f0)) := by unfold endOf; rw [hla, hzj, hzi]
   have HE := Aside0.mk he
   clear he hzj hzi hlm hlm2 hl1
   have p0 := eq_true h0; have p1 := eq_true h1; have p2 := eq_true hj0; have p3 := eq_true hj1; have p4 := eq_true hi0; have p5 := eq_true hi1; have p6 := eq_true h00
   have h000 : 0 < ls.length := by omega
   have p7 := eq_true h000; have q7 := decide_eq_true h000
   have k0a : w.cell? (ad.add 0) = some (.int .i64 zi) := k0
   have k0b : w.cell? ad = some (.int .i64 zi) := k0
   have q0 := decide_eq_true h0; have q1 := decide_eq_true h1; have q2 := decide_eq_true hj0; have q3 := decide_eq_true hj1; have q4 := decide_eq_true hi0; have q5 := decide_eq_true hi1; have q6 := decide_eq_true h00
   generalize hz1 : (rd_T53 l zj).f1 = z1 at b1 HE
   generalize hz0 : (rd_T53 l zi).f0 = z0 at d0 HE
   clear hz1 hz0
   have hqb : b = (decide (sum < 0) && (z1 == z0)) := by rw [← HBB.out, ← HQ.out, HE.out]; cases (decide (sum < 0) && (z1 == z0)) <;> rfl
   have hql : ls' = ls := by rw [← HX.out, ← HQ.out, HE.out]; cases (decide (sum < 0) && (z1 == z0)) <;> rfl
   have HQB := Aside0.mk hqb
   subst hql
   clear hqb
   by_cases hs : sum < 0
   ·have s1 : decide (sum < 0) = true := decide_eq_true hs
    rw [s1] at HQB
    clear hs
    go_enter Try.func37, Try.ntmps37
    go_wp2_with (fail)
    go_quiet (fail)
    go_wp2
    go_ret
    refine ⟨by rw [HQB.out]; rfl, pw_below_drewN HB.out nq, (KeepT.refl _ _ _).below (pw_below_drewN (Below.refl _ _) nq), ⟨_, blk_drewN HG0.out nq, Kd.R_drewN HR.out nq⟩, fun _ => ⟨n, Nat.le_add_right _ _, M0.out.below (pw_below_drewN (Below.refl _ _) nq)⟩⟩
   ·have s1 : decide (sum < 0) = false := decide_eq_false hs
    rw [s1] at HQB
    clear hs
    go_enter Try.func37, Try.ntmps37
    go_wp2_with (fail)
    go_quiet (fail)
    go_wp2
    go_ret
    refine ⟨by rw [HQB.out]; rfl, pw_below_drewN HB.out nq, (KeepT.refl _ _ _).below (pw_below_drewN (Below.refl _ _) nq), ⟨_, blk_drewN HG0.out nq, Kd.R_drewN HR.out nq⟩, fun _ => ⟨n, Nat.le_add_right _ _, M0.out.below (pw_below_drewN (Below.refl _ _) nq)⟩⟩
  ·rw [if_neg hlm2] at hq
   have HQ := Aside0.mk hq
   clear hq
   have e1 : ((ls.length : Int) == (mn : Int)) = false := beq_eq_false_iff_ne.mpr (by omega)
   have hlt1 : ls.length + 1 ≤ mn := by omega
   have HLT1 := Aside0.mk hlt1
   clear hlm hlm2 hlt1
   go_enter Try.func37, Try.ntmps37
   go_wp2_with (fail)
   clear t1 t2 t3 e1
   go_loopg [43] (l.length + 1) (fun gg s43 wr => ∃ (i n1 : Nat) (v1 : Value), s43 = .int .i64 (i : Int) ∧ Aside0 (i ≤ l.length ∧ l.length - i < gg ∧ n1 ≤ n + i * (searchU r + 2)) ∧ Aside0 (Below w0.heap.size w0 wr) ∧ Aside0 (KeepT 2 26 w wr) ∧ Aside0 (wr.heap[gr]? = some (.cells #[v1] 26 (0, 0))) ∧ Aside0 (Kd.R (Kd.int .i64) 2 wr w0.heap.size (fun _ => True) (v1) ls) ∧ Aside0 (wr.heap[gm]? = some (.cells #[.int .i64 (mn : Int)] 3 (0, 0))) ∧ Aside0 (wr.heap[gd]? = some (.cells #[.int .i64 ev, .slice A l.length c] 31 (0, 0))) ∧ Aside0 (wr.heap[gl]? = some (.cells #[.map (some bm)] 64 (0, 0))) ∧ Aside0 (wr.heap[ge]? = some (.cells #[.func (.func 37) #[] #[.pointer (some ⟨gr, 0, none⟩), .pointer (some ⟨gm, 0, none⟩), .pointer (some ⟨gd, 0, none⟩), .pointer (some ⟨gl, 0, none⟩), .pointer (some ⟨ge, 0, none⟩)]] 65 (0, 0))) ∧ Aside0 (MapIs wr bm n1 (usedIn l ls)) ∧ Aside0 (ringL l (ringP l mn r) (l.length - i) i ls sum = some q))
   case atStart => exact ⟨0, n, _, rfl, ⟨by simp⟩, HB, ⟨KeepT.refl _ _ _⟩, HG0, HR, HGM, HGD, HGL, HGEE, M0, HQ⟩
   case round =>
    clear HB HG0 HR HGM HGD HGL HGEE M0 HQ
    obtain ⟨i, n1, v1, rfl, HI, HB, KT0, HG0, HR, HGM, HGD, HGL, HGEE, M0, HQ⟩ := hrel
    obtain ⟨Ar1, cr1, rfl⟩ := Kd.R_slice HR.out
    generalize hxi : (i : Int) = xi
    have HXI := Aside0.mk hxi
    by_cases hlt : i < l.length
    ·have hlt' : xi < (l.length : Int) := by omega
     have h0' : (0 : Int) ≤ xi := by omega
     obtain ⟨d, hd⟩ : ∃ d, l.length - i = d + 1 := ⟨l.length - i - 1, by omega⟩
     have hq := HQ.out
     rw [hd] at hq
     unfold ringL at hq
     rw [hxi] at hq
     have hCl := Kd.C_below HCL.out HB.out
     obtain ⟨ac, ea, b0, b1, b2⟩ := at_T53 hCl xi h0' hlt'
     cases ea
     have hf0 := HF.out xi h0' hlt'
     obtain ⟨⟨f0, f1, f2⟩, hfx⟩ : ∃ z : S53, z = rd_T53 l xi := ⟨_, rfl⟩
     rw [← hfx] at b0 b1 b2 hf0 hq
     dsimp only at b0 b1 b2 hf0 hq
     have HFX := Aside0.mk hfx; have HHQ := Aside0.mk hq; have HD := Aside0.mk hd; have HLT := Aside0.mk hlt; have HXB := Aside0.mk (And.intro h0' hlt')
     have HF0 : Aside0 ((Lit.int .i64 f0).wf = true) := ⟨by simp only [Lit.wf, IntKind.min, IntKind.max, IntKind.signed, IntKind.bits, Bool.and_eq_true, decide_eq_true_eq, if_true]; omega⟩
     have hlen : l.length ≤ 24 := HL.out
     have c1 : decide ((0 : Int) ≤ xi) = true := decide_eq_true h0'
     have c2 : decide (xi < (l.length : Int)) = true := decide_eq_true hlt'
     have p0 := eq_true h0'; have p1 := eq_true hlt'
     clear hCl hf0 hfx hq hd hlt hxi HQ
     go_wp2_with (fail)
     clear b0 b1 b2 c1 c2 p0 p1 h0' hlt'
     obtain ⟨w1, hwx⟩ : ∃ z, z = wr.alloc (.cells #[.int .i64 f0, .int .i64 f1, .int .i64 f2] 53 (0, 0)) := ⟨_, rfl⟩
     rw [← hwx]
     have hb : Below wr.heap.size wr w1 := by rw [hwx]; exact below_alloc (Below.refl _ _) _
     have HBX : Aside0 (w1.heap[wr.heap.size]? = some (.cells #[.int .i64 f0, .int .i64 f1, .int .i64 f2] 53 (0, 0))) := ⟨by rw [hwx]; simpa using heap_alloc_new wr _⟩
     clear hwx
     replace KT0 := Aside0.mk (KT0.out.below hb); replace HB := Aside0.mk (below_step HB.out hb); replace HG0 := Aside0.mk (blk_below HG0.out hb); replace HR := Aside0.mk (Kd.R_below HR.out hb); replace HGM := Aside0.mk (blk_below HGM.out hb); replace HGD := Aside0.mk (blk_below HGD.out hb); replace HGL := Aside0.mk (blk_below HGL.out hb); replace HGEE := Aside0.mk (blk_below HGEE.out hb); replace M0 := Aside0.mk (M0.out.below hb)
     clear hb
     generalize wr.heap.size = gb at HBX ⊢
     have hlk := M0.out.look f0 HF0.out
     have m0 := blk_cell HBX.out 0
     have m1 := blk_cell HGL.out 0
     have m2 := blk_cell HGD.out 1
     have m3 := blk_cell HG0.out 0
     have hsk : skipB l ls xi = (usedIn l ls f0 || (!ls.isEmpty && (endOf l ls != f0))) := by unfold skipB; rw [← HFX.out]
     have HSK := Aside0.mk hsk
     clear hsk
     generalize hu0 : usedIn l ls f0 = u at hlk HSK
     have HU := Aside0.mk hu0
     clear hu0
     cases u with
     | true =>
      have HSKT : Aside0 (skipB l ls xi = true) := ⟨by rw [HSK.out]; rfl⟩
      clear HSK
      go_quiet (fail)
      have hb := pw_below_drewN (Below.refl w1.heap.size w1) nq; replace KT0 := Aside0.mk (KT0.out.below hb); replace HB := Aside0.mk (below_step HB.out hb); replace HG0 := Aside0.mk (blk_below HG0.out hb); replace HR := Aside0.mk (Kd.R_below HR.out hb); replace HGM := Aside0.mk (blk_below HGM.out hb); replace HGD := Aside0.mk (blk_below HGD.out hb); replace HGL := Aside0.mk (blk_below HGL.out hb); replace HGEE := Aside0.mk (blk_below HGEE.out hb); replace HBX := Aside0.mk (blk_below HBX.out hb); replace M0 := Aside0.mk (M0.out.below hb); clear hb hlk m0 m1 m2 m3; generalize w1.drewN nq = w1 at KT0 HB HG0 HR HGM HGD HGL HGEE HBX M0 ⊢
      have hq := HHQ.out
      rw [HSKT.out, if_pos rfl] at hq
      have HQ2 := Aside0.mk hq
      clear hq HHQ HSKT
      go_wp2
      have hxi := HXI.out
      have hd := HD.out
      have hi := HI.out
      have hsu : (i + 1) * (searchU r + 2) = i * (searchU r + 2) + (searchU r + 2) := Nat.succ_mul _ _
      have hlen : l.length ≤ 24 := HL.out
      go_roundg (l.length - i)
      case measure => omega
      case rel => exact ⟨i + 1, n1, _, by first | (rw [show wrap64 (xi + 1) = ((i + 1 : Nat) : Int) from by unfold wrap64; omega]) | (rw [i64_w, show wrap64 (xi + 1) = ((i + 1 : Nat) : Int) from by unfold wrap64; omega]) | (rw [show xi + 1 = ((i + 1 : Nat) : Int) from by omega]), ⟨by omega⟩, HB, KT0, HG0, HR, HGM, HGD, HGL, HGEE, M0, ⟨by rw [show l.length - (i + 1) = d by omega]; exact HQ2.out⟩⟩
     | false =>
      by_cases hla0 : ls = []
      ·have g1 : decide (la ≥ 0) = false := decide_eq_false (by have h := HLA.out; rw [hla0] at h; simp at h; omega)
       have g2 : decide (0 ≤ la) = false := g1
       have HSKT : Aside0 (skipB l ls xi = false) := ⟨by rw [HSK.out, hla0]; rfl⟩
       clear HSK hla0
       go_quiet (fail)
       have hb := pw_below_drewN (Below.refl w1.heap.size w1) nq; replace KT0 := Aside0.mk (KT0.out.below hb); replace HB := Aside0.mk (below_step HB.out hb); replace HG0 := Aside0.mk (blk_below HG0.out hb); replace HR := Aside0.mk (Kd.R_below HR.out hb); replace HGM := Aside0.mk (blk_below HGM.out hb); replace HGD := Aside0.mk (blk_below HGD.out hb); replace HGL := Aside0.mk (blk_below HGL.out hb); replace HGEE := Aside0.mk (blk_below HGEE.out hb); replace HBX := Aside0.mk (blk_below HBX.out hb); replace M0 := Aside0.mk (M0.out.below hb); clear hb hlk m0 m1 m2 m3; generalize w1.drewN nq = w1 at KT0 HB HG0 HR HGM HGD HGL HGEE HBX M0 ⊢
       have hq := HHQ.out
       rw [HSKT.out, if_neg (by decide)] at hq
       obtain ⟨q', hq', hq⟩ := Option.bind_eq_some_iff.mp hq
       have HQ1 := Aside0.mk hq'; have HQ2 := Aside0.mk hq
       clear hq hq' HHQ HSKT
       go_wp2_with (fail)
       replace HB := Aside0.mk (below_drew1 HB.out); replace HG0 := Aside0.mk (blk_drew HG0.out); have RK := Aside0.mk (Kd.R_drew HR.out); replace HGL := Aside0.mk (blk_drew HGL.out); replace HBX := Aside0.mk (blk_drew HBX.out); replace M0 := Aside0.mk (M0.out.below (below_drew1 (Below.refl _ _)))
       have HGM1 : Aside0 (w1.drew.heap[gm]? = some (.cells #[.int .i64 (mn : Int)] 3 (0, 0))) := ⟨blk_drew HGM.out⟩; have HGD1 : Aside0 (w1.drew.heap[gd]? = some (.cells #[.int .i64 ev, .slice (some ac) l.length c] 31 (0, 0))) := ⟨blk_drew HGD.out⟩; have HGE1 : Aside0 (w1.drew.heap[ge]? = some (.cells #[.func (.func 37) #[] #[.pointer (some ⟨gr, 0, none⟩), .pointer (some ⟨gm, 0, none⟩), .pointer (some ⟨gd, 0, none⟩), .pointer (some ⟨gl, 0, none⟩), .pointer (some ⟨ge, 0, none⟩)]] 65 (0, 0))) := ⟨blk_drew HGEE.out⟩; have KT1 : Aside0 (KeepT 2 26 w w1.drew) := ⟨KT0.out.below (below_drew1 (Below.refl _ _))⟩
       have HN : Aside0 (n1 < 9223372036854775807) := ⟨by have h1 := HI.out; have h2 := HNU.out; have h3 : searchU (r + 1) = 24 * (searchU r + 2) := rfl; have h4 : i * (searchU r + 2) ≤ 24 * (searchU r + 2) := Nat.mul_le_mul_right _ (Nat.le_trans h1.1 HL.out); omega⟩
       have HLEN : Aside0 ((ls.length + 1) * 8 ≤ 140737488355328) := ⟨by have := HLEN0.out; omega⟩
       clear HR KT0 HGM HGD HGEE
       refine start_ (n := 9) (S := fun w' => True) (ds := []) #[false, false, false, false, false, false, false, false, false] (by kernel_rfl) rfl rfl trivial (fun hHeld => ?_)
       refine with_tabW ringGo.tab8 ringGo.bits8 (fun HT_ HW_ => ?_)
       generalize w1.drew = wk at HB HGL HBX HG0 M0 RK HGM1 HGD1 HGE1 KT1 hHeld ⊢
       have HBK := HB; have HGLK := HGL; have HBXK := HBX; have HGK := HG0; have MK := M0
       have KT := trivial; have W0 := trivial
       refine pure_ (i := 1) (N := some 71) (v := ?_) (a' := ?_) #[false, true, false, false, false, false, false, false, false] rfl rfl (any_of HT_.out (by kernel_rfl)) (fun _ _ _ h => h) (Or.inl ⟨by rfl, ?_⟩) ?_ ?_
       rotate_left
       ·intro w'
        go_simp
        with_reducible rfl
       rotate_left
       ·simp only [Act.put, List.setIfInBounds_toArray, List.set_cons_zero, List.set_cons_succ, i64_w, i32_w]
        rfl
       refine pure_ (i := 4) (N := some 74) (v := ?_) (a' := ?_) #[false, true, false, false, true, false, false, false, false] rfl rfl (any_of HT_.out (by kernel_rfl)) (fun _ _ _ h => h) (Or.inl ⟨by rfl, ?_⟩) ?_ ?_
       rotate_left
       ·intro w'
        go_simp
        with_reducible rfl
       rotate_left
       ·simp only [Act.put, List.setIfInBounds_toArray, List.set_cons_zero, List.set_cons_succ, i64_w, i32_w]
        rfl
       refine inv_at [0, 2, 3, 5, 6, 7, 8] (fun a0_ b a w' => ∃ (g5 : Nat) (A2 : Option Addr) (c2 : Nat) (m5_ : Value) (m6_ : Value), a = putSel a0_ b [(0, 70, .map (some bm)), (2, 72, .int .i64 f0), (3, 73, .slice Ar1 ls.length cr1), (5, 75, m5_), (6, 76, m6_)] ∧ (Below w0.heap.size w0 w') ∧ (KeepT 2 26 wk w') ∧ (w'.heap[gl]? = some (.cells #[.map (some bm)] 64 (0, 0))) ∧ (w'.heap[gb]? = some (.cells #[.int .i64 f0, .int .i64 f1, .int .i64 f2] 53 (0, 0))) ∧ (b 7 = false → w'.heap[gr]? = some (.cells #[.slice Ar1 ls.length cr1] 26 (0, 0))) ∧ (b 7 = true → w'.heap[gr]? = some (.cells #[.slice A2 (ls ++ [xi]).length c2] 26 (0, 0))) ∧ (b 8 = false → MapIs w' bm n1 (usedIn l ls)) ∧ (b 8 = true → MapIs w' bm (n1 + 1) (fun y => if y = f0 then true else usedIn l ls y)) ∧ (b 5 = false → w' = wk) ∧ (b 5 = true → b 6 = false → w' = wk.alloc (.cells #[.int .i64 xi] 2)) ∧ (b 6 = true → Kd.R (Kd.int .i64) 2 w' w0.heap.size (fun _ => True) (.slice A2 (ls ++ [xi]).length c2) (ls ++ [xi])) ∧ (b 5 = true → g5 = wk.heap.size) ∧ (b 5 = true → (m5_ : Value) = .slice (some ⟨g5, 0, none⟩) 1 1) ∧ (b 6 = true → (m6_ : Value) = .slice A2 (ls ++ [xi]).length c2)) HT_.out HW_.out (by kernel_rfl) (by kernel_rfl) ?_ ?_ ?_
       ·exact ⟨0, none, 0, .bool false, .bool false, by simp only [putSel, Bool.false_eq_true, if_false], HB.out, KeepT.refl _ _ _, HGL.out, HBX.out, fun _ => HG0.out, fun h_ => absurd h_ (by decide), fun _ => M0.out, fun h_ => absurd h_ (by decide), fun _ => rfl, fun h_ => absurd h_ (by decide), fun h_ => absurd h_ (by decide), fun h_ => absurd h_ (by decide), fun h_ => absurd h_ (by decide), fun h_ => absurd h_ (by decide)⟩
       ·skip
        clear HB HBX HG0 HGL KT M0 W0
        refine steps_cons ?_ ?_
        ·rintro b a w' ⟨g5, A2, c2, m5_, m6_, ha, Q_HB, Q_KT, Q_HGL, Q_HBX, Q_HG0, Q_HG1, Q_M0, Q_M1, Q_W0, Q_W5, Q_R1, Q_G5, Q_X5_, Q_X6_⟩ hb_ hon hoff
         refine ⟨_, rfl, fun K hK => ?_⟩
         have e4 : a.tmps[4]? = some (.pointer (some ⟨gl, 0, none⟩)) := by rw [ha]; exact (putSel_off rfl).trans rfl
         replace ha := Aside0.mk ha
         have HB := Aside0.mk Q_HB
         have KT := Aside0.mk Q_KT
         have HGL := Aside0.mk Q_HGL
         have HBX := Aside0.mk Q_HBX
         have M0 := Aside0.mk (Q_M0 (hoff 8 (by kernel_rfl)))
         have hcgl0_ : w'.cell? ⟨gl, 0, none⟩ = some (.map (some bm)) := (blk_cell HGL.out 0).trans rfl
         refine value_ (w1 := w') (v := .map (some bm)) (by rfl) rfl ?_ ?_
         ·go_simp
          (try simp only [i64_w])
          try rfl
         refine hK.out _ _ ⟨g5, A2, c2, m5_, m6_, (by rw [ha.out]; exact putSel_upk 0 hb_ rfl rfl rfl), Q_HB, Q_KT, Q_HGL, Q_HBX, Q_HG0, Q_HG1, Q_M0, fun h0_ => absurd ((hoff 8 (by kernel_rfl)).symm.trans h0_) (by decide), Q_W0, Q_W5, Q_R1, Q_G5, Q_X5_, Q_X6_⟩
        refine steps_cons ?_ ?_
        ·rintro b a w' ⟨g5, A2, c2, m5_, m6_, ha, Q_HB, Q_KT, Q_HGL, Q_HBX, Q_HG0, Q_HG1, Q_M0, Q_M1, Q_W0, Q_W5, Q_R1, Q_G5, Q_X5_, Q_X6_⟩ hb_ hon hoff
         refine ⟨_, rfl, fun K hK => ?_⟩
         have e71 : a.tmps[71]? = some (.pointer (some ⟨gb, 0, none⟩)) := by rw [ha]; exact (putSel_off rfl).trans rfl
         replace ha := Aside0.mk ha
         have HB := Aside0.mk Q_HB
         have KT := Aside0.mk Q_KT
         have HGL := Aside0.mk Q_HGL
         have HBX := Aside0.mk Q_HBX
         have M0 := Aside0.mk (Q_M0 (hoff 8 (by kernel_rfl)))
         have hcgb0_ : w'.cell? ⟨gb, 0, none⟩ = some (.int .i64 f0) := (blk_cell HBX.out 0).trans rfl
         refine value_ (w1 := w') (v := .int .i64 f0) (by rfl) rfl ?_ ?_
         ·go_simp
          (try simp only [i64_w])
          try rfl
         refine hK.out _ _ ⟨g5, A2, c2, m5_, m6_, (by rw [ha.out]; exact putSel_upk 1 hb_ rfl rfl rfl), Q_HB, Q_KT, Q_HGL, Q_HBX, Q_HG0, Q_HG1, Q_M0, fun h0_ => absurd ((hoff 8 (by kernel_rfl)).symm.trans h0_) (by decide), Q_W0, Q_W5, Q_R1, Q_G5, Q_X5_, Q_X6_⟩
        refine steps_cons ?_ ?_
        ·rintro b a w' ⟨g5, A2, c2, m5_, m6_, ha, Q_HB, Q_KT, Q_HGL, Q_HBX, Q_HG0, Q_HG1, Q_M0, Q_M1, Q_W0, Q_W5, Q_R1, Q_G5, Q_X5_, Q_X6_⟩ hb_ hon hoff
         refine ⟨_, rfl, fun K hK => ?_⟩
         have e1 : a.tmps[1]? = some (.pointer (some ⟨gr, 0, none⟩)) := by rw [ha]; exact (putSel_off rfl).trans rfl
         replace ha := Aside0.mk ha
         have HB := Aside0.mk Q_HB
         have KT := Aside0.mk Q_KT
         have HGL := Aside0.mk Q_HGL
         have HBX := Aside0.mk Q_HBX
         have HG0 := Aside0.mk (Q_HG0 (hoff 7 (by kernel_rfl)))
         have M0 := Aside0.mk (Q_M0 (hoff 8 (by kernel_rfl)))
         have hcgr0_ : w'.cell? ⟨gr, 0, none⟩ = some (.slice Ar1 ls.length cr1) := (blk_cell HG0.out 0).trans rfl
         refine value_ (w1 := w') (v := .slice Ar1 ls.length cr1) (by rfl) rfl ?_ ?_
         ·go_simp
          (try simp only [i64_w])
          try rfl
         refine hK.out _ _ ⟨g5, A2, c2, m5_, m6_, (by rw [ha.out]; exact putSel_upk 2 hb_ rfl rfl rfl), Q_HB, Q_KT, Q_HGL, Q_HBX, Q_HG0, fun h0_ => absurd ((hoff 7 (by kernel_rfl)).symm.trans h0_) (by decide), Q_M0, fun h0_ => absurd ((hoff 8 (by kernel_rfl)).symm.trans h0_) (by decide), Q_W0, Q_W5, fun h0_ => absurd ((hoff 6 (by kernel_rfl)).symm.trans h0_) (by decide), Q_G5, Q_X5_, fun h0_ => absurd ((hoff 6 (by kernel_rfl)).symm.trans h0_) (by decide)⟩
        refine steps_cons ?_ ?_
        ·rintro b a w' ⟨g5, A2, c2, m5_, m6_, ha, Q_HB, Q_KT, Q_HGL, Q_HBX, Q_HG0, Q_HG1, Q_M0, Q_M1, Q_W0, Q_W5, Q_R1, Q_G5, Q_X5_, Q_X6_⟩ hb_ hon hoff
         refine ⟨_, rfl, fun K hK => ?_⟩
         have e74 : a.tmps[74]? = some (.int .i64 xi) := by rw [ha]; exact (putSel_off rfl).trans rfl
         replace ha := Aside0.mk ha
         have HB := Aside0.mk Q_HB
         have KT := Aside0.mk Q_KT
         have HGL := Aside0.mk Q_HGL
         have HBX := Aside0.mk Q_HBX
         have HG0 := Aside0.mk (Q_HG0 (hoff 7 (by kernel_rfl)))
         have M0 := Aside0.mk (Q_M0 (hoff 8 (by kernel_rfl)))
         have W0 := Aside0.mk (Q_W0 hb_)
         refine event_step (by rfl) (w1 := w'.alloc (.cells #[.int .i64 xi] 2)) (v := .slice (some ⟨w'.heap.size, 0, none⟩) 1 1) ?_ ?_
         ·first | (go_simp; done) | (go_simp; rfl)
         have hb : Below w'.heap.size w' (w'.alloc (.cells #[.int .i64 xi] 2)) := below_alloc (Below.refl _ _) _
         refine hK.out _ _ ⟨w'.heap.size, A2, c2, (.slice (some ⟨w'.heap.size, 0, none⟩) 1 1), m6_, (by rw [ha.out]; exact putSel_upk 3 hb_ rfl rfl rfl), below_step HB.out hb, KT.out.below hb, blk_below HGL.out hb, blk_below HBX.out hb, fun _ => blk_below HG0.out hb, fun h0_ => absurd ((hoff 7 (by kernel_rfl)).symm.trans h0_) (by decide), fun _ => M0.out.below hb, fun h0_ => absurd ((hoff 8 (by kernel_rfl)).symm.trans h0_) (by decide), fun h0_ => absurd ((up_self b 5).symm.trans h0_) (by decide), fun _ _ => by rw [W0.out], fun h0_ => absurd ((hoff 6 (by kernel_rfl)).symm.trans h0_) (by decide), fun _ => by rw [W0.out], fun _ => rfl, fun h0_ => absurd ((hoff 6 (by kernel_rfl)).symm.trans h0_) (by decide)⟩
        refine steps_cons ?_ ?_
        ·rintro b a w' ⟨g5, A2, c2, m5_, m6_, ha, Q_HB, Q_KT, Q_HGL, Q_HBX, Q_HG0, Q_HG1, Q_M0, Q_M1, Q_W0, Q_W5, Q_R1, Q_G5, Q_X5_, Q_X6_⟩ hb_ hon hoff
         refine ⟨_, rfl, fun K hK => ?_⟩
         have e73 : a.tmps[73]? = some (.slice Ar1 ls.length cr1) := by rw [ha]; exact putSel_on (e := (3, 73, .slice Ar1 ls.length cr1)) 2 rfl rfl (hon 3 (by kernel_rfl)) rfl
         have e75 : a.tmps[75]? = some (m5_) := by rw [ha]; exact putSel_on (e := (5, 75, m5_)) 3 rfl rfl (hon 5 (by kernel_rfl)) rfl
         rw [Q_X5_ (hon 5 (by kernel_rfl))] at e75
         replace ha := Aside0.mk ha
         have HB := Aside0.mk Q_HB
         have KT := Aside0.mk Q_KT
         have HGL := Aside0.mk Q_HGL
         have HBX := Aside0.mk Q_HBX
         have HG0 := Aside0.mk (Q_HG0 (hoff 7 (by kernel_rfl)))
         have M0 := Aside0.mk (Q_M0 (hoff 8 (by kernel_rfl)))
         have W5 := Aside0.mk (Q_W5 (hon 5 (by kernel_rfl)) hb_)
         have G5 := Aside0.mk (Q_G5 (hon 5 (by kernel_rfl)))
         have hw_ := W5.out
         subst hw_
         rw [G5.out] at e75
         refine Kd.R_append_step (Kd.int .i64) (w0 := w0) w0.heap.size (by rfl) (.tmp 73) (.tmp 75) 26 2 (.int .i64 0) 8 rfl Try.underlying26 info2 rfl (by decide) (by omega) (.slice Ar1 ls.length cr1) ls xi [.int .i64 xi] (fun _ => True) (fun _ => False) (by first | (simp only [List.map_toArray, List.map_cons, List.map_nil, Act.eval, Array.getD_eq_getD_getElem?, Option.getD_some, e73, e75]; done) | (simp only [List.map_toArray, List.map_cons, List.map_nil, Act.eval, Array.getD_eq_getD_getElem?, Option.getD_some, e73, e75]; rfl)) (by first | (simp only [List.map_toArray, List.map_cons, List.map_nil, Act.eval, Array.getD_eq_getD_getElem?, Option.getD_some, e73, e75]; done) | (simp only [List.map_toArray, List.map_cons, List.map_nil, Act.eval, Array.getD_eq_getD_getElem?, Option.getD_some, e73, e75]; rfl)) rfl (fun _ hk => hk.elim) (fun _ _ => trivial) RK.out HBK.out (below_size HBK.out) HLEN.out ?_
         intro v1 w5 ho hb hg hat
         obtain ⟨A2', c2', rfl⟩ := Kd.R_slice ho
         refine hK.out _ _ ⟨g5, A2', c2', m5_, (.slice A2' (ls ++ [xi]).length c2'), (by rw [ha.out]; exact putSel_upk 4 hb_ rfl rfl rfl), hb, KeepT.grown (KeepT.refl _ _ wk) RK.out hg, blk_grown HGLK.out hg (Kd.R_ne RK.out HGLK.out (by decide)), blk_grown HBXK.out hg (Kd.R_ne RK.out HBXK.out (by decide)), fun _ => blk_grown HGK.out hg (Kd.R_ne RK.out HGK.out (by decide)), fun h0_ => absurd ((hoff 7 (by kernel_rfl)).symm.trans h0_) (by decide), fun _ => MapIs.over MK.out RK.out hg, fun h0_ => absurd ((hoff 8 (by kernel_rfl)).symm.trans h0_) (by decide), fun h0_ => absurd ((hon 5 (by kernel_rfl)).symm.trans h0_) (by decide), fun _ h1_ => absurd ((up_self b 6).symm.trans h1_) (by decide), fun _ => ho, Q_G5, Q_X5_, fun _ => rfl⟩
        refine steps_cons ?_ ?_
        ·rintro b a w' ⟨g5, A2, c2, m5_, m6_, ha, Q_HB, Q_KT, Q_HGL, Q_HBX, Q_HG0, Q_HG1, Q_M0, Q_M1, Q_W0, Q_W5, Q_R1, Q_G5, Q_X5_, Q_X6_⟩ hb_ hon hoff
         refine ⟨_, rfl, fun K hK => ?_⟩
         have e1 : a.tmps[1]? = some (.pointer (some ⟨gr, 0, none⟩)) := by rw [ha]; exact (putSel_off rfl).trans rfl
         have e76 : a.tmps[76]? = some (m6_) := by rw [ha]; exact putSel_on (e := (6, 76, m6_)) 4 rfl rfl (hon 6 (by kernel_rfl)) rfl
         rw [Q_X6_ (hon 6 (by kernel_rfl))] at e76
         replace ha := Aside0.mk ha
         have HB := Aside0.mk Q_HB
         have KT := Aside0.mk Q_KT
         have HGL := Aside0.mk Q_HGL
         have HBX := Aside0.mk Q_HBX
         have HG0 := Aside0.mk (Q_HG0 hb_)
         have M0 := Aside0.mk (Q_M0 (hoff 8 (by kernel_rfl)))
         have R1 := Aside0.mk (Q_R1 (hon 6 (by kernel_rfl)))
         have G5 := Aside0.mk (Q_G5 (hon 5 (by kernel_rfl)))
         have hz_ := blk_cell HG0.out 0
         have hf_ := blk_frozen HG0.out 0
         refine skip_ (w1 := w'.setCell ⟨gr, 0, none⟩ (.slice A2 (ls ++ [xi]).length c2)) (by rfl) rfl ?_ ?_
         ·go_simp
         refine hK.out _ _ ⟨g5, A2, c2, m5_, m6_, (by rw [ha.out]; exact putSel_none (v := undef) rfl), below_set HB.out HGE.out.1, KeepT.set KT.out HG0.out, blk_far HGL.out (p := ⟨gr, 0, none⟩) (blk_ne HGL.out HG0.out (by decide)) (.slice A2 (ls ++ [xi]).length c2), blk_far HBX.out (p := ⟨gr, 0, none⟩) (blk_ne HBX.out HG0.out (by decide)) (.slice A2 (ls ++ [xi]).length c2), fun h0_ => absurd ((up_self b 7).symm.trans h0_) (by decide), fun _ => blk_put HG0.out 0 (.slice A2 (ls ++ [xi]).length c2) rfl, fun _ => MapIs.set M0.out HG0.out, fun h0_ => absurd ((hoff 8 (by kernel_rfl)).symm.trans h0_) (by decide), fun h0_ => absurd ((hon 5 (by kernel_rfl)).symm.trans h0_) (by decide), fun _ h1_ => absurd ((hon 6 (by kernel_rfl)).symm.trans h1_) (by decide), fun _ => Kd.R_set R1.out HG0.out (by intro q hq; have hq : q ∈ [2] := hq; simp at hq; omega) 0 (.slice A2 (ls ++ [xi]).length c2), Q_G5, Q_X5_, Q_X6_⟩
        refine steps_cons ?_ ?_
        ·rintro b a w' ⟨g5, A2, c2, m5_, m6_, ha, Q_HB, Q_KT, Q_HGL, Q_HBX, Q_HG0, Q_HG1, Q_M0, Q_M1, Q_W0, Q_W5, Q_R1, Q_G5, Q_X5_, Q_X6_⟩ hb_ hon hoff
         refine ⟨_, rfl, fun K hK => ?_⟩
         have e70 : a.tmps[70]? = some (.map (some bm)) := by rw [ha]; exact putSel_on (e := (0, 70, .map (some bm))) 0 rfl rfl (hon 0 (by kernel_rfl)) rfl
         have e72 : a.tmps[72]? = some (.int .i64 f0) := by rw [ha]; exact putSel_on (e := (2, 72, .int .i64 f0)) 1 rfl rfl (hon 2 (by kernel_rfl)) rfl
         replace ha := Aside0.mk ha
         have HB := Aside0.mk Q_HB
         have KT := Aside0.mk Q_KT
         have HGL := Aside0.mk Q_HGL
         have HBX := Aside0.mk Q_HBX
         have HG1 := Aside0.mk (Q_HG1 (hon 7 (by kernel_rfl)))
         have M0 := Aside0.mk (Q_M0 hb_)
         have R1 := Aside0.mk (Q_R1 (hon 6 (by kernel_rfl)))
         have G5 := Aside0.mk (Q_G5 (hon 5 (by kernel_rfl)))
         obtain ⟨w9, hr9, hm9, hg9⟩ := M0.out.put HN.out f0 HF0.out true
         obtain ⟨es9, cl9, hb9⟩ := M0.out.block
         refine skip_ (w1 := w9) (by rfl) rfl ?_ ?_
         ·first | (go_simp; done) | (go_simp; rfl)
         refine hK.out _ _ ⟨g5, A2, c2, m5_, m6_, (by rw [ha.out]; exact putSel_none (v := undef) rfl), Below.grown HB.out hg9 (below_size HB.out) (fun j hj => by cases hj; exact HGE.out.2), KeepT.map KT.out hb9 hg9, blk_grown HGL.out hg9 (M0.out.ne HGL.out), blk_grown HBX.out hg9 (M0.out.ne HBX.out), fun h0_ => absurd ((hon 7 (by kernel_rfl)).symm.trans h0_) (by decide), fun _ => blk_grown HG1.out hg9 (M0.out.ne HG1.out), fun h0_ => absurd ((up_self b 8).symm.trans h0_) (by decide), fun _ => hm9, fun h0_ => absurd ((hon 5 (by kernel_rfl)).symm.trans h0_) (by decide), fun _ h1_ => absurd ((hon 6 (by kernel_rfl)).symm.trans h1_) (by decide), fun _ => M0.out.row R1.out hg9, Q_G5, Q_X5_, Q_X6_⟩
        exact steps_nil
       rintro b a w2 hall ⟨g5, A2, c2, m5_, m6_, ha, Q_HB, Q_KT, Q_HGL, Q_HBX, Q_HG0, Q_HG1, Q_M0, Q_M1, Q_W0, Q_W5, Q_R1, Q_G5, Q_X5_, Q_X6_⟩
       clear HB HBX HG0 HGL KT M0 W0
       have hb0_ := hall 0 (by kernel_rfl)
       have hb2_ := hall 2 (by kernel_rfl)
       have hb3_ := hall 3 (by kernel_rfl)
       have hb5_ := hall 5 (by kernel_rfl)
       have hb6_ := hall 6 (by kernel_rfl)
       have hb7_ := hall 7 (by kernel_rfl)
       have hb8_ := hall 8 (by kernel_rfl)
       subst ha
       obtain rfl := Q_X5_ hb5_
       obtain rfl := Q_X6_ hb6_
       simp only [putSel, hb0_, hb2_, hb3_, hb5_, hb6_, hb7_, hb8_, if_true, Act.put, List.setIfInBounds_toArray, List.set_cons_zero, List.set_cons_succ]
       have HB := Aside0.mk Q_HB
       clear Q_HB
       have KT := Aside0.mk Q_KT
       clear Q_KT
       have HGL := Aside0.mk Q_HGL
       clear Q_HGL
       have HBX := Aside0.mk Q_HBX
       clear Q_HBX
       clear Q_HG0
       have HG1 := Aside0.mk (Q_HG1 hb7_)
       clear Q_HG1
       clear Q_M0
       have M1 := Aside0.mk (Q_M1 hb8_)
       clear Q_M1
       clear Q_W0
       clear Q_W5
       have R1 := Aside0.mk (Q_R1 hb6_)
       clear Q_R1
       have G5 := Aside0.mk (Q_G5 hb5_)
       clear Q_G5
       clear hall hb0_ hb2_ hb3_ hb5_ hb6_ hb7_ hb8_
       have HGM2 : Aside0 (w2.heap[gm]? = some (.cells #[.int .i64 (mn : Int)] 3 (0, 0))) := ⟨KT.out _ _ _ HGM1.out (by decide) (by decide)⟩; have HGD2 : Aside0 (w2.heap[gd]? = some (.cells #[.int .i64 ev, .slice (some ac) l.length c] 31 (0, 0))) := ⟨KT.out _ _ _ HGD1.out (by decide) (by decide)⟩; have HGE2 : Aside0 (w2.heap[ge]? = some (.cells #[.func (.func 37) #[] #[.pointer (some ⟨gr, 0, none⟩), .pointer (some ⟨gm, 0, none⟩), .pointer (some ⟨gd, 0, none⟩), .pointer (some ⟨gl, 0, none⟩), .pointer (some ⟨ge, 0, none⟩)]] 65 (0, 0))) := ⟨KT.out _ _ _ HGE1.out (by decide) (by decide)⟩; have KT2 : Aside0 (KeepT 2 26 w w2) := ⟨KT1.out.then_ KT.out⟩
       clear HGM1 HGD1 HGE1 KT1 KT RK
       have M2 : Aside0 (MapIs w2 bm (n1 + 1) (usedIn l (ls ++ [xi]))) := ⟨M1.out.tells (Nat.le_refl _) (fun x _ => (Classical.em (x = f0)).elim (fun e => by rw [usedIn_snoc, ← HFX.out, if_pos e, e]; simp) (fun e => by rw [usedIn_snoc, ← HFX.out, if_neg e, beq_eq_false_iff_ne.mpr (Ne.symm e), Bool.or_false]))⟩
       clear M1
       have HLS2 : Aside0 (∀ j : Int, 0 ≤ j → j < ((ls ++ [xi]).length : Int) → 0 ≤ rd (ls ++ [xi]) j ∧ rd (ls ++ [xi]) j < (l.length : Int)) := ⟨fun j h0 h1 => by
         by_cases hj : j < (ls.length : Int)
         ·have e : rd (ls ++ [xi]) j = rd ls j := by unfold rd; rw [List.getD_eq_getElem?_getD, List.getD_eq_getElem?_getD, List.getElem?_append_left (by omega)]
          rw [e]; exact HLS.out j h0 hj
         ·have e1 : j = ((ls ++ [xi]).length : Int) - 1 := by simp at h1 ⊢; omega
          rw [e1, rd_snoc]; exact HXB.out⟩
       have m0 := blk_cell HGE2.out 0
       have m1 := blk_cell HBX.out 2
       cases q' with
       | some xs =>
        dsimp only at HQ2
        go_wp2_with (go_at_call 37; refine (IH.out (ls ++ [xi]) (wrap64 (sum + f2)) (n1 + 1) _ _ _ true xs (by have := HLT1.out; simp; omega) HLS2.out (by have h1 := HI.out; have h2 := HNU.out; have h3 : searchU (r + 1) = 24 * (searchU r + 2) := rfl; have h4 : i * (searchU r + 2) + (searchU r + 2) ≤ 24 * (searchU r + 2) := (by rw [← Nat.succ_mul]; exact Nat.mul_le_mul_right _ (Nat.le_trans HLT.out HL.out)); omega) HB.out HG1.out R1.out HGM2.out HGD2.out HGL.out HGE2.out M2.out HQ1.out rfl rfl).mono ?_; rintro e w3 ⟨rfl, hb3, hk3, ⟨v3, hg3, hr3⟩, hm3⟩; have HB3 := Aside0.mk hb3; have KT3 := Aside0.mk (KT2.out.then_ hk3); have HG3 := Aside0.mk hg3; have HR3 := Aside0.mk hr3; have HM3 := Aside0.mk hm3; have HGM3 := Aside0.mk (hk3 _ _ _ HGM2.out (by decide) (by decide)); have HGD3 := Aside0.mk (hk3 _ _ _ HGD2.out (by decide) (by decide)); have HGL3 := Aside0.mk (hk3 _ _ _ HGL.out (by decide) (by decide)); have HGE3 := Aside0.mk (hk3 _ _ _ HGE2.out (by decide) (by decide)); have HBX3 := Aside0.mk (hk3 _ _ _ HBX.out (by decide) (by decide)); clear hb3 hk3 hg3 hr3 hm3 m0 m1)
        go_ret
        obtain rfl := Option.some.inj HQ2.out
        have hb := HBB.out
        have hx := HX.out
        dsimp only [Option.isSome, Option.getD] at hb hx
        subst hb
        subst hx
        exact ⟨rfl, HB3.out, KT3.out, ⟨_, HG3.out, HR3.out⟩, fun h => by cases h⟩
       | none =>
        dsimp only at HQ2
        go_wp2_with (go_at_call 37; refine (IH.out (ls ++ [xi]) (wrap64 (sum + f2)) (n1 + 1) _ _ _ false (ls ++ [xi]) (by have := HLT1.out; simp; omega) HLS2.out (by have h1 := HI.out; have h2 := HNU.out; have h3 : searchU (r + 1) = 24 * (searchU r + 2) := rfl; have h4 : i * (searchU r + 2) + (searchU r + 2) ≤ 24 * (searchU r + 2) := (by rw [← Nat.succ_mul]; exact Nat.mul_le_mul_right _ (Nat.le_trans HLT.out HL.out)); omega) HB.out HG1.out R1.out HGM2.out HGD2.out HGL.out HGE2.out M2.out HQ1.out rfl rfl).mono ?_; rintro e w3 ⟨rfl, hb3, hk3, ⟨v3, hg3, hr3⟩, hm3⟩; have HB3 := Aside0.mk hb3; have KT3 := Aside0.mk (KT2.out.then_ hk3); have HG3 := Aside0.mk hg3; have HR3 := Aside0.mk hr3; have HM3 := Aside0.mk hm3; have HGM3 := Aside0.mk (hk3 _ _ _ HGM2.out (by decide) (by decide)); have HGD3 := Aside0.mk (hk3 _ _ _ HGD2.out (by decide) (by decide)); have HGL3 := Aside0.mk (hk3 _ _ _ HGL.out (by decide) (by decide)); have HGE3 := Aside0.mk (hk3 _ _ _ HGE2.out (by decide) (by decide)); have HBX3 := Aside0.mk (hk3 _ _ _ HBX.out (by decide) (by decide)); clear hb3 hk3 hg3 hr3 hm3 m0 m1)
        clear HB HG1 R1 HGM2 HGD2 HGE2 KT2 M2 HGL HBX
        obtain ⟨A3, c3, rfl⟩ := Kd.R_slice HR3.out
        obtain ⟨n2, hn2, hm2⟩ := HM3.out (by simp)
        have HN2 := Aside0.mk hn2
        have hla := HLA.out
        have hl10 := HLEN0.out
        have HSUM : Aside0 (IntKind.i64.wrap (la + 1) = la + 1) := ⟨by rw [i64_w]; unfold wrap64; omega⟩
        have HCUT : Aside0 (0 ≤ la + 1 ∧ la + 1 ≤ (c3 : Int) ∧ (la + 1).toNat = ls.length) := ⟨by have h := (Kd.R_reads' HR3.out).2.1; simp at h; omega⟩
        have hr1 := Kd.R_take (m := ls.length) HR3.out (by simp)
        rw [List.take_left' rfl] at hr1
        have HB := Aside0.mk (below_drew1 HB3.out); have HG0 := Aside0.mk (blk_drew HG3.out); have R1 := Aside0.mk (Kd.R_drew hr1); have HGL := Aside0.mk (blk_drew HGL3.out); have HBX := Aside0.mk (blk_drew HBX3.out); have M0 := Aside0.mk (hm2.below (below_drew1 (Below.refl _ _)))
        have HGM1 : Aside0 (w3.drew.heap[gm]? = some (.cells #[.int .i64 (mn : Int)] 3 (0, 0))) := ⟨blk_drew HGM3.out⟩; have HGD1 : Aside0 (w3.drew.heap[gd]? = some (.cells #[.int .i64 ev, .slice (some ac) l.length c] 31 (0, 0))) := ⟨blk_drew HGD3.out⟩; have HGE1 : Aside0 (w3.drew.heap[ge]? = some (.cells #[.func (.func 37) #[] #[.pointer (some ⟨gr, 0, none⟩), .pointer (some ⟨gm, 0, none⟩), .pointer (some ⟨gd, 0, none⟩), .pointer (some ⟨gl, 0, none⟩), .pointer (some ⟨ge, 0, none⟩)]] 65 (0, 0))) := ⟨blk_drew HGE3.out⟩; have KT1 : Aside0 (KeepT 2 26 w w3.drew) := ⟨KT3.out.below (below_drew1 (Below.refl _ _))⟩
        replace HN : Aside0 (n2 < 9223372036854775807) := ⟨by have h1 := HI.out; have h2 := HNU.out; have h3 : searchU (r + 1) = 24 * (searchU r + 2) := rfl; have h4 : i * (searchU r + 2) + (searchU r + 2) ≤ 24 * (searchU r + 2) := (by rw [← Nat.succ_mul]; exact Nat.mul_le_mul_right _ (Nat.le_trans HLT.out HL.out)); have h5 := HN2.out; omega⟩
        clear hn2 hm2 hr1 hla hl10 HB3 HG3 HR3 HM3 HGM3 HGD3 HGL3 HGE3 HBX3 KT3
        refine start_ (n := 9) (S := fun w' => True) (ds := []) #[false, false, false, false, false, false, false, false, false] (by kernel_rfl) rfl rfl trivial (fun hHeld => ?_)
        refine with_tabW ringGo.tab11 ringGo.bits11 (fun HT_ HW_ => ?_)
        generalize w3.drew = wk at HB HGL HBX HG0 M0 R1 HGM1 HGD1 HGE1 KT1 hHeld ⊢
        have KT := trivial
        refine pure_ (i := 1) (N := some 84) (v := ?_) (a' := ?_) #[false, true, false, false, false, false, false, false, false] rfl rfl (any_of HT_.out (by kernel_rfl)) (fun _ _ _ h => h) (Or.inl ⟨by rfl, ?_⟩) ?_ ?_
        rotate_left
        ·intro w'
         go_simp
         with_reducible rfl
        rotate_left
        ·simp only [Act.put, List.setIfInBounds_toArray, List.set_cons_zero, List.set_cons_succ, i64_w, i32_w]
         rfl
        refine pure_ (i := 4) (N := some 87) (v := ?_) (a' := ?_) #[false, true, false, false, true, false, false, false, false] rfl rfl (any_of HT_.out (by kernel_rfl)) (fun _ _ _ h => h) (Or.inl ⟨by rfl, ?_⟩) ?_ ?_
        rotate_left
        ·intro w'
         go_simp
         with_reducible rfl
        rotate_left
        ·simp only [Act.put, List.setIfInBounds_toArray, List.set_cons_zero, List.set_cons_succ, i64_w, i32_w]
         rfl
        refine inv_at [0, 2, 3, 5, 6, 7, 8] (fun a0_ b a w' => a = putSel a0_ b [(0, 83, .map (some bm)), (2, 85, .int .i64 f0), (3, 86, .slice A3 (ls ++ [xi]).length c3), (5, 88, .int .i64 (la + 1)), (6, 89, .slice A3 ls.length c3)] ∧ (Below w0.heap.size w0 w') ∧ (KeepT 2 26 wk w') ∧ (w'.heap[gl]? = some (.cells #[.map (some bm)] 64 (0, 0))) ∧ (w'.heap[gb]? = some (.cells #[.int .i64 f0, .int .i64 f1, .int .i64 f2] 53 (0, 0))) ∧ (b 7 = false → w'.heap[gr]? = some (.cells #[.slice A3 (ls ++ [xi]).length c3] 26 (0, 0))) ∧ (b 7 = true → w'.heap[gr]? = some (.cells #[.slice A3 ls.length c3] 26 (0, 0))) ∧ (b 8 = false → MapIs w' bm n2 (usedIn l (ls ++ [xi]))) ∧ (b 8 = true → MapIs w' bm (n2 + 1) (fun y => if y = f0 then false else usedIn l (ls ++ [xi]) y)) ∧ (Kd.R (Kd.int .i64) 2 w' w0.heap.size (fun _ => True) (.slice A3 ls.length c3) ls)) HT_.out HW_.out (by kernel_rfl) (by kernel_rfl) ?_ ?_ ?_
        ·exact ⟨by simp only [putSel, Bool.false_eq_true, if_false], HB.out, KeepT.refl _ _ _, HGL.out, HBX.out, fun _ => HG0.out, fun h_ => absurd h_ (by decide), fun _ => M0.out, fun h_ => absurd h_ (by decide), R1.out⟩
        ·skip
         clear HB HBX HG0 HGL KT M0 R1
         refine steps_cons ?_ ?_
         ·rintro b a w' ⟨ha, Q_HB, Q_KT, Q_HGL, Q_HBX, Q_HG0, Q_HG1, Q_M0, Q_M1, Q_R1⟩ hb_ hon hoff
          refine ⟨_, rfl, fun K hK => ?_⟩
          have e4 : a.tmps[4]? = some (.pointer (some ⟨gl, 0, none⟩)) := by rw [ha]; exact (putSel_off rfl).trans rfl
          replace ha := Aside0.mk ha
          have HB := Aside0.mk Q_HB
          have KT := Aside0.mk Q_KT
          have HGL := Aside0.mk Q_HGL
          have HBX := Aside0.mk Q_HBX
          have M0 := Aside0.mk (Q_M0 (hoff 8 (by kernel_rfl)))
          have R1 := Aside0.mk Q_R1
          have hcgl0_ : w'.cell? ⟨gl, 0, none⟩ = some (.map (some bm)) := (blk_cell HGL.out 0).trans rfl
          refine value_ (w1 := w') (v := .map (some bm)) (by rfl) rfl ?_ ?_
          ·go_simp
           (try simp only [i64_w])
           try rfl
          refine hK.out _ _ ⟨(by rw [ha.out]; exact putSel_upk 0 hb_ rfl rfl rfl), Q_HB, Q_KT, Q_HGL, Q_HBX, Q_HG0, Q_HG1, Q_M0, fun h0_ => absurd ((hoff 8 (by kernel_rfl)).symm.trans h0_) (by decide), Q_R1⟩
         refine steps_cons ?_ ?_
         ·rintro b a w' ⟨ha, Q_HB, Q_KT, Q_HGL, Q_HBX, Q_HG0, Q_HG1, Q_M0, Q_M1, Q_R1⟩ hb_ hon hoff
          refine ⟨_, rfl, fun K hK => ?_⟩
          have e84 : a.tmps[84]? = some (.pointer (some ⟨gb, 0, none⟩)) := by rw [ha]; exact (putSel_off rfl).trans rfl
          replace ha := Aside0.mk ha
          have HB := Aside0.mk Q_HB
          have KT := Aside0.mk Q_KT
          have HGL := Aside0.mk Q_HGL
          have HBX := Aside0.mk Q_HBX
          have M0 := Aside0.mk (Q_M0 (hoff 8 (by kernel_rfl)))
          have R1 := Aside0.mk Q_R1
          have hcgb0_ : w'.cell? ⟨gb, 0, none⟩ = some (.int .i64 f0) := (blk_cell HBX.out 0).trans rfl
          refine value_ (w1 := w') (v := .int .i64 f0) (by rfl) rfl ?_ ?_
          ·go_simp
           (try simp only [i64_w])
           try rfl
          refine hK.out _ _ ⟨(by rw [ha.out]; exact putSel_upk 1 hb_ rfl rfl rfl), Q_HB, Q_KT, Q_HGL, Q_HBX, Q_HG0, Q_HG1, Q_M0, fun h0_ => absurd ((hoff 8 (by kernel_rfl)).symm.trans h0_) (by decide), Q_R1⟩
         refine steps_cons ?_ ?_
         ·rintro b a w' ⟨ha, Q_HB, Q_KT, Q_HGL, Q_HBX, Q_HG0, Q_HG1, Q_M0, Q_M1, Q_R1⟩ hb_ hon hoff
          refine ⟨_, rfl, fun K hK => ?_⟩
          have e1 : a.tmps[1]? = some (.pointer (some ⟨gr, 0, none⟩)) := by rw [ha]; exact (putSel_off rfl).trans rfl
          replace ha := Aside0.mk ha
          have HB := Aside0.mk Q_HB
          have KT := Aside0.mk Q_KT
          have HGL := Aside0.mk Q_HGL
          have HBX := Aside0.mk Q_HBX
          have HG0 := Aside0.mk (Q_HG0 (hoff 7 (by kernel_rfl)))
          have M0 := Aside0.mk (Q_M0 (hoff 8 (by kernel_rfl)))
          have R1 := Aside0.mk Q_R1
          have hcgr0_ : w'.cell? ⟨gr, 0, none⟩ = some (.slice A3 (ls ++ [xi]).length c3) := (blk_cell HG0.out 0).trans rfl
          refine value_ (w1 := w') (v := .slice A3 (ls ++ [xi]).length c3) (by rfl) rfl ?_ ?_
          ·go_simp
           (try simp only [i64_w])
           try rfl
          refine hK.out _ _ ⟨(by rw [ha.out]; exact putSel_upk 2 hb_ rfl rfl rfl), Q_HB, Q_KT, Q_HGL, Q_HBX, Q_HG0, fun h0_ => absurd ((hoff 7 (by kernel_rfl)).symm.trans h0_) (by decide), Q_M0, fun h0_ => absurd ((hoff 8 (by kernel_rfl)).symm.trans h0_) (by decide), Q_R1⟩
         refine steps_cons ?_ ?_
         ·rintro b a w' ⟨ha, Q_HB, Q_KT, Q_HGL, Q_HBX, Q_HG0, Q_HG1, Q_M0, Q_M1, Q_R1⟩ hb_ hon hoff
          refine ⟨_, rfl, fun K hK => ?_⟩
          have e87 : a.tmps[87]? = some (.int .i64 la) := by rw [ha]; exact (putSel_off rfl).trans rfl
          replace ha := Aside0.mk ha
          have HB := Aside0.mk Q_HB
          have KT := Aside0.mk Q_KT
          have HGL := Aside0.mk Q_HGL
          have HBX := Aside0.mk Q_HBX
          have HG0 := Aside0.mk (Q_HG0 (hoff 7 (by kernel_rfl)))
          have M0 := Aside0.mk (Q_M0 (hoff 8 (by kernel_rfl)))
          have R1 := Aside0.mk Q_R1
          have hs_ := HSUM.out
          refine value_ (w1 := w') (v := .int .i64 (la + 1)) (by rfl) rfl ?_ ?_
          ·go_simp
           (try simp only [i64_w])
           try rfl
          refine hK.out _ _ ⟨(by rw [ha.out]; exact putSel_upk 3 hb_ rfl rfl rfl), Q_HB, Q_KT, Q_HGL, Q_HBX, Q_HG0, fun h0_ => absurd ((hoff 7 (by kernel_rfl)).symm.trans h0_) (by decide), Q_M0, fun h0_ => absurd ((hoff 8 (by kernel_rfl)).symm.trans h0_) (by decide), Q_R1⟩
         refine steps_cons ?_ ?_
         ·rintro b a w' ⟨ha, Q_HB, Q_KT, Q_HGL, Q_HBX, Q_HG0, Q_HG1, Q_M0, Q_M1, Q_R1⟩ hb_ hon hoff
          refine ⟨_, rfl, fun K hK => ?_⟩
          have e86 : a.tmps[86]? = some (.slice A3 (ls ++ [xi]).length c3) := by rw [ha]; exact putSel_on (e := (3, 86, .slice A3 (ls ++ [xi]).length c3)) 2 rfl rfl (hon 3 (by kernel_rfl)) rfl
          have e88 : a.tmps[88]? = some (.int .i64 (la + 1)) := by rw [ha]; exact putSel_on (e := (5, 88, .int .i64 (la + 1))) 3 rfl rfl (hon 5 (by kernel_rfl)) rfl
          replace ha := Aside0.mk ha
          have HB := Aside0.mk Q_HB
          have KT := Aside0.mk Q_KT
          have HGL := Aside0.mk Q_HGL
          have HBX := Aside0.mk Q_HBX
          have HG0 := Aside0.mk (Q_HG0 (hoff 7 (by kernel_rfl)))
          have M0 := Aside0.mk (Q_M0 (hoff 8 (by kernel_rfl)))
          have R1 := Aside0.mk Q_R1
          have hs1_ := eq_true HCUT.out.1
          have hs2_ := eq_true HCUT.out.2.1
          have hs3_ := HCUT.out.2.2
          have hs4_ := HCUT.out.1
          have hs5_ := HCUT.out.2.1
          refine value_ (w1 := w') (v := .slice A3 ls.length c3) (by rfl) rfl ?_ ?_
          ·go_simp
           (try simp only [i64_w])
           try rfl
          refine hK.out _ _ ⟨(by rw [ha.out]; exact putSel_upk 4 hb_ rfl rfl rfl), Q_HB, Q_KT, Q_HGL, Q_HBX, Q_HG0, fun h0_ => absurd ((hoff 7 (by kernel_rfl)).symm.trans h0_) (by decide), Q_M0, fun h0_ => absurd ((hoff 8 (by kernel_rfl)).symm.trans h0_) (by decide), Q_R1⟩
         refine steps_cons ?_ ?_
         ·rintro b a w' ⟨ha, Q_HB, Q_KT, Q_HGL, Q_HBX, Q_HG0, Q_HG1, Q_M0, Q_M1, Q_R1⟩ hb_ hon hoff
          refine ⟨_, rfl, fun K hK => ?_⟩
          have e1 : a.tmps[1]? = some (.pointer (some ⟨gr, 0, none⟩)) := by rw [ha]; exact (putSel_off rfl).trans rfl
          have e89 : a.tmps[89]? = some (.slice A3 ls.length c3) := by rw [ha]; exact putSel_on (e := (6, 89, .slice A3 ls.length c3)) 4 rfl rfl (hon 6 (by kernel_rfl)) rfl
          replace ha := Aside0.mk ha
          have HB := Aside0.mk Q_HB
          have KT := Aside0.mk Q_KT
          have HGL := Aside0.mk Q_HGL
          have HBX := Aside0.mk Q_HBX
          have HG0 := Aside0.mk (Q_HG0 hb_)
          have M0 := Aside0.mk (Q_M0 (hoff 8 (by kernel_rfl)))
          have R1 := Aside0.mk Q_R1
          have hz_ := blk_cell HG0.out 0
          have hf_ := blk_frozen HG0.out 0
          refine skip_ (w1 := w'.setCell ⟨gr, 0, none⟩ (.slice A3 ls.length c3)) (by rfl) rfl ?_ ?_
          ·go_simp
          refine hK.out _ _ ⟨(by rw [ha.out]; exact putSel_none (v := undef) rfl), below_set HB.out HGE.out.1, KeepT.set KT.out HG0.out, blk_far HGL.out (p := ⟨gr, 0, none⟩) (blk_ne HGL.out HG0.out (by decide)) (.slice A3 ls.length c3), blk_far HBX.out (p := ⟨gr, 0, none⟩) (blk_ne HBX.out HG0.out (by decide)) (.slice A3 ls.length c3), fun h0_ => absurd ((up_self b 7).symm.trans h0_) (by decide), fun _ => blk_put HG0.out 0 (.slice A3 ls.length c3) rfl, fun _ => MapIs.set M0.out HG0.out, fun h0_ => absurd ((hoff 8 (by kernel_rfl)).symm.trans h0_) (by decide), Kd.R_set R1.out HG0.out (by intro q hq; have hq : q ∈ [2] := hq; simp at hq; omega) 0 (.slice A3 ls.length c3)⟩
         refine steps_cons ?_ ?_
         ·rintro b a w' ⟨ha, Q_HB, Q_KT, Q_HGL, Q_HBX, Q_HG0, Q_HG1, Q_M0, Q_M1, Q_R1⟩ hb_ hon hoff
          refine ⟨_, rfl, fun K hK => ?_⟩
          have e83 : a.tmps[83]? = some (.map (some bm)) := by rw [ha]; exact putSel_on (e := (0, 83, .map (some bm))) 0 rfl rfl (hon 0 (by kernel_rfl)) rfl
          have e85 : a.tmps[85]? = some (.int .i64 f0) := by rw [ha]; exact putSel_on (e := (2, 85, .int .i64 f0)) 1 rfl rfl (hon 2 (by kernel_rfl)) rfl
          replace ha := Aside0.mk ha
          have HB := Aside0.mk Q_HB
          have KT := Aside0.mk Q_KT
          have HGL := Aside0.mk Q_HGL
          have HBX := Aside0.mk Q_HBX
          have HG1 := Aside0.mk (Q_HG1 (hon 7 (by kernel_rfl)))
          have M0 := Aside0.mk (Q_M0 hb_)
          have R1 := Aside0.mk Q_R1
          obtain ⟨w9, hr9, hm9, hg9⟩ := M0.out.put HN.out f0 HF0.out false
          obtain ⟨es9, cl9, hb9⟩ := M0.out.block
          refine skip_ (w1 := w9) (by rfl) rfl ?_ ?_
          ·first | (go_simp; done) | (go_simp; rfl)
          refine hK.out _ _ ⟨(by rw [ha.out]; exact putSel_none (v := undef) rfl), Below.grown HB.out hg9 (below_size HB.out) (fun j hj => by cases hj; exact HGE.out.2), KeepT.map KT.out hb9 hg9, blk_grown HGL.out hg9 (M0.out.ne HGL.out), blk_grown HBX.out hg9 (M0.out.ne HBX.out), fun h0_ => absurd ((hon 7 (by kernel_rfl)).symm.trans h0_) (by decide), fun _ => blk_grown HG1.out hg9 (M0.out.ne HG1.out), fun h0_ => absurd ((up_self b 8).symm.trans h0_) (by decide), fun _ => hm9, M0.out.row R1.out hg9⟩
         exact steps_nil
        rintro b a w4 hall ⟨ha, Q_HB, Q_KT, Q_HGL, Q_HBX, Q_HG0, Q_HG1, Q_M0, Q_M1, Q_R1⟩
        clear HB HBX HG0 HGL KT M0 R1
        have hb0_ := hall 0 (by kernel_rfl)
        have hb2_ := hall 2 (by kernel_rfl)
        have hb3_ := hall 3 (by kernel_rfl)
        have hb5_ := hall 5 (by kernel_rfl)
        have hb6_ := hall 6 (by kernel_rfl)
        have hb7_ := hall 7 (by kernel_rfl)
        have hb8_ := hall 8 (by kernel_rfl)
        subst ha
        simp only [putSel, hb0_, hb2_, hb3_, hb5_, hb6_, hb7_, hb8_, if_true, Act.put, List.setIfInBounds_toArray, List.set_cons_zero, List.set_cons_succ]
        have HB := Aside0.mk Q_HB
        clear Q_HB
        have KT := Aside0.mk Q_KT
        clear Q_KT
        have HGL := Aside0.mk Q_HGL
        clear Q_HGL
        have HBX := Aside0.mk Q_HBX
        clear Q_HBX
        clear Q_HG0
        have HG1 := Aside0.mk (Q_HG1 hb7_)
        clear Q_HG1
        clear Q_M0
        have M1 := Aside0.mk (Q_M1 hb8_)
        clear Q_M1
        have R1 := Aside0.mk Q_R1
        clear Q_R1
        clear hall hb0_ hb2_ hb3_ hb5_ hb6_ hb7_ hb8_
        have HGM2 : Aside0 (w4.heap[gm]? = some (.cells #[.int .i64 (mn : Int)] 3 (0, 0))) := ⟨KT.out _ _ _ HGM1.out (by decide) (by decide)⟩; have HGD2 : Aside0 (w4.heap[gd]? = some (.cells #[.int .i64 ev, .slice (some ac) l.length c] 31 (0, 0))) := ⟨KT.out _ _ _ HGD1.out (by decide) (by decide)⟩; have HGE2 : Aside0 (w4.heap[ge]? = some (.cells #[.func (.func 37) #[] #[.pointer (some ⟨gr, 0, none⟩), .pointer (some ⟨gm, 0, none⟩), .pointer (some ⟨gd, 0, none⟩), .pointer (some ⟨gl, 0, none⟩), .pointer (some ⟨ge, 0, none⟩)]] 65 (0, 0))) := ⟨KT.out _ _ _ HGE1.out (by decide) (by decide)⟩; have KT2 : Aside0 (KeepT 2 26 w w4) := ⟨KT1.out.then_ KT.out⟩
        clear HGM1 HGD1 HGE1 KT1 KT
        have M2 : Aside0 (MapIs w4 bm (n2 + 1) (usedIn l ls)) := ⟨M1.out.tells (Nat.le_refl _) (fun x _ => (Classical.em (x = f0)).elim (fun e => by rw [if_pos e, e, HU.out]) (fun e => by rw [if_neg e, usedIn_snoc, ← HFX.out, beq_eq_false_iff_ne.mpr (Ne.symm e), Bool.or_false]))⟩
        clear M1
        go_wp2
        have hxi := HXI.out
        have hd := HD.out
        have hi := HI.out
        have hsu : (i + 1) * (searchU r + 2) = i * (searchU r + 2) + (searchU r + 2) := Nat.succ_mul _ _
        have hn2 := HN2.out
        have hlen : l.length ≤ 24 := HL.out
        go_roundg (l.length - i)
        case measure => omega
        case rel => exact ⟨i + 1, n2 + 1, _, by first | (rw [show wrap64 (xi + 1) = ((i + 1 : Nat) : Int) from by unfold wrap64; omega]) | (rw [i64_w, show wrap64 (xi + 1) = ((i + 1 : Nat) : Int) from by unfold wrap64; omega]) | (rw [show xi + 1 = ((i + 1 : Nat) : Int) from by omega]), ⟨by omega⟩, HB, KT2, HG1, R1, HGM2, HGD2, HGL, HGE2, M2, ⟨by rw [show l.length - (i + 1) = d by omega]; exact HQ2.out⟩⟩
      have hpos : 0 < ls.length := List.length_pos_iff.2 hla0
      have h0 : (0 : Int) ≤ la := by have h := HLA.out; omega
      have h1 : la < (ls.length : Int) := by have h := HLA.out; omega
      have g1 : decide (la ≥ 0) = true := decide_eq_true h0
      have g2 : decide (0 ≤ la) = true := g1
      obtain ⟨ad, ea, k1⟩ := Kd.at_int (Kd.R_reads' HR.out).2.2 la h0 h1
      cases ea
      obtain ⟨hj0, hj1⟩ := HLS.out la h0 h1
      obtain ⟨zj, hzj⟩ : ∃ z, rd ls la = z := ⟨_, rfl⟩
      rw [hzj] at k1 hj0 hj1
      have hCl := Kd.C_below HCL.out HB.out
      obtain ⟨ac', ea, b0, b1, b2⟩ := at_T53 hCl zj hj0 hj1
      obtain rfl : ac = ac' := by injection ea
      clear hCl ea
      have hen : endOf l ls = (rd_T53 l zj).f1 := by unfold endOf; rw [HLA.out, hzj]
      have hem : ls.isEmpty = false := by rw [Bool.eq_false_iff]; intro h; exact hla0 (List.isEmpty_iff.1 h)
      rw [hen, hem] at HSK
      generalize (rd_T53 l zj).f1 = z1 at b1 HSK
      clear hen hem hzj hpos hla0
      have p0 := eq_true h0; have p1 := eq_true h1; have p2 := eq_true hj0; have p3 := eq_true hj1
      have q0 := decide_eq_true h0; have q1 := decide_eq_true h1; have q2 := decide_eq_true hj0; have q3 := decide_eq_true hj1
      have hl10 := HLEN0.out
      cases hz : (z1 != f0) with
      | true =>
       have HSKT : Aside0 (skipB l ls xi = true) := ⟨by rw [HSK.out, hz]; rfl⟩
       clear HSK
       go_quiet (fail)
       clear b0 b1 b2 k1 p0 p1 p2 p3 q0 q1 q2 q3 g1 g2 h0 h1 hj0 hj1 hl10 hz
       have hb := pw_below_drewN (Below.refl w1.heap.size w1) nq; replace KT0 := Aside0.mk (KT0.out.below hb); replace HB := Aside0.mk (below_step HB.out hb); replace HG0 := Aside0.mk (blk_below HG0.out hb); replace HR := Aside0.mk (Kd.R_below HR.out hb); replace HGM := Aside0.mk (blk_below HGM.out hb); replace HGD := Aside0.mk (blk_below HGD.out hb); replace HGL := Aside0.mk (blk_below HGL.out hb); replace HGEE := Aside0.mk (blk_below HGEE.out hb); replace HBX := Aside0.mk (blk_below HBX.out hb); replace M0 := Aside0.mk (M0.out.below hb); clear hb hlk m0 m1 m2 m3; generalize w1.drewN nq = w1 at KT0 HB HG0 HR HGM HGD HGL HGEE HBX M0 ⊢
       have hq := HHQ.out
       rw [HSKT.out, if_pos rfl] at hq
       have HQ2 := Aside0.mk hq
       clear hq HHQ HSKT
       go_wp2
       have hxi := HXI.out
       have hd := HD.out
       have hi := HI.out
       have hsu : (i + 1) * (searchU r + 2) = i * (searchU r + 2) + (searchU r + 2) := Nat.succ_mul _ _
       have hlen : l.length ≤ 24 := HL.out
       go_roundg (l.length - i)
       case measure => omega
       case rel => exact ⟨i + 1, n1, _, by first | (rw [show wrap64 (xi + 1) = ((i + 1 : Nat) : Int) from by unfold wrap64; omega]) | (rw [i64_w, show wrap64 (xi + 1) = ((i + 1 : Nat) : Int) from by unfold wrap64; omega]) | (rw [show xi + 1 = ((i + 1 : Nat) : Int) from by omega]), ⟨by omega⟩, HB, KT0, HG0, HR, HGM, HGD, HGL, HGEE, M0, ⟨by rw [show l.length - (i + 1) = d by omega]; exact HQ2.out⟩⟩
      | false =>
       have HSKT : Aside0 (skipB l ls xi = false) := ⟨by rw [HSK.out, hz]; rfl⟩
       clear HSK
       go_quiet (fail)
       clear b0 b1 b2 k1 p0 p1 p2 p3 q0 q1 q2 q3 g1 g2 h0 h1 hj0 hj1 hl10 hz
       have hb := pw_below_drewN (Below.refl w1.heap.size w1) nq; replace KT0 := Aside0.mk (KT0.out.below hb); replace HB := Aside0.mk (below_step HB.out hb); replace HG0 := Aside0.mk (blk_below HG0.out hb); replace HR := Aside0.mk (Kd.R_below HR.out hb); replace HGM := Aside0.mk (blk_below HGM.out hb); replace HGD := Aside0.mk (blk_below HGD.out hb); replace HGL := Aside0.mk (blk_below HGL.out hb); replace HGEE := Aside0.mk (blk_below HGEE.out hb); replace HBX := Aside0.mk (blk_below HBX.out hb); replace M0 := Aside0.mk (M0.out.below hb); clear hb hlk m0 m1 m2 m3; generalize w1.drewN nq = w1 at KT0 HB HG0 HR HGM HGD HGL HGEE HBX M0 ⊢
       have hq := HHQ.out
       rw [HSKT.out, if_neg (by decide)] at hq
       obtain ⟨q', hq', hq⟩ := Option.bind_eq_some_iff.mp hq
       have HQ1 := Aside0.mk hq'; have HQ2 := Aside0.mk hq
       clear hq hq' HHQ HSKT
       go_wp2_with (fail)
       replace HB := Aside0.mk (below_drew1 HB.out); replace HG0 := Aside0.mk (blk_drew HG0.out); have RK := Aside0.mk (Kd.R_drew HR.out); replace HGL := Aside0.mk (blk_drew HGL.out); replace HBX := Aside0.mk (blk_drew HBX.out); replace M0 := Aside0.mk (M0.out.below (below_drew1 (Below.refl _ _)))
       have HGM1 : Aside0 (w1.drew.heap[gm]? = some (.cells #[.int .i64 (mn : Int)] 3 (0, 0))) := ⟨blk_drew HGM.out⟩; have HGD1 : Aside0 (w1.drew.heap[gd]? = some (.cells #[.int .i64 ev, .slice (some ac) l.length c] 31 (0, 0))) := ⟨blk_drew HGD.out⟩; have HGE1 : Aside0 (w1.drew.heap[ge]? = some (.cells #[.func (.func 37) #[] #[.pointer (some ⟨gr, 0, none⟩), .pointer (some ⟨gm, 0, none⟩), .pointer (some ⟨gd, 0, none⟩), .pointer (some ⟨gl, 0, none⟩), .pointer (some ⟨ge, 0, none⟩)]] 65 (0, 0))) := ⟨blk_drew HGEE.out⟩; have KT1 : Aside0 (KeepT 2 26 w w1.drew) := ⟨KT0.out.below (below_drew1 (Below.refl _ _))⟩
       have HN : Aside0 (n1 < 9223372036854775807) := ⟨by have h1 := HI.out; have h2 := HNU.out; have h3 : searchU (r + 1) = 24 * (searchU r + 2) := rfl; have h4 : i * (searchU r + 2) ≤ 24 * (searchU r + 2) := Nat.mul_le_mul_right _ (Nat.le_trans h1.1 HL.out); omega⟩
       have HLEN : Aside0 ((ls.length + 1) * 8 ≤ 140737488355328) := ⟨by have := HLEN0.out; omega⟩
       clear HR KT0 HGM HGD HGEE
       refine start_ (n := 9) (S := fun w' => True) (ds := []) #[false, false, false, false, false, false, false, false, false] (by kernel_rfl) rfl rfl trivial (fun hHeld => ?_)
       refine with_tabW ringGo.tab8 ringGo.bits8 (fun HT_ HW_ => ?_)
       generalize w1.drew = wk at HB HGL HBX HG0 M0 RK HGM1 HGD1 HGE1 KT1 hHeld ⊢
       have HBK := HB; have HGLK := HGL; have HBXK := HBX; have HGK := HG0; have MK := M0
       have KT := trivial; have W0 := trivial
       refine pure_ (i := 1) (N := some 71) (v := ?_) (a' := ?_) #[false, true, false, false, false, false, false, false, false] rfl rfl (any_of HT_.out (by kernel_rfl)) (fun _ _ _ h => h) (Or.inl ⟨by rfl, ?_⟩) ?_ ?_
       rotate_left
       ·intro w'
        go_simp
        with_reducible rfl
       rotate_left
       ·simp only [Act.put, List.setIfInBounds_toArray, List.set_cons_zero, List.set_cons_succ, i64_w, i32_w]
        rfl
       refine pure_ (i := 4) (N := some 74) (v := ?_) (a' := ?_) #[false, true, false, false, true, false, false, false, false] rfl rfl (any_of HT_.out (by kernel_rfl)) (fun _ _ _ h => h) (Or.inl ⟨by rfl, ?_⟩) ?_ ?_
       rotate_left
       ·intro w'
        go_simp
        with_reducible rfl
       rotate_left
       ·simp only [Act.put, List.setIfInBounds_toArray, List.set_cons_zero, List.set_cons_succ, i64_w, i32_w]
        rfl
       refine inv_at [0, 2, 3, 5, 6, 7, 8] (fun a0_ b a w' => ∃ (g5 : Nat) (A2 : Option Addr) (c2 : Nat) (m5_ : Value) (m6_ : Value), a = putSel a0_ b [(0, 70, .map (some bm)), (2, 72, .int .i64 f0), (3, 73, .slice (some ad) ls.length cr1), (5, 75, m5_), (6, 76, m6_)] ∧ (Below w0.heap.size w0 w') ∧ (KeepT 2 26 wk w') ∧ (w'.heap[gl]? = some (.cells #[.map (some bm)] 64 (0, 0))) ∧ (w'.heap[gb]? = some (.cells #[.int .i64 f0, .int .i64 f1, .int .i64 f2] 53 (0, 0))) ∧ (b 7 = false → w'.heap[gr]? = some (.cells #[.slice (some ad) ls.length cr1] 26 (0, 0))) ∧ (b 7 = true → w'.heap[gr]? = some (.cells #[.slice A2 (ls ++ [xi]).length c2] 26 (0, 0))) ∧ (b 8 = false → MapIs w' bm n1 (usedIn l ls)) ∧ (b 8 = true → MapIs w' bm (n1 + 1) (fun y => if y = f0 then true else usedIn l ls y)) ∧ (b 5 = false → w' = wk) ∧ (b 5 = true → b 6 = false → w' = wk.alloc (.cells #[.int .i64 xi] 2)) ∧ (b 6 = true → Kd.R (Kd.int .i64) 2 w' w0.heap.size (fun _ => True) (.slice A2 (ls ++ [xi]).length c2) (ls ++ [xi])) ∧ (b 5 = true → g5 = wk.heap.size) ∧ (b 5 = true → (m5_ : Value) = .slice (some ⟨g5, 0, none⟩) 1 1) ∧ (b 6 = true → (m6_ : Value) = .slice A2 (ls ++ [xi]).length c2)) HT_.out HW_.out (by kernel_rfl) (by kernel_rfl) ?_ ?_ ?_
       ·exact ⟨0, none, 0, .bool false, .bool false, by simp only [putSel, Bool.false_eq_true, if_false], HB.out, KeepT.refl _ _ _, HGL.out, HBX.out, fun _ => HG0.out, fun h_ => absurd h_ (by decide), fun _ => M0.out, fun h_ => absurd h_ (by decide), fun _ => rfl, fun h_ => absurd h_ (by decide), fun h_ => absurd h_ (by decide), fun h_ => absurd h_ (by decide), fun h_ => absurd h_ (by decide), fun h_ => absurd h_ (by decide)⟩
       ·skip
        clear HB HBX HG0 HGL KT M0 W0
        refine steps_cons ?_ ?_
        ·rintro b a w' ⟨g5, A2, c2, m5_, m6_, ha, Q_HB, Q_KT, Q_HGL, Q_HBX, Q_HG0, Q_HG1, Q_M0, Q_M1, Q_W0, Q_W5, Q_R1, Q_G5, Q_X5_, Q_X6_⟩ hb_ hon hoff
         refine ⟨_, rfl, fun K hK => ?_⟩
         have e4 : a.tmps[4]? = some (.pointer (some ⟨gl, 0, none⟩)) := by rw [ha]; exact (putSel_off rfl).trans rfl
         replace ha := Aside0.mk ha
         have HB := Aside0.mk Q_HB
         have KT := Aside0.mk Q_KT
         have HGL := Aside0.mk Q_HGL
         have HBX := Aside0.mk Q_HBX
         have M0 := Aside0.mk (Q_M0 (hoff 8 (by kernel_rfl)))
         have hcgl0_ : w'.cell? ⟨gl, 0, none⟩ = some (.map (some bm)) := (blk_cell HGL.out 0).trans rfl
         refine value_ (w1 := w') (v := .map (some bm)) (by rfl) rfl ?_ ?_
         ·go_simp
          (try simp only [i64_w])
          try rfl
         refine hK.out _ _ ⟨g5, A2, c2, m5_, m6_, (by rw [ha.out]; exact putSel_upk 0 hb_ rfl rfl rfl), Q_HB, Q_KT, Q_HGL, Q_HBX, Q_HG0, Q_HG1, Q_M0, fun h0_ => absurd ((hoff 8 (by kernel_rfl)).symm.trans h0_) (by decide), Q_W0, Q_W5, Q_R1, Q_G5, Q_X5_, Q_X6_⟩
        refine steps_cons ?_ ?_
        ·rintro b a w' ⟨g5, A2, c2, m5_, m6_, ha, Q_HB, Q_KT, Q_HGL, Q_HBX, Q_HG0, Q_HG1, Q_M0, Q_M1, Q_W0, Q_W5, Q_R1, Q_G5, Q_X5_, Q_X6_⟩ hb_ hon hoff
         refine ⟨_, rfl, fun K hK => ?_⟩
         have e71 : a.tmps[71]? = some (.pointer (some ⟨gb, 0, none⟩)) := by rw [ha]; exact (putSel_off rfl).trans rfl
         replace ha := Aside0.mk ha
         have HB := Aside0.mk Q_HB
         have KT := Aside0.mk Q_KT
         have HGL := Aside0.mk Q_HGL
         have HBX := Aside0.mk Q_HBX
         have M0 := Aside0.mk (Q_M0 (hoff 8 (by kernel_rfl)))
         have hcgb0_ : w'.cell? ⟨gb, 0, none⟩ = some (.int .i64 f0) := (blk_cell HBX.out 0).trans rfl
         refine value_ (w1 := w') (v := .int .i64 f0) (by rfl) rfl ?_ ?_
         ·go_simp
          (try simp only [i64_w])
          try rfl
         refine hK.out _ _ ⟨g5, A2, c2, m5_, m6_, (by rw [ha.out]; exact putSel_upk 1 hb_ rfl rfl rfl), Q_HB, Q_KT, Q_HGL, Q_HBX, Q_HG0, Q_HG1, Q_M0, fun h0_ => absurd ((hoff 8 (by kernel_rfl)).symm.trans h0_) (by decide), Q_W0, Q_W5, Q_R1, Q_G5, Q_X5_, Q_X6_⟩
        refine steps_cons ?_ ?_
        ·rintro b a w' ⟨g5, A2, c2, m5_, m6_, ha, Q_HB, Q_KT, Q_HGL, Q_HBX, Q_HG0, Q_HG1, Q_M0, Q_M1, Q_W0, Q_W5, Q_R1, Q_G5, Q_X5_, Q_X6_⟩ hb_ hon hoff
         refine ⟨_, rfl, fun K hK => ?_⟩
         have e1 : a.tmps[1]? = some (.pointer (some ⟨gr, 0, none⟩)) := by rw [ha]; exact (putSel_off rfl).trans rfl
         replace ha := Aside0.mk ha
         have HB := Aside0.mk Q_HB
         have KT := Aside0.mk Q_KT
         have HGL := Aside0.mk Q_HGL
         have HBX := Aside0.mk Q_HBX
         have HG0 := Aside0.mk (Q_HG0 (hoff 7 (by kernel_rfl)))
         have M0 := Aside0.mk (Q_M0 (hoff 8 (by kernel_rfl)))
         have hcgr0_ : w'.cell? ⟨gr, 0, none⟩ = some (.slice (some ad) ls.length cr1) := (blk_cell HG0.out 0).trans rfl
         refine value_ (w1 := w') (v := .slice (some ad) ls.length cr1) (by rfl) rfl ?_ ?_
         ·go_simp
          (try simp only [i64_w])
          try rfl
         refine hK.out _ _ ⟨g5, A2, c2, m5_, m6_, (by rw [ha.out]; exact putSel_upk 2 hb_ rfl rfl rfl), Q_HB, Q_KT, Q_HGL, Q_HBX, Q_HG0, fun h0_ => absurd ((hoff 7 (by kernel_rfl)).symm.trans h0_) (by decide), Q_M0, fun h0_ => absurd ((hoff 8 (by kernel_rfl)).symm.trans h0_) (by decide), Q_W0, Q_W5, fun h0_ => absurd ((hoff 6 (by kernel_rfl)).symm.trans h0_) (by decide), Q_G5, Q_X5_, fun h0_ => absurd ((hoff 6 (by kernel_rfl)).symm.trans h0_) (by decide)⟩
        refine steps_cons ?_ ?_
        ·rintro b a w' ⟨g5, A2, c2, m5_, m6_, ha, Q_HB, Q_KT, Q_HGL, Q_HBX, Q_HG0, Q_HG1, Q_M0, Q_M1, Q_W0, Q_W5, Q_R1, Q_G5, Q_X5_, Q_X6_⟩ hb_ hon hoff
         refine ⟨_, rfl, fun K hK => ?_⟩
         have e74 : a.tmps[74]? = some (.int .i64 xi) := by rw [ha]; exact (putSel_off rfl).trans rfl
         replace ha := Aside0.mk ha
         have HB := Aside0.mk Q_HB
         have KT := Aside0.mk Q_KT
         have HGL := Aside0.mk Q_HGL
         have HBX := Aside0.mk Q_HBX
         have HG0 := Aside0.mk (Q_HG0 (hoff 7 (by kernel_rfl)))
         have M0 := Aside0.mk (Q_M0 (hoff 8 (by kernel_rfl)))
         have W0 := Aside0.mk (Q_W0 hb_)
         refine event_step (by rfl) (w1 := w'.alloc (.cells #[.int .i64 xi] 2)) (v := .slice (some ⟨w'.heap.size, 0, none⟩) 1 1) ?_ ?_
         ·first | (go_simp; done) | (go_simp; rfl)
         have hb : Below w'.heap.size w' (w'.alloc (.cells #[.int .i64 xi] 2)) := below_alloc (Below.refl _ _) _
         refine hK.out _ _ ⟨w'.heap.size, A2, c2, (.slice (some ⟨w'.heap.size, 0, none⟩) 1 1), m6_, (by rw [ha.out]; exact putSel_upk 3 hb_ rfl rfl rfl), below_step HB.out hb, KT.out.below hb, blk_below HGL.out hb, blk_below HBX.out hb, fun _ => blk_below HG0.out hb, fun h0_ => absurd ((hoff 7 (by kernel_rfl)).symm.trans h0_) (by decide), fun _ => M0.out.below hb, fun h0_ => absurd ((hoff 8 (by kernel_rfl)).symm.trans h0_) (by decide), fun h0_ => absurd ((up_self b 5).symm.trans h0_) (by decide), fun _ _ => by rw [W0.out], fun h0_ => absurd ((hoff 6 (by kernel_rfl)).symm.trans h0_) (by decide), fun _ => by rw [W0.out], fun _ => rfl, fun h0_ => absurd ((hoff 6 (by kernel_rfl)).symm.trans h0_) (by decide)⟩
        refine steps_cons ?_ ?_
        ·rintro b a w' ⟨g5, A2, c2, m5_, m6_, ha, Q_HB, Q_KT, Q_HGL, Q_HBX, Q_HG0, Q_HG1, Q_M0, Q_M1, Q_W0, Q_W5, Q_R1, Q_G5, Q_X5_, Q_X6_⟩ hb_ hon hoff
         refine ⟨_, rfl, fun K hK => ?_⟩
         have e73 : a.tmps[73]? = some (.slice (some ad) ls.length cr1) := by rw [ha]; exact putSel_on (e := (3, 73, .slice (some ad) ls.length cr1)) 2 rfl rfl (hon 3 (by kernel_rfl)) rfl
         have e75 : a.tmps[75]? = some (m5_) := by rw [ha]; exact putSel_on (e := (5, 75, m5_)) 3 rfl rfl (hon 5 (by kernel_rfl)) rfl
         rw [Q_X5_ (hon 5 (by kernel_rfl))] at e75
         replace ha := Aside0.mk ha
         have HB := Aside0.mk Q_HB
         have KT := Aside0.mk Q_KT
         have HGL := Aside0.mk Q_HGL
         have HBX := Aside0.mk Q_HBX
         have HG0 := Aside0.mk (Q_HG0 (hoff 7 (by kernel_rfl)))
         have M0 := Aside0.mk (Q_M0 (hoff 8 (by kernel_rfl)))
         have W5 := Aside0.mk (Q_W5 (hon 5 (by kernel_rfl)) hb_)
         have G5 := Aside0.mk (Q_G5 (hon 5 (by kernel_rfl)))
         have hw_ := W5.out
         subst hw_
         rw [G5.out] at e75
         refine Kd.R_append_step (Kd.int .i64) (w0 := w0) w0.heap.size (by rfl) (.tmp 73) (.tmp 75) 26 2 (.int .i64 0) 8 rfl Try.underlying26 info2 rfl (by decide) (by omega) (.slice (some ad) ls.length cr1) ls xi [.int .i64 xi] (fun _ => True) (fun _ => False) (by first | (simp only [List.map_toArray, List.map_cons, List.map_nil, Act.eval, Array.getD_eq_getD_getElem?, Option.getD_some, e73, e75]; done) | (simp only [List.map_toArray, List.map_cons, List.map_nil, Act.eval, Array.getD_eq_getD_getElem?, Option.getD_some, e73, e75]; rfl)) (by first | (simp only [List.map_toArray, List.map_cons, List.map_nil, Act.eval, Array.getD_eq_getD_getElem?, Option.getD_some, e73, e75]; done) | (simp only [List.map_toArray, List.map_cons, List.map_nil, Act.eval, Array.getD_eq_getD_getElem?, Option.getD_some, e73, e75]; rfl)) rfl (fun _ hk => hk.elim) (fun _ _ => trivial) RK.out HBK.out (below_size HBK.out) HLEN.out ?_
         intro v1 w5 ho hb hg hat
         obtain ⟨A2', c2', rfl⟩ := Kd.R_slice ho
         refine hK.out _ _ ⟨g5, A2', c2', m5_, (.slice A2' (ls ++ [xi]).length c2'), (by rw [ha.out]; exact putSel_upk 4 hb_ rfl rfl rfl), hb, KeepT.grown (KeepT.refl _ _ wk) RK.out hg, blk_grown HGLK.out hg (Kd.R_ne RK.out HGLK.out (by decide)), blk_grown HBXK.out hg (Kd.R_ne RK.out HBXK.out (by decide)), fun _ => blk_grown HGK.out hg (Kd.R_ne RK.out HGK.out (by decide)), fun h0_ => absurd ((hoff 7 (by kernel_rfl)).symm.trans h0_) (by decide), fun _ => MapIs.over MK.out RK.out hg, fun h0_ => absurd ((hoff 8 (by kernel_rfl)).symm.trans h0_) (by decide), fun h0_ => absurd ((hon 5 (by kernel_rfl)).symm.trans h0_) (by decide), fun _ h1_ => absurd ((up_self b 6).symm.trans h1_) (by decide), fun _ => ho, Q_G5, Q_X5_, fun _ => rfl⟩
        refine steps_cons ?_ ?_
        ·rintro b a w' ⟨g5, A2, c2, m5_, m6_, ha, Q_HB, Q_KT, Q_HGL, Q_HBX, Q_HG0, Q_HG1, Q_M0, Q_M1, Q_W0, Q_W5, Q_R1, Q_G5, Q_X5_, Q_X6_⟩ hb_ hon hoff
         refine ⟨_, rfl, fun K hK => ?_⟩
         have e1 : a.tmps[1]? = some (.pointer (some ⟨gr, 0, none⟩)) := by rw [ha]; exact (putSel_off rfl).trans rfl
         have e76 : a.tmps[76]? = some (m6_) := by rw [ha]; exact putSel_on (e := (6, 76, m6_)) 4 rfl rfl (hon 6 (by kernel_rfl)) rfl
         rw [Q_X6_ (hon 6 (by kernel_rfl))] at e76
         replace ha := Aside0.mk ha
         have HB := Aside0.mk Q_HB
         have KT := Aside0.mk Q_KT
         have HGL := Aside0.mk Q_HGL
         have HBX := Aside0.mk Q_HBX
         have HG0 := Aside0.mk (Q_HG0 hb_)
         have M0 := Aside0.mk (Q_M0 (hoff 8 (by kernel_rfl)))
         have R1 := Aside0.mk (Q_R1 (hon 6 (by kernel_rfl)))
         have G5 := Aside0.mk (Q_G5 (hon 5 (by kernel_rfl)))
         have hz_ := blk_cell HG0.out 0
         have hf_ := blk_frozen HG0.out 0
         refine skip_ (w1 := w'.setCell ⟨gr, 0, none⟩ (.slice A2 (ls ++ [xi]).length c2)) (by rfl) rfl ?_ ?_
         ·go_simp
         refine hK.out _ _ ⟨g5, A2, c2, m5_, m6_, (by rw [ha.out]; exact putSel_none (v := undef) rfl), below_set HB.out HGE.out.1, KeepT.set KT.out HG0.out, blk_far HGL.out (p := ⟨gr, 0, none⟩) (blk_ne HGL.out HG0.out (by decide)) (.slice A2 (ls ++ [xi]).length c2), blk_far HBX.out (p := ⟨gr, 0, none⟩) (blk_ne HBX.out HG0.out (by decide)) (.slice A2 (ls ++ [xi]).length c2), fun h0_ => absurd ((up_self b 7).symm.trans h0_) (by decide), fun _ => blk_put HG0.out 0 (.slice A2 (ls ++ [xi]).length c2) rfl, fun _ => MapIs.set M0.out HG0.out, fun h0_ => absurd ((hoff 8 (by kernel_rfl)).symm.trans h0_) (by decide), fun h0_ => absurd ((hon 5 (by kernel_rfl)).symm.trans h0_) (by decide), fun _ h1_ => absurd ((hon 6 (by kernel_rfl)).symm.trans h1_) (by decide), fun _ => Kd.R_set R1.out HG0.out (by intro q hq; have hq : q ∈ [2] := hq; simp at hq; omega) 0 (.slice A2 (ls ++ [xi]).length c2), Q_G5, Q_X5_, Q_X6_⟩
        refine steps_cons ?_ ?_
        ·rintro b a w' ⟨g5, A2, c2, m5_, m6_, ha, Q_HB, Q_KT, Q_HGL, Q_HBX, Q_HG0, Q_HG1, Q_M0, Q_M1, Q_W0, Q_W5, Q_R1, Q_G5, Q_X5_, Q_X6_⟩ hb_ hon hoff
         refine ⟨_, rfl, fun K hK => ?_⟩
         have e70 : a.tmps[70]? = some (.map (some bm)) := by rw [ha]; exact putSel_on (e := (0, 70, .map (some bm))) 0 rfl rfl (hon 0 (by kernel_rfl)) rfl
         have e72 : a.tmps[72]? = some (.int .i64 f0) := by rw [ha]; exact putSel_on (e := (2, 72, .int .i64 f0)) 1 rfl rfl (hon 2 (by kernel_rfl)) rfl
         replace ha := Aside0.mk ha
         have HB := Aside0.mk Q_HB
         have KT := Aside0.mk Q_KT
         have HGL := Aside0.mk Q_HGL
         have HBX := Aside0.mk Q_HBX
         have HG1 := Aside0.mk (Q_HG1 (hon 7 (by kernel_rfl)))
         have M0 := Aside0.mk (Q_M0 hb_)
         have R1 := Aside0.mk (Q_R1 (hon 6 (by kernel_rfl)))
         have G5 := Aside0.mk (Q_G5 (hon 5 (by kernel_rfl)))
         obtain ⟨w9, hr9, hm9, hg9⟩ := M0.out.put HN.out f0 HF0.out true
         obtain ⟨es9, cl9, hb9⟩ := M0.out.block
         refine skip_ (w1 := w9) (by rfl) rfl ?_ ?_
         ·first | (go_simp; done) | (go_simp; rfl)
         refine hK.out _ _ ⟨g5, A2, c2, m5_, m6_, (by rw [ha.out]; exact putSel_none (v := undef) rfl), Below.grown HB.out hg9 (below_size HB.out) (fun j hj => by cases hj; exact HGE.out.2), KeepT.map KT.out hb9 hg9, blk_grown HGL.out hg9 (M0.out.ne HGL.out), blk_grown HBX.out hg9 (M0.out.ne HBX.out), fun h0_ => absurd ((hon 7 (by kernel_rfl)).symm.trans h0_) (by decide), fun _ => blk_grown HG1.out hg9 (M0.out.ne HG1.out), fun h0_ => absurd ((up_self b 8).symm.trans h0_) (by decide), fun _ => hm9, fun h0_ => absurd ((hon 5 (by kernel_rfl)).symm.trans h0_) (by decide), fun _ h1_ => absurd ((hon 6 (by kernel_rfl)).symm.trans h1_) (by decide), fun _ => M0.out.row R1.out hg9, Q_G5, Q_X5_, Q_X6_⟩
        exact steps_nil
       rintro b a w2 hall ⟨g5, A2, c2, m5_, m6_, ha, Q_HB, Q_KT, Q_HGL, Q_HBX, Q_HG0, Q_HG1, Q_M0, Q_M1, Q_W0, Q_W5, Q_R1, Q_G5, Q_X5_, Q_X6_⟩
       clear HB HBX HG0 HGL KT M0 W0
       have hb0_ := hall 0 (by kernel_rfl)
       have hb2_ := hall 2 (by kernel_rfl)
       have hb3_ := hall 3 (by kernel_rfl)
       have hb5_ := hall 5 (by kernel_rfl)
       have hb6_ := hall 6 (by kernel_rfl)
       have hb7_ := hall 7 (by kernel_rfl)
       have hb8_ := hall 8 (by kernel_rfl)
       subst ha
       obtain rfl := Q_X5_ hb5_
       obtain rfl := Q_X6_ hb6_
       simp only [putSel, hb0_, hb2_, hb3_, hb5_, hb6_, hb7_, hb8_, if_true, Act.put, List.setIfInBounds_toArray, List.set_cons_zero, List.set_cons_succ]
       have HB := Aside0.mk Q_HB
       clear Q_HB
       have KT := Aside0.mk Q_KT
       clear Q_KT
       have HGL := Aside0.mk Q_HGL
       clear Q_HGL
       have HBX := Aside0.mk Q_HBX
       clear Q_HBX
       clear Q_HG0
       have HG1 := Aside0.mk (Q_HG1 hb7_)
       clear Q_HG1
       clear Q_M0
       have M1 := Aside0.mk (Q_M1 hb8_)
       clear Q_M1
       clear Q_W0
       clear Q_W5
       have R1 := Aside0.mk (Q_R1 hb6_)
       clear Q_R1
       have G5 := Aside0.mk (Q_G5 hb5_)
       clear Q_G5
       clear hall hb0_ hb2_ hb3_ hb5_ hb6_ hb7_ hb8_
       have HGM2 : Aside0 (w2.heap[gm]? = some (.cells #[.int .i64 (mn : Int)] 3 (0, 0))) := ⟨KT.out _ _ _ HGM1.out (by decide) (by decide)⟩; have HGD2 : Aside0 (w2.heap[gd]? = some (.cells #[.int .i64 ev, .slice (some ac) l.length c] 31 (0, 0))) := ⟨KT.out _ _ _ HGD1.out (by decide) (by decide)⟩; have HGE2 : Aside0 (w2.heap[ge]? = some (.cells #[.func (.func 37) #[] #[.pointer (some ⟨gr, 0, none⟩), .pointer (some ⟨gm, 0, none⟩), .pointer (some ⟨gd, 0, none⟩), .pointer (some ⟨gl, 0, none⟩), .pointer (some ⟨ge, 0, none⟩)]] 65 (0, 0))) := ⟨KT.out _ _ _ HGE1.out (by decide) (by decide)⟩; have KT2 : Aside0 (KeepT 2 26 w w2) := ⟨KT1.out.then_ KT.out⟩
       clear HGM1 HGD1 HGE1 KT1 KT RK
       have M2 : Aside0 (MapIs w2 bm (n1 + 1) (usedIn l (ls ++ [xi]))) := ⟨M1.out.tells (Nat.le_refl _) (fun x _ => (Classical.em (x = f0)).elim (fun e => by rw [usedIn_snoc, ← HFX.out, if_pos e, e]; simp) (fun e => by rw [usedIn_snoc, ← HFX.out, if_neg e, beq_eq_false_iff_ne.mpr (Ne.symm e), Bool.or_false]))⟩
       clear M1
       have HLS2 : Aside0 (∀ j : Int, 0 ≤ j → j < ((ls ++ [xi]).length : Int) → 0 ≤ rd (ls ++ [xi]) j ∧ rd (ls ++ [xi]) j < (l.length : Int)) := ⟨fun j h0 h1 => by
         by_cases hj : j < (ls.length : Int)
         ·have e : rd (ls ++ [xi]) j = rd ls j := by unfold rd; rw [List.getD_eq_getElem?_getD, List.getD_eq_getElem?_getD, List.getElem?_append_left (by omega)]
          rw [e]; exact HLS.out j h0 hj
         ·have e1 : j = ((ls ++ [xi]).length : Int) - 1 := by simp at h1 ⊢; omega
          rw [e1, rd_snoc]; exact HXB.out⟩
       have m0 := blk_cell HGE2.out 0
       have m1 := blk_cell HBX.out 2
       cases q' with
       | some xs =>
        dsimp only at HQ2
        go_wp2_with (go_at_call 37; refine (IH.out (ls ++ [xi]) (wrap64 (sum + f2)) (n1 + 1) _ _ _ true xs (by have := HLT1.out; simp; omega) HLS2.out (by have h1 := HI.out; have h2 := HNU.out; have h3 : searchU (r + 1) = 24 * (searchU r + 2) := rfl; have h4 : i * (searchU r + 2) + (searchU r + 2) ≤ 24 * (searchU r + 2) := (by rw [← Nat.succ_mul]; exact Nat.mul_le_mul_right _ (Nat.le_trans HLT.out HL.out)); omega) HB.out HG1.out R1.out HGM2.out HGD2.out HGL.out HGE2.out M2.out HQ1.out rfl rfl).mono ?_; rintro e w3 ⟨rfl, hb3, hk3, ⟨v3, hg3, hr3⟩, hm3⟩; have HB3 := Aside0.mk hb3; have KT3 := Aside0.mk (KT2.out.then_ hk3); have HG3 := Aside0.mk hg3; have HR3 := Aside0.mk hr3; have HM3 := Aside0.mk hm3; have HGM3 := Aside0.mk (hk3 _ _ _ HGM2.out (by decide) (by decide)); have HGD3 := Aside0.mk (hk3 _ _ _ HGD2.out (by decide) (by decide)); have HGL3 := Aside0.mk (hk3 _ _ _ HGL.out (by decide) (by decide)); have HGE3 := Aside0.mk (hk3 _ _ _ HGE2.out (by decide) (by decide)); have HBX3 := Aside0.mk (hk3 _ _ _ HBX.out (by decide) (by decide)); clear hb3 hk3 hg3 hr3 hm3 m0 m1)
        go_ret
        obtain rfl := Option.some.inj HQ2.out
        have hb := HBB.out
        have hx := HX.out
        dsimp only [Option.isSome, Option.getD] at hb hx
        subst hb
        subst hx
        exact ⟨rfl, HB3.out, KT3.out, ⟨_, HG3.out, HR3.out⟩, fun h => by cases h⟩
       | none =>
        dsimp only at HQ2
        go_wp2_with (go_at_call 37; refine (IH.out (ls ++ [xi]) (wrap64 (sum + f2)) (n1 + 1) _ _ _ false (ls ++ [xi]) (by have := HLT1.out; simp; omega) HLS2.out (by have h1 := HI.out; have h2 := HNU.out; have h3 : searchU (r + 1) = 24 * (searchU r + 2) := rfl; have h4 : i * (searchU r + 2) + (searchU r + 2) ≤ 24 * (searchU r + 2) := (by rw [← Nat.succ_mul]; exact Nat.mul_le_mul_right _ (Nat.le_trans HLT.out HL.out)); omega) HB.out HG1.out R1.out HGM2.out HGD2.out HGL.out HGE2.out M2.out HQ1.out rfl rfl).mono ?_; rintro e w3 ⟨rfl, hb3, hk3, ⟨v3, hg3, hr3⟩, hm3⟩; have HB3 := Aside0.mk hb3; have KT3 := Aside0.mk (KT2.out.then_ hk3); have HG3 := Aside0.mk hg3; have HR3 := Aside0.mk hr3; have HM3 := Aside0.mk hm3; have HGM3 := Aside0.mk (hk3 _ _ _ HGM2.out (by decide) (by decide)); have HGD3 := Aside0.mk (hk3 _ _ _ HGD2.out (by decide) (by decide)); have HGL3 := Aside0.mk (hk3 _ _ _ HGL.out (by decide) (by decide)); have HGE3 := Aside0.mk (hk3 _ _ _ HGE2.out (by decide) (by decide)); have HBX3 := Aside0.mk (hk3 _ _ _ HBX.out (by decide) (by decide)); clear hb3 hk3 hg3 hr3 hm3 m0 m1)
        clear HB HG1 R1 HGM2 HGD2 HGE2 KT2 M2 HGL HBX
        obtain ⟨A3, c3, rfl⟩ := Kd.R_slice HR3.out
        obtain ⟨n2, hn2, hm2⟩ := HM3.out (by simp)
        have HN2 := Aside0.mk hn2
        have hla := HLA.out
        have hl10 := HLEN0.out
        have HSUM : Aside0 (IntKind.i64.wrap (la + 1) = la + 1) := ⟨by rw [i64_w]; unfold wrap64; omega⟩
        have HCUT : Aside0 (0 ≤ la + 1 ∧ la + 1 ≤ (c3 : Int) ∧ (la + 1).toNat = ls.length) := ⟨by have h := (Kd.R_reads' HR3.out).2.1; simp at h; omega⟩
        have hr1 := Kd.R_take (m := ls.length) HR3.out (by simp)
        rw [List.take_left' rfl] at hr1
        have HB := Aside0.mk (below_drew1 HB3.out); have HG0 := Aside0.mk (blk_drew HG3.out); have R1 := Aside0.mk (Kd.R_drew hr1); have HGL := Aside0.mk (blk_drew HGL3.out); have HBX := Aside0.mk (blk_drew HBX3.out); have M0 := Aside0.mk (hm2.below (below_drew1 (Below.refl _ _)))
        have HGM1 : Aside0 (w3.drew.heap[gm]? = some (.cells #[.int .i64 (mn : Int)] 3 (0, 0))) := ⟨blk_drew HGM3.out⟩; have HGD1 : Aside0 (w3.drew.heap[gd]? = some (.cells #[.int .i64 ev, .slice (some ac) l.length c] 31 (0, 0))) := ⟨blk_drew HGD3.out⟩; have HGE1 : Aside0 (w3.drew.heap[ge]? = some (.cells #[.func (.func 37) #[] #[.pointer (some ⟨gr, 0, none⟩), .pointer (some ⟨gm, 0, none⟩), .pointer (some ⟨gd, 0, none⟩), .pointer (some ⟨gl, 0, none⟩), .pointer (some ⟨ge, 0, none⟩)]] 65 (0, 0))) := ⟨blk_drew HGE3.out⟩; have KT1 : Aside0 (KeepT 2 26 w w3.drew) := ⟨KT3.out.below (below_drew1 (Below.refl _ _))⟩
        replace HN : Aside0 (n2 < 9223372036854775807) := ⟨by have h1 := HI.out; have h2 := HNU.out; have h3 : searchU (r + 1) = 24 * (searchU r + 2) := rfl; have h4 : i * (searchU r + 2) + (searchU r + 2) ≤ 24 * (searchU r + 2) := (by rw [← Nat.succ_mul]; exact Nat.mul_le_mul_right _ (Nat.le_trans HLT.out HL.out)); have h5 := HN2.out; omega⟩
        clear hn2 hm2 hr1 hla hl10 HB3 HG3 HR3 HM3 HGM3 HGD3 HGL3 HGE3 HBX3 KT3
        refine start_ (n := 9) (S := fun w' => True) (ds := []) #[false, false, false, false, false, false, false, false, false] (by kernel_rfl) rfl rfl trivial (fun hHeld => ?_)
        refine with_tabW ringGo.tab11 ringGo.bits11 (fun HT_ HW_ => ?_)
        generalize w3.drew = wk at HB HGL HBX HG0 M0 R1 HGM1 HGD1 HGE1 KT1 hHeld ⊢
        have KT := trivial
        refine pure_ (i := 1) (N := some 84) (v := ?_) (a' := ?_) #[false, true, false, false, false, false, false, false, false] rfl rfl (any_of HT_.out (by kernel_rfl)) (fun _ _ _ h => h) (Or.inl ⟨by rfl, ?_⟩) ?_ ?_
        rotate_left
        ·intro w'
         go_simp
         with_reducible rfl
        rotate_left
        ·simp only [Act.put, List.setIfInBounds_toArray, List.set_cons_zero, List.set_cons_succ, i64_w, i32_w]
         rfl
        refine pure_ (i := 4) (N := some 87) (v := ?_) (a' := ?_) #[false, true, false, false, true, false, false, false, false] rfl rfl (any_of HT_.out (by kernel_rfl)) (fun _ _ _ h => h) (Or.inl ⟨by rfl, ?_⟩) ?_ ?_
        rotate_left
        ·intro w'
         go_simp
         with_reducible rfl
        rotate_left
        ·simp only [Act.put, List.setIfInBounds_toArray, List.set_cons_zero, List.set_cons_succ, i64_w, i32_w]
         rfl
        refine inv_at [0, 2, 3, 5, 6, 7, 8] (fun a0_ b a w' => a = putSel a0_ b [(0, 83, .map (some bm)), (2, 85, .int .i64 f0), (3, 86, .slice A3 (ls ++ [xi]).length c3), (5, 88, .int .i64 (la + 1)), (6, 89, .slice A3 ls.length c3)] ∧ (Below w0.heap.size w0 w') ∧ (KeepT 2 26 wk w') ∧ (w'.heap[gl]? = some (.cells #[.map (some bm)] 64 (0, 0))) ∧ (w'.heap[gb]? = some (.cells #[.int .i64 f0, .int .i64 f1, .int .i64 f2] 53 (0, 0))) ∧ (b 7 = false → w'.heap[gr]? = some (.cells #[.slice A3 (ls ++ [xi]).length c3] 26 (0, 0))) ∧ (b 7 = true → w'.heap[gr]? = some (.cells #[.slice A3 ls.length c3] 26 (0, 0))) ∧ (b 8 = false → MapIs w' bm n2 (usedIn l (ls ++ [xi]))) ∧ (b 8 = true → MapIs w' bm (n2 + 1) (fun y => if y = f0 then false else usedIn l (ls ++ [xi]) y)) ∧ (Kd.R (Kd.int .i64) 2 w' w0.heap.size (fun _ => True) (.slice A3 ls.length c3) ls)) HT_.out HW_.out (by kernel_rfl) (by kernel_rfl) ?_ ?_ ?_
        ·exact ⟨by simp only [putSel, Bool.false_eq_true, if_false], HB.out, KeepT.refl _ _ _, HGL.out, HBX.out, fun _ => HG0.out, fun h_ => absurd h_ (by decide), fun _ => M0.out, fun h_ => absurd h_ (by decide), R1.out⟩
        ·skip
         clear HB HBX HG0 HGL KT M0 R1
         refine steps_cons ?_ ?_
         ·rintro b a w' ⟨ha, Q_HB, Q_KT, Q_HGL, Q_HBX, Q_HG0, Q_HG1, Q_M0, Q_M1, Q_R1⟩ hb_ hon hoff
          refine ⟨_, rfl, fun K hK => ?_⟩
          have e4 : a.tmps[4]? = some (.pointer (some ⟨gl, 0, none⟩)) := by rw [ha]; exact (putSel_off rfl).trans rfl
          replace ha := Aside0.mk ha
          have HB := Aside0.mk Q_HB
          have KT := Aside0.mk Q_KT
          have HGL := Aside0.mk Q_HGL
          have HBX := Aside0.mk Q_HBX
          have M0 := Aside0.mk (Q_M0 (hoff 8 (by kernel_rfl)))
          have R1 := Aside0.mk Q_R1
          have hcgl0_ : w'.cell? ⟨gl, 0, none⟩ = some (.map (some bm)) := (blk_cell HGL.out 0).trans rfl
          refine value_ (w1 := w') (v := .map (some bm)) (by rfl) rfl ?_ ?_
          ·go_simp
           (try simp only [i64_w])
           try rfl
          refine hK.out _ _ ⟨(by rw [ha.out]; exact putSel_upk 0 hb_ rfl rfl rfl), Q_HB, Q_KT, Q_HGL, Q_HBX, Q_HG0, Q_HG1, Q_M0, fun h0_ => absurd ((hoff 8 (by kernel_rfl)).symm.trans h0_) (by decide), Q_R1⟩
         refine steps_cons ?_ ?_
         ·rintro b a w' ⟨ha, Q_HB, Q_KT, Q_HGL, Q_HBX, Q_HG0, Q_HG1, Q_M0, Q_M1, Q_R1⟩ hb_ hon hoff
          refine ⟨_, rfl, fun K hK => ?_⟩
          have e84 : a.tmps[84]? = some (.pointer (some ⟨gb, 0, none⟩)) := by rw [ha]; exact (putSel_off rfl).trans rfl
          replace ha := Aside0.mk ha
          have HB := Aside0.mk Q_HB
          have KT := Aside0.mk Q_KT
          have HGL := Aside0.mk Q_HGL
          have HBX := Aside0.mk Q_HBX
          have M0 := Aside0.mk (Q_M0 (hoff 8 (by kernel_rfl)))
          have R1 := Aside0.mk Q_R1
          have hcgb0_ : w'.cell? ⟨gb, 0, none⟩ = some (.int .i64 f0) := (blk_cell HBX.out 0).trans rfl
          refine value_ (w1 := w') (v := .int .i64 f0) (by rfl) rfl ?_ ?_
          ·go_simp
           (try simp only [i64_w])
           try rfl
          refine hK.out _ _ ⟨(by rw [ha.out]; exact putSel_upk 1 hb_ rfl rfl rfl), Q_HB, Q_KT, Q_HGL, Q_HBX, Q_HG0, Q_HG1, Q_M0, fun h0_ => absurd ((hoff 8 (by kernel_rfl)).symm.trans h0_) (by decide), Q_R1⟩
         refine steps_cons ?_ ?_
         ·rintro b a w' ⟨ha, Q_HB, Q_KT, Q_HGL, Q_HBX, Q_HG0, Q_HG1, Q_M0, Q_M1, Q_R1⟩ hb_ hon hoff
          refine ⟨_, rfl, fun K hK => ?_⟩
          have e1 : a.tmps[1]? = some (.pointer (some ⟨gr, 0, none⟩)) := by rw [ha]; exact (putSel_off rfl).trans rfl
          replace ha := Aside0.mk ha
          have HB := Aside0.mk Q_HB
          have KT := Aside0.mk Q_KT
          have HGL := Aside0.mk Q_HGL
          have HBX := Aside0.mk Q_HBX
          have HG0 := Aside0.mk (Q_HG0 (hoff 7 (by kernel_rfl)))
          have M0 := Aside0.mk (Q_M0 (hoff 8 (by kernel_rfl)))
          have R1 := Aside0.mk Q_R1
          have hcgr0_ : w'.cell? ⟨gr, 0, none⟩ = some (.slice A3 (ls ++ [xi]).length c3) := (blk_cell HG0.out 0).trans rfl
          refine value_ (w1 := w') (v := .slice A3 (ls ++ [xi]).length c3) (by rfl) rfl ?_ ?_
          ·go_simp
           (try simp only [i64_w])
           try rfl
          refine hK.out _ _ ⟨(by rw [ha.out]; exact putSel_upk 2 hb_ rfl rfl rfl), Q_HB, Q_KT, Q_HGL, Q_HBX, Q_HG0, fun h0_ => absurd ((hoff 7 (by kernel_rfl)).symm.trans h0_) (by decide), Q_M0, fun h0_ => absurd ((hoff 8 (by kernel_rfl)).symm.trans h0_) (by decide), Q_R1⟩
         refine steps_cons ?_ ?_
         ·rintro b a w' ⟨ha, Q_HB, Q_KT, Q_HGL, Q_HBX, Q_HG0, Q_HG1, Q_M0, Q_M1, Q_R1⟩ hb_ hon hoff
          refine ⟨_, rfl, fun K hK => ?_⟩
          have e87 : a.tmps[87]? = some (.int .i64 la) := by rw [ha]; exact (putSel_off rfl).trans rfl
          replace ha := Aside0.mk ha
          have HB := Aside0.mk Q_HB
          have KT := Aside0.mk Q_KT
          have HGL := Aside0.mk Q_HGL
          have HBX := Aside0.mk Q_HBX
          have HG0 := Aside0.mk (Q_HG0 (hoff 7 (by kernel_rfl)))
          have M0 := Aside0.mk (Q_M0 (hoff 8 (by kernel_rfl)))
          have R1 := Aside0.mk Q_R1
          have hs_ := HSUM.out
          refine value_ (w1 := w') (v := .int .i64 (la + 1)) (by rfl) rfl ?_ ?_
          ·go_simp
           (try simp only [i64_w])
           try rfl
          refine hK.out _ _ ⟨(by rw [ha.out]; exact putSel_upk 3 hb_ rfl rfl rfl), Q_HB, Q_KT, Q_HGL, Q_HBX, Q_HG0, fun h0_ => absurd ((hoff 7 (by kernel_rfl)).symm.trans h0_) (by decide), Q_M0, fun h0_ => absurd ((hoff 8 (by kernel_rfl)).symm.trans h0_) (by decide), Q_R1⟩
         refine steps_cons ?_ ?_
         ·rintro b a w' ⟨ha, Q_HB, Q_KT, Q_HGL, Q_HBX, Q_HG0, Q_HG1, Q_M0, Q_M1, Q_R1⟩ hb_ hon hoff
          refine ⟨_, rfl, fun K hK => ?_⟩
          have e86 : a.tmps[86]? = some (.slice A3 (ls ++ [xi]).length c3) := by rw [ha]; exact putSel_on (e := (3, 86, .slice A3 (ls ++ [xi]).length c3)) 2 rfl rfl (hon 3 (by kernel_rfl)) rfl
          have e88 : a.tmps[88]? = some (.int .i64 (la + 1)) := by rw [ha]; exact putSel_on (e := (5, 88, .int .i64 (la + 1))) 3 rfl rfl (hon 5 (by kernel_rfl)) rfl
          replace ha := Aside0.mk ha
          have HB := Aside0.mk Q_HB
          have KT := Aside0.mk Q_KT
          have HGL := Aside0.mk Q_HGL
          have HBX := Aside0.mk Q_HBX
          have HG0 := Aside0.mk (Q_HG0 (hoff 7 (by kernel_rfl)))
          have M0 := Aside0.mk (Q_M0 (hoff 8 (by kernel_rfl)))
          have R1 := Aside0.mk Q_R1
          have hs1_ := eq_true HCUT.out.1
          have hs2_ := eq_true HCUT.out.2.1
          have hs3_ := HCUT.out.2.2
          have hs4_ := HCUT.out.1
          have hs5_ := HCUT.out.2.1
          refine value_ (w1 := w') (v := .slice A3 ls.length c3) (by rfl) rfl ?_ ?_
          ·go_simp
           (try simp only [i64_w])
           try rfl
          refine hK.out _ _ ⟨(by rw [ha.out]; exact putSel_upk 4 hb_ rfl rfl rfl), Q_HB, Q_KT, Q_HGL, Q_HBX, Q_HG0, fun h0_ => absurd ((hoff 7 (by kernel_rfl)).symm.trans h0_) (by decide), Q_M0, fun h0_ => absurd ((hoff 8 (by kernel_rfl)).symm.trans h0_) (by decide), Q_R1⟩
         refine steps_cons ?_ ?_
         ·rintro b a w' ⟨ha, Q_HB, Q_KT, Q_HGL, Q_HBX, Q_HG0, Q_HG1, Q_M0, Q_M1, Q_R1⟩ hb_ hon hoff
          refine ⟨_, rfl, fun K hK => ?_⟩
          have e1 : a.tmps[1]? = some (.pointer (some ⟨gr, 0, none⟩)) := by rw [ha]; exact (putSel_off rfl).trans rfl
          have e89 : a.tmps[89]? = some (.slice A3 ls.length c3) := by rw [ha]; exact putSel_on (e := (6, 89, .slice A3 ls.length c3)) 4 rfl rfl (hon 6 (by kernel_rfl)) rfl
          replace ha := Aside0.mk ha
          have HB := Aside0.mk Q_HB
          have KT := Aside0.mk Q_KT
          have HGL := Aside0.mk Q_HGL
          have HBX := Aside0.mk Q_HBX
          have HG0 := Aside0.mk (Q_HG0 hb_)
          have M0 := Aside0.mk (Q_M0 (hoff 8 (by kernel_rfl)))
          have R1 := Aside0.mk Q_R1
          have hz_ := blk_cell HG0.out 0
          have hf_ := blk_frozen HG0.out 0
          refine skip_ (w1 := w'.setCell ⟨gr, 0, none⟩ (.slice A3 ls.length c3)) (by rfl) rfl ?_ ?_
          ·go_simp
          refine hK.out _ _ ⟨(by rw [ha.out]; exact putSel_none (v := undef) rfl), below_set HB.out HGE.out.1, KeepT.set KT.out HG0.out, blk_far HGL.out (p := ⟨gr, 0, none⟩) (blk_ne HGL.out HG0.out (by decide)) (.slice A3 ls.length c3), blk_far HBX.out (p := ⟨gr, 0, none⟩) (blk_ne HBX.out HG0.out (by decide)) (.slice A3 ls.length c3), fun h0_ => absurd ((up_self b 7).symm.trans h0_) (by decide), fun _ => blk_put HG0.out 0 (.slice A3 ls.length c3) rfl, fun _ => MapIs.set M0.out HG0.out, fun h0_ => absurd ((hoff 8 (by kernel_rfl)).symm.trans h0_) (by decide), Kd.R_set R1.out HG0.out (by intro q hq; have hq : q ∈ [2] := hq; simp at hq; omega) 0 (.slice A3 ls.length c3)⟩
         refine steps_cons ?_ ?_
         ·rintro b a w' ⟨ha, Q_HB, Q_KT, Q_HGL, Q_HBX, Q_HG0, Q_HG1, Q_M0, Q_M1, Q_R1⟩ hb_ hon hoff
          refine ⟨_, rfl, fun K hK => ?_⟩
          have e83 : a.tmps[83]? = some (.map (some bm)) := by rw [ha]; exact putSel_on (e := (0, 83, .map (some bm))) 0 rfl rfl (hon 0 (by kernel_rfl)) rfl
          have e85 : a.tmps[85]? = some (.int .i64 f0) := by rw [ha]; exact putSel_on (e := (2, 85, .int .i64 f0)) 1 rfl rfl (hon 2 (by kernel_rfl)) rfl
          replace ha := Aside0.mk ha
          have HB := Aside0.mk Q_HB
          have KT := Aside0.mk Q_KT
          have HGL := Aside0.mk Q_HGL
          have HBX := Aside0.mk Q_HBX
          have HG1 := Aside0.mk (Q_HG1 (hon 7 (by kernel_rfl)))
          have M0 := Aside0.mk (Q_M0 hb_)
          have R1 := Aside0.mk Q_R1
          obtain ⟨w9, hr9, hm9, hg9⟩ := M0.out.put HN.out f0 HF0.out false
          obtain ⟨es9, cl9, hb9⟩ := M0.out.block
          refine skip_ (w1 := w9) (by rfl) rfl ?_ ?_
          ·first | (go_simp; done) | (go_simp; rfl)
          refine hK.out _ _ ⟨(by rw [ha.out]; exact putSel_none (v := undef) rfl), Below.grown HB.out hg9 (below_size HB.out) (fun j hj => by cases hj; exact HGE.out.2), KeepT.map KT.out hb9 hg9, blk_grown HGL.out hg9 (M0.out.ne HGL.out), blk_grown HBX.out hg9 (M0.out.ne HBX.out), fun h0_ => absurd ((hon 7 (by kernel_rfl)).symm.trans h0_) (by decide), fun _ => blk_grown HG1.out hg9 (M0.out.ne HG1.out), fun h0_ => absurd ((up_self b 8).symm.trans h0_) (by decide), fun _ => hm9, M0.out.row R1.out hg9⟩
         exact steps_nil
        rintro b a w4 hall ⟨ha, Q_HB, Q_KT, Q_HGL, Q_HBX, Q_HG0, Q_HG1, Q_M0, Q_M1, Q_R1⟩
        clear HB HBX HG0 HGL KT M0 R1
        have hb0_ := hall 0 (by kernel_rfl)
        have hb2_ := hall 2 (by kernel_rfl)
        have hb3_ := hall 3 (by kernel_rfl)
        have hb5_ := hall 5 (by kernel_rfl)
        have hb6_ := hall 6 (by kernel_rfl)
        have hb7_ := hall 7 (by kernel_rfl)
        have hb8_ := hall 8 (by kernel_rfl)
        subst ha
        simp only [putSel, hb0_, hb2_, hb3_, hb5_, hb6_, hb7_, hb8_, if_true, Act.put, List.setIfInBounds_toArray, List.set_cons_zero, List.set_cons_succ]
        have HB := Aside0.mk Q_HB
        clear Q_HB
        have KT := Aside0.mk Q_KT
        clear Q_KT
        have HGL := Aside0.mk Q_HGL
        clear Q_HGL
        have HBX := Aside0.mk Q_HBX
        clear Q_HBX
        clear Q_HG0
        have HG1 := Aside0.mk (Q_HG1 hb7_)
        clear Q_HG1
        clear Q_M0
        have M1 := Aside0.mk (Q_M1 hb8_)
        clear Q_M1
        have R1 := Aside0.mk Q_R1
        clear Q_R1
        clear hall hb0_ hb2_ hb3_ hb5_ hb6_ hb7_ hb8_
        have HGM2 : Aside0 (w4.heap[gm]? = some (.cells #[.int .i64 (mn : Int)] 3 (0, 0))) := ⟨KT.out _ _ _ HGM1.out (by decide) (by decide)⟩; have HGD2 : Aside0 (w4.heap[gd]? = some (.cells #[.int .i64 ev, .slice (some ac) l.length c] 31 (0, 0))) := ⟨KT.out _ _ _ HGD1.out (by decide) (by decide)⟩; have HGE2 : Aside0 (w4.heap[ge]? = some (.cells #[.func (.func 37) #[] #[.pointer (some ⟨gr, 0, none⟩), .pointer (some ⟨gm, 0, none⟩), .pointer (some ⟨gd, 0, none⟩), .pointer (some ⟨gl, 0, none⟩), .pointer (some ⟨ge, 0, none⟩)]] 65 (0, 0))) := ⟨KT.out _ _ _ HGE1.out (by decide) (by decide)⟩; have KT2 : Aside0 (KeepT 2 26 w w4) := ⟨KT1.out.then_ KT.out⟩
        clear HGM1 HGD1 HGE1 KT1 KT
        have M2 : Aside0 (MapIs w4 bm (n2 + 1) (usedIn l ls)) := ⟨M1.out.tells (Nat.le_refl _) (fun x _ => (Classical.em (x = f0)).elim (fun e => by rw [if_pos e, e, HU.out]) (fun e => by rw [if_neg e, usedIn_snoc, ← HFX.out, beq_eq_false_iff_ne.mpr (Ne.symm e), Bool.or_false]))⟩
        clear M1
        go_wp2
        have hxi := HXI.out
        have hd := HD.out
        have hi := HI.out
        have hsu : (i + 1) * (searchU r + 2) = i * (searchU r + 2) + (searchU r + 2) := Nat.succ_mul _ _
        have hn2 := HN2.out
        have hlen : l.length ≤ 24 := HL.out
        go_roundg (l.length - i)
        case measure => omega
        case rel => exact ⟨i + 1, n2 + 1, _, by first | (rw [show wrap64 (xi + 1) = ((i + 1 : Nat) : Int) from by unfold wrap64; omega]) | (rw [i64_w, show wrap64 (xi + 1) = ((i + 1 : Nat) : Int) from by unfold wrap64; omega]) | (rw [show xi + 1 = ((i + 1 : Nat) : Int) from by omega]), ⟨by omega⟩, HB, KT2, HG1, R1, HGM2, HGD2, HGL, HGE2, M2, ⟨by rw [show l.length - (i + 1) = d by omega]; exact HQ2.out⟩⟩
    ·have hlt' : ¬ (xi < (l.length : Int)) := by omega
     have c2 : decide (xi < (l.length : Int)) = false := decide_eq_false hlt'
     have p2 := eq_false hlt'
     have hq := HQ.out
     rw [show l.length - i = 0 by omega] at hq
     have hq : none = q := Option.some.inj hq
     subst hq
     have hb := HBB.out
     have hx := HX.out
     dsimp only [Option.isSome, Option.getD] at hb hx
     clear HQ hlt hxi
     have HB1 := Aside0.mk hb; have HX1 := Aside0.mk hx
     clear hb hx
     go_wp2
     go_ret
     have hb := HB1.out
     subst hb
     have hx := HX1.out
     subst hx
     refine ⟨rfl, HB.out, KT0.out, ⟨_, HG0.out, HR.out⟩, fun _ => ⟨n1, ?_, M0.out⟩⟩
     have h1 := HI.out
     have h3 : searchU (r + 1) = 24 * (searchU r + 2) := rfl
     have h4 : i * (searchU r + 2) ≤ 24 * (searchU r + 2) := Nat.mul_le_mul_right _ (Nat.le_trans h1.1 HL.out)
     omega

end Go.Proofs.Ytkdijegkoajdgaa.Pa

namespace Go.Proofs.Ytkdijegkoajdgaa.Pa
open Go.RowKit Go.Proofs.YtkdijegkoajdgaaW.PrintWords Go.Proofs.YtkdijegkoajdgaaW.PrintLast Go.Proofs.YtkdijegkoajdgaaW.PrintMore
attribute [local go_sem] max2_int min2_int max_two min_two max_three min_three max_four min_four   -- for this text's walks alone
set_option linter.unusedVariables false
set_option linter.unusedSimpArgs false

/-! ### AUX ringFr -/
/-- Rings of m bounds, then of more, so often. -/
def frLoop (l : List S53) : Nat → Nat → Option (List Int × Bool)
 | 0, _ => some ([], false)
 | d + 1, m => (ringP l m (m + 1) [] 0).bind fun q => match q with
  | some x => some (x, true)
  | none => frLoop l d (m + 1)
/-- What a diagram must be, said once more. -/
def boundOkR (n : Int) (b : S53) : Bool := decide (0 ≤ b.f0) && decide (b.f0 ≤ n - 1) && (decide (0 ≤ b.f1) && decide (b.f1 ≤ n - 1)) && !(b.f0 == b.f1) && (decide (-1000 ≤ b.f2) && decide (b.f2 ≤ 1000))
def diagramOkR (n : Int) (l : List S53) : Bool := decide (1 ≤ n) && decide (n ≤ 10) && decide (l.length ≤ 24) && l.all (boundOkR n)
/-- What both sides answer. -/
def frF (n : Int) (l : List S53) : Option (List Int × Bool) := if diagramOkR n l = true then (if 7 < n then some ([], false) else frLoop l (n - 1).toNat 2) else some ([], false)
theorem diagram_says {n : Int} {l : List S53} (h : diagramOkR n l = true) : 1 ≤ n ∧ n ≤ 10 ∧ l.length ≤ 24 ∧ ∀ i : Int, 0 ≤ i → i < (l.length : Int) → (0 ≤ (rd_T53 l i).f0 ∧ (rd_T53 l i).f0 ≤ 1000) := by
 unfold diagramOkR at h
 simp only [Bool.and_eq_true, decide_eq_true_eq] at h
 obtain ⟨⟨⟨h1, h2⟩, h3⟩, h4⟩ := h
 refine ⟨h1, h2, h3, fun i h0 hi => ?_⟩
 have hm : rd_T53 l i ∈ l := by
  unfold rd_T53
  rw [List.getD_eq_getElem?_getD, List.getElem?_eq_getElem (by omega)]
  exact List.getElem_mem _
 have hb := List.all_eq_true.1 h4 _ hm
 unfold boundOkR at hb
 simp only [Bool.and_eq_true, decide_eq_true_eq] at hb
 omega

end Go.Proofs.Ytkdijegkoajdgaa.Pa

