-- Written for this claim by a program of this session.
import Derived.Test.YteccfnppbonniaaDoorPax0
import Derived.Test.YteccfnppbonniaaDoorCore3
namespace Go.Proofs.YteccfnppbonniaaDoor.Pa
open Go.RowKit Go.Proofs.YteccfnppbonniaaDoorW.PrintWords Go.Proofs.YteccfnppbonniaaDoorW.PrintLast Go.Proofs.YteccfnppbonniaaDoorW.PrintMore
attribute [local go_sem] max2_int min2_int max_two min_two max_three min_three max_four min_four   -- for this text's walks alone
set_option linter.unusedVariables false
set_option linter.unusedSimpArgs false

/-! ### spec_RunQueue: function 5 -/
def sqLoop (d g : Int) (s : ByteArray) : Nat → Nat → Int → Int → Int → Int → Int → Int → Int → List Int → Option (List Int)
 | 0, _, _, _, _, _, _, _, _, out => some out
 | n + 1, i, x0, x1, x2, x3, x4, x5, x6, out => (if bt s (i : Int) = 115 then spec_l05Write.f 40 x0 x1 x2 x3 x4 x5 x6 d g 0 else spec_l05Read.f 40 x0 x1 x2 x3 x4 x5 x6 d g 0).bind fun y => sqLoop d g s n (i + 1) y.1 y.2.1 y.2.2.1 y.2.2.2.1 y.2.2.2.2.1 y.2.2.2.2.2.1 y.2.2.2.2.2.2 (out ++ [y.2.2.2.2.1])
def spec_RunQueue.f (a0_0 a0_1 : Int) (a1 : ByteArray) : Option (List Int × Bool) :=
 (spec_l05Queue.f a0_0 a0_1).bind fun v => if v.2 = (a0_0, a0_1) then match v.1 with
  | false => some ([], false)
  | true => (spec_l05Steps.f (a1.size + 1) a1).bind fun o => match o with
   | false => some ([], false)
   | true => if a1.size ≤ 1000 then (sqLoop a0_0 a0_1 a1 a1.size 0 0 0 0 0 0 0 0 []).bind fun out => some (out, true) else none
 else none
set_option maxHeartbeats 8000000 in
set_option maxRecDepth 100000 in
theorem spec_RunQueue.calls (a0_0 a0_1 : Int) (a1 : ByteArray) (r1 : List Int) (r2 : Bool) (w : World) (h : spec_RunQueue.f a0_0 a0_1 a1 = some (r1, r2)) :
  Calls Tryd.prog 5 #[.agg #[.int .i64 a0_0, .int .i64 a0_1], .string a1] w fun e w' => ∃ v0_ : Value, e = .returned (.tuple #[v0_, .bool r2]) ∧ Kd.R (Kd.int .i64) 2 w' w.heap.size (fun _ => True) v0_ r1 ∧ Below w.heap.size w w' := by
 have hu := Tryd.underlying27
 have hu2 := Tryd.underlying43
 unfold spec_RunQueue.f at h
 obtain ⟨⟨v, v2⟩, hv, h⟩ := Option.bind_eq_some_iff.mp h
 dsimp only at h
 by_cases hvv : v2 = (a0_0, a0_1)
 case neg => rw [if_neg hvv] at h; exact absurd h (by simp)
 rw [if_pos hvv] at h
 subst hvv
 have HV := Aside0.mk hv
 clear hv
 cases v with
 | false =>
  injection h with h
  injection h with e1 e2
  subst e1
  subst e2
  go_enter Tryd.func5, Tryd.ntmps5
  go_wp2_with (first | ((with_reducible refine gate_dst (N := 2) rfl ?_); refine box_event ?hg (N := 2) ?hd (cs := #[.int .i64 a0_0, .int .i64 a0_1]) (t := 27) ?hr ?_; (case hd => rfl); (case hg => rfl); (case hr => first | (go_simp; done) | (go_simp; rfl)); intro gq hg_ w1 hbox_ hb_; have HX_gq := Aside0.mk hbox_; have HB_w1 := Aside0.mk hb_; have HG_gq := Aside0.mk hg_; clear hbox_ hb_ hg_; have b0 := blk_cell HX_gq.out 0; have b1 := blk_cell HX_gq.out 1) | (go_at_call 14; refine (spec_l05Queue.calls gq a0_0 a0_1 _ a0_0 a0_1 w _ ⟨HX_gq.out, by rw [HG_gq.out]; exact Nat.le_refl _⟩ HB_w1.out HV.out).mono ?_; rintro e w2 ⟨rfl, hi, hb, hk⟩; have HB2 := Aside0.mk hb; have HX2 := Aside0.mk hi.1; have HG2 := Aside0.mk hi.2; clear hi hb hk b0 b1; have b0 := blk_cell HX2.out 0; have b1 := blk_cell HX2.out 1))
  go_ret2
  exact ⟨_, rfl, Kd.R_nil _ _ _ _ _, HB2.out⟩
 | true =>
  dsimp only at h
  obtain ⟨o, ho, h⟩ := Option.bind_eq_some_iff.mp h
  have HR := Aside0.mk ho
  clear ho
  cases o with
  | false =>
   injection h with h
   injection h with e1 e2
   subst e1
   subst e2
   go_enter Tryd.func5, Tryd.ntmps5
   go_wp2_with (first | ((with_reducible refine gate_dst (N := 2) rfl ?_); refine box_event ?hg (N := 2) ?hd (cs := #[.int .i64 a0_0, .int .i64 a0_1]) (t := 27) ?hr ?_; (case hd => rfl); (case hg => rfl); (case hr => first | (go_simp; done) | (go_simp; rfl)); intro gq hg_ w1 hbox_ hb_; have HX_gq := Aside0.mk hbox_; have HB_w1 := Aside0.mk hb_; have HG_gq := Aside0.mk hg_; clear hbox_ hb_ hg_; have b0 := blk_cell HX_gq.out 0; have b1 := blk_cell HX_gq.out 1) | (go_at_call 14; refine (spec_l05Queue.calls gq a0_0 a0_1 _ a0_0 a0_1 w _ ⟨HX_gq.out, by rw [HG_gq.out]; exact Nat.le_refl _⟩ HB_w1.out HV.out).mono ?_; rintro e w2 ⟨rfl, hi, hb, hk⟩; have HB2 := Aside0.mk hb; have HX2 := Aside0.mk hi.1; have HG2 := Aside0.mk hi.2; clear hi hb hk b0 b1; have b0 := blk_cell HX2.out 0; have b1 := blk_cell HX2.out 1) | (go_at_call 15; refine (spec_l05Steps.calls _ _ _ _ HR.out).mono ?_; rintro e w3 ⟨rfl, hd⟩; obtain ⟨nd, rfl⟩ := hd; have HB3 := Aside0.mk (pw_below_drewN HB2.out nd); have HX3 := Aside0.mk (blk_drewN HX2.out nd); clear b0 b1))
   go_ret2
   exact ⟨_, rfl, Kd.R_nil _ _ _ _ _, HB3.out⟩
  | true =>
   dsimp only at h
   by_cases hs : a1.size ≤ 1000
   case neg => rw [if_neg hs] at h; exact absurd h (by simp)
   rw [if_pos hs] at h
   obtain ⟨out0, hl, h⟩ := Option.bind_eq_some_iff.mp h
   injection h with h
   injection h with e1 e2
   subst e1
   subst e2
   have HL := Aside0.mk hl
   have HS_ := Aside0.mk hs
   clear hl hs
   go_enter Tryd.func5, Tryd.ntmps5
   go_wp2_with (first | ((with_reducible refine gate_dst (N := 2) rfl ?_); refine box_event ?hg (N := 2) ?hd (cs := #[.int .i64 a0_0, .int .i64 a0_1]) (t := 27) ?hr ?_; (case hd => rfl); (case hg => rfl); (case hr => first | (go_simp; done) | (go_simp; rfl)); intro gq hg_ w1 hbox_ hb_; have HX_gq := Aside0.mk hbox_; have HB_w1 := Aside0.mk hb_; have HG_gq := Aside0.mk hg_; clear hbox_ hb_ hg_; have b0 := blk_cell HX_gq.out 0; have b1 := blk_cell HX_gq.out 1) | (go_at_call 14; refine (spec_l05Queue.calls gq a0_0 a0_1 _ a0_0 a0_1 w _ ⟨HX_gq.out, by rw [HG_gq.out]; exact Nat.le_refl _⟩ HB_w1.out HV.out).mono ?_; rintro e w2 ⟨rfl, hi, hb, hk⟩; have HB2 := Aside0.mk hb; have HX2 := Aside0.mk hi.1; have HG2 := Aside0.mk hi.2; clear hi hb hk b0 b1; have b0 := blk_cell HX2.out 0; have b1 := blk_cell HX2.out 1) | (go_at_call 15; refine (spec_l05Steps.calls _ _ _ _ HR.out).mono ?_; rintro e w3 ⟨rfl, hd⟩; obtain ⟨nd, rfl⟩ := hd; have HB3 := Aside0.mk (pw_below_drewN HB2.out nd); have HX3 := Aside0.mk (blk_drewN HX2.out nd); clear b0 b1; generalize w2.drewN nd = w3 at HB3 HX3 ⊢) | ((with_reducible refine gate_dst (N := 17) rfl ?_); obtain ⟨w5, hwx⟩ : ∃ z, z = w3.alloc (.cells #[.int .i64 0, .int .i64 0, .int .i64 0, .int .i64 0, .int .i64 0, .int .i64 0, .int .i64 0] 43) := ⟨_, rfl⟩; rw [← hwx]; have hb : Below w3.heap.size w3 w5 := (by rw [hwx]; exact below_alloc (Below.refl _ _) _); have HS3 : Aside0 (w5.heap[w3.heap.size]? = some (.cells #[.int .i64 0, .int .i64 0, .int .i64 0, .int .i64 0, .int .i64 0, .int .i64 0, .int .i64 0] 43 (0, 0))) := ⟨by rw [hwx]; simpa using heap_alloc_new w3 _⟩; clear hwx; have HNE0 := Aside0.mk (Nat.ne_of_lt (blk_lt HX3.out)); have HGX0 := Aside0.mk (below_size HB3.out); replace HX3 := Aside0.mk (blk_below HX3.out hb); replace HB3 := Aside0.mk (below_step HB3.out hb); clear hb; generalize w3.heap.size = gx at HS3 HNE0 HGX0 ⊢; refine Kd.R_lit (Kd.int .i64) _ 2 ?hg (N := 17) ?hd (xs := ([] : List Int)) (inner := []) (ok := fun _ => True) (okp := fun _ => True) ?hr ?hp (fun _ hk => hk) trivial (Below.refl _ _) (Nat.le_refl _) (by simp) ?_; (case hd => rfl); (case hg => rfl); (case hr => first | (go_simp; done) | (go_simp; rfl)); (case hp => exact (Reps.none _ _)); intro v18 w4 ho hb hg_ hnew_; have HO4 := Aside0.mk (Kd.R_lower ho (below_size HB3.out)); have HB4 := Aside0.mk (below_step HB3.out hb); have HX4 := Aside0.mk (blk_below HX3.out hb); have HS4 := Aside0.mk (blk_below HS3.out hb); clear hg_ hnew_ ho hb))
   clear HB2 HX2 HB3 HX3 HB_w1 HX_gq HG_gq HS3
   go_loopg [7, 8] (a1.size + 1) (fun gg s7 s8 wr => ∃ (i : Nat) (x0 x1 x2 x3 x4 x5 x6 : Int) (out : List Int), s8 = .int .i64 (i : Int) ∧ Aside0 (i ≤ a1.size ∧ a1.size - i < gg ∧ out.length ≤ i) ∧ Aside0 (Below w.heap.size w wr) ∧ Aside0 (wr.heap[gq]? = some (.cells #[.int .i64 a0_0, .int .i64 a0_1] 27 (0, 0))) ∧ Aside0 (wr.heap[gx]? = some (.cells #[.int .i64 x0, .int .i64 x1, .int .i64 x2, .int .i64 x3, .int .i64 x4, .int .i64 x5, .int .i64 x6] 43 (0, 0))) ∧ Aside0 (Kd.R (Kd.int .i64) 2 wr w.heap.size (fun _ => True) s7 out) ∧ Aside0 (sqLoop a0_0 a0_1 a1 (a1.size - i) i x0 x1 x2 x3 x4 x5 x6 out = some out0))
   case atStart => exact ⟨0, 0, 0, 0, 0, 0, 0, 0, [], rfl, ⟨by simp⟩, HB4, HX4, HS4, HO4, HL⟩
   case round =>
    clear HB4 HX4 HS4 HO4 HL
    obtain ⟨i, x0, x1, x2, x3, x4, x5, x6, out, rfl, HX, HB, HQ, S0, HO, HN⟩ := hrel
    obtain ⟨Ao, co, rfl⟩ := Kd.R_slice HO.out
    generalize hxi : (i : Int) = xi
    have HXI := Aside0.mk hxi
    by_cases hlt : i < a1.size
    ·have hlt' : xi < (a1.size : Int) := by omega
     have h0' : (0 : Int) ≤ xi := by omega
     obtain ⟨n, hn⟩ : ∃ n, a1.size - i = n + 1 := ⟨a1.size - i - 1, by omega⟩
     have hq := HN.out
     rw [hn] at hq
     unfold sqLoop at hq
     rw [hxi] at hq
     obtain ⟨⟨y0, y1, y2, y3, y4, y5, y6⟩, hs, hq⟩ := Option.bind_eq_some_iff.mp hq
     dsimp only at hq
     have HQQ := Aside0.mk hq
     have HD := Aside0.mk hn
     have HLT := Aside0.mk hlt
     have p4 := eq_true h0'; have q4 := eq_true hlt'; have c1 := decide_eq_true h0'; have hx4 := bt_at a1 xi
     have c2 : decide (xi < (a1.size : Int)) = true := decide_eq_true hlt'
     clear hq hn hlt hxi HN
     have hs1 := HS_.out
     have hxb := HX.out.2.2; have hxc := HX.out.1
     by_cases hc : bt a1 xi = 115
     ·rw [if_pos hc] at hs
      have HS := Aside0.mk hs
      have k1 : ((bt a1 xi) == 115) = true := beq_iff_eq.mpr hc
      have k2 : ((bt a1 xi) != 115) = false := bne_eq_false_iff_eq.mpr hc
      clear hs hc
      go_wp2_with (first | (go_at_call 16; refine (spec_l05Write.calls 40 gq gx x0 x1 x2 x3 x4 x5 x6 a0_0 a0_1 0 y0 y1 y2 y3 y4 y5 y6 w _ HB.out HG2.out HGX0.out HNE0.out HQ.out S0.out HS.out).mono ?_; rintro e w15 ⟨rfl, hx5, hq5, hk, hb5⟩; replace HO := Aside0.mk (Kd.R_mono (Kd.R_kept (Kd.R_types HO.out S0.out (by decide)) hk (fun k hk_ h_ => hk_.2 h_)) (fun _ _ => trivial)); replace HB := Aside0.mk hb5; replace HQ := Aside0.mk hq5; have S1 := Aside0.mk hx5; clear hx5 hq5 hk hb5; have m4 := blk_cell S1.out 4) | ((with_reducible refine gate_builtin (b := .append) (xs := #[.tmp 30, .tmp 33]) rfl ?_); at_builtin; refine Kd.R_append (Kd.int .i64) (w0 := w) w.heap.size rfl (.tmp 30) (.tmp 33) 24 2 (.int .i64 0) 8 rfl Tryd.underlying24 info2 rfl (by decide) (by omega) _ out y4 [.int .i64 y4] (fun _ => True) (fun _ => False) rfl rfl rfl (fun _ hk => hk.elim) (fun _ _ => trivial) HO.out HB.out (below_size HB.out) (by omega) ?_; intro v18 w18 ho hb hg hat; have HO18 := Aside0.mk ho; have HB18 := Aside0.mk hb; have HX18 := Aside0.mk (blk_grown S1.out hg (Kd.R_ne HO.out S1.out (by decide))); have HQ18 := Aside0.mk (blk_grown HQ.out hg (Kd.R_ne HO.out HQ.out (by decide))); clear ho hb hg hat))
      have hx1 := HX.out
      have hxi := HXI.out
      have hlt := HLT.out
      go_roundg (a1.size - i)
      case measure => omega
      case rel =>
       refine ⟨i + 1, y0, y1, y2, y3, y4, y5, y6, _, by first | (rw [show wrap64 (xi + 1) = ((i + 1 : Nat) : Int) from by unfold wrap64; omega]) | (rw [i64_w, show wrap64 (xi + 1) = ((i + 1 : Nat) : Int) from by unfold wrap64; omega]) | (rw [show xi + 1 = ((i + 1 : Nat) : Int) from by omega]), ⟨by simp; omega⟩, HB18, HQ18, HX18, HO18, ⟨?_⟩⟩
       have hd := HD.out
       rw [show a1.size - (i + 1) = n by omega]
       exact HQQ.out
     ·rw [if_neg hc] at hs
      have HS := Aside0.mk hs
      have k1 : ((bt a1 xi) == 115) = false := beq_eq_false_iff_ne.mpr hc
      have k2 : ((bt a1 xi) != 115) = true := bne_iff_ne.mpr hc
      clear hs hc
      go_wp2_with (first | (go_at_call 17; refine (spec_l05Read.calls 40 gq gx x0 x1 x2 x3 x4 x5 x6 a0_0 a0_1 0 y0 y1 y2 y3 y4 y5 y6 w _ HB.out HG2.out HGX0.out HNE0.out HQ.out S0.out HS.out).mono ?_; rintro e w15 ⟨rfl, hx5, hq5, hk, hb5⟩; replace HO := Aside0.mk (Kd.R_mono (Kd.R_kept (Kd.R_types HO.out S0.out (by decide)) hk (fun k hk_ h_ => hk_.2 h_)) (fun _ _ => trivial)); replace HB := Aside0.mk hb5; replace HQ := Aside0.mk hq5; have S1 := Aside0.mk hx5; clear hx5 hq5 hk hb5; have m4 := blk_cell S1.out 4) | ((with_reducible refine gate_builtin (b := .append) (xs := #[.tmp 30, .tmp 33]) rfl ?_); at_builtin; refine Kd.R_append (Kd.int .i64) (w0 := w) w.heap.size rfl (.tmp 30) (.tmp 33) 24 2 (.int .i64 0) 8 rfl Tryd.underlying24 info2 rfl (by decide) (by omega) _ out y4 [.int .i64 y4] (fun _ => True) (fun _ => False) rfl rfl rfl (fun _ hk => hk.elim) (fun _ _ => trivial) HO.out HB.out (below_size HB.out) (by omega) ?_; intro v18 w18 ho hb hg hat; have HO18 := Aside0.mk ho; have HB18 := Aside0.mk hb; have HX18 := Aside0.mk (blk_grown S1.out hg (Kd.R_ne HO.out S1.out (by decide))); have HQ18 := Aside0.mk (blk_grown HQ.out hg (Kd.R_ne HO.out HQ.out (by decide))); clear ho hb hg hat))
      have hx1 := HX.out
      have hxi := HXI.out
      have hlt := HLT.out
      go_roundg (a1.size - i)
      case measure => omega
      case rel =>
       refine ⟨i + 1, y0, y1, y2, y3, y4, y5, y6, _, by first | (rw [show wrap64 (xi + 1) = ((i + 1 : Nat) : Int) from by unfold wrap64; omega]) | (rw [i64_w, show wrap64 (xi + 1) = ((i + 1 : Nat) : Int) from by unfold wrap64; omega]) | (rw [show xi + 1 = ((i + 1 : Nat) : Int) from by omega]), ⟨by simp; omega⟩, HB18, HQ18, HX18, HO18, ⟨?_⟩⟩
       have hd := HD.out
       rw [show a1.size - (i + 1) = n by omega]
       exact HQQ.out
    ·have hlt' : ¬ (xi < (a1.size : Int)) := by omega
     have c2 : decide (xi < (a1.size : Int)) = false := decide_eq_false hlt'
     have p2 := eq_false hlt'
     have hq := HN.out
     rw [show a1.size - i = 0 by omega] at hq
     injection hq with hq
     subst hq
     clear HN hlt hxi
     go_wp2
     go_ret2
     exact ⟨_, rfl, HO.out, HB.out⟩

end Go.Proofs.YteccfnppbonniaaDoor.Pa
