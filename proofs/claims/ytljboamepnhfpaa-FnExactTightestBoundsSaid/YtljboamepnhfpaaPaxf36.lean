import Derived.Test.YtljboamepnhfpaaPax0
import Derived.Test.YtljboamepnhfpaaCore5
namespace Go.Proofs.Ytljboamepnhfpaa.Pa
open Go.RowKit Go.Proofs.YtljboamepnhfpaaW.PrintWords Go.Proofs.YtljboamepnhfpaaW.PrintLast Go.Proofs.YtljboamepnhfpaaW.PrintMore
set_option linter.unusedVariables false
set_option linter.unusedSimpArgs false
def spec_TightestBounds.f (k : Nat) (s0_0 : Int) (s0_1 : List S45) : Option (List (List Int) × Bool) := (spec_l04Is.f s0_0 s0_1).bind fun b => if b.1 = true then (spec_l04Tight.f k b.2 s0_1 []).bind fun t => if t.2.1 = true then some (t.1, true) else some ([], false) else some ([], false)
set_option maxHeartbeats 4000000 in
set_option maxRecDepth 100000 in
theorem spec_TightestBounds.calls (k : Nat) (s0_0 : Int) (A0_1 : Option Addr) (c0_1 : Nat) (s0_1 : List S45) (r1 : List (List Int)) (r2 : Bool) (w : World) (hr0_1 : Kd.C k45 w A0_1 s0_1.length s0_1) (h : spec_TightestBounds.f k s0_0 s0_1 = some (r1, r2)) :
    Calls Try.prog 36 #[.agg #[.int .i64 s0_0, .slice A0_1 s0_1.length c0_1]] w fun e w' => ∃ v0_ : Value, e = .returned (.tuple #[v0_, .bool r2]) ∧ Kd.S (Kd.slice 2 (Kd.int .i64)) 33 w' w.heap.size (fun _ => True) v0_ r1 ∧ Below w.heap.size w w' := by
  have hu := Try.underlying29
  have HR := Aside0.mk hr0_1
  clear hr0_1
  unfold spec_TightestBounds.f at h
  replace h := Option.bind_eq_some_iff.mp h
  obtain ⟨⟨b1, b2⟩, h1, h⟩ := h
  dsimp only at h
  have H1 := Aside0.mk h1
  clear h1
  cases b1 with
  | false =>
    simp only [Bool.false_eq_true, if_false, Option.some.injEq, Prod.mk.injEq] at h
    obtain ⟨rfl, rfl⟩ := h
    go_enter Try.func36, Try.ntmps36
    go_wp2_with (first | ((with_reducible refine gate_dst (N := 1) rfl ?_); refine box_event ?hg (N := 1) ?hd (cs := #[.int .i64 s0_0, .slice A0_1 s0_1.length c0_1]) (t := 29) ?hr ?_; (case hd => rfl); (case hg => rfl); (case hr => first | (go_simp; done) | (go_simp; rfl)); intro gb hg_ w1 hbox_ hb_; have HX_gb := Aside0.mk hbox_; have HB_w1 := Aside0.mk hb_; have HG_gb := Aside0.mk hg_; clear hbox_ hb_ hg_; have HI := Aside0.mk (show IsS29 w w1 gb s0_0 s0_1 from ⟨A0_1, c0_1, HX_gb.out, by have := HG_gb.out; omega, HR.out⟩)) | (go_at_call 46; refine (spec_l04Is.calls (g := gb) (w0 := w) (hI := HI.out) (hB := HB_w1.out) (h := H1.out)).mono ?_; rintro e w2 ⟨rfl, hi, hb, _⟩; have HI2 := Aside0.mk hi; have HB2 := Aside0.mk hb; clear hi hb))
    go_ret2
    exact ⟨_, rfl, Kd.S_nil _ _ _ _ _, HB2.out⟩
  | true =>
    rw [if_pos rfl] at h
    replace h := Option.bind_eq_some_iff.mp h
    obtain ⟨⟨m, b, q⟩, h2, h⟩ := h
    dsimp only at h
    have H2 := Aside0.mk h2
    clear h2
    cases b with
    | false =>
      simp only [Bool.false_eq_true, if_false, Option.some.injEq, Prod.mk.injEq] at h
      obtain ⟨rfl, rfl⟩ := h
      go_enter Try.func36, Try.ntmps36
      go_wp2_with (first | ((with_reducible refine gate_dst (N := 1) rfl ?_); refine box_event ?hg (N := 1) ?hd (cs := #[.int .i64 s0_0, .slice A0_1 s0_1.length c0_1]) (t := 29) ?hr ?_; (case hd => rfl); (case hg => rfl); (case hr => first | (go_simp; done) | (go_simp; rfl)); intro gb hg_ w1 hbox_ hb_; have HX_gb := Aside0.mk hbox_; have HB_w1 := Aside0.mk hb_; have HG_gb := Aside0.mk hg_; clear hbox_ hb_ hg_; have HI := Aside0.mk (show IsS29 w w1 gb s0_0 s0_1 from ⟨A0_1, c0_1, HX_gb.out, by have := HG_gb.out; omega, HR.out⟩)) | (go_at_call 46; refine (spec_l04Is.calls (g := gb) (w0 := w) (hI := HI.out) (hB := HB_w1.out) (h := H1.out)).mono ?_; rintro e w2 ⟨rfl, hi, hb, _⟩; have HI2 := Aside0.mk hi; have HB2 := Aside0.mk hb; clear hi hb) | ((with_reducible refine gate_dst (N := 9) rfl ?_); refine Kd.R_lit (Kd.int .i64) _ 2 ?hg (N := 9) ?hd (xs := ([] : List Int)) (inner := []) (ok := fun _ => True) (okp := fun _ => True) ?hr ?hp (fun _ hk => hk) trivial (Below.refl _ _) (Nat.le_refl _) (by simp) ?_; (case hd => rfl); (case hg => rfl); (case hr => first | (go_simp; done) | (go_simp; rfl)); (case hp => exact (Reps.none _ _)); intro v3 w3 ho hb hg_ hnew_; clear hg_ hnew_; obtain ⟨A3, c3, rfl⟩ := Kd.R_slice ho; have H3 := Aside0.mk ho; have HI3 := Aside0.mk (IsS29.below HI2.out hb); have HB3 := Aside0.mk (below_step HB2.out hb); clear ho hb) | (go_at_call 63; refine (spec_l04Tight.calls (g := gb) (w0 := w) (hI := HI3.out) (hB := HB3.out) (hr1 := (Kd.R_reads' H3.out).2.2) (hc1 := (Kd.R_reads' H3.out).2.1) (hf1 := fun _ _ h => absurd h (by simp)) (h := H2.out)).mono ?_; rintro e w4 ⟨v4, rfl, hs, _, hb, _⟩; have H4 := Aside0.mk (Kd.S_lower hs HB3.out.size); have HB4 := Aside0.mk hb; clear hs hb))
      go_ret2
      exact ⟨_, rfl, Kd.S_nil _ _ _ _ _, HB4.out⟩
    | true =>
      rw [if_pos rfl] at h
      simp only [Option.some.injEq, Prod.mk.injEq] at h
      obtain ⟨rfl, rfl⟩ := h
      go_enter Try.func36, Try.ntmps36
      go_wp2_with (first | ((with_reducible refine gate_dst (N := 1) rfl ?_); refine box_event ?hg (N := 1) ?hd (cs := #[.int .i64 s0_0, .slice A0_1 s0_1.length c0_1]) (t := 29) ?hr ?_; (case hd => rfl); (case hg => rfl); (case hr => first | (go_simp; done) | (go_simp; rfl)); intro gb hg_ w1 hbox_ hb_; have HX_gb := Aside0.mk hbox_; have HB_w1 := Aside0.mk hb_; have HG_gb := Aside0.mk hg_; clear hbox_ hb_ hg_; have HI := Aside0.mk (show IsS29 w w1 gb s0_0 s0_1 from ⟨A0_1, c0_1, HX_gb.out, by have := HG_gb.out; omega, HR.out⟩)) | (go_at_call 46; refine (spec_l04Is.calls (g := gb) (w0 := w) (hI := HI.out) (hB := HB_w1.out) (h := H1.out)).mono ?_; rintro e w2 ⟨rfl, hi, hb, _⟩; have HI2 := Aside0.mk hi; have HB2 := Aside0.mk hb; clear hi hb) | ((with_reducible refine gate_dst (N := 9) rfl ?_); refine Kd.R_lit (Kd.int .i64) _ 2 ?hg (N := 9) ?hd (xs := ([] : List Int)) (inner := []) (ok := fun _ => True) (okp := fun _ => True) ?hr ?hp (fun _ hk => hk) trivial (Below.refl _ _) (Nat.le_refl _) (by simp) ?_; (case hd => rfl); (case hg => rfl); (case hr => first | (go_simp; done) | (go_simp; rfl)); (case hp => exact (Reps.none _ _)); intro v3 w3 ho hb hg_ hnew_; clear hg_ hnew_; obtain ⟨A3, c3, rfl⟩ := Kd.R_slice ho; have H3 := Aside0.mk ho; have HI3 := Aside0.mk (IsS29.below HI2.out hb); have HB3 := Aside0.mk (below_step HB2.out hb); clear ho hb) | (go_at_call 63; refine (spec_l04Tight.calls (g := gb) (w0 := w) (hI := HI3.out) (hB := HB3.out) (hr1 := (Kd.R_reads' H3.out).2.2) (hc1 := (Kd.R_reads' H3.out).2.1) (hf1 := fun _ _ h => absurd h (by simp)) (h := H2.out)).mono ?_; rintro e w4 ⟨v4, rfl, hs, _, hb, _⟩; have H4 := Aside0.mk (Kd.S_lower hs HB3.out.size); have HB4 := Aside0.mk hb; clear hs hb))
      go_ret2
      exact ⟨_, rfl, H4.out, HB4.out⟩

end Go.Proofs.Ytljboamepnhfpaa.Pa
