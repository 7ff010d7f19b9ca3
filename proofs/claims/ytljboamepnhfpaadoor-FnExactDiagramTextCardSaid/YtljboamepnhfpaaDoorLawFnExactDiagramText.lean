-- Written for this claim by a program of this session.
import Derived.Test.YtljboamepnhfpaaDoorRows
import Derived.Test.YtljboamepnhfpaaDoorCards
import Derived.Test.YtljboamepnhfpaaDoorTie
import Derived.LaidMore
import Derived.Lay
import Derived.SevenTiedAt
import Derived.Stop.Joined
import Derived.Test.YtljboamepnhfpaaDoorPaxf3
import Derived.Test.YtljboamepnhfpaaDoorPureFnExactDiagramText
import Derived.Stop.LaidErr
import Derived.WalkKit
import Derived.ProofKit
import Derived.OpenShut
import Derived.ShutString
import Derived.ChangeOld
import Derived.Below
import Derived.SizedLaws
namespace Go.Proofs.YtljboamepnhfpaaDoor.fnExactDiagramText
open Go.ChangeShapes Go.WideShapes Go.ChangeAt Go.RowKit Go.Proofs.YtljboamepnhfpaaDoor.Pa Go.Proofs.YtljboamepnhfpaaDoorW.PrintWords Go.Proofs.YtljboamepnhfpaaDoorW.PrintLast
open Go.ChangeMaps (open_string shut_string)
theorem own : ownKnob Tryd.prog.godebug = none := by kernel_rfl
theorem laidOut : laidOutB Tryd.prog = true := by kernel_rfl
theorem opens47 : Opens Tryd.prog k47 47 (fun x => ((Lit.int .i64 x.f0).wf = true ∧ (Lit.int .i64 x.f1).wf = true ∧ (Lit.int .i64 x.f2).wf = true)) :=
  Opens.iso (Opens.struct Tryd.underlying47 (by kernel_rfl) (OpensF.cons (Opens.int Tryd.underlying2 (by kernel_rfl)) rfl (OpensF.cons (Opens.int Tryd.underlying2 (by kernel_rfl)) rfl (OpensF.one (Opens.int Tryd.underlying2 (by kernel_rfl)) rfl)))) _ (fun a_ => ⟨a_.1, a_.2.1, a_.2.2⟩) (fun _ => rfl)
theorem opens24 : Opens Tryd.prog k24 24 (fun x => ((Lit.int .i64 x.f0).wf = true ∧ (x.f1.length ≤ 9223372036854775807 ∧ ∀ y_ ∈ x.f1, ((Lit.int .i64 y_.f0).wf = true ∧ (Lit.int .i64 y_.f1).wf = true ∧ (Lit.int .i64 y_.f2).wf = true)))) :=
  Opens.iso (Opens.struct Tryd.underlying24 (by kernel_rfl) (OpensF.cons (Opens.int Tryd.underlying2 (by kernel_rfl)) rfl (OpensF.one (Opens.slice 47 Tryd.underlying22 (by kernel_rfl) opens47) rfl))) _ (fun a_ => ⟨a_.1, a_.2⟩) (fun _ => rfl)
set_option maxRecDepth 100000 in
theorem lifted (os : Os) (started : os.Started) (H : Type) (enc : TypeId × Value → H) :
    ReturnsInHanded {} Tryd.checked os 3 .any (fun w args => (Rows.fnExactDiagramTextSpec.pre enc Tryd.prog Tryd.f3 Rows.fnExactDiagramTextRow.domain false w args ∧ laidMetH Tryd.prog Rows.fnExactDiagramTextRow.laid w) ∧ sizedMet enc Tryd.prog Tryd.f3 (OpenSpec.ofChange Rows.fnExactDiagramTextSpec) false w args) (Rows.fnExactDiagramTextSpec.post enc Tryd.prog Tryd.f3 false true false false) := by
  refine returnsInHanded_of_change_and (C := Tryd.checked) (X := fun w _ => laidMetH Tryd.prog Rows.fnExactDiagramTextRow.laid w) (fun _ _ _ hh h => h.of_heap hh) own started (by kernel_rfl) Tryd.func3
    (ChangeSpec.witness_shaped (enc := enc) (C := Tryd.checked) (os := os) (X := fun w _ => laidMetH Tryd.prog Rows.fnExactDiagramTextRow.laid w) false (World.laidAll Tryd.prog os Rows.fnExactDiagramTextRow.laid) #[.agg #[.int .i64 0, .slice none 0 0]] 8 (World.laidAll_os _ _ _)
      (World.shaped_of_ZipB (by kernel_rfl) (by kernel_rfl)) (by kernel_rfl) (by kernel_rfl) (by kernel_rfl)
      (by rw [MakeChecks.laidMetH_plain _ _ _ (by kernel_rfl)]; exact laidMet_laidAll _ (by kernel_rfl) (by kernel_rfl))) ?_
  intro W base args ds gs before hval0 hW hcnd hsz0 hL _
  have hsz : (DataW.weightsEach Tryd.prog (Tryd.f3.params.toList ++ Rows.fnExactDiagramTextSpec.plain.varTypes Tryd.prog) (ds ++ gs)).all (· ≤ reachBytes) = true := hsz0
  have hval : ∀ (j : Nat) t v, Tryd.f3.params[j]? = some t → args[j]? = some v → Value.okWide Tryd.prog W .any base t v := hval0
  have hW' := hW
  obtain ⟨p, q, hA0, hV, rfl, hfz, hnd⟩ := hW
  have hA : DataW.TrodAll enc Tryd.prog W 0 (fun _ => true) true Tryd.f3.params.toList args.toList ds p := hA0
  rw [Tryd.params3] at hA hval hsz
  obtain ⟨v0, vs0, d0, ds0, p0, q0, hargs, rfl, rfl, h0, r0⟩ := trodAll_cons hA
  obtain ⟨rfl, rfl, rfl⟩ := trodAll_nil r0
  obtain rfl : args = #[v0] := by cases args; simp_all
  obtain ⟨rfl, rfl⟩ := trodVars_none hV
  have k0 := h0
  have lt0 : ∀ x ∈ p0, x.block < W.heap.size := by obtain ⟨m, hm⟩ := k0; exact DataW.trod_lt m _ _ _ hm
  obtain ⟨fu0, hf0⟩ := h0
  obtain ⟨x0, hk0, hg0⟩ := (opens24).opens _ _ _ _ _ _ hf0
  obtain ⟨_, _, e0, rfl, ⟨A0_1, c0_1, rfl, hc0_1, hr0_1⟩⟩ := hk0
  obtain ⟨cs0, rfl, _⟩ := okWide_struct Tryd.underlying24 (hval 0 24 v0 rfl rfl)
  obtain rfl : cs0 = #[.int .i64 x0.f0, .slice A0_1 x0.f1.length c0_1] := by
    obtain ⟨l_⟩ := cs0
    exact congrArg List.toArray e0
  clear hA0 hval0 hsz0 hsz
  have hTab : TabOk W := by
    rw [MakeChecks.laidMetH_plain _ _ _ (by kernel_rfl)] at hL
    exact Lib.tabIs_of_head (P := Tryd.prog) (W := W) (name := "internal/strconv.uint64pow10") (k := .u64) (zs := Lib.pow10Tab) (rest := []) (g := 0) (t := 65) (e := 58) (n := 20) (by kernel_rfl) (by kernel_rfl) (by kernel_rfl) (by kernel_rfl) (by kernel_rfl) (by kernel_rfl) (laidMet.tail (laidMet.tail (show laidMet Tryd.prog (_ :: _ :: _ :: []) W from hL)))
  obtain ⟨k_, h_⟩ := Pure.FnExactDiagramText x0.f0 x0.f1 hg0.1 hg0.2
  refine (laws_FnExactDiagramText.calls k_ x0.f0 A0_1 c0_1 x0.f1 true W hTab hr0_1 hc0_1 h_).mono fun e W' ⟨he, bel0⟩ => ?_
  have bel : Below W.heap.size W W' := bel0
  subst he
  exact ⟨_, rfl, _, _, _, [], _, [], hW', trodAll_mk1 (shut_bool Tryd.underlying4 _), (trodAll_cons_mk (Below.trod laidOut (by kernel_rfl) (of_decide_eq_true (by kernel_rfl)) k0 bel lt0) trodAll_mk0), rfl, bel.frame _, fun h => by cases h⟩
theorem over : Rows.fnExactDiagramTextRow.holds Tryd.pinned (OpenSpec.ofChange Rows.fnExactDiagramTextSpec) :=
  OpenClaim.holds_of_wide 3 Tryd.f3 rfl rfl rfl rfl rfl rfl rfl ⟨rfl, rfl, rfl, rfl, rfl⟩ rfl rfl rfl rfl rfl (by kernel_rfl) Tryd.func3 (by kernel_rfl)
    (of_decide_eq_true (by kernel_rfl)) (by unfold Func.isWrapper; first | (rw [if_pos (by decide +kernel)]; kernel_rfl) | (rw [if_neg (by decide +kernel)]; exact ⟨rfl, rfl⟩))
    (fun os started H enc _ => lifted os started H enc)
theorem card : Rows.FnExactDiagramTextCardSaid :=
  Claim7.holds_tied_plain_at .later [] [.data, .data, .data] true (true, "b9d4557958ab74dba172ef895f80701f461c78fba707cfad9631ac5bbf62fb8a") false over (fun _ h => by cases h) (by kernel_rfl) (fun _ h => by cases h) fnExactDiagramText_row_tie rfl ⟨rfl, rfl⟩ (by kernel_rfl) rfl
    (fun f fn hf hfn => by
      obtain rfl : f = 3 := Option.some.inj ((show Tryd.prog.funcNamed "loop.example/g01153/laws.FnExactDiagramText" = some 3 by kernel_rfl).symm.trans hf) |>.symm
      obtain rfl : fn = Tryd.f3 := (Option.some.inj (Tryd.func3.symm.trans hfn)).symm
      exact ⟨by kernel_rfl, fun j t ht => by
        rw [Tryd.params3] at ht
        have hm : t ∈ [24] := by simpa using Array.mem_of_getElem? ht
        have hall : ([24].all fun u => !Tryd.prog.wantsStandIn u) = true := by kernel_rfl
        exact (show Tryd.prog.wantsStandIn t = false by simpa using List.all_eq_true.1 hall t hm)⟩)
    (by kernel_rfl)
#print axioms card
end Go.Proofs.YtljboamepnhfpaaDoor.fnExactDiagramText
namespace Go.Proofs.YtljboamepnhfpaaDoor
/-- The row, under a short name, for the claim. -/
theorem fnExactDiagramText_holds : Rows.FnExactDiagramTextCardSaid := fnExactDiagramText.card
end Go.Proofs.YtljboamepnhfpaaDoor
