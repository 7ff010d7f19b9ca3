/- For every three texts the law of PlainSwitch answers yes: the output that the program makes tick by tick is the reference's. -/
import Derived.Test.YtmipelgjmmgmnaaDoorPureThree
import Derived.Test.YtmipelgjmmgmnaaDoorPaxf3
namespace Go.Proofs.YtmipelgjmmgmnaaDoor.Pure
open Go.RowKit Go.Proofs.YtmipelgjmmgmnaaDoor.Pa Go.Proofs.YtmipelgjmmgmnaaDoorW.PrintWords Go.Proofs.YtmipelgjmmgmnaaDoorW.PrintLast
set_option linter.unusedVariables false
set_option linter.unusedSimpArgs false
theorem plain_loop (a b c : ByteArray) (ha : a.size ≤ 400) (hb : b.size = a.size) (hc : c.size = a.size) (wa : waveB a.data.toList = true) (wb : waveB b.data.toList = true) (wc : waveB c.data.toList = true) (k : Nat) (hk : a.size < k) :
    spec_PlainSwitch.l0 k a b c [] 0 = some (strOfNums (waveL (fun i => plainLv a b c (i : Int)) a.size), true) := by
  refine run_loop (fun k out i => spec_PlainSwitch.l0 k a b c out (i : Int)) a.size 1 _ (fun out => (strOfNums out, true)) (fun k out i hi ho => ?_) (fun k out ho => ?_) k (by omega)
  · have hw : wrap64 ((i : Int) + 1) = ((i + 1 : Nat) : Int) := by rw [wrap_id (by omega) (by omega)]; omega
    show spec_PlainSwitch.l0 (k + 1) a b c out (i : Int) = spec_PlainSwitch.l0 k a b c (out ++ [_]) ((i + 1 : Nat) : Int)
    simp only [spec_PlainSwitch.l0]
    have h1 := wave_bt wa (i := i) (by omega)
    have h2 := wave_bt wb (i := i) (by omega)
    have h3 := wave_bt wc (i := i) (by omega)
    rw [if_pos (by omega), if_pos (by omega), if_pos (by omega)]
    rcases h3 with h3 | h3
    · rw [if_pos h3, if_pos (by omega), hw]
      congr 2
      unfold plainLv
      rcases h1 with h1 | h1 <;> simp [h1, h3]
    · rw [if_neg (by omega), if_pos (by omega), if_pos (by omega), hw]
      congr 2
      unfold plainLv
      rcases h2 with h2 | h2 <;> simp [h2, h3]
  · show spec_PlainSwitch.l0 (k + 1) a b c out (a.size : Int) = _
    simp only [spec_PlainSwitch.l0]
    rw [if_neg (by omega)]
theorem FnExactPlainSwitch : laws_FnExactPlainSwitch.Pure := by
  intro a b c ha hb hc
  refine ⟨a.size + b.size + c.size + 1, ?_⟩
  unfold laws_FnExactPlainSwitch.f
  split
  · rfl
  split
  · rfl
  split
  · rfl
  have hsp : spec_PlainSwitch.f (a.size + b.size + c.size + 1) a b c = impl_PlainSwitch.f a b c := by
    unfold spec_PlainSwitch.f impl_PlainSwitch.f
    rw [three_tells a b c ha hb hc _ (by omega) (by omega) (by omega), ← same3, Option.bind_some]
    cases hs : allSame [a, b, c] with
    | false => rfl
    | true =>
      obtain ⟨s1, s2, s3, s4, s5, s6⟩ := same3_of hs
      rw [if_pos rfl, if_pos rfl, plain_loop a b c s1 s2 s3 s4 s5 s6 _ (by omega)]
  rw [hsp]
  have hi : ∃ x, impl_PlainSwitch.f a b c = some x := by
    unfold impl_PlainSwitch.f
    split
    · exact ⟨_, rfl⟩
    · exact ⟨_, rfl⟩
  obtain ⟨x, hx⟩ := hi
  rw [hx]
  simp
end Go.Proofs.YtmipelgjmmgmnaaDoor.Pure
