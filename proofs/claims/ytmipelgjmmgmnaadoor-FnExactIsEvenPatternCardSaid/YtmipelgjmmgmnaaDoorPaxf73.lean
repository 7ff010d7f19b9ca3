-- Written for this claim by a program of this session.
import Derived.Test.YtmipelgjmmgmnaaDoorPax0
import Derived.Test.YtmipelgjmmgmnaaDoorPaxauneven
import Derived.Test.YtmipelgjmmgmnaaDoorShelfC
namespace Go.Proofs.YtmipelgjmmgmnaaDoor.Pa
open Go.RowKit Go.Proofs.YtmipelgjmmgmnaaDoorW.PrintWords Go.Proofs.YtmipelgjmmgmnaaDoorW.PrintLast Go.Proofs.YtmipelgjmmgmnaaDoorW.PrintMore
attribute [local go_sem] max2_int min2_int max_two min_two max_three min_three max_four min_four   -- for this text's walks alone
set_option linter.unusedVariables false
set_option linter.unusedSimpArgs false

/-! ### impl_mostUneven: function 73 -/
/-- The greatest difference of all sizes up to so many. -/
def mostI (b : ByteArray) (n : Nat) : Nat → Int
  | 0 => 0
  | z + 1 => if mostI b n z < hiA b ((z + 1 : Nat) : Int) n - loA b ((z + 1 : Nat) : Int) ((z + 1 : Nat) : Int) n then hiA b ((z + 1 : Nat) : Int) n - loA b ((z + 1 : Nat) : Int) ((z + 1 : Nat) : Int) n else mostI b n z
theorem mostI_succ (b : ByteArray) (n z : Nat) : mostI b n (z + 1) = if mostI b n z < hiA b ((z + 1 : Nat) : Int) n - loA b ((z + 1 : Nat) : Int) ((z + 1 : Nat) : Int) n then hiA b ((z + 1 : Nat) : Int) n - loA b ((z + 1 : Nat) : Int) ((z + 1 : Nat) : Int) n else mostI b n z := rfl
def mostZ (b : ByteArray) (n : Nat) (z : Int) : Int := mostI b n (z - 1).toNat
def impl_mostUneven.f (a0 : ByteArray) : Option Int := if a0.size ≤ 64 then some (mostI (a0 ++ a0) a0.size a0.size) else none
theorem cntW_in (b : ByteArray) (x z : Int) (h0 : 0 ≤ x) (h1 : 0 ≤ z) : 0 ≤ cntW b x z ∧ cntW b x z ≤ z := by
  unfold cntW Lib.countByte
  have h := List.count_le_length (a := (49 : UInt8)) (l := (b.extract x.toNat (x + z).toNat).data.toList)
  have hl : (b.extract x.toNat (x + z).toNat).data.toList.length ≤ (x + z).toNat - x.toNat := by
    rw [Array.length_toList]
    show (b.extract x.toNat (x + z).toNat).size ≤ _
    rw [ByteArray.size_extract]
    omega
  constructor
  · omega
  · omega
theorem loA_in (b : ByteArray) (n0 z : Int) (h0 : 0 ≤ z) (h1 : 0 ≤ n0) (h2 : n0 ≤ 64) : ∀ i, 0 ≤ loA b n0 z i ∧ loA b n0 z i ≤ 64
  | 0 => ⟨h1, h2⟩
  | i + 1 => by
    have ih := loA_in b n0 z h0 h1 h2 i
    have hc := cntW_in b (i : Int) z (by omega) h0
    unfold loA
    split <;> omega
theorem hiA_in (b : ByteArray) (z : Int) (h0 : 0 ≤ z) (h2 : z ≤ 64) : ∀ i, 0 ≤ hiA b z i ∧ hiA b z i ≤ 64
  | 0 => ⟨Int.le_refl _, by show (0 : Int) ≤ 64; decide⟩
  | i + 1 => by
    have ih := hiA_in b z h0 h2 i
    have hc := cntW_in b (i : Int) z (by omega) h0
    unfold hiA
    split <;> omega
set_option maxHeartbeats 8000000 in
set_option maxRecDepth 100000 in
theorem impl_mostUneven.calls (a0 : ByteArray) (r : Int) (w : World) (h : impl_mostUneven.f a0 = some r) :
    Calls Tryd.prog 73 #[.string a0] w fun e w' => e = .returned (.int .i64 r) ∧ Below w.heap.size w w' := by
  unfold impl_mostUneven.f at h
  by_cases hl : a0.size ≤ 64
  case neg => rw [if_neg hl] at h; exact absurd h (by simp)
  rw [if_pos hl] at h
  obtain rfl := Option.some.inj h
  have HN := Aside0.mk hl
  have g0 : (9223372036854775807 < a0.size + a0.size) = False := eq_false (by omega)
  have g1 : (a0.size + a0.size ≤ 9223372036854775807) = True := eq_true (by omega)
  have g2 : decide (a0.size + a0.size ≤ 9223372036854775807) = true := decide_eq_true (by omega)
  clear h hl
  go_enter Tryd.func73, Tryd.ntmps73
  go_wp2
  go_loopg [3, 4] (a0.size + 1) (fun gg s3 s4 wr => ∃ z : Int, s4 = .int .i64 z ∧ s3 = .int .i64 (mostZ (a0 ++ a0) a0.size z) ∧ Aside0 (1 ≤ z ∧ z ≤ a0.size + 1 ∧ a0.size + 1 - z ≤ gg) ∧ Aside0 (Below w.heap.size w wr))
  case atStart => exact ⟨1, rfl, rfl, ⟨by omega⟩, ⟨Below.refl _ _⟩⟩
  case round =>
    obtain ⟨z, rfl, rfl, HZ, HB⟩ := hrel
    by_cases hz : z ≤ (a0.size : Int)
    · have t1 : decide (z ≤ (a0.size : Int)) = true := decide_eq_true hz
      have HZL := Aside0.mk hz
      clear hz
      go_wp2
      go_loopg [5, 6, 18] a0.size (fun gg s5 s6 s18 wi => ∃ x : Int, s18 = .int .i64 x ∧ s5 = .int .i64 (loA (a0 ++ a0) z z x.toNat) ∧ s6 = .int .i64 (hiA (a0 ++ a0) z x.toNat) ∧ Aside0 (0 ≤ x ∧ x ≤ a0.size ∧ a0.size - x ≤ gg) ∧ Aside0 (Below w.heap.size w wi))
      case atStart => exact ⟨0, rfl, rfl, rfl, ⟨by omega⟩, HB⟩
      case round =>
        clear HB
        obtain ⟨x, rfl, rfl, rfl, HX, HB⟩ := hrel
        by_cases hx : x < (a0.size : Int)
        · have t2 : decide (x < (a0.size : Int)) = true := decide_eq_true hx
          have hn0 := HN.out
          have hz0 := HZ.out
          have hz1 := HZL.out
          have hx0 := HX.out
          have hw : wrap64 (x + z) = x + z := by unfold wrap64; omega
          have q0 : 0 ≤ x := hx0.1
          have q1 : x ≤ wrap64 (x + z) := by omega
          have q2 : wrap64 (x + z) ≤ ((a0 ++ a0).size : Int) := by rw [ByteArray.size_append]; omega
          have q3 : wrap64 (x + z) ≤ (a0.size : Int) + (a0.size : Int) := by omega
          have e0 := eq_true q0
          have e1 := eq_true q1
          have e2 := eq_true q2
          have e3 := eq_true q3
          have d0 := decide_eq_true q0
          have d1 := decide_eq_true q1
          have d2 := decide_eq_true q2
          have d3 := decide_eq_true q3
          have HW := Aside0.mk hw
          have HXL := Aside0.mk hx
          have HC : Aside0 (∀ W : World, Calls Tryd.prog 104 #[.string ((a0 ++ a0).extract x.toNat (wrap64 (x + z)).toNat), .string ⟨#[49]⟩] W fun e w' => e = .returned (.int .i64 (cntW (a0 ++ a0) x z)) ∧ w' = W) := ⟨fun W => by
            have := Tryd.strings_Count_one ((a0 ++ a0).extract x.toNat (wrap64 (x + z)).toNat) 49 W
            unfold cntW
            rw [hw] at this ⊢
            exact this⟩
          have hcr := cntW_in (a0 ++ a0) x z hx0.1 (by omega)
          have HCR := Aside0.mk hcr
          clear hcr
          clear hn0 hz0 hz1 hx0 hw q0 q1 q2 q3 hx
          go_wp2_with (go_at_call 104; refine (HC.out _).mono ?_; rintro e w' ⟨rfl, rfl⟩)
          all_goals
            have hx := HX.out
            have hxl := HXL.out
            have hn := HN.out
            go_roundg (a0.size - (x + 1).toNat)
            case measure => omega
            case rel =>
              have hw1 : wrap64 (x + 1) = x + 1 := by unfold wrap64; omega
              have hs : (x + 1).toNat = x.toNat + 1 := by omega
              have hxe : ((x.toNat : Nat) : Int) = x := by omega
              refine ⟨x + 1, by rw [hw1], ?_, ?_, ⟨by omega⟩, HB⟩
              · rw [hs, loA_succ, hxe]; first | rfl | (congr 1; split <;> omega)
              · rw [hs, hiA_succ, hxe]; first | rfl | (congr 1; split <;> omega)
        · have t2 : decide (x < (a0.size : Int)) = false := decide_eq_false hx
          have hxx := HX.out
          obtain rfl : x = (a0.size : Int) := by omega
          rw [Int.toNat_natCast]
          have hl := loA_in (a0 ++ a0) z z (by have := HZ.out; omega) (by have := HZ.out; omega) (by have := HZL.out; have := HN.out; omega) a0.size
          have hh := hiA_in (a0 ++ a0) z (by have := HZ.out; omega) (by have := HZL.out; have := HN.out; omega) a0.size
          have hwd : wrap64 (hiA (a0 ++ a0) z a0.size - loA (a0 ++ a0) z z a0.size) = hiA (a0 ++ a0) z a0.size - loA (a0 ++ a0) z z a0.size := by unfold wrap64; omega
          have HWD := Aside0.mk hwd
          clear hx hxx hl hh hwd
          go_wp2
          all_goals
            have hz := HZ.out
            have hzl := HZL.out
            have hn := HN.out
            go_roundg (a0.size + 1 - (z + 1).toNat)
            case measure => omega
            case rel =>
              have hw1 : wrap64 (z + 1) = z + 1 := by unfold wrap64; omega
              refine ⟨z + 1, by rw [hw1], ?_, ⟨by omega⟩, HB⟩
              unfold mostZ
              rw [show (z + 1 - 1).toNat = (z - 1).toNat + 1 from by omega]
              rw [mostI_succ, show (((z - 1).toNat + 1 : Nat) : Int) = z from by omega]
              have hwd := HWD.out
              have hmz : mostZ (a0 ++ a0) a0.size z = mostI (a0 ++ a0) a0.size (z - 1).toNat := rfl
              first | rfl | (congr 1; split <;> omega)
    · have t1 : decide (z ≤ (a0.size : Int)) = false := decide_eq_false hz
      have hzz := HZ.out
      obtain rfl : z = (a0.size : Int) + 1 := by omega
      have he : mostZ (a0 ++ a0) a0.size ((a0.size : Int) + 1) = mostI (a0 ++ a0) a0.size a0.size := by unfold mostZ; rw [show ((a0.size : Int) + 1 - 1).toNat = a0.size from by omega]
      rw [he]
      clear hz hzz he
      go_wp2
      go_ret
      exact ⟨rfl, HB.out⟩

end Go.Proofs.YtmipelgjmmgmnaaDoor.Pa
