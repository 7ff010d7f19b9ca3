-- Written for this claim by a program of this session.
import Derived.Test.YtbkofbcmhddbfaaPPax0
import Derived.Test.YtbkofbcmhddbfaaPKPPaxf5
import Derived.Test.YtbkofbcmhddbfaaPCoreP9
import Derived.Test.YtbkofbcmhddbfaaPKPPaxf7
import Derived.Test.YtbkofbcmhddbfaaPCoreP1
import Derived.Test.YtbkofbcmhddbfaaPCoreP5
import Derived.Test.YtbkofbcmhddbfaaPCoreP6
import Derived.Test.YtbkofbcmhddbfaaPKPPaxf11
namespace Go.Proofs.Ytbkofbcmhddbfaa.Pa
open Go.RowKit Go.Proofs.YtbkofbcmhddbfaaW.PrintWords Go.Proofs.YtbkofbcmhddbfaaW.PrintLast Go.Proofs.YtbkofbcmhddbfaaW.PrintMore
attribute [local go_sem] max2_int min2_int max_two min_two max_three min_three max_four min_four   -- for this text's walks alone
set_option linter.unusedVariables false
set_option linter.unusedSimpArgs false

/-! ### laws_FnPathDelays: function 3 -/
mutual
def laws_FnPathDelays.j0 : Nat → List Int → Int → Int → Int → Int → Bool → List Int → Bool → Int → List (S36) → List Int → Int → Int → Int → Int → Option (Bool)
 | 0, _, _, _, _, _, _, _, _, _, _, _, _, _, _, _ => none
 | k + 1, x1, x6, x7, x8, x9, x10, x11, x58, x274000, x274001, x274002, x274003, x274004, x274005, x274006 => if x58 = true then (some false) else (if 0 ≤ x7 then (if x7 < (x274002.length : Int) then (laws_FnPathDelays.l0 k x1 x6 x7 x8 x9 x10 x11 (rd x274002 x7) x274005 x274006 2 x274000 x274001 x274002 x274003 x274004 x274005 x274006) else (none)) else (none))
def laws_FnPathDelays.l0 : Nat → List Int → Int → Int → Int → Int → Bool → List Int → Int → Int → Int → Int → Int → List (S36) → List Int → Int → Int → Int → Int → Option (Bool)
 | 0, _, _, _, _, _, _, _, _, _, _, _, _, _, _, _, _, _, _ => none
 | k + 1, x1, x6, x7, x8, x9, x10, x11, x13, x14, x15, x16, x274000, x274001, x274002, x274003, x274004, x274005, x274006 => if x13 ≥ x274000 then (if 0 ≤ (wrap64 (x13 - x274000)) then (if (wrap64 (x13 - x274000)) < (x274001.length : Int) then ((laws_r8At.f x1 x16 (((rd_T36 x274001 (wrap64 (x13 - x274000))).f2).length : Int)).bind fun t287 => (if 0 ≤ t287 then (if t287 < (((rd_T36 x274001 (wrap64 (x13 - x274000))).f2).length : Int) then (laws_FnPathDelays.l0 k x1 x6 x7 x8 x9 x10 x11 (rd ((rd_T36 x274001 (wrap64 (x13 - x274000))).f2) t287) (wrap64 (x14 + ((rd_T36 x274001 (wrap64 (x13 - x274000))).f0))) (wrap64 (x15 + ((rd_T36 x274001 (wrap64 (x13 - x274000))).f1))) (wrap64 (x16 + 1)) x274000 x274001 x274002 x274003 x274004 x274005 x274006) else (none)) else (none))) else (none)) else (none)) else ((impl_PathDelays.f k x274000 x274001 x274002 x274003 x274004 x274005 x274006 x13 x7).bind fun bt289 => (if bt289.2.2 = true then (if x14 < bt289.1 then (laws_FnPathDelays.j2 k x6 x7 x8 x9 x10 x11 true x274000 x274001 x274002 x274003 x274004 x274005 x274006) else (laws_FnPathDelays.j2 k x6 x7 x8 x9 x10 x11 (decide (x15 > bt289.2.1)) x274000 x274001 x274002 x274003 x274004 x274005 x274006)) else (laws_FnPathDelays.j2 k x6 x7 x8 x9 x10 x11 true x274000 x274001 x274002 x274003 x274004 x274005 x274006)))
def laws_FnPathDelays.j2 : Nat → Int → Int → Int → Int → Bool → List Int → Bool → Int → List (S36) → List Int → Int → Int → Int → Int → Option (Bool)
 | 0, _, _, _, _, _, _, _, _, _, _, _, _, _, _ => none
 | k + 1, x6, x7, x8, x9, x10, x11, x119, x274000, x274001, x274002, x274003, x274004, x274005, x274006 => if x119 = true then (some false) else (if x10 = true then (laws_FnPathDelays.l1 k x6 x7 x8 x9 x11 x274006 0 x274000 x274001 x274002 x274003 x274004 x274005 x274006) else (some true))
def laws_FnPathDelays.l1 : Nat → Int → Int → Int → Int → List Int → Int → Int → Int → List (S36) → List Int → Int → Int → Int → Int → Option (Bool)
 | 0, _, _, _, _, _, _, _, _, _, _, _, _, _, _ => none
 | k + 1, x6, x7, x8, x9, x11, x21, x22, x274000, x274001, x274002, x274003, x274004, x274005, x274006 => if x22 < (x11.length : Int) then (if x22 = 0 then (if 0 < (x11.length : Int) then (if (rd x11 0) = x6 then (laws_FnPathDelays.l1 k x6 x7 x8 x9 x11 x21 (wrap64 (x22 + 1)) x274000 x274001 x274002 x274003 x274004 x274005 x274006) else (some false)) else (none)) else (if 0 ≤ x22 then (if (rd x11 x22) < x274000 then (some false) else (if (rd x11 x22) ≥ (wrap64 (x274000 + (x274001.length : Int))) then (some false) else (if 0 ≤ (wrap64 ((rd x11 x22) - x274000)) then (if (wrap64 ((rd x11 x22) - x274000)) < (x274001.length : Int) then (if 0 ≤ (wrap64 (x22 - 1)) then (if (wrap64 (x22 - 1)) < (x11.length : Int) then ((laws_r8Has.f k ((rd_T36 x274001 (wrap64 ((rd x11 x22) - x274000))).f2) (rd x11 (wrap64 (x22 - 1)))).bind fun t300 => (if t300 = true then (laws_FnPathDelays.l1 k x6 x7 x8 x9 x11 (wrap64 (x21 + ((rd_T36 x274001 (wrap64 ((rd x11 x22) - x274000))).f1))) (wrap64 (x22 + 1)) x274000 x274001 x274002 x274003 x274004 x274005 x274006) else (some false))) else (none)) else (none)) else (none)) else (none)))) else (none))) else (if (x11.length : Int) > 0 then (if 0 ≤ (wrap64 ((x11.length : Int) - 1)) then (if (wrap64 ((x11.length : Int) - 1)) < (x11.length : Int) then (if 0 ≤ x7 then (if x7 < (x274002.length : Int) then (if (rd x11 (wrap64 ((x11.length : Int) - 1))) = (rd x274002 x7) then (if x21 = x9 then (some (decide (x8 ≤ x9))) else (some false)) else (some false)) else (none)) else (none)) else (none)) else (none)) else (some false))
end
def laws_FnPathDelays.f (k : Nat) (l0 : List Int) (l1 : List Int) : Option (Bool) := (laws_r8Long.f l0 l1).bind fun t261 => (if t261 = true then (some true) else ((spec_R8Circuit.f k l0).bind fun bt262 => ((laws_r8At.f l1 0 bt262.1).bind fun t274 => ((laws_r8At.f l1 1 bt262.1).bind fun t275 => ((impl_PathDelays.f k bt262.1 bt262.2.1 bt262.2.2.1 bt262.2.2.2.1 bt262.2.2.2.2.1 bt262.2.2.2.2.2.1 bt262.2.2.2.2.2.2 t274 t275).bind fun bt276 => ((impl_LongestPath.f k bt262.1 bt262.2.1 bt262.2.2.1 bt262.2.2.2.1 bt262.2.2.2.2.1 bt262.2.2.2.2.2.1 bt262.2.2.2.2.2.2 t274 t275).bind fun bt279 => (if (bt276.2.2 != bt279.2) = true then (laws_FnPathDelays.j0 k l1 t274 t275 bt276.1 bt276.2.1 bt276.2.2 bt279.1 true bt262.1 bt262.2.1 bt262.2.2.1 bt262.2.2.2.1 bt262.2.2.2.2.1 bt262.2.2.2.2.2.1 bt262.2.2.2.2.2.2) else ((impl_ValidCircuit.f bt262.1 bt262.2.1 bt262.2.2.1 bt262.2.2.2.1 bt262.2.2.2.2.1 bt262.2.2.2.2.2.1 bt262.2.2.2.2.2.2).bind fun t283 => (laws_FnPathDelays.j0 k l1 t274 t275 bt276.1 bt276.2.1 bt276.2.2 bt279.1 (!t283) bt262.1 bt262.2.1 bt262.2.2.1 bt262.2.2.2.1 bt262.2.2.2.2.1 bt262.2.2.2.2.2.1 bt262.2.2.2.2.2.2)))))))))
def laws_FnPathDelays.T19 : Bool × List (List Nat × List Nat) := (true, [([], []), ([0], [0]), ([], []), ([], []), ([], []), ([4], [4]), ([5], [5]), ([2, 3, 6], [2, 3, 6]), ([1, 7], [1, 7]), ([8], [8]), ([9, 7, 0, 1, 2, 3, 4, 5, 6, 7, 8, 9], [9])])
def laws_FnPathDelays.B19 : List Nat := [0, 1, 0, 0, 0, 16, 48, 124, 255, 511, 1023]
theorem laws_FnPathDelays.tab19 : rtab .any (opsOf Try.f3 19) = laws_FnPathDelays.T19 := by kernel_rfl
theorem laws_FnPathDelays.bits19 : waitsOk laws_FnPathDelays.T19.2 laws_FnPathDelays.B19 = true := by kernel_rfl
def laws_FnPathDelays.T32 : Bool × List (List Nat × List Nat) := (true, [([], []), ([], []), ([0, 1], [0, 1]), ([2], [2]), ([], []), ([4], [4]), ([3, 5], [3, 5]), ([6], [6]), ([7], [7]), ([7], [7]), ([8, 9, 7], [7, 8, 9]), ([10, 7], [7, 10]), ([7], [7]), ([12, 7], [7, 12]), ([7], [7]), ([14, 7], [7, 14]), ([15, 7], [7, 15]), ([13, 16, 7], [7, 13, 16]), ([11, 17, 7], [7, 11, 17]), ([7, 18], [7, 18]), ([19, 7], [19]), ([20], [20]), ([21, 20], [20, 21]), ([20], [20]), ([20], [20]), ([23, 24, 20], [20, 23, 24]), ([25, 20], [20, 25]), ([20], [20]), ([27, 20], [20, 27]), ([26, 28, 20], [20, 26, 28]), ([22, 29, 20], [20, 22, 29]), ([30, 20], [20, 30]), ([31, 20], [20, 31]), ([20], [20]), ([20], [20]), ([34, 20], [20, 34]), ([33, 35, 20], [20, 33, 35]), ([36, 20], [20, 36]), ([32, 37, 20, 20], [20, 32, 37]), ([38, 20], [20, 38]), ([20, 39], [20, 39])])
def laws_FnPathDelays.B32 : List Nat := [0, 0, 3, 7, 0, 16, 63, 127, 255, 255, 1023, 2047, 255, 4351, 255, 16639, 49407, 127231, 262143, 524287, 1048575, 2097151, 4194303, 2097151, 2097151, 27262975, 60817407, 2097151, 136314879, 530579455, 1073741823, 2147483647, 4294967295, 2097151, 2097151, 17181966335, 60131639295, 128851116031, 274877906943, 549755813887, 1099511627775]
theorem laws_FnPathDelays.tab32 : rtab .any (opsOf Try.f3 32) = laws_FnPathDelays.T32 := by kernel_rfl
theorem laws_FnPathDelays.bits32 : waitsOk laws_FnPathDelays.T32.2 laws_FnPathDelays.B32 = true := by kernel_rfl
def laws_FnPathDelays.T34 : Bool × List (List Nat × List Nat) := (true, [([], []), ([], []), ([1], [1]), ([], []), ([], []), ([3, 4], [3, 4]), ([5], [5]), ([], []), ([7], [7]), ([6, 8], [6, 8]), ([2, 9], [2, 9]), ([10], [10]), ([11], [11]), ([0, 12], [0, 12]), ([13, 0, 1, 2, 3, 4, 5, 6, 7, 8, 9, 10, 11, 12, 13], [0, 13])])
def laws_FnPathDelays.B34 : List Nat := [0, 0, 2, 0, 0, 24, 56, 0, 128, 504, 1022, 2046, 4094, 8191, 16383]
theorem laws_FnPathDelays.tab34 : rtab .any (opsOf Try.f3 34) = laws_FnPathDelays.T34 := by kernel_rfl
theorem laws_FnPathDelays.bits34 : waitsOk laws_FnPathDelays.T34.2 laws_FnPathDelays.B34 = true := by kernel_rfl
def laws_FnPathDelays.T35 : Bool × List (List Nat × List Nat) := (true, [([], []), ([0], [0]), ([1], [1]), ([2], [2]), ([3], [3]), ([3], [3]), ([5, 3], [3, 5]), ([6, 3], [3, 6]), ([4, 7, 3], [3, 4, 7]), ([8, 3], [3, 8]), ([3], [3]), ([10, 3], [3, 10]), ([3], [3]), ([11, 12, 3], [3, 11, 12]), ([13, 3], [3, 13]), ([9, 14, 3], [3, 9, 14]), ([3, 15], [3, 15]), ([16, 3], [16]), ([17], [17]), ([17], [17]), ([18, 19, 17], [17, 18, 19]), ([17, 20], [17, 20]), ([21, 17], [21]), ([22], [22]), ([22], [22]), ([23, 24, 22], [22, 23, 24]), ([22, 25], [22, 25]), ([26, 22, 0, 1, 2, 3, 4, 5, 6, 7, 8, 9, 10, 11, 12, 13, 14, 15, 16, 17, 18, 19, 20, 21, 22, 23, 24, 25, 26], [26])])
def laws_FnPathDelays.B35 : List Nat := [0, 1, 3, 7, 15, 15, 47, 111, 255, 511, 15, 1039, 15, 7183, 15375, 32767, 65535, 131071, 262143, 262143, 1048575, 2097151, 4194303, 8388607, 8388607, 33554431, 67108863, 134217727]
theorem laws_FnPathDelays.tab35 : rtab .any (opsOf Try.f3 35) = laws_FnPathDelays.T35 := by kernel_rfl
theorem laws_FnPathDelays.bits35 : waitsOk laws_FnPathDelays.T35.2 laws_FnPathDelays.B35 = true := by kernel_rfl
theorem box_store_run {P : Program} {w : World} {g : Nat} {e : TypeId} {cur : Array Value} {o : Oper} {a : Act} {p x : Operand} {t : TypeId} {u : Value} {seg : List Value} (ho : o.op = .store t p x) (haddr : a.eval p = .pointer (some ⟨g, 0, none⟩)) (hx : a.eval x = u) (hh : w.heap[g]? = some (.cells cur e (0, 0))) (hu : u.cells.toList = seg) (ht : (P.info? t).map (·.size) = some seg.length)
  (hfit : 0 + seg.length ≤ cur.size) (h1 : ∀ q ∈ seg, q.oneCell' = true) : (execOp a.eval o).run P w = .ok .skip (w.setCells g 0 seg) := by
 have h := run_store_run (P := P) t u seg hh hu ht hfit h1
 simp [execOp, ho, haddr, hx, h]
theorem pS_ {P : Program} {md : Region.Mode} {ops : Array Oper} {Q : Exit → Act → World → Prop} {S : World → Prop} {ds : List Nat} {T : Bool × List (List Nat × List Nat)} {i : Nat} {N : Option Tmp} {oi : Oper} {v : Value} {fuel : Nat} {l : Array Bool} {a : Act} {w : World} (hT : rtab md ops = T) (hi : ops[i]? = some oi) (hN : oi.dst = N) (hc : anyT T l.toList (l.setIfInBounds i true).toList i = true)
  (hQ : ∀ c a w, Q (.panic c) (a.put oi.dst v) w → Q (.panic c) a w) (hy : Yields P ops oi v a) {a' : Act} (ha : a.put N v = a') (h : wpAnyLast P md ops Q S ds fuel (l.setIfInBounds i true) a' w) : wpAnyLast P md ops Q S ds (fuel + 1) l a w :=
 pure_ _ hi hN (any_of hT hc) hQ hy ha h
theorem tS_ {P : Program} {md : Region.Mode} {ops : Array Oper} {Q : Exit → Act → World → Prop} {S : World → Prop} {ds : List Nat} {T : Bool × List (List Nat × List Nat)} {B : List Nat} {i : Nat} {N : Option Tmp} {oi : Oper} {v : Value} {fuel : Nat} {l : Array Bool} {a : Act} {w : World} (hT : rtab md ops = T) (hB : waitsOk T.2 B = true) (hi : ops[i]? = some oi) (hN : oi.dst = N) (hc : takeW T B ds l.toList (l.setIfInBounds i true).toList i = true)
  (hQ : ∀ c a w, Q (.panic c) (a.put oi.dst v) w → Q (.panic c) a w) (hy : YieldsIf P ops S oi v a) (hS : S w) {a' : Act} (ha : a.put N v = a') (h : wpAnyLast P md ops Q S ds fuel (l.setIfInBounds i true) a' w) : wpAnyLast P md ops Q S ds (fuel + 1) l a w :=
 take_ _ hi hN (take_ofW hT hB hc) hQ hy hS ha h
set_option maxHeartbeats 8000000 in
set_option maxRecDepth 100000 in
theorem laws_FnPathDelays.calls (k : Nat) (A0 : Option Addr) (c0 : Nat) (l0 : List Int) (A1 : Option Addr) (c1 : Nat) (l1 : List Int) (r : Bool) (w : World) (hr0 : Kd.C (Kd.int .u8) w A0 l0.length l0) (hc0 : l0.length ≤ c0) (hr1 : Kd.C (Kd.int .u8) w A1 l1.length l1) (hc1 : l1.length ≤ c1) (h : laws_FnPathDelays.f k l0 l1 = some r) :
  Calls Try.prog 3 #[.slice A0 l0.length c0, .slice A1 l1.length c1] w fun e w' => e = .returned (.bool r) ∧ Below w.heap.size w w' := by
 have hu27 := Try.underlying27
 have hu36 := Try.underlying36
 have HR0 := Aside0.mk hr0
 have HC0 := Aside0.mk hc0
 clear hr0 hc0
 have HR1 := Aside0.mk hr1
 have HC1 := Aside0.mk hc1
 clear hr1 hc1
 have HB := Aside0.mk (Below.refl w.heap.size w)
 have H : ((laws_r8Long.f l0 l1).bind fun t261 => (if t261 = true then (some true) else ((spec_R8Circuit.f k l0).bind fun bt262 => ((laws_r8At.f l1 0 bt262.1).bind fun t274 => ((laws_r8At.f l1 1 bt262.1).bind fun t275 => ((impl_PathDelays.f k bt262.1 bt262.2.1 bt262.2.2.1 bt262.2.2.2.1 bt262.2.2.2.2.1 bt262.2.2.2.2.2.1 bt262.2.2.2.2.2.2 t274 t275).bind fun bt276 => ((impl_LongestPath.f k bt262.1 bt262.2.1 bt262.2.2.1 bt262.2.2.2.1 bt262.2.2.2.2.1 bt262.2.2.2.2.2.1 bt262.2.2.2.2.2.2 t274 t275).bind fun bt279 => (if (bt276.2.2 != bt279.2) = true then (laws_FnPathDelays.j0 k l1 t274 t275 bt276.1 bt276.2.1 bt276.2.2 bt279.1 true bt262.1 bt262.2.1 bt262.2.2.1 bt262.2.2.2.1 bt262.2.2.2.2.1 bt262.2.2.2.2.2.1 bt262.2.2.2.2.2.2) else ((impl_ValidCircuit.f bt262.1 bt262.2.1 bt262.2.2.1 bt262.2.2.2.1 bt262.2.2.2.2.1 bt262.2.2.2.2.2.1 bt262.2.2.2.2.2.2).bind fun t283 => (laws_FnPathDelays.j0 k l1 t274 t275 bt276.1 bt276.2.1 bt276.2.2 bt279.1 (!t283) bt262.1 bt262.2.1 bt262.2.2.1 bt262.2.2.2.1 bt262.2.2.2.2.1 bt262.2.2.2.2.2.1 bt262.2.2.2.2.2.2)))))))))) = some r := h
 clear h
 replace H := Option.bind_eq_some_iff.mp H
 obtain ⟨t261, A30, H⟩ := H
 replace H : (if t261 = true then (some true) else ((spec_R8Circuit.f k l0).bind fun bt262 => ((laws_r8At.f l1 0 bt262.1).bind fun t274 => ((laws_r8At.f l1 1 bt262.1).bind fun t275 => ((impl_PathDelays.f k bt262.1 bt262.2.1 bt262.2.2.1 bt262.2.2.2.1 bt262.2.2.2.2.1 bt262.2.2.2.2.2.1 bt262.2.2.2.2.2.2 t274 t275).bind fun bt276 => ((impl_LongestPath.f k bt262.1 bt262.2.1 bt262.2.2.1 bt262.2.2.2.1 bt262.2.2.2.2.1 bt262.2.2.2.2.2.1 bt262.2.2.2.2.2.2 t274 t275).bind fun bt279 => (if (bt276.2.2 != bt279.2) = true then (laws_FnPathDelays.j0 k l1 t274 t275 bt276.1 bt276.2.1 bt276.2.2 bt279.1 true bt262.1 bt262.2.1 bt262.2.2.1 bt262.2.2.2.1 bt262.2.2.2.2.1 bt262.2.2.2.2.2.1 bt262.2.2.2.2.2.2) else ((impl_ValidCircuit.f bt262.1 bt262.2.1 bt262.2.2.1 bt262.2.2.2.1 bt262.2.2.2.2.1 bt262.2.2.2.2.2.1 bt262.2.2.2.2.2.2).bind fun t283 => (laws_FnPathDelays.j0 k l1 t274 t275 bt276.1 bt276.2.1 bt276.2.2 bt279.1 (!t283) bt262.1 bt262.2.1 bt262.2.2.1 bt262.2.2.2.1 bt262.2.2.2.2.1 bt262.2.2.2.2.2.1 bt262.2.2.2.2.2.2))))))))) = some r := H
 have A3 := Aside0.mk A30
 clear A30
 by_cases c4 : t261 = true
 ·subst c4
  have H1 : (some true) = some r := by rw [if_pos rfl] at H; exact H
  clear H
  have H := H1
  clear H1
  obtain rfl := Option.some.inj H
  go_enter Try.func3, Try.ntmps3
  go_wp2_with (first | ((with_reducible refine gate_callee (f := 5) rfl ?_); refine goesL_ (some 25) rfl rfl Try.func5 (by kernel_rfl) rfl #[.slice A0 l0.length c0, .slice A1 l1.length c1] rfl (by (try simp only [List.map_toArray, List.map_cons, List.map_nil]); first | done | rfl | (simp only [List.length_drop, List.length_take]; rfl)) ?_; (with_reducible refine (laws_r8Long.calls _ _ l0 _ _ l1 true _ ?side1 ?side2 ?side3 ?side4 A3.out).mono ?_); (case side1 => repeat (first | exact HR0.out | (with_reducible refine Kd.C_alloc ?_ _) | (with_reducible refine Kd.C_drewN ?_ _) | (with_reducible refine Kd.C_drew ?_))); (case side2 => exact HC0.out); (case side3 => repeat (first | exact HR1.out | (with_reducible refine Kd.C_alloc ?_ _) | (with_reducible refine Kd.C_drewN ?_ _) | (with_reducible refine Kd.C_drew ?_))); (case side4 => exact HC1.out); rintro e w' ⟨rfl, ⟨nd, rfl⟩⟩; refine ⟨_, rfl, ?_⟩))
  go_ret
  exact ⟨by first | rfl | (simp [errW_none, errW_some] <;> rfl) | (simp [*, errW_none, errW_some] <;> rfl), by repeat (first | (with_reducible first | exact HB.out | apply below_alloc | apply pw_below_drewN | apply below_drew1) | exact HB.out)⟩
 ·replace c4 := Bool.eq_false_iff.mpr c4
  subst c4
  have H1 : ((spec_R8Circuit.f k l0).bind fun bt262 => ((laws_r8At.f l1 0 bt262.1).bind fun t274 => ((laws_r8At.f l1 1 bt262.1).bind fun t275 => ((impl_PathDelays.f k bt262.1 bt262.2.1 bt262.2.2.1 bt262.2.2.2.1 bt262.2.2.2.2.1 bt262.2.2.2.2.2.1 bt262.2.2.2.2.2.2 t274 t275).bind fun bt276 => ((impl_LongestPath.f k bt262.1 bt262.2.1 bt262.2.2.1 bt262.2.2.2.1 bt262.2.2.2.2.1 bt262.2.2.2.2.2.1 bt262.2.2.2.2.2.2 t274 t275).bind fun bt279 => (if (bt276.2.2 != bt279.2) = true then (laws_FnPathDelays.j0 k l1 t274 t275 bt276.1 bt276.2.1 bt276.2.2 bt279.1 true bt262.1 bt262.2.1 bt262.2.2.1 bt262.2.2.2.1 bt262.2.2.2.2.1 bt262.2.2.2.2.2.1 bt262.2.2.2.2.2.2) else ((impl_ValidCircuit.f bt262.1 bt262.2.1 bt262.2.2.1 bt262.2.2.2.1 bt262.2.2.2.2.1 bt262.2.2.2.2.2.1 bt262.2.2.2.2.2.2).bind fun t283 => (laws_FnPathDelays.j0 k l1 t274 t275 bt276.1 bt276.2.1 bt276.2.2 bt279.1 (!t283) bt262.1 bt262.2.1 bt262.2.2.1 bt262.2.2.2.1 bt262.2.2.2.2.1 bt262.2.2.2.2.2.1 bt262.2.2.2.2.2.2)))))))) = some r := by rw [if_neg (show ¬ (false = true) by decide)] at H; exact H
  clear H
  have H := H1
  clear H1
  replace H := Option.bind_eq_some_iff.mp H
  obtain ⟨⟨t262, t263, t266, t269, t270, t271, t272⟩, A50, H⟩ := H
  replace H : ((laws_r8At.f l1 0 t262).bind fun t274 => ((laws_r8At.f l1 1 t262).bind fun t275 => ((impl_PathDelays.f k t262 t263 t266 t269 t270 t271 t272 t274 t275).bind fun bt276 => ((impl_LongestPath.f k t262 t263 t266 t269 t270 t271 t272 t274 t275).bind fun bt279 => (if (bt276.2.2 != bt279.2) = true then (laws_FnPathDelays.j0 k l1 t274 t275 bt276.1 bt276.2.1 bt276.2.2 bt279.1 true t262 t263 t266 t269 t270 t271 t272) else ((impl_ValidCircuit.f t262 t263 t266 t269 t270 t271 t272).bind fun t283 => (laws_FnPathDelays.j0 k l1 t274 t275 bt276.1 bt276.2.1 bt276.2.2 bt279.1 (!t283) t262 t263 t266 t269 t270 t271 t272))))))) = some r := H
  have A5 := Aside0.mk A50
  clear A50
  replace H := Option.bind_eq_some_iff.mp H
  obtain ⟨t274, A60, H⟩ := H
  replace H : ((laws_r8At.f l1 1 t262).bind fun t275 => ((impl_PathDelays.f k t262 t263 t266 t269 t270 t271 t272 t274 t275).bind fun bt276 => ((impl_LongestPath.f k t262 t263 t266 t269 t270 t271 t272 t274 t275).bind fun bt279 => (if (bt276.2.2 != bt279.2) = true then (laws_FnPathDelays.j0 k l1 t274 t275 bt276.1 bt276.2.1 bt276.2.2 bt279.1 true t262 t263 t266 t269 t270 t271 t272) else ((impl_ValidCircuit.f t262 t263 t266 t269 t270 t271 t272).bind fun t283 => (laws_FnPathDelays.j0 k l1 t274 t275 bt276.1 bt276.2.1 bt276.2.2 bt279.1 (!t283) t262 t263 t266 t269 t270 t271 t272)))))) = some r := H
  have A6 := Aside0.mk A60
  clear A60
  replace H := Option.bind_eq_some_iff.mp H
  obtain ⟨t275, A70, H⟩ := H
  replace H : ((impl_PathDelays.f k t262 t263 t266 t269 t270 t271 t272 t274 t275).bind fun bt276 => ((impl_LongestPath.f k t262 t263 t266 t269 t270 t271 t272 t274 t275).bind fun bt279 => (if (bt276.2.2 != bt279.2) = true then (laws_FnPathDelays.j0 k l1 t274 t275 bt276.1 bt276.2.1 bt276.2.2 bt279.1 true t262 t263 t266 t269 t270 t271 t272) else ((impl_ValidCircuit.f t262 t263 t266 t269 t270 t271 t272).bind fun t283 => (laws_FnPathDelays.j0 k l1 t274 t275 bt276.1 bt276.2.1 bt276.2.2 bt279.1 (!t283) t262 t263 t266 t269 t270 t271 t272))))) = some r := H
  have A7 := Aside0.mk A70
  clear A70
  replace H := Option.bind_eq_some_iff.mp H
  obtain ⟨⟨t276, t277, t278⟩, A80, H⟩ := H
  replace H : ((impl_LongestPath.f k t262 t263 t266 t269 t270 t271 t272 t274 t275).bind fun bt279 => (if (t278 != bt279.2) = true then (laws_FnPathDelays.j0 k l1 t274 t275 t276 t277 t278 bt279.1 true t262 t263 t266 t269 t270 t271 t272) else ((impl_ValidCircuit.f t262 t263 t266 t269 t270 t271 t272).bind fun t283 => (laws_FnPathDelays.j0 k l1 t274 t275 t276 t277 t278 bt279.1 (!t283) t262 t263 t266 t269 t270 t271 t272)))) = some r := H
  have A8 := Aside0.mk A80
  clear A80
  replace H := Option.bind_eq_some_iff.mp H
  obtain ⟨⟨t279, t282⟩, A90, H⟩ := H
  replace H : (if (t278 != t282) = true then (laws_FnPathDelays.j0 k l1 t274 t275 t276 t277 t278 t279 true t262 t263 t266 t269 t270 t271 t272) else ((impl_ValidCircuit.f t262 t263 t266 t269 t270 t271 t272).bind fun t283 => (laws_FnPathDelays.j0 k l1 t274 t275 t276 t277 t278 t279 (!t283) t262 t263 t266 t269 t270 t271 t272))) = some r := H
  have A9 := Aside0.mk A90
  clear A90
  have HC10 := Aside0.mk H
  clear H
  go_enter Try.func3, Try.ntmps3
  go_upto_region 8 with (first | ((with_reducible refine gate_callee (f := 5) rfl ?_); refine goesL_ (some 25) rfl rfl Try.func5 (by kernel_rfl) rfl #[.slice A0 l0.length c0, .slice A1 l1.length c1] rfl (by (try simp only [List.map_toArray, List.map_cons, List.map_nil]); first | done | rfl | (simp only [List.length_drop, List.length_take]; rfl)) ?_; (with_reducible refine (laws_r8Long.calls _ _ l0 _ _ l1 false _ ?side1 ?side2 ?side3 ?side4 A3.out).mono ?_); (case side1 => repeat (first | exact HR0.out | (with_reducible refine Kd.C_alloc ?_ _) | (with_reducible refine Kd.C_drewN ?_ _) | (with_reducible refine Kd.C_drew ?_))); (case side2 => exact HC0.out); (case side3 => repeat (first | exact HR1.out | (with_reducible refine Kd.C_alloc ?_ _) | (with_reducible refine Kd.C_drewN ?_ _) | (with_reducible refine Kd.C_drew ?_))); (case side4 => exact HC1.out); rintro e w' ⟨rfl, ⟨nd, rfl⟩⟩; refine ⟨_, rfl, ?_⟩) | ((with_reducible refine gate_callee (f := 6) rfl ?_); refine goesL_ (some 27) rfl rfl Try.func6 (by kernel_rfl) rfl #[.slice A0 l0.length c0] rfl (by (try simp only [List.map_toArray, List.map_cons, List.map_nil]); first | done | rfl | (simp only [List.length_drop, List.length_take]; rfl)) ?_; (with_reducible refine (spec_R8Circuit.calls k _ _ l0 t262 t263 t266 t269 t270 t271 t272 _ ?side1 ?side2 A5.out).mono ?_); (case side1 => repeat (first | exact HR0.out | (with_reducible refine Kd.C_alloc ?_ _) | (with_reducible refine Kd.C_drewN ?_ _) | (with_reducible refine Kd.C_drew ?_))); (case side2 => exact HC0.out); rintro e w11 ⟨v264, v267, rfl, ho0, ho1, hb⟩; refine ⟨_, rfl, ?_⟩; have n0_ := Aside0.mk (Kd.S_lower ho0 (below_size (by repeat (first | (with_reducible first | exact HB.out | apply below_alloc | apply pw_below_drewN | apply below_drew1) | exact HB.out)))); have n1_ := Aside0.mk (Kd.R_lower ho1 (below_size (by repeat (first | (with_reducible first | exact HB.out | apply below_alloc | apply pw_below_drewN | apply below_drew1) | exact HB.out)))); have n2_ := Aside0.mk (below_step (by repeat (first | (with_reducible first | exact HB.out | apply below_alloc | apply pw_below_drewN | apply below_drew1) | exact HB.out)) hb); clear HB; have HO265 := n0_; have HO268 := n1_; have HB := n2_; clear n0_ n1_ n2_; (try clear hb); (try clear hb2); (try clear hk); (try clear hi); (try clear ho0); (try clear ho1)) | ((with_reducible refine gate_dst (N := 5) rfl ?_); (try (refine gate_guard (by rfl) ?_; dsimp only)); refine box_event ?hg (N := 5) ?hd (cs := #[.int .i64 0, .slice none 0 0, .slice none 0 0, .int .i64 0, .int .i64 0, .int .i64 0, .int .i64 0]) (t := 27) ?hr ?_; (case hd => rfl); (case hg => rfl); (case hr => first | (go_simp; done) | (go_simp; rfl)); intro gb273 hg w12 hbox hb; have n0_ := Aside0.mk (Kd.S_below (by (with_reducible repeat (first | apply Kd.S_alloc | apply Kd.S_drewN | apply Kd.S_drew)); exact HO265.out) hb); have n1_ := Aside0.mk (Kd.R_below (by (with_reducible repeat (first | apply Kd.R_alloc | apply Kd.R_drewN | apply Kd.R_drew)); exact HO268.out) hb); have n2_ := Aside0.mk (below_step (by repeat (first | (with_reducible first | exact HB.out | apply below_alloc | apply pw_below_drewN | apply below_drew1) | exact HB.out)) hb); have n3_ := Aside0.mk (hbox); have n4_ := Aside0.mk ((by rw [hg]; exact (below_size (by repeat (first | (with_reducible first | exact HB.out | apply below_alloc | apply pw_below_drewN | apply below_drew1) | exact HB.out))) : w.heap.size ≤ gb273)); have n5_ := Aside0.mk ((by rw [hg]; exact (below_size (by repeat (first | (with_reducible first | exact HB.out | apply below_alloc | apply pw_below_drewN | apply below_drew1) | exact HB.out))) : w.heap.size ≤ gb273)); clear HO265; clear HO268; clear HB; have HO265 := n0_; have HO268 := n1_; have HB := n2_; have BK273 := n3_; have GW273 := n4_; have GE273 := n5_; clear n0_ n1_ n2_ n3_ n4_ n5_; clear hb hbox hg; have hcz13_0 : w12.cell? ⟨gb273, 0, none⟩ = some (.int .i64 0) := (blk_cell BK273.out 0).trans rfl; have hcz13_1 : w12.cell? ⟨gb273, 1, none⟩ = some (.slice none 0 0) := (blk_cell BK273.out 1).trans rfl; have hcz13_2 : w12.cell? ⟨gb273, 2, none⟩ = some (.slice none 0 0) := (blk_cell BK273.out 2).trans rfl; have hcz13_3 : w12.cell? ⟨gb273, 3, none⟩ = some (.int .i64 0) := (blk_cell BK273.out 3).trans rfl; have hcz13_4 : w12.cell? ⟨gb273, 4, none⟩ = some (.int .i64 0) := (blk_cell BK273.out 4).trans rfl; have hcz13_5 : w12.cell? ⟨gb273, 5, none⟩ = some (.int .i64 0) := (blk_cell BK273.out 5).trans rfl; have hcz13_6 : w12.cell? ⟨gb273, 6, none⟩ = some (.int .i64 0) := (blk_cell BK273.out 6).trans rfl; have hfz13_0 := blk_frozen BK273.out 0; have hfz13_1 := blk_frozen BK273.out 1; have hfz13_2 := blk_frozen BK273.out 2; have hfz13_3 := blk_frozen BK273.out 3; have hfz13_4 := blk_frozen BK273.out 4; have hfz13_5 := blk_frozen BK273.out 5; have hfz13_6 := blk_frozen BK273.out 6; obtain ⟨Ao14, co14, eo14⟩ := Kd.S_slice HO265.out; subst eo14; obtain ⟨Ao15, co15, eo15⟩ := Kd.R_slice HO268.out; subst eo15) | ((with_reducible refine gate_store (t := 27) (p := 5) (v := .tmp 27) rfl ?_); refine store_event (w1 := (((((((w12.setCell ⟨gb273, 0, none⟩ (.int .i64 t262)).setCell ⟨gb273, 1, none⟩ (.slice Ao14 t263.length co14)).setCell ⟨gb273, 2, none⟩ (.slice Ao15 t266.length co15)).setCell ⟨gb273, 3, none⟩ (.int .i64 t269)).setCell ⟨gb273, 4, none⟩ (.int .i64 t270)).setCell ⟨gb273, 5, none⟩ (.int .i64 t271)).setCell ⟨gb273, 6, none⟩ (.int .i64 t272))) rfl rfl rfl ?run ?_; (case run => exact box_store_run (g := gb273) (cur := #[.int .i64 0, .slice none 0 0, .slice none 0 0, .int .i64 0, .int .i64 0, .int .i64 0, .int .i64 0]) (u := .agg #[.int .i64 t262, .slice Ao14 t263.length co14, .slice Ao15 t266.length co15, .int .i64 t269, .int .i64 t270, .int .i64 t271, .int .i64 t272]) (seg := [.int .i64 t262, .slice Ao14 t263.length co14, .slice Ao15 t266.length co15, .int .i64 t269, .int .i64 t270, .int .i64 t271, .int .i64 t272]) rfl rfl rfl BK273.out rfl (by kernel_rfl) (by simp) (by intro q hq; simp at hq; rcases hq with rfl | rfl | rfl | rfl | rfl | rfl | rfl <;> rfl)); intro w12s hws_; have n0_ := Aside0.mk (Kd.S_mono (Kd.S_far (p := ⟨gb273, 6, none⟩) (Kd.S_far (p := ⟨gb273, 5, none⟩) (Kd.S_far (p := ⟨gb273, 4, none⟩) (Kd.S_far (p := ⟨gb273, 3, none⟩) (Kd.S_far (p := ⟨gb273, 2, none⟩) (Kd.S_far (p := ⟨gb273, 1, none⟩) (Kd.S_far (p := ⟨gb273, 0, none⟩) (Kd.S_types HO265.out BK273.out (by decide)) (fun _ hk => hk.2) (.int .i64 t262)) (fun _ hk => hk.2) (.slice Ao14 t263.length co14)) (fun _ hk => hk.2) (.slice Ao15 t266.length co15)) (fun _ hk => hk.2) (.int .i64 t269)) (fun _ hk => hk.2) (.int .i64 t270)) (fun _ hk => hk.2) (.int .i64 t271)) (fun _ hk => hk.2) (.int .i64 t272)) (fun _ h_ => h_.1)); have n1_ := Aside0.mk (Kd.R_mono (Kd.R_far (p := ⟨gb273, 6, none⟩) (Kd.R_far (p := ⟨gb273, 5, none⟩) (Kd.R_far (p := ⟨gb273, 4, none⟩) (Kd.R_far (p := ⟨gb273, 3, none⟩) (Kd.R_far (p := ⟨gb273, 2, none⟩) (Kd.R_far (p := ⟨gb273, 1, none⟩) (Kd.R_far (p := ⟨gb273, 0, none⟩) (Kd.R_types HO268.out BK273.out (by decide)) (fun _ hk => hk.2) (.int .i64 t262)) (fun _ hk => hk.2) (.slice Ao14 t263.length co14)) (fun _ hk => hk.2) (.slice Ao15 t266.length co15)) (fun _ hk => hk.2) (.int .i64 t269)) (fun _ hk => hk.2) (.int .i64 t270)) (fun _ hk => hk.2) (.int .i64 t271)) (fun _ hk => hk.2) (.int .i64 t272)) (fun _ h_ => h_.1)); have n2_ := Aside0.mk (show (((((((w12.setCell ⟨gb273, 0, none⟩ (.int .i64 t262)).setCell ⟨gb273, 1, none⟩ (.slice Ao14 t263.length co14)).setCell ⟨gb273, 2, none⟩ (.slice Ao15 t266.length co15)).setCell ⟨gb273, 3, none⟩ (.int .i64 t269)).setCell ⟨gb273, 4, none⟩ (.int .i64 t270)).setCell ⟨gb273, 5, none⟩ (.int .i64 t271)).setCell ⟨gb273, 6, none⟩ (.int .i64 t272)).heap[gb273]? = some (.cells #[.int .i64 t262, .slice Ao14 t263.length co14, .slice Ao15 t266.length co15, .int .i64 t269, .int .i64 t270, .int .i64 t271, .int .i64 t272] 27 (0, 0)) from (by (with_reducible repeat (first | refine blk_drewN ?_ _ | refine blk_drew ?_ | refine blk_alloc ?_ _)); refine blk_put (cs := #[.int .i64 t262, .slice Ao14 t263.length co14, .slice Ao15 t266.length co15, .int .i64 t269, .int .i64 t270, .int .i64 t271, .int .i64 0]) ?_ 6 _ rfl; (with_reducible repeat (first | refine blk_drewN ?_ _ | refine blk_drew ?_ | refine blk_alloc ?_ _)); refine blk_put (cs := #[.int .i64 t262, .slice Ao14 t263.length co14, .slice Ao15 t266.length co15, .int .i64 t269, .int .i64 t270, .int .i64 0, .int .i64 0]) ?_ 5 _ rfl; (with_reducible repeat (first | refine blk_drewN ?_ _ | refine blk_drew ?_ | refine blk_alloc ?_ _)); refine blk_put (cs := #[.int .i64 t262, .slice Ao14 t263.length co14, .slice Ao15 t266.length co15, .int .i64 t269, .int .i64 0, .int .i64 0, .int .i64 0]) ?_ 4 _ rfl; (with_reducible repeat (first | refine blk_drewN ?_ _ | refine blk_drew ?_ | refine blk_alloc ?_ _)); refine blk_put (cs := #[.int .i64 t262, .slice Ao14 t263.length co14, .slice Ao15 t266.length co15, .int .i64 0, .int .i64 0, .int .i64 0, .int .i64 0]) ?_ 3 _ rfl; (with_reducible repeat (first | refine blk_drewN ?_ _ | refine blk_drew ?_ | refine blk_alloc ?_ _)); refine blk_put (cs := #[.int .i64 t262, .slice Ao14 t263.length co14, .slice none 0 0, .int .i64 0, .int .i64 0, .int .i64 0, .int .i64 0]) ?_ 2 _ rfl; (with_reducible repeat (first | refine blk_drewN ?_ _ | refine blk_drew ?_ | refine blk_alloc ?_ _)); refine blk_put (cs := #[.int .i64 t262, .slice none 0 0, .slice none 0 0, .int .i64 0, .int .i64 0, .int .i64 0, .int .i64 0]) ?_ 1 _ rfl; (with_reducible repeat (first | refine blk_drewN ?_ _ | refine blk_drew ?_ | refine blk_alloc ?_ _)); refine blk_put (cs := #[.int .i64 0, .slice none 0 0, .slice none 0 0, .int .i64 0, .int .i64 0, .int .i64 0, .int .i64 0]) ?_ 0 _ rfl; (with_reducible repeat (first | refine blk_drewN ?_ _ | refine blk_drew ?_ | refine blk_alloc ?_ _)); exact BK273.out)); have n3_ := Aside0.mk (show Below w.heap.size w (((((((w12.setCell ⟨gb273, 0, none⟩ (.int .i64 t262)).setCell ⟨gb273, 1, none⟩ (.slice Ao14 t263.length co14)).setCell ⟨gb273, 2, none⟩ (.slice Ao15 t266.length co15)).setCell ⟨gb273, 3, none⟩ (.int .i64 t269)).setCell ⟨gb273, 4, none⟩ (.int .i64 t270)).setCell ⟨gb273, 5, none⟩ (.int .i64 t271)).setCell ⟨gb273, 6, none⟩ (.int .i64 t272)) from by repeat (first | (with_reducible first | exact HB.out | apply below_alloc | apply pw_below_drewN | apply below_drew1 | refine below_set ?_ GE273.out) | exact HB.out)); rw [← hws_] at n0_ n1_ n2_ n3_; clear hws_; clear HO265; clear HO268; clear BK273; clear HB; have HO265 := n0_; have HO268 := n1_; have BK273 := n2_; have HB := n3_; clear n0_ n1_ n2_ n3_; clear hcz13_0; clear hcz13_1; clear hcz13_2; clear hcz13_3; clear hcz13_4; clear hcz13_5; clear hcz13_6; clear hfz13_0; clear hfz13_1; clear hfz13_2; clear hfz13_3; clear hfz13_4; clear hfz13_5; clear hfz13_6; have hczq0 := (blk_cell BK273.out 0).trans (show _ = some (.int .i64 t262) from rfl); have hczq1 := (blk_cell BK273.out 1).trans (show _ = some (.slice Ao14 t263.length co14) from rfl); have hczq2 := (blk_cell BK273.out 2).trans (show _ = some (.slice Ao15 t266.length co15) from rfl); have hczq3 := (blk_cell BK273.out 3).trans (show _ = some (.int .i64 t269) from rfl); have hczq4 := (blk_cell BK273.out 4).trans (show _ = some (.int .i64 t270) from rfl); have hczq5 := (blk_cell BK273.out 5).trans (show _ = some (.int .i64 t271) from rfl); have hczq6 := (blk_cell BK273.out 6).trans (show _ = some (.int .i64 t272) from rfl)) | ((with_reducible refine gate_callee (f := 7) rfl ?_); refine goesL_ (some 31) rfl rfl Try.func7 (by kernel_rfl) rfl #[.slice A1 l1.length c1, .int .i64 0, .int .i64 t262] rfl (by (try simp only [List.map_toArray, List.map_cons, List.map_nil]); first | done | rfl | (simp only [List.length_drop, List.length_take]; rfl)) ?_; (with_reducible refine (laws_r8At.calls _ _ l1 0 t262 t274 _ ?side1 ?side2 A6.out).mono ?_); (case side1 => exact Kd.C_below HR1.out (by repeat (first | (with_reducible first | exact HB.out | apply below_alloc | apply pw_below_drewN | apply below_drew1 | refine below_set ?_ GE273.out) | exact HB.out))); (case side2 => exact HC1.out); rintro e w' ⟨rfl, ⟨nd, rfl⟩⟩; refine ⟨_, rfl, ?_⟩) | ((with_reducible refine gate_callee (f := 7) rfl ?_); refine goesL_ (some 35) rfl rfl Try.func7 (by kernel_rfl) rfl #[.slice A1 l1.length c1, .int .i64 1, .int .i64 t262] rfl (by (try simp only [List.map_toArray, List.map_cons, List.map_nil]); first | done | rfl | (simp only [List.length_drop, List.length_take]; rfl)) ?_; (with_reducible refine (laws_r8At.calls _ _ l1 1 t262 t275 _ ?side1 ?side2 A7.out).mono ?_); (case side1 => exact Kd.C_below HR1.out (by repeat (first | (with_reducible first | exact HB.out | apply below_alloc | apply pw_below_drewN | apply below_drew1 | refine below_set ?_ GE273.out) | exact HB.out))); (case side2 => exact HC1.out); rintro e w' ⟨rfl, ⟨nd, rfl⟩⟩; refine ⟨_, rfl, ?_⟩) | ((with_reducible refine gate_callee (f := 8) rfl ?_); refine goesL_ (some 40) rfl rfl Try.func8 (by kernel_rfl) rfl #[.agg #[.int .i64 t262, .slice Ao14 t263.length co14, .slice Ao15 t266.length co15, .int .i64 t269, .int .i64 t270, .int .i64 t271, .int .i64 t272], .int .i64 t274, .int .i64 t275] rfl (by (try simp only [List.map_toArray, List.map_cons, List.map_nil]); first | done | rfl | (simp only [List.length_drop, List.length_take]; rfl)) ?_; (with_reducible refine (impl_PathDelays.calls k t262 _ _ t263 _ _ t266 t269 t270 t271 t272 t274 t275 t276 t277 t278 _ ?side1 ?side2 ?side3 ?side4 A8.out).mono ?_); (case side1 => refine (Kd.S_reads' (e := 36) (base := w.heap.size) (ok := fun k_ => some k_ ≠ (.slice Ao15 t266.length co15 : Value).ownBlock) (n := t263.length) (c := co14) ?_).2.2; exact (by (with_reducible repeat (first | apply Kd.S_alloc | apply Kd.S_drewN | apply Kd.S_drew)); exact HO265.out)); (case side2 => exact (Kd.S_reads' HO265.out).2.1); (case side3 => refine (Kd.R_reads' (e := 2) (base := w.heap.size) (ok := fun k_ => True) (n := t266.length) (c := co15) ?_).2.2; exact (by (with_reducible repeat (first | apply Kd.R_alloc | apply Kd.R_drewN | apply Kd.R_drew)); exact HO268.out)); (case side4 => exact (Kd.R_reads' HO268.out).2.1); rintro e w16 ⟨rfl, hb⟩; refine ⟨_, rfl, ?_⟩; have n0_ := Aside0.mk (Kd.S_below (by (with_reducible repeat (first | apply Kd.S_alloc | apply Kd.S_drewN | apply Kd.S_drew)); exact HO265.out) hb); have n1_ := Aside0.mk (Kd.R_below (by (with_reducible repeat (first | apply Kd.R_alloc | apply Kd.R_drewN | apply Kd.R_drew)); exact HO268.out) hb); have n2_ := Aside0.mk (blk_below (g := gb273) (o := .cells #[.int .i64 t262, .slice Ao14 t263.length co14, .slice Ao15 t266.length co15, .int .i64 t269, .int .i64 t270, .int .i64 t271, .int .i64 t272] 27 (0, 0)) (by (with_reducible repeat (first | refine blk_drewN ?_ _ | refine blk_drew ?_ | refine blk_alloc ?_ _)); exact BK273.out) hb); have n3_ := Aside0.mk (below_step (by repeat (first | (with_reducible first | exact HB.out | apply below_alloc | apply pw_below_drewN | apply below_drew1 | refine below_set ?_ GE273.out) | exact HB.out)) hb); clear HO265; clear HO268; clear BK273; clear HB; have HO265 := n0_; have HO268 := n1_; have BK273 := n2_; have HB := n3_; clear n0_ n1_ n2_ n3_; (try clear hb); (try clear hb2); (try clear hk); (try clear hi); have hcz17_0 : w16.cell? ⟨gb273, 0, none⟩ = some (.int .i64 t262) := (blk_cell BK273.out 0).trans rfl; have hcz17_1 : w16.cell? ⟨gb273, 1, none⟩ = some (.slice Ao14 t263.length co14) := (blk_cell BK273.out 1).trans rfl; have hcz17_2 : w16.cell? ⟨gb273, 2, none⟩ = some (.slice Ao15 t266.length co15) := (blk_cell BK273.out 2).trans rfl; have hcz17_3 : w16.cell? ⟨gb273, 3, none⟩ = some (.int .i64 t269) := (blk_cell BK273.out 3).trans rfl; have hcz17_4 : w16.cell? ⟨gb273, 4, none⟩ = some (.int .i64 t270) := (blk_cell BK273.out 4).trans rfl; have hcz17_5 : w16.cell? ⟨gb273, 5, none⟩ = some (.int .i64 t271) := (blk_cell BK273.out 5).trans rfl; have hcz17_6 : w16.cell? ⟨gb273, 6, none⟩ = some (.int .i64 t272) := (blk_cell BK273.out 6).trans rfl; have hfz17_0 := blk_frozen BK273.out 0; have hfz17_1 := blk_frozen BK273.out 1; have hfz17_2 := blk_frozen BK273.out 2; have hfz17_3 := blk_frozen BK273.out 3; have hfz17_4 := blk_frozen BK273.out 4; have hfz17_5 := blk_frozen BK273.out 5; have hfz17_6 := blk_frozen BK273.out 6) | ((with_reducible refine gate_callee (f := 9) rfl ?_); refine goesL_ (some 48) rfl rfl Try.func9 (by kernel_rfl) rfl #[.agg #[.int .i64 t262, .slice Ao14 t263.length co14, .slice Ao15 t266.length co15, .int .i64 t269, .int .i64 t270, .int .i64 t271, .int .i64 t272], .int .i64 t274, .int .i64 t275] rfl (by (try simp only [List.map_toArray, List.map_cons, List.map_nil]); first | done | rfl | (simp only [List.length_drop, List.length_take]; rfl)) ?_; (with_reducible refine (impl_LongestPath.calls k t262 _ _ t263 _ _ t266 t269 t270 t271 t272 t274 t275 t279 t282 _ ?side1 ?side2 ?side3 ?side4 A9.out).mono ?_); (case side1 => repeat (first | exact (Kd.S_reads' HO265.out).2.2 | (with_reducible refine Kd.C_alloc ?_ _) | (with_reducible refine Kd.C_drewN ?_ _) | (with_reducible refine Kd.C_drew ?_))); (case side2 => exact (Kd.S_reads' HO265.out).2.1); (case side3 => repeat (first | exact (Kd.R_reads' HO268.out).2.2 | (with_reducible refine Kd.C_alloc ?_ _) | (with_reducible refine Kd.C_drewN ?_ _) | (with_reducible refine Kd.C_drew ?_))); (case side4 => exact (Kd.R_reads' HO268.out).2.1); rintro e w18 ⟨v280, rfl, ho0, hb⟩; refine ⟨_, rfl, ?_⟩; have n0_ := Aside0.mk (Kd.S_elder' (by (with_reducible repeat (first | apply Kd.S_alloc | apply Kd.S_drewN | apply Kd.S_drew)); exact HO265.out) (Kd.R_base ho0) hb); have n1_ := Aside0.mk (Kd.R_elder' (by (with_reducible repeat (first | apply Kd.R_alloc | apply Kd.R_drewN | apply Kd.R_drew)); exact HO268.out) (Kd.R_base ho0) hb); have n2_ := Aside0.mk (Kd.R_lower (Kd.R_new' ho0 (Kd.R_lt (by (with_reducible repeat (first | apply Kd.R_alloc | apply Kd.R_drewN | apply Kd.R_drew)); exact HO268.out))) (below_size (by repeat (first | (with_reducible first | exact HB.out | apply below_alloc | apply pw_below_drewN | apply below_drew1 | refine below_set ?_ GE273.out) | exact HB.out)))); have n3_ := Aside0.mk (blk_below (g := gb273) (o := .cells #[.int .i64 t262, .slice Ao14 t263.length co14, .slice Ao15 t266.length co15, .int .i64 t269, .int .i64 t270, .int .i64 t271, .int .i64 t272] 27 (0, 0)) (by (with_reducible repeat (first | refine blk_drewN ?_ _ | refine blk_drew ?_ | refine blk_alloc ?_ _)); exact BK273.out) hb); have n4_ := Aside0.mk (below_step (by repeat (first | (with_reducible first | exact HB.out | apply below_alloc | apply pw_below_drewN | apply below_drew1 | refine below_set ?_ GE273.out) | exact HB.out)) hb); clear HO265; clear HO268; clear BK273; clear HB; have HO265 := n0_; have HO268 := n1_; have HO281 := n2_; have BK273 := n3_; have HB := n4_; clear n0_ n1_ n2_ n3_ n4_; (try clear hb); (try clear hb2); (try clear hk); (try clear hi); (try clear ho0)))
  (try simp only [Act.put, List.setIfInBounds_toArray, List.set_cons_zero, List.set_cons_succ])
  go_cut [58] (fun v58 wc => ∃ (kq : Nat) (x58_9 : Bool), v58 = .bool x58_9 ∧ Aside0 (laws_FnPathDelays.j0 kq l1 t274 t275 t276 t277 t278 t279 x58_9 t262 t263 t266 t269 t270 t271 t272 = some r) ∧ Aside0 (kq ≤ k) ∧ Aside0 (Kd.R (Kd.int .i64) 2 wc w.heap.size (fun k_ => some k_ ≠ ((.slice Ao15 t266.length co15) : Value).ownBlock) v280 t279) ∧ Aside0 (Kd.S k36 36 wc w.heap.size (fun k_ => some k_ ≠ (v280 : Value).ownBlock ∧ some k_ ≠ ((.slice Ao15 t266.length co15) : Value).ownBlock) (.slice Ao14 t263.length co14) t263) ∧ Aside0 (Kd.R (Kd.int .i64) 2 wc w.heap.size (fun k_ => some k_ ≠ (v280 : Value).ownBlock) (.slice Ao15 t266.length co15) t266) ∧ Aside0 (wc.heap[gb273]? = some (.cells #[.int .i64 t262, (.slice Ao14 t263.length co14), (.slice Ao15 t266.length co15), .int .i64 t269, .int .i64 t270, .int .i64 t271, .int .i64 t272] 27 (0, 0))) ∧ Aside0 (Below w.heap.size w wc))
  case first => as_aux_lemma =>
   have H := HC10.out
   clear HC10
   by_cases c19 : (t278 != t282) = true
   ·rw [if_pos c19] at H
    have c19b0 : (t278 != t282) = true := c19
    (try (have c19b1 : decide (t278 = t282) = false := by simpa using c19))
    (try (have c19b2 : (t278 == t282) = false := by simpa using c19))
    (try (have c19b3 : ¬ (t278 = t282) := by simpa using c19))
    clear c19
    (first | rw [c19b0] | (simp only [i64_w, i32_w]; rw [c19b0]) | skip)
    have H' := Aside0.mk H
    clear H
    go_wp2
    go_meet
    case rel => exact ⟨_, (true), (by first | rfl | (simp; done) | (simp [*]; done)), H', ⟨by first | omega | exact Nat.le_refl _⟩, ⟨by (with_reducible repeat (first | apply Kd.R_alloc | apply Kd.R_drewN | apply Kd.R_drew)); exact Kd.R_mono HO281.out (fun _ hk => hk.2)⟩, ⟨by (with_reducible repeat (first | apply Kd.S_alloc | apply Kd.S_drewN | apply Kd.S_drew)); exact Kd.S_mono HO265.out (fun _ hk => ⟨hk.2, hk.1⟩)⟩, ⟨by (with_reducible repeat (first | apply Kd.R_alloc | apply Kd.R_drewN | apply Kd.R_drew)); exact Kd.R_mono HO268.out (fun _ hk => hk.2)⟩, ⟨by (with_reducible repeat (first | refine blk_drewN ?_ _ | refine blk_drew ?_ | refine blk_alloc ?_ _)); exact BK273.out⟩, ⟨by repeat (first | (with_reducible first | exact HB.out | apply below_alloc | apply pw_below_drewN | apply below_drew1 | refine below_set ?_ GE273.out) | exact HB.out)⟩⟩
   ·rw [if_neg c19] at H
    have c19b0 : (t278 != t282) = false := by simpa using c19
    (try (have c19b1 : decide (t278 = t282) = true := by simpa using c19))
    (try (have c19b2 : (t278 == t282) = true := by simpa using c19))
    clear c19
    (first | rw [c19b0] | (simp only [i64_w, i32_w]; rw [c19b0]) | skip)
    replace H := Option.bind_eq_some_iff.mp H
    obtain ⟨t283, A200, H⟩ := H
    replace H : (laws_FnPathDelays.j0 k l1 t274 t275 t276 t277 t278 t279 (!t283) t262 t263 t266 t269 t270 t271 t272) = some r := H
    have A20 := Aside0.mk A200
    clear A200
    have H' := Aside0.mk H
    clear H
    have hcz21_0 : w18.cell? ⟨gb273, 0, none⟩ = some (.int .i64 t262) := (blk_cell BK273.out 0).trans rfl
    have hcz21_1 : w18.cell? ⟨gb273, 1, none⟩ = some (.slice Ao14 t263.length co14) := (blk_cell BK273.out 1).trans rfl
    have hcz21_2 : w18.cell? ⟨gb273, 2, none⟩ = some (.slice Ao15 t266.length co15) := (blk_cell BK273.out 2).trans rfl
    have hcz21_3 : w18.cell? ⟨gb273, 3, none⟩ = some (.int .i64 t269) := (blk_cell BK273.out 3).trans rfl
    have hcz21_4 : w18.cell? ⟨gb273, 4, none⟩ = some (.int .i64 t270) := (blk_cell BK273.out 4).trans rfl
    have hcz21_5 : w18.cell? ⟨gb273, 5, none⟩ = some (.int .i64 t271) := (blk_cell BK273.out 5).trans rfl
    have hcz21_6 : w18.cell? ⟨gb273, 6, none⟩ = some (.int .i64 t272) := (blk_cell BK273.out 6).trans rfl
    have hfz21_0 := blk_frozen BK273.out 0
    have hfz21_1 := blk_frozen BK273.out 1
    have hfz21_2 := blk_frozen BK273.out 2
    have hfz21_3 := blk_frozen BK273.out 3
    have hfz21_4 := blk_frozen BK273.out 4
    have hfz21_5 := blk_frozen BK273.out 5
    have hfz21_6 := blk_frozen BK273.out 6
    go_wp2_with (first | (go_at_call 10; (with_reducible refine (impl_ValidCircuit.calls t262 _ _ t263 _ _ t266 t269 t270 t271 t272 t283 _ ?side1 ?side2 ?side3 ?side4 A20.out).mono ?_); (case side1 => repeat (first | exact (Kd.S_reads' HO265.out).2.2 | (with_reducible refine Kd.C_alloc ?_ _) | (with_reducible refine Kd.C_drewN ?_ _) | (with_reducible refine Kd.C_drew ?_))); (case side2 => exact (Kd.S_reads' HO265.out).2.1); (case side3 => repeat (first | exact (Kd.R_reads' HO268.out).2.2 | (with_reducible refine Kd.C_alloc ?_ _) | (with_reducible refine Kd.C_drewN ?_ _) | (with_reducible refine Kd.C_drew ?_))); (case side4 => exact (Kd.R_reads' HO268.out).2.1); rintro e w22 ⟨rfl, hb⟩; have n0_ := Aside0.mk (Kd.S_below (by (with_reducible repeat (first | apply Kd.S_alloc | apply Kd.S_drewN | apply Kd.S_drew)); exact HO265.out) hb); have n1_ := Aside0.mk (Kd.R_below (by (with_reducible repeat (first | apply Kd.R_alloc | apply Kd.R_drewN | apply Kd.R_drew)); exact HO268.out) hb); have n2_ := Aside0.mk (Kd.R_below (by (with_reducible repeat (first | apply Kd.R_alloc | apply Kd.R_drewN | apply Kd.R_drew)); exact HO281.out) hb); have n3_ := Aside0.mk (blk_below (g := gb273) (o := .cells #[.int .i64 t262, .slice Ao14 t263.length co14, .slice Ao15 t266.length co15, .int .i64 t269, .int .i64 t270, .int .i64 t271, .int .i64 t272] 27 (0, 0)) (by (with_reducible repeat (first | refine blk_drewN ?_ _ | refine blk_drew ?_ | refine blk_alloc ?_ _)); exact BK273.out) hb); have n4_ := Aside0.mk (below_step (by repeat (first | (with_reducible first | exact HB.out | apply below_alloc | apply pw_below_drewN | apply below_drew1 | refine below_set ?_ GE273.out) | exact HB.out)) hb); clear HO265; clear HO268; clear HO281; clear BK273; clear HB; have HO265 := n0_; have HO268 := n1_; have HO281 := n2_; have BK273 := n3_; have HB := n4_; clear n0_ n1_ n2_ n3_ n4_; (try clear hb); (try clear hb2); (try clear hk); (try clear hi)))
    go_meet
    case rel => exact ⟨_, (!t283), (by first | rfl | (simp; done) | (simp [*]; done)), H', ⟨by first | omega | exact Nat.le_refl _⟩, ⟨by (with_reducible repeat (first | apply Kd.R_alloc | apply Kd.R_drewN | apply Kd.R_drew)); exact Kd.R_mono HO281.out (fun _ hk => hk.2)⟩, ⟨by (with_reducible repeat (first | apply Kd.S_alloc | apply Kd.S_drewN | apply Kd.S_drew)); exact Kd.S_mono HO265.out (fun _ hk => ⟨hk.2, hk.1⟩)⟩, ⟨by (with_reducible repeat (first | apply Kd.R_alloc | apply Kd.R_drewN | apply Kd.R_drew)); exact Kd.R_mono HO268.out (fun _ hk => hk.2)⟩, ⟨by (with_reducible repeat (first | refine blk_drewN ?_ _ | refine blk_drew ?_ | refine blk_alloc ?_ _)); exact BK273.out⟩, ⟨by repeat (first | (with_reducible first | exact HB.out | apply below_alloc | apply pw_below_drewN | apply below_drew1 | refine below_set ?_ GE273.out) | exact HB.out)⟩⟩
  case rest => as_aux_lemma =>
   clear HC10
   try clear c1
   try clear p2
   try clear c3
   try clear c4
   try clear c5
   try clear c6
   try clear c7
   try clear c8
   try clear c9
   try clear c19
   try clear c19b0
   try clear c19b1
   try clear c19b2
   try clear hcz13_0
   try clear hcz13_1
   try clear hcz13_2
   try clear hcz13_3
   try clear hcz13_4
   try clear hcz13_5
   try clear hcz13_6
   try clear hcz17_0
   try clear hcz17_1
   try clear hcz17_2
   try clear hcz17_3
   try clear hcz17_4
   try clear hcz17_5
   try clear hcz17_6
   try clear hcz21_0
   try clear hcz21_1
   try clear hcz21_2
   try clear hcz21_3
   try clear hcz21_4
   try clear hcz21_5
   try clear hcz21_6
   try clear hfz13_0
   try clear hfz13_1
   try clear hfz13_2
   try clear hfz13_3
   try clear hfz13_4
   try clear hfz13_5
   try clear hfz13_6
   try clear hfz17_0
   try clear hfz17_1
   try clear hfz17_2
   try clear hfz17_3
   try clear hfz17_4
   try clear hfz17_5
   try clear hfz17_6
   try clear hfz21_0
   try clear hfz21_1
   try clear hfz21_2
   try clear hfz21_3
   try clear hfz21_4
   try clear hfz21_5
   try clear hfz21_6
   obtain ⟨kq, x58_9, rfl, HA, HJ9, HO_11, HO_274001, HO_274002, BK273, HB⟩ := hcut
   cases kq with
   | zero => exact absurd HA.out (by simp [laws_FnPathDelays.j0])
   | succ kj9 =>
    have H := HA.out
    clear HA
    simp only [laws_FnPathDelays.j0] at H
    by_cases c23 : x58_9 = true
    ·subst c23
     have H1 : (some false) = some r := by rw [if_pos rfl] at H; exact H
     clear H
     have H := H1
     clear H1
     obtain rfl := Option.some.inj H
     go_wp2
     go_ret
     exact ⟨by first | rfl | (simp [errW_none, errW_some] <;> rfl) | (simp [*, errW_none, errW_some] <;> rfl), by repeat (first | (with_reducible first | exact HB.out | apply below_alloc | apply pw_below_drewN | apply below_drew1 | refine below_set ?_ GE273.out) | exact HB.out)⟩
    ·replace c23 := Bool.eq_false_iff.mpr c23
     subst c23
     have H1 : (if 0 ≤ t275 then (if t275 < (t266.length : Int) then (laws_FnPathDelays.l0 kj9 l1 t274 t275 t276 t277 t278 t279 (rd t266 t275) t271 t272 2 t262 t263 t266 t269 t270 t271 t272) else (none)) else (none)) = some r := by rw [if_neg (show ¬ (false = true) by decide)] at H; exact H
     clear H
     have H := H1
     clear H1
     by_cases c24 : 0 ≤ t275
     ·rw [if_pos c24] at H
      have c24b0 : decide (0 ≤ t275) = true := decide_eq_true c24
      clear c24
      by_cases c25 : t275 < (t266.length : Int)
      ·rw [if_pos c25] at H
       have c25b0 : decide (t275 < (t266.length : Int)) = true := decide_eq_true c25
       clear c25
       have H' := Aside0.mk H
       clear H
       have hcz26_0 : wc.cell? ⟨gb273, 0, none⟩ = some (.int .i64 t262) := (blk_cell BK273.out 0).trans rfl
       have hcz26_1 : wc.cell? ⟨gb273, 1, none⟩ = some (.slice Ao14 t263.length co14) := (blk_cell BK273.out 1).trans rfl
       have hcz26_2 : wc.cell? ⟨gb273, 2, none⟩ = some (.slice Ao15 t266.length co15) := (blk_cell BK273.out 2).trans rfl
       have hcz26_3 : wc.cell? ⟨gb273, 3, none⟩ = some (.int .i64 t269) := (blk_cell BK273.out 3).trans rfl
       have hcz26_4 : wc.cell? ⟨gb273, 4, none⟩ = some (.int .i64 t270) := (blk_cell BK273.out 4).trans rfl
       have hcz26_5 : wc.cell? ⟨gb273, 5, none⟩ = some (.int .i64 t271) := (blk_cell BK273.out 5).trans rfl
       have hcz26_6 : wc.cell? ⟨gb273, 6, none⟩ = some (.int .i64 t272) := (blk_cell BK273.out 6).trans rfl
       have hfz26_0 := blk_frozen BK273.out 0
       have hfz26_1 := blk_frozen BK273.out 1
       have hfz26_2 := blk_frozen BK273.out 2
       have hfz26_3 := blk_frozen BK273.out 3
       have hfz26_4 := blk_frozen BK273.out 4
       have hfz26_5 := blk_frozen BK273.out 5
       have hfz26_6 := blk_frozen BK273.out 6
       have p284 : 0 ≤ (t275 : Int) := of_decide_eq_true (by with_reducible assumption)
       have q284 : t275 < (t266.length : Int) := of_decide_eq_true (by with_reducible assumption)
       obtain ⟨ad284, e284, hx284_0⟩ := Kd.at_int (Kd.R_reads' HO_274002.out).2.2 t275 p284 q284
       cases e284
       replace p284 := eq_true p284
       replace q284 := eq_true q284
       go_wp2
       go_loopg [13, 14, 15, 16] kj9 (fun kq v13 v14 v15 v16 w' => ∃ (x13_2 : Int) (x14_2 : Int) (x15_2 : Int) (x16_2 : Int), v13 = .int .i64 x13_2 ∧ v14 = .int .i64 x14_2 ∧ v15 = .int .i64 x15_2 ∧ v16 = .int .i64 x16_2 ∧ Aside0 (laws_FnPathDelays.l0 kq l1 t274 t275 t276 t277 t278 t279 x13_2 x14_2 x15_2 x16_2 t262 t263 t266 t269 t270 t271 t272 = some r) ∧ Aside0 (kq ≤ kj9) ∧ Aside0 (Kd.R (Kd.int .i64) 2 w' w.heap.size (fun k_ => some k_ ≠ ((.slice (some ad284) t266.length co15) : Value).ownBlock) v280 t279) ∧ Aside0 (Kd.S k36 36 w' w.heap.size (fun k_ => some k_ ≠ (v280 : Value).ownBlock ∧ some k_ ≠ ((.slice (some ad284) t266.length co15) : Value).ownBlock) (.slice Ao14 t263.length co14) t263) ∧ Aside0 (Kd.R (Kd.int .i64) 2 w' w.heap.size (fun k_ => some k_ ≠ (v280 : Value).ownBlock) (.slice (some ad284) t266.length co15) t266) ∧ Aside0 (w'.heap[gb273]? = some (.cells #[.int .i64 t262, (.slice Ao14 t263.length co14), (.slice (some ad284) t266.length co15), .int .i64 t269, .int .i64 t270, .int .i64 t271, .int .i64 t272] 27 (0, 0))) ∧ Aside0 (Below w.heap.size w w'))
       case atStart => exact ⟨(rd t266 t275), (t271), (t272), (2), (by first | rfl | (simp; done) | (simp [*]; done)), (by first | rfl | (simp; done) | (simp [*]; done)), (by first | rfl | (simp; done) | (simp [*]; done)), (by first | rfl | (simp; done) | (simp [*]; done)), H', ⟨Nat.le_refl _⟩, ⟨by (with_reducible repeat (first | apply Kd.R_alloc | apply Kd.R_drewN | apply Kd.R_drew)); exact HO_11.out⟩, ⟨by (with_reducible repeat (first | apply Kd.S_alloc | apply Kd.S_drewN | apply Kd.S_drew)); exact HO_274001.out⟩, ⟨by (with_reducible repeat (first | apply Kd.R_alloc | apply Kd.R_drewN | apply Kd.R_drew)); exact HO_274002.out⟩, ⟨by (with_reducible repeat (first | refine blk_drewN ?_ _ | refine blk_drew ?_ | refine blk_alloc ?_ _)); exact BK273.out⟩, ⟨by repeat (first | (with_reducible first | exact HB.out | apply below_alloc | apply pw_below_drewN | apply below_drew1 | refine below_set ?_ GE273.out) | exact HB.out)⟩⟩
       case round =>
        clear H'
        try clear c1
        try clear c2
        try clear p2
        try clear q2
        try clear hx2
        try clear c3
        try clear c4
        try clear c5
        try clear c6
        try clear c7
        try clear c8
        try clear c9
        try clear c19
        try clear c19b0
        try clear c19b1
        try clear c19b2
        try clear c23
        try clear c24
        try clear c24b0
        try clear c25
        try clear c25b0
        try clear hcz13_0
        try clear hcz13_1
        try clear hcz13_2
        try clear hcz13_3
        try clear hcz13_4
        try clear hcz13_5
        try clear hcz13_6
        try clear hcz17_0
        try clear hcz17_1
        try clear hcz17_2
        try clear hcz17_3
        try clear hcz17_4
        try clear hcz17_5
        try clear hcz17_6
        try clear hcz21_0
        try clear hcz21_1
        try clear hcz21_2
        try clear hcz21_3
        try clear hcz21_4
        try clear hcz21_5
        try clear hcz21_6
        try clear hcz26_0
        try clear hcz26_1
        try clear hcz26_2
        try clear hcz26_3
        try clear hcz26_4
        try clear hcz26_5
        try clear hcz26_6
        try clear hfz13_0
        try clear hfz13_1
        try clear hfz13_2
        try clear hfz13_3
        try clear hfz13_4
        try clear hfz13_5
        try clear hfz13_6
        try clear hfz17_0
        try clear hfz17_1
        try clear hfz17_2
        try clear hfz17_3
        try clear hfz17_4
        try clear hfz17_5
        try clear hfz17_6
        try clear hfz21_0
        try clear hfz21_1
        try clear hfz21_2
        try clear hfz21_3
        try clear hfz21_4
        try clear hfz21_5
        try clear hfz21_6
        try clear hfz26_0
        try clear hfz26_1
        try clear hfz26_2
        try clear hfz26_3
        try clear hfz26_4
        try clear hfz26_5
        try clear hfz26_6
        try clear hx284_0
        try clear p2
        try clear p284
        try clear q284
        obtain ⟨x13_2, x14_2, x15_2, x16_2, rfl, rfl, rfl, rfl, HA, HK2, HO_11, HO_274001, HO_274002, BK273, HB⟩ := hrel
        cases gk with
        | zero => exact absurd HA.out (by simp [laws_FnPathDelays.l0])
        | succ k2 =>
         have H := HA.out
         clear HA
         simp only [laws_FnPathDelays.l0] at H
         by_cases c27 : x13_2 ≥ t262
         ·rw [if_pos c27] at H
          have c27b0 : decide (t262 ≤ x13_2) = true := decide_eq_true c27
          clear c27
          obtain ⟨ji28, hji28⟩ : ∃ j_ : Int, (wrap64 (x13_2 - t262)) = j_ := ⟨_, rfl⟩
          replace H : (if 0 ≤ (ji28) then (if (ji28) < (t263.length : Int) then ((laws_r8At.f l1 x16_2 (((rd_T36 t263 (ji28)).f2).length : Int)).bind fun t287 => (if 0 ≤ t287 then (if t287 < (((rd_T36 t263 (ji28)).f2).length : Int) then (laws_FnPathDelays.l0 k2 l1 t274 t275 t276 t277 t278 t279 (rd ((rd_T36 t263 (ji28)).f2) t287) (wrap64 (x14_2 + ((rd_T36 t263 (ji28)).f0))) (wrap64 (x15_2 + ((rd_T36 t263 (ji28)).f1))) (wrap64 (x16_2 + 1)) t262 t263 t266 t269 t270 t271 t272) else (none)) else (none))) else (none)) else (none)) = some r := by first | (rw [hji28] at H; exact H) | (simp only [hji28] at H ⊢; exact H)
          have hji28w : (IntKind.i64.wrap (x13_2 - t262)) = ji28 := (i64_w _).trans hji28
          by_cases c29 : 0 ≤ (ji28)
          ·rw [if_pos c29] at H
           have c29b0 : decide (0 ≤ (ji28)) = true := decide_eq_true c29
           clear c29
           by_cases c30 : (ji28) < (t263.length : Int)
           ·rw [if_pos c30] at H
            have c30b0 : decide ((ji28) < (t263.length : Int)) = true := decide_eq_true c30
            clear c30
            replace H := Option.bind_eq_some_iff.mp H
            obtain ⟨t287, A310, H⟩ := H
            replace H : (if 0 ≤ t287 then (if t287 < (((rd_T36 t263 (ji28)).f2).length : Int) then (laws_FnPathDelays.l0 k2 l1 t274 t275 t276 t277 t278 t279 (rd ((rd_T36 t263 (ji28)).f2) t287) (wrap64 (x14_2 + ((rd_T36 t263 (ji28)).f0))) (wrap64 (x15_2 + ((rd_T36 t263 (ji28)).f1))) (wrap64 (x16_2 + 1)) t262 t263 t266 t269 t270 t271 t272) else (none)) else (none)) = some r := H
            have A31 := Aside0.mk A310
            clear A310
            by_cases c32 : 0 ≤ t287
            ·rw [if_pos c32] at H
             have c32b0 : decide (0 ≤ t287) = true := decide_eq_true c32
             clear c32
             by_cases c33 : t287 < (((rd_T36 t263 (ji28)).f2).length : Int)
             ·rw [if_pos c33] at H
              have c33b0 : decide (t287 < (((rd_T36 t263 (ji28)).f2).length : Int)) = true := decide_eq_true c33
              clear c33
              have H' := Aside0.mk H
              clear H
              have hcz34_0 : wr.cell? ⟨gb273, 0, none⟩ = some (.int .i64 t262) := (blk_cell BK273.out 0).trans rfl
              have hcz34_1 : wr.cell? ⟨gb273, 1, none⟩ = some (.slice Ao14 t263.length co14) := (blk_cell BK273.out 1).trans rfl
              have hcz34_2 : wr.cell? ⟨gb273, 2, none⟩ = some (.slice (some ad284) t266.length co15) := (blk_cell BK273.out 2).trans rfl
              have hcz34_3 : wr.cell? ⟨gb273, 3, none⟩ = some (.int .i64 t269) := (blk_cell BK273.out 3).trans rfl
              have hcz34_4 : wr.cell? ⟨gb273, 4, none⟩ = some (.int .i64 t270) := (blk_cell BK273.out 4).trans rfl
              have hcz34_5 : wr.cell? ⟨gb273, 5, none⟩ = some (.int .i64 t271) := (blk_cell BK273.out 5).trans rfl
              have hcz34_6 : wr.cell? ⟨gb273, 6, none⟩ = some (.int .i64 t272) := (blk_cell BK273.out 6).trans rfl
              have hfz34_0 := blk_frozen BK273.out 0
              have hfz34_1 := blk_frozen BK273.out 1
              have hfz34_2 := blk_frozen BK273.out 2
              have hfz34_3 := blk_frozen BK273.out 3
              have hfz34_4 := blk_frozen BK273.out 4
              have hfz34_5 := blk_frozen BK273.out 5
              have hfz34_6 := blk_frozen BK273.out 6
              have p285 : 0 ≤ ((ji28) : Int) := of_decide_eq_true (by with_reducible assumption)
              have q285 : (ji28) < (t263.length : Int) := of_decide_eq_true (by with_reducible assumption)
              obtain ⟨ad285, A285_2, c285_2, e285, hx285_0, hx285_1, hx285_2, hl285_2, hi285_2⟩ := at_T36 (Kd.S_reads' HO_274001.out).2.2 (ji28) p285 q285
              cases e285
              obtain ⟨ce285, hce285, hMe285, hcc285⟩ := Kd.S_get HO_274001.out z36 (ji28) p285 (by first | exact q285 | exact of_decide_eq_true (by with_reducible assumption) | (have e_ := (Kd.S_reads' HO_274001.out).1; omega))
              obtain ⟨ve285_2, rfl, ge285_2⟩ := k36_openM hMe285
              have hv285_2 := hcc285 2 _ rfl
              rw [add_field _ _ 2 (by omega)] at hv285_2
              replace hv285_2 := Option.some.inj (hv285_2.symm.trans hx285_2)
              rw [hv285_2] at ge285_2
              have HL285_2 := Aside0.mk (show Kd.R (Kd.int .i64) 2 _ _ _ _ ((rd_T36 t263 (ji28)).f2) from ge285_2)
              clear hv285_2 ge285_2
              clear hcc285 hce285
              have HR285_2 := Aside0.mk hi285_2
              have HC285_2 := Aside0.mk hl285_2
              clear hi285_2 hl285_2
              replace p285 := eq_true p285
              replace q285 := eq_true q285
              try go_wp2_with (first | ((with_reducible refine gate_dst (N := 17) rfl ?_); (try (refine gate_guard (by rfl) ?_; dsimp only)); refine box_event ?hg (N := 17) ?hd (cs := #[.int .i64 0, .int .i64 0, .slice none 0 0]) (t := 36) ?hr ?_; (case hd => rfl); (case hg => rfl); (case hr => first | (go_simp; done) | (go_simp; rfl)); intro gb286 hg w35 hbox hb; have n0_ := Aside0.mk (Kd.R_below (by (with_reducible repeat (first | apply Kd.R_alloc | apply Kd.R_drewN | apply Kd.R_drew)); exact HO_11.out) hb); have n1_ := Aside0.mk (Kd.S_below (Kd.S_elderB (by (with_reducible repeat (first | apply Kd.S_alloc | apply Kd.S_drewN | apply Kd.S_drew)); exact HO_274001.out) gb286 (Nat.le_of_eq hg.symm)) hb); have n2_ := Aside0.mk (Kd.R_below (by (with_reducible repeat (first | apply Kd.R_alloc | apply Kd.R_drewN | apply Kd.R_drew)); exact HO_274002.out) hb); have n3_ := Aside0.mk (Kd.R_below (by (with_reducible repeat (first | apply Kd.R_alloc | apply Kd.R_drewN | apply Kd.R_drew)); exact HL285_2.out) hb); have n4_ := Aside0.mk (blk_below (g := gb273) (o := .cells #[.int .i64 t262, .slice (some ad285) t263.length co14, .slice (some ad284) t266.length co15, .int .i64 t269, .int .i64 t270, .int .i64 t271, .int .i64 t272] 27 (0, 0)) (by (with_reducible repeat (first | refine blk_drewN ?_ _ | refine blk_drew ?_ | refine blk_alloc ?_ _)); exact BK273.out) hb); have n5_ := Aside0.mk (Kd.C_below (by repeat (first | (with_reducible exact HR285_2.out) | (with_reducible refine Kd.C_alloc ?_ _) | (with_reducible refine Kd.C_drewN ?_ _) | (with_reducible refine Kd.C_drew ?_) | exact HR285_2.out)) hb); have n6_ := Aside0.mk (below_step (by repeat (first | (with_reducible first | exact HB.out | apply below_alloc | apply pw_below_drewN | apply below_drew1 | refine below_set ?_ GE273.out) | exact HB.out)) hb); have n7_ := Aside0.mk (hbox); have n8_ := Aside0.mk ((by rw [hg]; exact (below_size (by repeat (first | (with_reducible first | exact HB.out | apply below_alloc | apply pw_below_drewN | apply below_drew1 | refine below_set ?_ GE273.out) | exact HB.out))) : w.heap.size ≤ gb286)); have n9_ := Aside0.mk ((by rw [hg]; exact (below_size (by repeat (first | (with_reducible first | exact HB.out | apply below_alloc | apply pw_below_drewN | apply below_drew1 | refine below_set ?_ GE273.out) | exact HB.out))) : w.heap.size ≤ gb286)); have n10_ := Aside0.mk ((by rw [hg]; exact Nat.ne_of_lt (blk_lt (g := gb273) (o := .cells #[.int .i64 t262, .slice (some ad285) t263.length co14, .slice (some ad284) t266.length co15, .int .i64 t269, .int .i64 t270, .int .i64 t271, .int .i64 t272] 27 (0, 0)) (by (with_reducible repeat (first | refine blk_drewN ?_ _ | refine blk_drew ?_ | refine blk_alloc ?_ _)); exact BK273.out)) : gb273 ≠ gb286)); have n11_ := Aside0.mk ((by rw [hg]; exact Nat.ne_of_gt (blk_lt (g := gb273) (o := .cells #[.int .i64 t262, .slice (some ad285) t263.length co14, .slice (some ad284) t266.length co15, .int .i64 t269, .int .i64 t270, .int .i64 t271, .int .i64 t272] 27 (0, 0)) (by (with_reducible repeat (first | refine blk_drewN ?_ _ | refine blk_drew ?_ | refine blk_alloc ?_ _)); exact BK273.out)) : gb286 ≠ gb273)); clear HO_11; clear HO_274001; clear HO_274002; clear HL285_2; clear BK273; clear HR285_2; clear HB; have HO_11 := n0_; have HO_274001 := n1_; have HO_274002 := n2_; have HL285_2 := n3_; have BK273 := n4_; have HR285_2 := n5_; have HB := n6_; have BK286 := n7_; have GW286 := n8_; have GE286 := n9_; have NB273_286 := n10_; have NB286_273 := n11_; clear n0_ n1_ n2_ n3_ n4_ n5_ n6_ n7_ n8_ n9_ n10_ n11_; clear hb hbox hg; have hnb36 := NB286_273.out; have hnc36 := NB273_286.out; have hcz37_0 : w35.cell? ⟨gb286, 0, none⟩ = some (.int .i64 0) := (blk_cell BK286.out 0).trans rfl; have hcz37_1 : w35.cell? ⟨gb286, 1, none⟩ = some (.int .i64 0) := (blk_cell BK286.out 1).trans rfl; have hcz37_2 : w35.cell? ⟨gb286, 2, none⟩ = some (.slice none 0 0) := (blk_cell BK286.out 2).trans rfl; have hfz37_0 := blk_frozen BK286.out 0; have hfz37_1 := blk_frozen BK286.out 1; have hfz37_2 := blk_frozen BK286.out 2))
              have n0_ : Aside0 (Kd.R (Kd.int .i64) 2 (((w35.setCell ⟨gb286, 0, none⟩ (.int .i64 ((rd_T36 t263 (ji28)).f0))).setCell ⟨gb286, 1, none⟩ (.int .i64 ((rd_T36 t263 (ji28)).f1))).setCell ⟨gb286, 2, none⟩ (.slice A285_2 ((rd_T36 t263 (ji28)).f2).length c285_2)) w.heap.size (fun k_ => some k_ ≠ (.slice (some ad284) t266.length co15 : Value).ownBlock) v280 t279) := ⟨by (with_reducible repeat (first | apply Kd.R_alloc | apply Kd.R_drewN | apply Kd.R_drew)); exact Kd.R_mono (Kd.R_far (p := ⟨gb286, 2, none⟩) (Kd.R_far (p := ⟨gb286, 1, none⟩) (Kd.R_far (p := ⟨gb286, 0, none⟩) (Kd.R_types HO_11.out BK286.out (by decide)) (fun _ hk => hk.2) (.int .i64 ((rd_T36 t263 (ji28)).f0))) (fun _ hk => hk.2) (.int .i64 ((rd_T36 t263 (ji28)).f1))) (fun _ hk => hk.2) (.slice A285_2 ((rd_T36 t263 (ji28)).f2).length c285_2)) (fun _ hk => hk.1)⟩
              have n1_ : Aside0 (Kd.S k36 36 (((w35.setCell ⟨gb286, 0, none⟩ (.int .i64 ((rd_T36 t263 (ji28)).f0))).setCell ⟨gb286, 1, none⟩ (.int .i64 ((rd_T36 t263 (ji28)).f1))).setCell ⟨gb286, 2, none⟩ (.slice A285_2 ((rd_T36 t263 (ji28)).f2).length c285_2)) w.heap.size (fun k_ => some k_ ≠ (v280 : Value).ownBlock ∧ some k_ ≠ (.slice (some ad284) t266.length co15 : Value).ownBlock ∧ k_ ≠ gb286) (.slice (some ad285) t263.length co14) t263) := ⟨by (with_reducible repeat (first | apply Kd.S_alloc | apply Kd.S_drewN | apply Kd.S_drew)); exact Kd.S_mono (Kd.S_far (p := ⟨gb286, 2, none⟩) (Kd.S_far (p := ⟨gb286, 1, none⟩) (Kd.S_far (p := ⟨gb286, 0, none⟩) (Kd.S_mono HO_274001.out (fun k_ hk => (⟨hk, hk.2⟩ : _ ∧ k_ ≠ gb286))) (fun _ hk => hk.2) (.int .i64 ((rd_T36 t263 (ji28)).f0))) (fun _ hk => hk.2) (.int .i64 ((rd_T36 t263 (ji28)).f1))) (fun _ hk => hk.2) (.slice A285_2 ((rd_T36 t263 (ji28)).f2).length c285_2)) (fun _ hk => ⟨hk.1.1.1, ⟨hk.1.1.2, hk.1.2⟩⟩)⟩
              have n2_ : Aside0 (Kd.R (Kd.int .i64) 2 (((w35.setCell ⟨gb286, 0, none⟩ (.int .i64 ((rd_T36 t263 (ji28)).f0))).setCell ⟨gb286, 1, none⟩ (.int .i64 ((rd_T36 t263 (ji28)).f1))).setCell ⟨gb286, 2, none⟩ (.slice A285_2 ((rd_T36 t263 (ji28)).f2).length c285_2)) w.heap.size (fun k_ => some k_ ≠ (v280 : Value).ownBlock) (.slice (some ad284) t266.length co15) t266) := ⟨by (with_reducible repeat (first | apply Kd.R_alloc | apply Kd.R_drewN | apply Kd.R_drew)); exact Kd.R_mono (Kd.R_far (p := ⟨gb286, 2, none⟩) (Kd.R_far (p := ⟨gb286, 1, none⟩) (Kd.R_far (p := ⟨gb286, 0, none⟩) (Kd.R_types HO_274002.out BK286.out (by decide)) (fun _ hk => hk.2) (.int .i64 ((rd_T36 t263 (ji28)).f0))) (fun _ hk => hk.2) (.int .i64 ((rd_T36 t263 (ji28)).f1))) (fun _ hk => hk.2) (.slice A285_2 ((rd_T36 t263 (ji28)).f2).length c285_2)) (fun _ hk => hk.1)⟩
              have n3_ : Aside0 (Kd.R (Kd.int .i64) 2 (((w35.setCell ⟨gb286, 0, none⟩ (.int .i64 ((rd_T36 t263 (ji28)).f0))).setCell ⟨gb286, 1, none⟩ (.int .i64 ((rd_T36 t263 (ji28)).f1))).setCell ⟨gb286, 2, none⟩ (.slice A285_2 ((rd_T36 t263 (ji28)).f2).length c285_2)) w.heap.size (fun k_ => some k_ ≠ (v280 : Value).ownBlock ∧ some k_ ≠ (.slice (some ad285) t263.length co14 : Value).ownBlock ∧ some k_ ≠ (.slice (some ad284) t266.length co15 : Value).ownBlock) (.slice A285_2 ((rd_T36 t263 (ji28)).f2).length c285_2) ((rd_T36 t263 (ji28)).f2)) := ⟨by (with_reducible repeat (first | apply Kd.R_alloc | apply Kd.R_drewN | apply Kd.R_drew)); exact Kd.R_mono (Kd.R_far (p := ⟨gb286, 2, none⟩) (Kd.R_far (p := ⟨gb286, 1, none⟩) (Kd.R_far (p := ⟨gb286, 0, none⟩) (Kd.R_types HL285_2.out BK286.out (by decide)) (fun _ hk => hk.2) (.int .i64 ((rd_T36 t263 (ji28)).f0))) (fun _ hk => hk.2) (.int .i64 ((rd_T36 t263 (ji28)).f1))) (fun _ hk => hk.2) (.slice A285_2 ((rd_T36 t263 (ji28)).f2).length c285_2)) (fun _ hk => ⟨hk.1.1.1, ⟨hk.1.2, hk.1.1.2⟩⟩)⟩
              have n4_ : Aside0 ((((w35.setCell ⟨gb286, 0, none⟩ (.int .i64 ((rd_T36 t263 (ji28)).f0))).setCell ⟨gb286, 1, none⟩ (.int .i64 ((rd_T36 t263 (ji28)).f1))).setCell ⟨gb286, 2, none⟩ (.slice A285_2 ((rd_T36 t263 (ji28)).f2).length c285_2)).heap[gb273]? = some (.cells #[.int .i64 t262, .slice (some ad285) t263.length co14, .slice (some ad284) t266.length co15, .int .i64 t269, .int .i64 t270, .int .i64 t271, .int .i64 t272] 27 (0, 0))) := ⟨by (with_reducible repeat (first | refine blk_drewN ?_ _ | refine blk_drew ?_ | refine blk_alloc ?_ _)); refine blk_far ?_ NB273_286.out _; (with_reducible repeat (first | refine blk_drewN ?_ _ | refine blk_drew ?_ | refine blk_alloc ?_ _)); refine blk_far ?_ NB273_286.out _; (with_reducible repeat (first | refine blk_drewN ?_ _ | refine blk_drew ?_ | refine blk_alloc ?_ _)); refine blk_far ?_ NB273_286.out _; (with_reducible repeat (first | refine blk_drewN ?_ _ | refine blk_drew ?_ | refine blk_alloc ?_ _)); exact BK273.out⟩
              have n5_ : Aside0 ((((w35.setCell ⟨gb286, 0, none⟩ (.int .i64 ((rd_T36 t263 (ji28)).f0))).setCell ⟨gb286, 1, none⟩ (.int .i64 ((rd_T36 t263 (ji28)).f1))).setCell ⟨gb286, 2, none⟩ (.slice A285_2 ((rd_T36 t263 (ji28)).f2).length c285_2)).heap[gb286]? = some (.cells #[.int .i64 ((rd_T36 t263 (ji28)).f0), .int .i64 ((rd_T36 t263 (ji28)).f1), .slice A285_2 ((rd_T36 t263 (ji28)).f2).length c285_2] 36 (0, 0))) := ⟨by (with_reducible repeat (first | refine blk_drewN ?_ _ | refine blk_drew ?_ | refine blk_alloc ?_ _)); refine blk_put (cs := #[.int .i64 ((rd_T36 t263 (ji28)).f0), .int .i64 ((rd_T36 t263 (ji28)).f1), .slice none 0 0]) ?_ 2 _ rfl; (with_reducible repeat (first | refine blk_drewN ?_ _ | refine blk_drew ?_ | refine blk_alloc ?_ _)); refine blk_put (cs := #[.int .i64 ((rd_T36 t263 (ji28)).f0), .int .i64 0, .slice none 0 0]) ?_ 1 _ rfl; (with_reducible repeat (first | refine blk_drewN ?_ _ | refine blk_drew ?_ | refine blk_alloc ?_ _)); refine blk_put (cs := #[.int .i64 0, .int .i64 0, .slice none 0 0]) ?_ 0 _ rfl; (with_reducible repeat (first | refine blk_drewN ?_ _ | refine blk_drew ?_ | refine blk_alloc ?_ _)); exact BK286.out⟩
              have n6_ : Aside0 (Below w.heap.size w (((w35.setCell ⟨gb286, 0, none⟩ (.int .i64 ((rd_T36 t263 (ji28)).f0))).setCell ⟨gb286, 1, none⟩ (.int .i64 ((rd_T36 t263 (ji28)).f1))).setCell ⟨gb286, 2, none⟩ (.slice A285_2 ((rd_T36 t263 (ji28)).f2).length c285_2))) := ⟨by repeat (first | (with_reducible first | exact HB.out | apply below_alloc | apply pw_below_drewN | apply below_drew1 | refine below_set ?_ GE273.out | refine below_set ?_ GE286.out) | exact HB.out)⟩
              (try clear HO_11)
              (try clear HO_274001)
              (try clear HO_274002)
              (try clear HL285_2)
              (try clear BK273)
              (try clear BK286)
              (try clear HB)
              generalize (((w35.setCell ⟨gb286, 0, none⟩ (.int .i64 ((rd_T36 t263 (ji28)).f0))).setCell ⟨gb286, 1, none⟩ (.int .i64 ((rd_T36 t263 (ji28)).f1))).setCell ⟨gb286, 2, none⟩ (.slice A285_2 ((rd_T36 t263 (ji28)).f2).length c285_2)) = w38 at n0_ n1_ n2_ n3_ n4_ n5_ n6_ ⊢
              have HO_11 := n0_
              have HO_274001 := n1_
              have HO_274002 := n2_
              have HL285_2 := n3_
              have BK273 := n4_
              have BK286 := n5_
              have HB := n6_
              clear n0_ n1_ n2_ n3_ n4_ n5_ n6_
              have n0_ := Aside0.mk (Kd.R_drew HO_11.out)
              have n1_ := Aside0.mk (Kd.S_drew HO_274001.out)
              have n2_ := Aside0.mk (Kd.R_drew HO_274002.out)
              have n3_ := Aside0.mk (Kd.R_drew HL285_2.out)
              have n4_ := Aside0.mk (blk_drew BK273.out)
              have n5_ := Aside0.mk (blk_drew BK286.out)
              have n6_ := Aside0.mk (below_drew1 HB.out)
              clear HO_11
              clear HO_274001
              clear HO_274002
              clear HL285_2
              clear BK273
              clear BK286
              clear HB
              have HO_11 := n0_
              have HO_274001 := n1_
              have HO_274002 := n2_
              have HL285_2 := n3_
              have BK273 := n4_
              have BK286 := n5_
              have HB := n6_
              clear n0_ n1_ n2_ n3_ n4_ n5_ n6_
              have p288 : 0 ≤ (t287 : Int) := of_decide_eq_true (by with_reducible assumption)
              have q288 : t287 < (((rd_T36 t263 (ji28)).f2).length : Int) := of_decide_eq_true (by with_reducible assumption)
              obtain ⟨ad288, e288, hx288_0⟩ := Kd.at_int ((Kd.R_reads' HL285_2.out).2.2) t287 p288 q288
              cases e288
              replace p288 := eq_true p288
              replace q288 := eq_true q288
              refine start_ (n := 11) (S := fun w' => w'.cell? ⟨gb286, 0, none⟩ = some (.int .i64 ((rd_T36 t263 (ji28)).f0)) ∧ w'.cell? ⟨gb286, 1, none⟩ = some (.int .i64 ((rd_T36 t263 (ji28)).f1)) ∧ w'.cell? ⟨gb286, 2, none⟩ = some (.slice (some ad288) ((rd_T36 t263 (ji28)).f2).length c285_2) ∧ w'.cell? (ad288.add (t287).toNat) = some (.int .i64 (rd ((rd_T36 t263 (ji28)).f2) t287))) (ds := []) #[false, false, false, false, false, false, false, false, false, false, false] (by kernel_rfl) rfl rfl ⟨(blk_cell BK286.out 0).trans rfl, (blk_cell BK286.out 1).trans rfl, (blk_cell BK286.out 2).trans rfl, hx288_0⟩ (fun hHeld => ?_); refine with_tabW laws_FnPathDelays.tab19 laws_FnPathDelays.bits19 (fun HT_ HW_ => ?_)
              generalize w38.drew = w39 at HO_11 HO_274001 HO_274002 HL285_2 BK273 BK286 HB hHeld ⊢
              refine pS_ HT_.out (i := 0) (N := some 90) (v := ?_) (a' := ?_) rfl rfl (by kernel_rfl) (fun _ _ _ h => h) (Or.inl ⟨by rfl, ?_⟩) ?_ ?_; rotate_left; (· intro w'; go_simp; with_reducible rfl); rotate_left; (· simp only [Act.put, List.setIfInBounds_toArray, List.set_cons_zero, List.set_cons_succ, i64_w, i32_w]; rfl)
              refine pS_ HT_.out (i := 2) (N := some 92) (v := ?_) (a' := ?_) rfl rfl (by kernel_rfl) (fun _ _ _ h => h) (Or.inl ⟨by rfl, ?_⟩) ?_ ?_; rotate_left; (· intro w'; go_simp; with_reducible rfl); rotate_left; (· simp only [Act.put, List.setIfInBounds_toArray, List.set_cons_zero, List.set_cons_succ, i64_w, i32_w]; rfl)
              refine pS_ HT_.out (i := 3) (N := some 93) (v := ?_) (a' := ?_) rfl rfl (by kernel_rfl) (fun _ _ _ h => h) (Or.inl ⟨by rfl, ?_⟩) ?_ ?_; rotate_left; (· intro w'; go_simp; with_reducible rfl); rotate_left; (· simp only [Act.put, List.setIfInBounds_toArray, List.set_cons_zero, List.set_cons_succ, i64_w, i32_w]; rfl)
              refine pS_ HT_.out (i := 4) (N := some 94) (v := ?_) (a' := ?_) rfl rfl (by kernel_rfl) (fun _ _ _ h => h) (Or.inl ⟨by rfl, ?_⟩) ?_ ?_; rotate_left; (· intro w'; go_simp; with_reducible rfl); rotate_left; (· simp only [Act.put, List.setIfInBounds_toArray, List.set_cons_zero, List.set_cons_succ, i64_w, i32_w]; rfl)
              refine tS_ HT_.out HW_.out (i := 1) (N := some 91) (v := ?_) (a' := ?_) rfl rfl (by kernel_rfl) (fun _ _ _ h => h) (Or.inl ⟨by rfl, ?_⟩) hHeld ?_ ?_; rotate_left; (· rintro w' ⟨s0, s1, s2, s3⟩; go_simp; with_reducible rfl); rotate_left; (· simp only [Act.put, List.setIfInBounds_toArray, List.set_cons_zero, List.set_cons_succ, i64_w, i32_w]; rfl)
              refine tS_ HT_.out HW_.out (i := 5) (N := some 95) (v := ?_) (a' := ?_) rfl rfl (by kernel_rfl) (fun _ _ _ h => h) (Or.inl ⟨by rfl, ?_⟩) hHeld ?_ ?_; rotate_left; (· rintro w' ⟨s0, s1, s2, s3⟩; go_simp; with_reducible rfl); rotate_left; (· simp only [Act.put, List.setIfInBounds_toArray, List.set_cons_zero, List.set_cons_succ, i64_w, i32_w]; rfl)
              refine pS_ HT_.out (i := 6) (N := some 96) (v := ?_) (a' := ?_) rfl rfl (by kernel_rfl) (fun _ _ _ h => h) (Or.inl ⟨by rfl, ?_⟩) ?_ ?_; rotate_left; (· intro w'; go_simp; with_reducible rfl); rotate_left; (· simp only [Act.put, List.setIfInBounds_toArray, List.set_cons_zero, List.set_cons_succ, i64_w, i32_w]; rfl)
              refine one_ (i := 7) (N := some 97) #[true, true, true, true, true, true, true, true, false, false, false] rfl rfl (one_of HT_.out (by kernel_rfl)) (by decide) (fun K hK => ?_)
              refine goes_ Try.func7 (by kernel_rfl) rfl #[.slice A1 l1.length c1, .int .i64 x16_2, .int .i64 (((rd_T36 t263 (ji28)).f2).length : Int)] (by rfl) rfl rfl (by (try simp only [List.map_toArray, List.map_cons, List.map_nil]); first | done | (simp only [hji28]; rfl) | rfl | (simp only [List.length_drop, List.length_take]; rfl)) ?_
              with_reducible refine (laws_r8At.calls _ _ l1 x16_2 (((rd_T36 t263 (ji28)).f2).length : Int) t287 _ ?side1 ?side2 A31.out).mono ?_
              (case side1 => repeat (first | exact (Kd.C_below HR1.out HB.out) | (with_reducible refine Kd.C_alloc ?_ _) | (with_reducible refine Kd.C_drewN ?_ _) | (with_reducible refine Kd.C_drew ?_)))
              (case side2 => exact HC1.out)
              rintro e w' ⟨rfl, ⟨nd, rfl⟩⟩
              refine ⟨_, rfl, ?_⟩
              refine hK.out _ _ ⟨(blk_cell BK286.out 0).trans rfl, (blk_cell BK286.out 1).trans rfl, (blk_cell BK286.out 2).trans rfl, hHeld.2.2.2⟩ (fun hHeld => ?_)
              clear hK K
              refine norm_ (a' := ?_) ?_ ?_
              rotate_left
              ·show Act.put _ (some 97) _ = _
               simp only [Act.put, List.setIfInBounds_toArray, List.set_cons_zero, List.set_cons_succ, i64_w, i32_w]
               rfl
              refine pS_ HT_.out (i := 8) (N := some 98) (v := ?_) (a' := ?_) rfl rfl (by kernel_rfl) (fun _ _ _ h => h) (Or.inl ⟨by rfl, ?_⟩) ?_ ?_; rotate_left; (· intro w'; go_simp; with_reducible rfl); rotate_left; (· simp only [Act.put, List.setIfInBounds_toArray, List.set_cons_zero, List.set_cons_succ, i64_w, i32_w]; rfl)
              refine tS_ HT_.out HW_.out (i := 9) (N := some 99) (v := ?_) (a' := ?_) rfl rfl (by kernel_rfl) (fun _ _ _ h => h) (Or.inl ⟨by rfl, ?_⟩) hHeld ?_ ?_; rotate_left; (· rintro w' ⟨s0, s1, s2, s3⟩; go_simp; with_reducible rfl); rotate_left; (· simp only [Act.put, List.setIfInBounds_toArray, List.set_cons_zero, List.set_cons_succ, i64_w, i32_w]; rfl)
              refine pS_ HT_.out (i := 10) (N := some 13) (v := ?_) (a' := ?_) rfl rfl (by kernel_rfl) (fun _ _ _ h => h) (Or.inl ⟨by rfl, ?_⟩) ?_ ?_; rotate_left; (· intro w'; go_simp; with_reducible rfl); rotate_left; (· simp only [Act.put, List.setIfInBounds_toArray, List.set_cons_zero, List.set_cons_succ, i64_w, i32_w]; rfl)
              refine done_ (done_of HT_.out (by kernel_rfl)) ?_
              try go_wp2
              go_roundg k2
              case measure => have := HJ9.out; have := HK2.out; omega
              case rel => exact ⟨(rd ((rd_T36 t263 (ji28)).f2) t287), (wrap64 (x14_2 + ((rd_T36 t263 (ji28)).f0))), (wrap64 (x15_2 + ((rd_T36 t263 (ji28)).f1))), (wrap64 (x16_2 + 1)), (by first | rfl | (simp; done) | (simp only [← hji28] <;> (first | rfl | simp)) | (simp [*]; done)), (by first | rfl | (simp; done) | (simp only [← hji28] <;> (first | rfl | simp)) | (simp [*]; done)), (by first | rfl | (simp; done) | (simp only [← hji28] <;> (first | rfl | simp)) | (simp [*]; done)), (by first | rfl | (simp; done) | (simp [*]; done)), H', ⟨by have := HJ9.out; have := HK2.out; omega⟩, ⟨by (with_reducible repeat (first | apply Kd.R_alloc | apply Kd.R_drewN | apply Kd.R_drew)); exact HO_11.out⟩, ⟨by (with_reducible repeat (first | apply Kd.S_alloc | apply Kd.S_drewN | apply Kd.S_drew)); exact Kd.S_mono HO_274001.out (fun _ hk => ⟨hk.1, hk.2.1⟩)⟩, ⟨by (with_reducible repeat (first | apply Kd.R_alloc | apply Kd.R_drewN | apply Kd.R_drew)); exact HO_274002.out⟩, ⟨by (with_reducible repeat (first | refine blk_drewN ?_ _ | refine blk_drew ?_ | refine blk_alloc ?_ _)); exact BK273.out⟩, ⟨by repeat (first | (with_reducible first | exact HB.out | apply below_alloc | apply pw_below_drewN | apply below_drew1 | refine below_set ?_ GE273.out | refine below_set ?_ GE286.out) | exact HB.out)⟩⟩
             ·rw [if_neg c33] at H
              exact absurd H (by simp)
            ·rw [if_neg c32] at H
             exact absurd H (by simp)
           ·rw [if_neg c30] at H
            exact absurd H (by simp)
          ·rw [if_neg c29] at H
           exact absurd H (by simp)
         ·rw [if_neg c27] at H
          have c27b0 : decide (t262 ≤ x13_2) = false := decide_eq_false c27
          clear c27
          replace H := Option.bind_eq_some_iff.mp H
          obtain ⟨⟨t289, t290, t291⟩, A400, H⟩ := H
          replace H : (if t291 = true then (if x14_2 < t289 then (laws_FnPathDelays.j2 k2 t274 t275 t276 t277 t278 t279 true t262 t263 t266 t269 t270 t271 t272) else (laws_FnPathDelays.j2 k2 t274 t275 t276 t277 t278 t279 (decide (x15_2 > t290)) t262 t263 t266 t269 t270 t271 t272)) else (laws_FnPathDelays.j2 k2 t274 t275 t276 t277 t278 t279 true t262 t263 t266 t269 t270 t271 t272)) = some r := H
          have A40 := Aside0.mk A400
          clear A400
          have HC41 := Aside0.mk H
          clear H
          have hcz42_0 : wr.cell? ⟨gb273, 0, none⟩ = some (.int .i64 t262) := (blk_cell BK273.out 0).trans rfl
          have hcz42_1 : wr.cell? ⟨gb273, 1, none⟩ = some (.slice Ao14 t263.length co14) := (blk_cell BK273.out 1).trans rfl
          have hcz42_2 : wr.cell? ⟨gb273, 2, none⟩ = some (.slice (some ad284) t266.length co15) := (blk_cell BK273.out 2).trans rfl
          have hcz42_3 : wr.cell? ⟨gb273, 3, none⟩ = some (.int .i64 t269) := (blk_cell BK273.out 3).trans rfl
          have hcz42_4 : wr.cell? ⟨gb273, 4, none⟩ = some (.int .i64 t270) := (blk_cell BK273.out 4).trans rfl
          have hcz42_5 : wr.cell? ⟨gb273, 5, none⟩ = some (.int .i64 t271) := (blk_cell BK273.out 5).trans rfl
          have hcz42_6 : wr.cell? ⟨gb273, 6, none⟩ = some (.int .i64 t272) := (blk_cell BK273.out 6).trans rfl
          have hfz42_0 := blk_frozen BK273.out 0
          have hfz42_1 := blk_frozen BK273.out 1
          have hfz42_2 := blk_frozen BK273.out 2
          have hfz42_3 := blk_frozen BK273.out 3
          have hfz42_4 := blk_frozen BK273.out 4
          have hfz42_5 := blk_frozen BK273.out 5
          have hfz42_6 := blk_frozen BK273.out 6
          go_upto_region 21 with (first | ((with_reducible refine gate_callee (f := 8) rfl ?_); refine goesL_ (some 104) rfl rfl Try.func8 (by kernel_rfl) rfl #[.agg #[.int .i64 t262, .slice Ao14 t263.length co14, .slice (some ad284) t266.length co15, .int .i64 t269, .int .i64 t270, .int .i64 t271, .int .i64 t272], .int .i64 x13_2, .int .i64 t275] rfl (by (try simp only [List.map_toArray, List.map_cons, List.map_nil]); first | done | rfl | (simp only [List.length_drop, List.length_take]; rfl)) ?_; (with_reducible refine (impl_PathDelays.calls k2 t262 _ _ t263 _ _ t266 t269 t270 t271 t272 x13_2 t275 t289 t290 t291 _ ?side1 ?side2 ?side3 ?side4 A40.out).mono ?_); (case side1 => repeat (first | exact (Kd.S_reads' HO_274001.out).2.2 | (with_reducible refine Kd.C_alloc ?_ _) | (with_reducible refine Kd.C_drewN ?_ _) | (with_reducible refine Kd.C_drew ?_))); (case side2 => exact (Kd.S_reads' HO_274001.out).2.1); (case side3 => repeat (first | exact (Kd.R_reads' HO_274002.out).2.2 | (with_reducible refine Kd.C_alloc ?_ _) | (with_reducible refine Kd.C_drewN ?_ _) | (with_reducible refine Kd.C_drew ?_))); (case side4 => exact (Kd.R_reads' HO_274002.out).2.1); rintro e w43 ⟨rfl, hb⟩; refine ⟨_, rfl, ?_⟩; have n0_ := Aside0.mk (Kd.R_below (by (with_reducible repeat (first | apply Kd.R_alloc | apply Kd.R_drewN | apply Kd.R_drew)); exact HO_11.out) hb); have n1_ := Aside0.mk (Kd.S_below (by (with_reducible repeat (first | apply Kd.S_alloc | apply Kd.S_drewN | apply Kd.S_drew)); exact HO_274001.out) hb); have n2_ := Aside0.mk (Kd.R_below (by (with_reducible repeat (first | apply Kd.R_alloc | apply Kd.R_drewN | apply Kd.R_drew)); exact HO_274002.out) hb); have n3_ := Aside0.mk (blk_below (g := gb273) (o := .cells #[.int .i64 t262, .slice Ao14 t263.length co14, .slice (some ad284) t266.length co15, .int .i64 t269, .int .i64 t270, .int .i64 t271, .int .i64 t272] 27 (0, 0)) (by (with_reducible repeat (first | refine blk_drewN ?_ _ | refine blk_drew ?_ | refine blk_alloc ?_ _)); exact BK273.out) hb); have n4_ := Aside0.mk (below_step (by repeat (first | (with_reducible first | exact HB.out | apply below_alloc | apply pw_below_drewN | apply below_drew1 | refine below_set ?_ GE273.out) | exact HB.out)) hb); clear HO_11; clear HO_274001; clear HO_274002; clear BK273; clear HB; have HO_11 := n0_; have HO_274001 := n1_; have HO_274002 := n2_; have BK273 := n3_; have HB := n4_; clear n0_ n1_ n2_ n3_ n4_; (try clear hb); (try clear hb2); (try clear hk); (try clear hi)))
          (try simp only [Act.put, List.setIfInBounds_toArray, List.set_cons_zero, List.set_cons_succ])
          go_cut [119] (fun v119 wc => ∃ (kq : Nat) (x119_40 : Bool), v119 = .bool x119_40 ∧ Aside0 (laws_FnPathDelays.j2 kq t274 t275 t276 t277 t278 t279 x119_40 t262 t263 t266 t269 t270 t271 t272 = some r) ∧ Aside0 (kq ≤ k2) ∧ Aside0 (Kd.R (Kd.int .i64) 2 wc w.heap.size (fun k_ => some k_ ≠ ((.slice (some ad284) t266.length co15) : Value).ownBlock) v280 t279) ∧ Aside0 (Kd.S k36 36 wc w.heap.size (fun k_ => some k_ ≠ (v280 : Value).ownBlock ∧ some k_ ≠ ((.slice (some ad284) t266.length co15) : Value).ownBlock) (.slice Ao14 t263.length co14) t263) ∧ Aside0 (Kd.R (Kd.int .i64) 2 wc w.heap.size (fun k_ => some k_ ≠ (v280 : Value).ownBlock) (.slice (some ad284) t266.length co15) t266) ∧ Aside0 (wc.heap[gb273]? = some (.cells #[.int .i64 t262, (.slice Ao14 t263.length co14), (.slice (some ad284) t266.length co15), .int .i64 t269, .int .i64 t270, .int .i64 t271, .int .i64 t272] 27 (0, 0))) ∧ Aside0 (Below w.heap.size w wc))
          case first => as_aux_lemma =>
           have H := HC41.out
           clear HC41
           by_cases c44 : t291 = true
           ·subst c44
            have H1 : (if x14_2 < t289 then (laws_FnPathDelays.j2 k2 t274 t275 t276 t277 t278 t279 true t262 t263 t266 t269 t270 t271 t272) else (laws_FnPathDelays.j2 k2 t274 t275 t276 t277 t278 t279 (decide (x15_2 > t290)) t262 t263 t266 t269 t270 t271 t272)) = some r := by rw [if_pos rfl] at H; exact H
            clear H
            have H := H1
            clear H1
            by_cases c45 : x14_2 < t289
            ·rw [if_pos c45] at H
             have c45b0 : decide (x14_2 < t289) = true := decide_eq_true c45
             clear c45
             (first | rw [c45b0] | (simp only [i64_w, i32_w]; rw [c45b0]) | skip)
             have H' := Aside0.mk H
             clear H
             go_wp2
             go_meet
             case rel => exact ⟨_, (true), (by first | rfl | (simp; done) | (simp [*]; done)), H', ⟨by have := HJ9.out; have := HK2.out; first | omega | exact Nat.le_refl _⟩, ⟨by (with_reducible repeat (first | apply Kd.R_alloc | apply Kd.R_drewN | apply Kd.R_drew)); exact HO_11.out⟩, ⟨by (with_reducible repeat (first | apply Kd.S_alloc | apply Kd.S_drewN | apply Kd.S_drew)); exact HO_274001.out⟩, ⟨by (with_reducible repeat (first | apply Kd.R_alloc | apply Kd.R_drewN | apply Kd.R_drew)); exact HO_274002.out⟩, ⟨by (with_reducible repeat (first | refine blk_drewN ?_ _ | refine blk_drew ?_ | refine blk_alloc ?_ _)); exact BK273.out⟩, ⟨by repeat (first | (with_reducible first | exact HB.out | apply below_alloc | apply pw_below_drewN | apply below_drew1 | refine below_set ?_ GE273.out) | exact HB.out)⟩⟩
            ·rw [if_neg c45] at H
             have c45b0 : decide (x14_2 < t289) = false := decide_eq_false c45
             clear c45
             (first | rw [c45b0] | (simp only [i64_w, i32_w]; rw [c45b0]) | skip)
             have H' := Aside0.mk H
             clear H
             go_wp2
             go_meet
             case rel => exact ⟨_, (decide (x15_2 > t290)), (by first | rfl | (simp; done) | (simp [*]; done)), H', ⟨by have := HJ9.out; have := HK2.out; first | omega | exact Nat.le_refl _⟩, ⟨by (with_reducible repeat (first | apply Kd.R_alloc | apply Kd.R_drewN | apply Kd.R_drew)); exact HO_11.out⟩, ⟨by (with_reducible repeat (first | apply Kd.S_alloc | apply Kd.S_drewN | apply Kd.S_drew)); exact HO_274001.out⟩, ⟨by (with_reducible repeat (first | apply Kd.R_alloc | apply Kd.R_drewN | apply Kd.R_drew)); exact HO_274002.out⟩, ⟨by (with_reducible repeat (first | refine blk_drewN ?_ _ | refine blk_drew ?_ | refine blk_alloc ?_ _)); exact BK273.out⟩, ⟨by repeat (first | (with_reducible first | exact HB.out | apply below_alloc | apply pw_below_drewN | apply below_drew1 | refine below_set ?_ GE273.out) | exact HB.out)⟩⟩
           ·replace c44 := Bool.eq_false_iff.mpr c44
            subst c44
            have H1 : (laws_FnPathDelays.j2 k2 t274 t275 t276 t277 t278 t279 true t262 t263 t266 t269 t270 t271 t272) = some r := by rw [if_neg (show ¬ (false = true) by decide)] at H; exact H
            clear H
            have H := H1
            clear H1
            have H' := Aside0.mk H
            clear H
            go_wp2
            go_meet
            case rel => exact ⟨_, (true), (by first | rfl | (simp; done) | (simp [*]; done)), H', ⟨by have := HJ9.out; have := HK2.out; first | omega | exact Nat.le_refl _⟩, ⟨by (with_reducible repeat (first | apply Kd.R_alloc | apply Kd.R_drewN | apply Kd.R_drew)); exact HO_11.out⟩, ⟨by (with_reducible repeat (first | apply Kd.S_alloc | apply Kd.S_drewN | apply Kd.S_drew)); exact HO_274001.out⟩, ⟨by (with_reducible repeat (first | apply Kd.R_alloc | apply Kd.R_drewN | apply Kd.R_drew)); exact HO_274002.out⟩, ⟨by (with_reducible repeat (first | refine blk_drewN ?_ _ | refine blk_drew ?_ | refine blk_alloc ?_ _)); exact BK273.out⟩, ⟨by repeat (first | (with_reducible first | exact HB.out | apply below_alloc | apply pw_below_drewN | apply below_drew1 | refine below_set ?_ GE273.out) | exact HB.out)⟩⟩
          case rest => as_aux_lemma =>
           clear HC41
           try clear c1
           try clear c2
           try clear p2
           try clear q2
           try clear hx2
           try clear c3
           try clear c4
           try clear c5
           try clear c6
           try clear p6
           try clear c7
           try clear c8
           try clear c9
           try clear c19
           try clear c19b0
           try clear c19b1
           try clear c19b2
           try clear c23
           try clear c24
           try clear c24b0
           try clear c25
           try clear c25b0
           try clear c27
           try clear c27b0
           try clear c28
           try clear p28
           try clear q28
           try clear hx28
           try clear c29
           try clear c29b0
           try clear c30
           try clear c30b0
           try clear c32
           try clear c32b0
           try clear c33
           try clear c33b0
           try clear c36
           try clear c44
           try clear c45
           try clear c45b0
           try clear hcz13_0
           try clear hcz13_1
           try clear hcz13_2
           try clear hcz13_3
           try clear hcz13_4
           try clear hcz13_5
           try clear hcz13_6
           try clear hcz17_0
           try clear hcz17_1
           try clear hcz17_2
           try clear hcz17_3
           try clear hcz17_4
           try clear hcz17_5
           try clear hcz17_6
           try clear hcz21_0
           try clear hcz21_1
           try clear hcz21_2
           try clear hcz21_3
           try clear hcz21_4
           try clear hcz21_5
           try clear hcz21_6
           try clear hcz26_0
           try clear hcz26_1
           try clear hcz26_2
           try clear hcz26_3
           try clear hcz26_4
           try clear hcz26_5
           try clear hcz26_6
           try clear hcz34_0
           try clear hcz34_1
           try clear hcz34_2
           try clear hcz34_3
           try clear hcz34_4
           try clear hcz34_5
           try clear hcz34_6
           try clear hcz37_0
           try clear hcz37_1
           try clear hcz37_2
           try clear hcz42_0
           try clear hcz42_1
           try clear hcz42_2
           try clear hcz42_3
           try clear hcz42_4
           try clear hcz42_5
           try clear hcz42_6
           try clear hfz13_0
           try clear hfz13_1
           try clear hfz13_2
           try clear hfz13_3
           try clear hfz13_4
           try clear hfz13_5
           try clear hfz13_6
           try clear hfz17_0
           try clear hfz17_1
           try clear hfz17_2
           try clear hfz17_3
           try clear hfz17_4
           try clear hfz17_5
           try clear hfz17_6
           try clear hfz21_0
           try clear hfz21_1
           try clear hfz21_2
           try clear hfz21_3
           try clear hfz21_4
           try clear hfz21_5
           try clear hfz21_6
           try clear hfz26_0
           try clear hfz26_1
           try clear hfz26_2
           try clear hfz26_3
           try clear hfz26_4
           try clear hfz26_5
           try clear hfz26_6
           try clear hfz34_0
           try clear hfz34_1
           try clear hfz34_2
           try clear hfz34_3
           try clear hfz34_4
           try clear hfz34_5
           try clear hfz34_6
           try clear hfz37_0
           try clear hfz37_1
           try clear hfz37_2
           try clear hfz42_0
           try clear hfz42_1
           try clear hfz42_2
           try clear hfz42_3
           try clear hfz42_4
           try clear hfz42_5
           try clear hfz42_6
           try clear hx284_0
           try clear hx285_0
           try clear hx285_1
           try clear hx285_2
           try clear hx288_0
           try clear p2
           try clear p284
           try clear p285
           try clear p288
           try clear q2
           try clear q284
           try clear q285
           try clear q288
           obtain ⟨kq, x119_40, rfl, HA, HJ40, HO_11, HO_274001, HO_274002, BK273, HB⟩ := hcut
           cases kq with
           | zero => exact absurd HA.out (by simp [laws_FnPathDelays.j2])
           | succ kj40 =>
            have H := HA.out
            clear HA
            simp only [laws_FnPathDelays.j2] at H
            by_cases c46 : x119_40 = true
            ·subst c46
             have H1 : (some false) = some r := by rw [if_pos rfl] at H; exact H
             clear H
             have H := H1
             clear H1
             obtain rfl := Option.some.inj H
             go_wp2
             go_ret
             exact ⟨by first | rfl | (simp [errW_none, errW_some] <;> rfl) | (simp [*, errW_none, errW_some] <;> rfl), by repeat (first | (with_reducible first | exact HB.out | apply below_alloc | apply pw_below_drewN | apply below_drew1 | refine below_set ?_ GE273.out) | exact HB.out)⟩
            ·replace c46 := Bool.eq_false_iff.mpr c46
             subst c46
             have H1 : (if t278 = true then (laws_FnPathDelays.l1 kj40 t274 t275 t276 t277 t279 t272 0 t262 t263 t266 t269 t270 t271 t272) else (some true)) = some r := by rw [if_neg (show ¬ (false = true) by decide)] at H; exact H
             clear H
             have H := H1
             clear H1
             by_cases c47 : t278 = true
             ·subst c47
              have H1 : (laws_FnPathDelays.l1 kj40 t274 t275 t276 t277 t279 t272 0 t262 t263 t266 t269 t270 t271 t272) = some r := by rw [if_pos rfl] at H; exact H
              clear H
              have H := H1
              clear H1
              have H' := Aside0.mk H
              clear H
              have hcz48_0 : wc.cell? ⟨gb273, 0, none⟩ = some (.int .i64 t262) := (blk_cell BK273.out 0).trans rfl
              have hcz48_1 : wc.cell? ⟨gb273, 1, none⟩ = some (.slice Ao14 t263.length co14) := (blk_cell BK273.out 1).trans rfl
              have hcz48_2 : wc.cell? ⟨gb273, 2, none⟩ = some (.slice (some ad284) t266.length co15) := (blk_cell BK273.out 2).trans rfl
              have hcz48_3 : wc.cell? ⟨gb273, 3, none⟩ = some (.int .i64 t269) := (blk_cell BK273.out 3).trans rfl
              have hcz48_4 : wc.cell? ⟨gb273, 4, none⟩ = some (.int .i64 t270) := (blk_cell BK273.out 4).trans rfl
              have hcz48_5 : wc.cell? ⟨gb273, 5, none⟩ = some (.int .i64 t271) := (blk_cell BK273.out 5).trans rfl
              have hcz48_6 : wc.cell? ⟨gb273, 6, none⟩ = some (.int .i64 t272) := (blk_cell BK273.out 6).trans rfl
              have hfz48_0 := blk_frozen BK273.out 0
              have hfz48_1 := blk_frozen BK273.out 1
              have hfz48_2 := blk_frozen BK273.out 2
              have hfz48_3 := blk_frozen BK273.out 3
              have hfz48_4 := blk_frozen BK273.out 4
              have hfz48_5 := blk_frozen BK273.out 5
              have hfz48_6 := blk_frozen BK273.out 6
              go_wp2
              go_loopg [21, 22] kj40 (fun kq v21 v22 w' => ∃ (x21_4 : Int) (x22_4 : Int), v21 = .int .i64 x21_4 ∧ v22 = .int .i64 x22_4 ∧ Aside0 (laws_FnPathDelays.l1 kq t274 t275 t276 t277 t279 x21_4 x22_4 t262 t263 t266 t269 t270 t271 t272 = some r) ∧ Aside0 (kq ≤ kj40) ∧ Aside0 (Kd.R (Kd.int .i64) 2 w' w.heap.size (fun k_ => some k_ ≠ ((.slice (some ad284) t266.length co15) : Value).ownBlock) v280 t279) ∧ Aside0 (Kd.S k36 36 w' w.heap.size (fun k_ => some k_ ≠ (v280 : Value).ownBlock ∧ some k_ ≠ ((.slice (some ad284) t266.length co15) : Value).ownBlock) (.slice Ao14 t263.length co14) t263) ∧ Aside0 (Kd.R (Kd.int .i64) 2 w' w.heap.size (fun k_ => some k_ ≠ (v280 : Value).ownBlock) (.slice (some ad284) t266.length co15) t266) ∧ Aside0 (w'.heap[gb273]? = some (.cells #[.int .i64 t262, (.slice Ao14 t263.length co14), (.slice (some ad284) t266.length co15), .int .i64 t269, .int .i64 t270, .int .i64 t271, .int .i64 t272] 27 (0, 0))) ∧ Aside0 (Below w.heap.size w w'))
              case atStart => exact ⟨(t272), (0), (by first | rfl | (simp; done) | (simp [*]; done)), (by first | rfl | (simp; done) | (simp [*]; done)), H', ⟨Nat.le_refl _⟩, ⟨by (with_reducible repeat (first | apply Kd.R_alloc | apply Kd.R_drewN | apply Kd.R_drew)); exact HO_11.out⟩, ⟨by (with_reducible repeat (first | apply Kd.S_alloc | apply Kd.S_drewN | apply Kd.S_drew)); exact HO_274001.out⟩, ⟨by (with_reducible repeat (first | apply Kd.R_alloc | apply Kd.R_drewN | apply Kd.R_drew)); exact HO_274002.out⟩, ⟨by (with_reducible repeat (first | refine blk_drewN ?_ _ | refine blk_drew ?_ | refine blk_alloc ?_ _)); exact BK273.out⟩, ⟨by repeat (first | (with_reducible first | exact HB.out | apply below_alloc | apply pw_below_drewN | apply below_drew1 | refine below_set ?_ GE273.out) | exact HB.out)⟩⟩
              case round =>
               clear H'
               try clear c1
               try clear c2
               try clear p2
               try clear q2
               try clear hx2
               try clear c3
               try clear c4
               try clear c5
               try clear c6
               try clear p6
               try clear c7
               try clear c8
               try clear c9
               try clear c19
               try clear c19b0
               try clear c19b1
               try clear c19b2
               try clear c23
               try clear c24
               try clear c24b0
               try clear c25
               try clear c25b0
               try clear c27
               try clear c27b0
               try clear c28
               try clear p28
               try clear q28
               try clear hx28
               try clear c29
               try clear c29b0
               try clear c30
               try clear c30b0
               try clear c32
               try clear c32b0
               try clear c33
               try clear c33b0
               try clear c36
               try clear c44
               try clear c45
               try clear c45b0
               try clear c46
               try clear c47
               try clear hcz13_0
               try clear hcz13_1
               try clear hcz13_2
               try clear hcz13_3
               try clear hcz13_4
               try clear hcz13_5
               try clear hcz13_6
               try clear hcz17_0
               try clear hcz17_1
               try clear hcz17_2
               try clear hcz17_3
               try clear hcz17_4
               try clear hcz17_5
               try clear hcz17_6
               try clear hcz21_0
               try clear hcz21_1
               try clear hcz21_2
               try clear hcz21_3
               try clear hcz21_4
               try clear hcz21_5
               try clear hcz21_6
               try clear hcz26_0
               try clear hcz26_1
               try clear hcz26_2
               try clear hcz26_3
               try clear hcz26_4
               try clear hcz26_5
               try clear hcz26_6
               try clear hcz34_0
               try clear hcz34_1
               try clear hcz34_2
               try clear hcz34_3
               try clear hcz34_4
               try clear hcz34_5
               try clear hcz34_6
               try clear hcz37_0
               try clear hcz37_1
               try clear hcz37_2
               try clear hcz42_0
               try clear hcz42_1
               try clear hcz42_2
               try clear hcz42_3
               try clear hcz42_4
               try clear hcz42_5
               try clear hcz42_6
               try clear hcz48_0
               try clear hcz48_1
               try clear hcz48_2
               try clear hcz48_3
               try clear hcz48_4
               try clear hcz48_5
               try clear hcz48_6
               try clear hfz13_0
               try clear hfz13_1
               try clear hfz13_2
               try clear hfz13_3
               try clear hfz13_4
               try clear hfz13_5
               try clear hfz13_6
               try clear hfz17_0
               try clear hfz17_1
               try clear hfz17_2
               try clear hfz17_3
               try clear hfz17_4
               try clear hfz17_5
               try clear hfz17_6
               try clear hfz21_0
               try clear hfz21_1
               try clear hfz21_2
               try clear hfz21_3
               try clear hfz21_4
               try clear hfz21_5
               try clear hfz21_6
               try clear hfz26_0
               try clear hfz26_1
               try clear hfz26_2
               try clear hfz26_3
               try clear hfz26_4
               try clear hfz26_5
               try clear hfz26_6
               try clear hfz34_0
               try clear hfz34_1
               try clear hfz34_2
               try clear hfz34_3
               try clear hfz34_4
               try clear hfz34_5
               try clear hfz34_6
               try clear hfz37_0
               try clear hfz37_1
               try clear hfz37_2
               try clear hfz42_0
               try clear hfz42_1
               try clear hfz42_2
               try clear hfz42_3
               try clear hfz42_4
               try clear hfz42_5
               try clear hfz42_6
               try clear hfz48_0
               try clear hfz48_1
               try clear hfz48_2
               try clear hfz48_3
               try clear hfz48_4
               try clear hfz48_5
               try clear hfz48_6
               try clear hx284_0
               try clear hx285_0
               try clear hx285_1
               try clear hx285_2
               try clear hx288_0
               try clear p2
               try clear p28
               try clear p284
               try clear p285
               try clear p288
               try clear p6
               try clear q2
               try clear q28
               try clear q284
               try clear q285
               try clear q288
               obtain ⟨x21_4, x22_4, rfl, rfl, HA, HK4, HO_11, HO_274001, HO_274002, BK273, HB⟩ := hrel
               cases gk with
               | zero => exact absurd HA.out (by simp [laws_FnPathDelays.l1])
               | succ k4 =>
                have H := HA.out
                clear HA
                simp only [laws_FnPathDelays.l1] at H
                by_cases c49 : x22_4 < (t279.length : Int)
                ·rw [if_pos c49] at H
                 have c49b0 : decide (x22_4 < (t279.length : Int)) = true := decide_eq_true c49
                 clear c49
                 by_cases c50 : x22_4 = 0
                 ·rw [if_pos c50] at H
                  have c50b0 : (x22_4 == 0) = true := beq_iff_eq.mpr c50
                  have c50b1 : (x22_4 != 0) = false := bne_eq_false_iff_eq.mpr c50
                  clear c50
                  by_cases c51 : 0 < (t279.length : Int)
                  ·rw [if_pos c51] at H
                   have c51b0 : decide (0 < (t279.length : Int)) = true := decide_eq_true c51
                   have c51b1 : decide (0 < t279.length) = true := decide_eq_true (by omega)
                   clear c51
                   by_cases c52 : (rd t279 0) = t274
                   ·rw [if_pos c52] at H
                    have c52b0 : ((rd t279 0) == t274) = true := beq_iff_eq.mpr c52
                    have c52b1 : ((rd t279 0) != t274) = false := bne_eq_false_iff_eq.mpr c52
                    clear c52
                    have H' := Aside0.mk H
                    clear H
                    obtain ⟨Ao53, co53, eo53⟩ := Kd.R_slice HO_11.out
                    subst eo53
                    have p294 : 0 ≤ (0 : Int) := (by omega)
                    have q294 : 0 < (t279.length : Int) := of_decide_eq_true (by with_reducible assumption)
                    obtain ⟨ad294, e294, hx294_0⟩ := Kd.at_int (Kd.R_reads' HO_11.out).2.2 0 p294 q294
                    cases e294
                    have qi294 : (0 < t279.length) = True := eq_true (by omega)
                    (try rw [show ((0 : Int)).toNat = 0 from rfl] at hx294_0)
                    (try rw [Addr.add_zero'] at hx294_0)
                    replace p294 := eq_true p294
                    replace q294 := eq_true q294
                    go_wp2
                    go_roundg k4
                    case measure => have := HJ9.out; have := HK2.out; have := HJ40.out; have := HK4.out; omega
                    case rel => exact ⟨(x21_4), (wrap64 (x22_4 + 1)), (by first | rfl | (simp; done) | (simp [*]; done)), (by first | rfl | (simp; done) | (simp [*]; done)), H', ⟨by have := HJ9.out; have := HK2.out; have := HJ40.out; have := HK4.out; omega⟩, ⟨by (with_reducible repeat (first | apply Kd.R_alloc | apply Kd.R_drewN | apply Kd.R_drew)); exact HO_11.out⟩, ⟨by (with_reducible repeat (first | apply Kd.S_alloc | apply Kd.S_drewN | apply Kd.S_drew)); exact HO_274001.out⟩, ⟨by (with_reducible repeat (first | apply Kd.R_alloc | apply Kd.R_drewN | apply Kd.R_drew)); exact HO_274002.out⟩, ⟨by (with_reducible repeat (first | refine blk_drewN ?_ _ | refine blk_drew ?_ | refine blk_alloc ?_ _)); exact BK273.out⟩, ⟨by repeat (first | (with_reducible first | exact HB.out | apply below_alloc | apply pw_below_drewN | apply below_drew1 | refine below_set ?_ GE273.out) | exact HB.out)⟩⟩
                   ·rw [if_neg c52] at H
                    have c52b0 : ((rd t279 0) == t274) = false := beq_eq_false_iff_ne.mpr c52
                    have c52b1 : ((rd t279 0) != t274) = true := bne_iff_ne.mpr c52
                    obtain rfl := Option.some.inj H
                    obtain ⟨Ao54, co54, eo54⟩ := Kd.R_slice HO_11.out
                    subst eo54
                    have p294 : 0 ≤ (0 : Int) := (by omega)
                    have q294 : 0 < (t279.length : Int) := of_decide_eq_true (by with_reducible assumption)
                    obtain ⟨ad294, e294, hx294_0⟩ := Kd.at_int (Kd.R_reads' HO_11.out).2.2 0 p294 q294
                    cases e294
                    have qi294 : (0 < t279.length) = True := eq_true (by omega)
                    (try rw [show ((0 : Int)).toNat = 0 from rfl] at hx294_0)
                    (try rw [Addr.add_zero'] at hx294_0)
                    replace p294 := eq_true p294
                    replace q294 := eq_true q294
                    go_wp2
                    go_ret
                    exact ⟨by first | rfl | (simp [errW_none, errW_some] <;> rfl) | (simp [*, errW_none, errW_some] <;> rfl), by repeat (first | (with_reducible first | exact HB.out | apply below_alloc | apply pw_below_drewN | apply below_drew1 | refine below_set ?_ GE273.out) | exact HB.out)⟩
                  ·rw [if_neg c51] at H
                   exact absurd H (by simp)
                 ·rw [if_neg c50] at H
                  have c50b0 : (x22_4 == 0) = false := beq_eq_false_iff_ne.mpr c50
                  have c50b1 : (x22_4 != 0) = true := bne_iff_ne.mpr c50
                  by_cases c55 : 0 ≤ x22_4
                  ·rw [if_pos c55] at H
                   have c55b0 : decide (0 ≤ x22_4) = true := decide_eq_true c55
                   clear c55
                   by_cases c56 : (rd t279 x22_4) < t262
                   ·rw [if_pos c56] at H
                    have c56b0 : decide ((rd t279 x22_4) < t262) = true := decide_eq_true c56
                    clear c56
                    obtain rfl := Option.some.inj H
                    obtain ⟨Ao57, co57, eo57⟩ := Kd.R_slice HO_11.out
                    subst eo57
                    try go_wp2
                    have n0_ := Aside0.mk (Kd.R_drew HO_11.out)
                    have n1_ := Aside0.mk (Kd.S_drew HO_274001.out)
                    have n2_ := Aside0.mk (Kd.R_drew HO_274002.out)
                    have n3_ := Aside0.mk (blk_drew BK273.out)
                    have n4_ := Aside0.mk (below_drew1 HB.out)
                    clear HO_11
                    clear HO_274001
                    clear HO_274002
                    clear BK273
                    clear HB
                    have HO_11 := n0_
                    have HO_274001 := n1_
                    have HO_274002 := n2_
                    have BK273 := n3_
                    have HB := n4_
                    clear n0_ n1_ n2_ n3_ n4_
                    have p295 : 0 ≤ (x22_4 : Int) := of_decide_eq_true (by with_reducible assumption)
                    have q295 : x22_4 < (t279.length : Int) := of_decide_eq_true (by with_reducible assumption)
                    obtain ⟨ad295, e295, hx295_0⟩ := Kd.at_int (Kd.R_reads' HO_11.out).2.2 x22_4 p295 q295
                    cases e295
                    replace p295 := eq_true p295
                    replace q295 := eq_true q295
                    refine start_ (n := 41) (S := fun w' => w'.cell? ⟨gb273, 0, none⟩ = some (.int .i64 t262) ∧ w'.cell? ⟨gb273, 1, none⟩ = some (.slice Ao14 t263.length co14) ∧ w'.cell? ⟨gb273, 2, none⟩ = some (.slice (some ad284) t266.length co15) ∧ w'.cell? ⟨gb273, 3, none⟩ = some (.int .i64 t269) ∧ w'.cell? ⟨gb273, 4, none⟩ = some (.int .i64 t270) ∧ w'.cell? ⟨gb273, 5, none⟩ = some (.int .i64 t271) ∧ w'.cell? ⟨gb273, 6, none⟩ = some (.int .i64 t272) ∧ w'.cell? (ad295.add (x22_4).toNat) = some (.int .i64 (rd t279 x22_4))) (ds := []) #[false, false, false, false, false, false, false, false, false, false, false, false, false, false, false, false, false, false, false, false, false, false, false, false, false, false, false, false, false, false, false, false, false, false, false, false, false, false, false, false, false] (by kernel_rfl) rfl rfl ⟨(blk_cell BK273.out 0).trans rfl, (blk_cell BK273.out 1).trans rfl, (blk_cell BK273.out 2).trans rfl, (blk_cell BK273.out 3).trans rfl, (blk_cell BK273.out 4).trans rfl, (blk_cell BK273.out 5).trans rfl, (blk_cell BK273.out 6).trans rfl, hx295_0⟩ (fun hHeld => ?_); refine with_tabW laws_FnPathDelays.tab32 laws_FnPathDelays.bits32 (fun HT_ HW_ => ?_)
                    generalize wr.drew = w58 at HO_11 HO_274001 HO_274002 BK273 HB hx295_0 hHeld ⊢
                    refine pS_ HT_.out (i := 0) (N := some 137) (v := ?_) (a' := ?_) rfl rfl (by kernel_rfl) (fun _ _ _ h => h) (Or.inl ⟨by rfl, ?_⟩) ?_ ?_; rotate_left; (· intro w'; go_simp; with_reducible rfl); rotate_left; (· simp only [Act.put, List.setIfInBounds_toArray, List.set_cons_zero, List.set_cons_succ, i64_w, i32_w]; rfl)
                    refine pS_ HT_.out (i := 1) (N := some 138) (v := ?_) (a' := ?_) rfl rfl (by kernel_rfl) (fun _ _ _ h => h) (Or.inl ⟨by rfl, ?_⟩) ?_ ?_; rotate_left; (· intro w'; go_simp; with_reducible rfl); rotate_left; (· simp only [Act.put, List.setIfInBounds_toArray, List.set_cons_zero, List.set_cons_succ, i64_w, i32_w]; rfl)
                    refine pS_ HT_.out (i := 2) (N := some 139) (v := ?_) (a' := ?_) rfl rfl (by kernel_rfl) (fun _ _ _ h => h) (Or.inl ⟨by rfl, ?_⟩) ?_ ?_; rotate_left; (· intro w'; go_simp; with_reducible rfl); rotate_left; (· simp only [Act.put, List.setIfInBounds_toArray, List.set_cons_zero, List.set_cons_succ, i64_w, i32_w]; rfl)
                    refine pS_ HT_.out (i := 4) (N := some 141) (v := ?_) (a' := ?_) rfl rfl (by kernel_rfl) (fun _ _ _ h => h) (Or.inl ⟨by rfl, ?_⟩) ?_ ?_; rotate_left; (· intro w'; go_simp; with_reducible rfl); rotate_left; (· simp only [Act.put, List.setIfInBounds_toArray, List.set_cons_zero, List.set_cons_succ, i64_w, i32_w]; rfl)
                    refine tS_ HT_.out HW_.out (i := 3) (N := some 140) (v := ?_) (a' := ?_) rfl rfl (by kernel_rfl) (fun _ _ _ h => h) (Or.inl ⟨by rfl, ?_⟩) hHeld ?_ ?_; rotate_left; (· rintro w' ⟨s0, s1, s2, s3, s4, s5, s6, s7⟩; go_simp; with_reducible rfl); rotate_left; (· simp only [Act.put, List.setIfInBounds_toArray, List.set_cons_zero, List.set_cons_succ, i64_w, i32_w]; rfl)
                    refine tS_ HT_.out HW_.out (i := 5) (N := some 142) (v := ?_) (a' := ?_) rfl rfl (by kernel_rfl) (fun _ _ _ h => h) (Or.inl ⟨by rfl, ?_⟩) hHeld ?_ ?_; rotate_left; (· rintro w' ⟨s0, s1, s2, s3, s4, s5, s6, s7⟩; go_simp; with_reducible rfl); rotate_left; (· simp only [Act.put, List.setIfInBounds_toArray, List.set_cons_zero, List.set_cons_succ, i64_w, i32_w]; rfl)
                    refine pS_ HT_.out (i := 6) (N := some 143) (v := ?_) (a' := ?_) rfl rfl (by kernel_rfl) (fun _ _ _ h => h) (Or.inl ⟨by rfl, ?_⟩) ?_ ?_; rotate_left; (· intro w'; go_simp; with_reducible rfl); rotate_left; (· simp only [Act.put, List.setIfInBounds_toArray, List.set_cons_zero, List.set_cons_succ, i64_w, i32_w]; rfl)
                    refine pS_ HT_.out (i := 7) (N := some 144) (v := ?_) (a' := ?_) rfl rfl (by kernel_rfl) (fun _ _ _ h => h) (Or.inl ⟨by rfl, ?_⟩) ?_ ?_; rotate_left; (· intro w'; go_simp; with_reducible rfl); rotate_left; (· simp only [Act.put, List.setIfInBounds_toArray, List.set_cons_zero, List.set_cons_succ, i64_w, i32_w]; rfl)
                    refine pS_ HT_.out (i := 8) (N := some 145) (v := undef) (a' := ?_) rfl rfl (by kernel_rfl) (fun _ _ _ h => h) (Or.inr ⟨by rfl, rfl⟩) ?_ ?_; rotate_left; (· simp only [Act.put, List.setIfInBounds_toArray, List.set_cons_zero, List.set_cons_succ, i64_w, i32_w]; rfl)
                    refine pS_ HT_.out (i := 9) (N := some 146) (v := undef) (a' := ?_) rfl rfl (by kernel_rfl) (fun _ _ _ h => h) (Or.inr ⟨by rfl, rfl⟩) ?_ ?_; rotate_left; (· simp only [Act.put, List.setIfInBounds_toArray, List.set_cons_zero, List.set_cons_succ, i64_w, i32_w]; rfl)
                    refine pS_ HT_.out (i := 10) (N := some 147) (v := undef) (a' := ?_) rfl rfl (by kernel_rfl) (fun _ _ _ h => h) (Or.inr ⟨by rfl, rfl⟩) ?_ ?_; rotate_left; (· simp only [Act.put, List.setIfInBounds_toArray, List.set_cons_zero, List.set_cons_succ, i64_w, i32_w]; rfl)
                    refine pS_ HT_.out (i := 11) (N := some 148) (v := undef) (a' := ?_) rfl rfl (by kernel_rfl) (fun _ _ _ h => h) (Or.inr ⟨by rfl, rfl⟩) ?_ ?_; rotate_left; (· simp only [Act.put, List.setIfInBounds_toArray, List.set_cons_zero, List.set_cons_succ, i64_w, i32_w]; rfl)
                    refine pS_ HT_.out (i := 12) (N := some 149) (v := undef) (a' := ?_) rfl rfl (by kernel_rfl) (fun _ _ _ h => h) (Or.inr ⟨by rfl, rfl⟩) ?_ ?_; rotate_left; (· simp only [Act.put, List.setIfInBounds_toArray, List.set_cons_zero, List.set_cons_succ, i64_w, i32_w]; rfl)
                    refine pS_ HT_.out (i := 13) (N := some 150) (v := undef) (a' := ?_) rfl rfl (by kernel_rfl) (fun _ _ _ h => h) (Or.inr ⟨by rfl, rfl⟩) ?_ ?_; rotate_left; (· simp only [Act.put, List.setIfInBounds_toArray, List.set_cons_zero, List.set_cons_succ, i64_w, i32_w]; rfl)
                    refine pS_ HT_.out (i := 14) (N := some 151) (v := undef) (a' := ?_) rfl rfl (by kernel_rfl) (fun _ _ _ h => h) (Or.inr ⟨by rfl, rfl⟩) ?_ ?_; rotate_left; (· simp only [Act.put, List.setIfInBounds_toArray, List.set_cons_zero, List.set_cons_succ, i64_w, i32_w]; rfl)
                    refine pS_ HT_.out (i := 15) (N := some 152) (v := undef) (a' := ?_) rfl rfl (by kernel_rfl) (fun _ _ _ h => h) (Or.inr ⟨by rfl, rfl⟩) ?_ ?_; rotate_left; (· simp only [Act.put, List.setIfInBounds_toArray, List.set_cons_zero, List.set_cons_succ, i64_w, i32_w]; rfl)
                    refine pS_ HT_.out (i := 16) (N := some 153) (v := undef) (a' := ?_) rfl rfl (by kernel_rfl) (fun _ _ _ h => h) (Or.inr ⟨by rfl, rfl⟩) ?_ ?_; rotate_left; (· simp only [Act.put, List.setIfInBounds_toArray, List.set_cons_zero, List.set_cons_succ, i64_w, i32_w]; rfl)
                    refine pS_ HT_.out (i := 17) (N := some 154) (v := undef) (a' := ?_) rfl rfl (by kernel_rfl) (fun _ _ _ h => h) (Or.inr ⟨by rfl, rfl⟩) ?_ ?_; rotate_left; (· simp only [Act.put, List.setIfInBounds_toArray, List.set_cons_zero, List.set_cons_succ, i64_w, i32_w]; rfl)
                    refine pS_ HT_.out (i := 18) (N := some 155) (v := undef) (a' := ?_) rfl rfl (by kernel_rfl) (fun _ _ _ h => h) (Or.inr ⟨by rfl, rfl⟩) ?_ ?_; rotate_left; (· simp only [Act.put, List.setIfInBounds_toArray, List.set_cons_zero, List.set_cons_succ, i64_w, i32_w]; rfl)
                    refine pS_ HT_.out (i := 19) (N := some 156) (v := ?_) (a' := ?_) rfl rfl (by kernel_rfl) (fun _ _ _ h => h) (Or.inl ⟨by rfl, ?_⟩) ?_ ?_; rotate_left; (· intro w'; go_simp; with_reducible rfl); rotate_left; (· simp only [Act.put, List.setIfInBounds_toArray, List.set_cons_zero, List.set_cons_succ, i64_w, i32_w]; rfl)
                    refine pS_ HT_.out (i := 20) (N := some 157) (v := ?_) (a' := ?_) rfl rfl (by kernel_rfl) (fun _ _ _ h => h) (Or.inl ⟨by rfl, ?_⟩) ?_ ?_; rotate_left; (· intro w'; go_simp; with_reducible rfl); rotate_left; (· simp only [Act.put, List.setIfInBounds_toArray, List.set_cons_zero, List.set_cons_succ, i64_w, i32_w]; rfl)
                    refine pS_ HT_.out (i := 21) (N := some 158) (v := undef) (a' := ?_) rfl rfl (by kernel_rfl) (fun _ _ _ h => h) (Or.inr ⟨by rfl, rfl⟩) ?_ ?_; rotate_left; (· simp only [Act.put, List.setIfInBounds_toArray, List.set_cons_zero, List.set_cons_succ, i64_w, i32_w]; rfl)
                    refine pS_ HT_.out (i := 22) (N := some 159) (v := undef) (a' := ?_) rfl rfl (by kernel_rfl) (fun _ _ _ h => h) (Or.inr ⟨by rfl, rfl⟩) ?_ ?_; rotate_left; (· simp only [Act.put, List.setIfInBounds_toArray, List.set_cons_zero, List.set_cons_succ, i64_w, i32_w]; rfl)
                    refine pS_ HT_.out (i := 23) (N := some 160) (v := undef) (a' := ?_) rfl rfl (by kernel_rfl) (fun _ _ _ h => h) (Or.inr ⟨by rfl, rfl⟩) ?_ ?_; rotate_left; (· simp only [Act.put, List.setIfInBounds_toArray, List.set_cons_zero, List.set_cons_succ, i64_w, i32_w]; rfl)
                    refine pS_ HT_.out (i := 24) (N := some 161) (v := undef) (a' := ?_) rfl rfl (by kernel_rfl) (fun _ _ _ h => h) (Or.inr ⟨by rfl, rfl⟩) ?_ ?_; rotate_left; (· simp only [Act.put, List.setIfInBounds_toArray, List.set_cons_zero, List.set_cons_succ, i64_w, i32_w]; rfl)
                    refine pS_ HT_.out (i := 25) (N := some 162) (v := undef) (a' := ?_) rfl rfl (by kernel_rfl) (fun _ _ _ h => h) (Or.inr ⟨by rfl, rfl⟩) ?_ ?_; rotate_left; (· simp only [Act.put, List.setIfInBounds_toArray, List.set_cons_zero, List.set_cons_succ, i64_w, i32_w]; rfl)
                    refine pS_ HT_.out (i := 26) (N := some 163) (v := undef) (a' := ?_) rfl rfl (by kernel_rfl) (fun _ _ _ h => h) (Or.inr ⟨by rfl, rfl⟩) ?_ ?_; rotate_left; (· simp only [Act.put, List.setIfInBounds_toArray, List.set_cons_zero, List.set_cons_succ, i64_w, i32_w]; rfl)
                    refine pS_ HT_.out (i := 27) (N := some 164) (v := undef) (a' := ?_) rfl rfl (by kernel_rfl) (fun _ _ _ h => h) (Or.inr ⟨by rfl, rfl⟩) ?_ ?_; rotate_left; (· simp only [Act.put, List.setIfInBounds_toArray, List.set_cons_zero, List.set_cons_succ, i64_w, i32_w]; rfl)
                    refine pS_ HT_.out (i := 28) (N := some 165) (v := undef) (a' := ?_) rfl rfl (by kernel_rfl) (fun _ _ _ h => h) (Or.inr ⟨by rfl, rfl⟩) ?_ ?_; rotate_left; (· simp only [Act.put, List.setIfInBounds_toArray, List.set_cons_zero, List.set_cons_succ, i64_w, i32_w]; rfl)
                    refine pS_ HT_.out (i := 29) (N := some 166) (v := undef) (a' := ?_) rfl rfl (by kernel_rfl) (fun _ _ _ h => h) (Or.inr ⟨by rfl, rfl⟩) ?_ ?_; rotate_left; (· simp only [Act.put, List.setIfInBounds_toArray, List.set_cons_zero, List.set_cons_succ, i64_w, i32_w]; rfl)
                    refine pS_ HT_.out (i := 30) (N := some 167) (v := undef) (a' := ?_) rfl rfl (by kernel_rfl) (fun _ _ _ h => h) (Or.inr ⟨by rfl, rfl⟩) ?_ ?_; rotate_left; (· simp only [Act.put, List.setIfInBounds_toArray, List.set_cons_zero, List.set_cons_succ, i64_w, i32_w]; rfl)
                    refine pS_ HT_.out (i := 31) (N := some 168) (v := undef) (a' := ?_) rfl rfl (by kernel_rfl) (fun _ _ _ h => h) (Or.inr ⟨by rfl, rfl⟩) ?_ ?_; rotate_left; (· simp only [Act.put, List.setIfInBounds_toArray, List.set_cons_zero, List.set_cons_succ, i64_w, i32_w]; rfl)
                    refine pS_ HT_.out (i := 32) (N := some 169) (v := undef) (a' := ?_) rfl rfl (by kernel_rfl) (fun _ _ _ h => h) (Or.inr ⟨by rfl, rfl⟩) ?_ ?_; rotate_left; (· simp only [Act.put, List.setIfInBounds_toArray, List.set_cons_zero, List.set_cons_succ, i64_w, i32_w]; rfl)
                    refine pS_ HT_.out (i := 33) (N := some 170) (v := undef) (a' := ?_) rfl rfl (by kernel_rfl) (fun _ _ _ h => h) (Or.inr ⟨by rfl, rfl⟩) ?_ ?_; rotate_left; (· simp only [Act.put, List.setIfInBounds_toArray, List.set_cons_zero, List.set_cons_succ, i64_w, i32_w]; rfl)
                    refine pS_ HT_.out (i := 34) (N := some 171) (v := undef) (a' := ?_) rfl rfl (by kernel_rfl) (fun _ _ _ h => h) (Or.inr ⟨by rfl, rfl⟩) ?_ ?_; rotate_left; (· simp only [Act.put, List.setIfInBounds_toArray, List.set_cons_zero, List.set_cons_succ, i64_w, i32_w]; rfl)
                    refine pS_ HT_.out (i := 35) (N := some 172) (v := undef) (a' := ?_) rfl rfl (by kernel_rfl) (fun _ _ _ h => h) (Or.inr ⟨by rfl, rfl⟩) ?_ ?_; rotate_left; (· simp only [Act.put, List.setIfInBounds_toArray, List.set_cons_zero, List.set_cons_succ, i64_w, i32_w]; rfl)
                    refine pS_ HT_.out (i := 36) (N := some 173) (v := undef) (a' := ?_) rfl rfl (by kernel_rfl) (fun _ _ _ h => h) (Or.inr ⟨by rfl, rfl⟩) ?_ ?_; rotate_left; (· simp only [Act.put, List.setIfInBounds_toArray, List.set_cons_zero, List.set_cons_succ, i64_w, i32_w]; rfl)
                    refine pS_ HT_.out (i := 37) (N := some 174) (v := undef) (a' := ?_) rfl rfl (by kernel_rfl) (fun _ _ _ h => h) (Or.inr ⟨by rfl, rfl⟩) ?_ ?_; rotate_left; (· simp only [Act.put, List.setIfInBounds_toArray, List.set_cons_zero, List.set_cons_succ, i64_w, i32_w]; rfl)
                    refine pS_ HT_.out (i := 38) (N := some 175) (v := undef) (a' := ?_) rfl rfl (by kernel_rfl) (fun _ _ _ h => h) (Or.inr ⟨by rfl, rfl⟩) ?_ ?_; rotate_left; (· simp only [Act.put, List.setIfInBounds_toArray, List.set_cons_zero, List.set_cons_succ, i64_w, i32_w]; rfl)
                    refine pS_ HT_.out (i := 39) (N := some 176) (v := undef) (a' := ?_) rfl rfl (by kernel_rfl) (fun _ _ _ h => h) (Or.inr ⟨by rfl, rfl⟩) ?_ ?_; rotate_left; (· simp only [Act.put, List.setIfInBounds_toArray, List.set_cons_zero, List.set_cons_succ, i64_w, i32_w]; rfl)
                    refine pS_ HT_.out (i := 40) (N := some 177) (v := ?_) (a' := ?_) rfl rfl (by kernel_rfl) (fun _ _ _ h => h) (Or.inl ⟨by rfl, ?_⟩) ?_ ?_; rotate_left; (· intro w'; go_simp; with_reducible rfl); rotate_left; (· simp only [Act.put, List.setIfInBounds_toArray, List.set_cons_zero, List.set_cons_succ, i64_w, i32_w]; rfl)
                    refine done_ (done_of HT_.out (by kernel_rfl)) ?_
                    try go_wp2
                    go_ret
                    exact ⟨by first | rfl | (simp [errW_none, errW_some] <;> rfl) | (simp [*, errW_none, errW_some] <;> rfl), by repeat (first | (with_reducible first | exact HB.out | apply below_alloc | apply pw_below_drewN | apply below_drew1 | refine below_set ?_ GE273.out) | exact HB.out)⟩
                   ·rw [if_neg c56] at H
                    have c56b0 : decide ((rd t279 x22_4) < t262) = false := decide_eq_false c56
                    clear c56
                    by_cases c59 : (rd t279 x22_4) ≥ (wrap64 (t262 + (t263.length : Int)))
                    ·rw [if_pos c59] at H
                     have c59b0 : decide ((wrap64 (t262 + (t263.length : Int))) ≤ (rd t279 x22_4)) = true := decide_eq_true c59
                     clear c59
                     obtain rfl := Option.some.inj H
                     obtain ⟨Ao60, co60, eo60⟩ := Kd.R_slice HO_11.out
                     subst eo60
                     try go_wp2
                     have n0_ := Aside0.mk (Kd.R_drew HO_11.out)
                     have n1_ := Aside0.mk (Kd.S_drew HO_274001.out)
                     have n2_ := Aside0.mk (Kd.R_drew HO_274002.out)
                     have n3_ := Aside0.mk (blk_drew BK273.out)
                     have n4_ := Aside0.mk (below_drew1 HB.out)
                     clear HO_11
                     clear HO_274001
                     clear HO_274002
                     clear BK273
                     clear HB
                     have HO_11 := n0_
                     have HO_274001 := n1_
                     have HO_274002 := n2_
                     have BK273 := n3_
                     have HB := n4_
                     clear n0_ n1_ n2_ n3_ n4_
                     have p295 : 0 ≤ (x22_4 : Int) := of_decide_eq_true (by with_reducible assumption)
                     have q295 : x22_4 < (t279.length : Int) := of_decide_eq_true (by with_reducible assumption)
                     obtain ⟨ad295, e295, hx295_0⟩ := Kd.at_int (Kd.R_reads' HO_11.out).2.2 x22_4 p295 q295
                     cases e295
                     replace p295 := eq_true p295
                     replace q295 := eq_true q295
                     have p296 : 0 ≤ (x22_4 : Int) := of_decide_eq_true (by with_reducible assumption)
                     have q296 : x22_4 < (t279.length : Int) := of_decide_eq_true (by with_reducible assumption)
                     obtain ⟨ad296, e296, hx296_0⟩ := Kd.at_int (Kd.R_reads' HO_11.out).2.2 x22_4 p296 q296
                     obtain rfl : ad295 = ad296 := (by injection e296)
                     replace p296 := eq_true p296
                     replace q296 := eq_true q296
                     refine start_ (n := 41) (S := fun w' => w'.cell? ⟨gb273, 0, none⟩ = some (.int .i64 t262) ∧ w'.cell? ⟨gb273, 1, none⟩ = some (.slice Ao14 t263.length co14) ∧ w'.cell? ⟨gb273, 2, none⟩ = some (.slice (some ad284) t266.length co15) ∧ w'.cell? ⟨gb273, 3, none⟩ = some (.int .i64 t269) ∧ w'.cell? ⟨gb273, 4, none⟩ = some (.int .i64 t270) ∧ w'.cell? ⟨gb273, 5, none⟩ = some (.int .i64 t271) ∧ w'.cell? ⟨gb273, 6, none⟩ = some (.int .i64 t272) ∧ w'.cell? (ad295.add (x22_4).toNat) = some (.int .i64 (rd t279 x22_4)) ∧ w'.cell? (ad295.add (x22_4).toNat) = some (.int .i64 (rd t279 x22_4))) (ds := []) #[false, false, false, false, false, false, false, false, false, false, false, false, false, false, false, false, false, false, false, false, false, false, false, false, false, false, false, false, false, false, false, false, false, false, false, false, false, false, false, false, false] (by kernel_rfl) rfl rfl ⟨(blk_cell BK273.out 0).trans rfl, (blk_cell BK273.out 1).trans rfl, (blk_cell BK273.out 2).trans rfl, (blk_cell BK273.out 3).trans rfl, (blk_cell BK273.out 4).trans rfl, (blk_cell BK273.out 5).trans rfl, (blk_cell BK273.out 6).trans rfl, hx295_0, hx296_0⟩ (fun hHeld => ?_); refine with_tabW laws_FnPathDelays.tab32 laws_FnPathDelays.bits32 (fun HT_ HW_ => ?_)
                     generalize wr.drew = w61 at HO_11 HO_274001 HO_274002 BK273 HB hx295_0 hx296_0 hHeld ⊢
                     refine pS_ HT_.out (i := 0) (N := some 137) (v := ?_) (a' := ?_) rfl rfl (by kernel_rfl) (fun _ _ _ h => h) (Or.inl ⟨by rfl, ?_⟩) ?_ ?_; rotate_left; (· intro w'; go_simp; with_reducible rfl); rotate_left; (· simp only [Act.put, List.setIfInBounds_toArray, List.set_cons_zero, List.set_cons_succ, i64_w, i32_w]; rfl)
                     refine pS_ HT_.out (i := 1) (N := some 138) (v := ?_) (a' := ?_) rfl rfl (by kernel_rfl) (fun _ _ _ h => h) (Or.inl ⟨by rfl, ?_⟩) ?_ ?_; rotate_left; (· intro w'; go_simp; with_reducible rfl); rotate_left; (· simp only [Act.put, List.setIfInBounds_toArray, List.set_cons_zero, List.set_cons_succ, i64_w, i32_w]; rfl)
                     refine pS_ HT_.out (i := 2) (N := some 139) (v := ?_) (a' := ?_) rfl rfl (by kernel_rfl) (fun _ _ _ h => h) (Or.inl ⟨by rfl, ?_⟩) ?_ ?_; rotate_left; (· intro w'; go_simp; with_reducible rfl); rotate_left; (· simp only [Act.put, List.setIfInBounds_toArray, List.set_cons_zero, List.set_cons_succ, i64_w, i32_w]; rfl)
                     refine pS_ HT_.out (i := 4) (N := some 141) (v := ?_) (a' := ?_) rfl rfl (by kernel_rfl) (fun _ _ _ h => h) (Or.inl ⟨by rfl, ?_⟩) ?_ ?_; rotate_left; (· intro w'; go_simp; with_reducible rfl); rotate_left; (· simp only [Act.put, List.setIfInBounds_toArray, List.set_cons_zero, List.set_cons_succ, i64_w, i32_w]; rfl)
                     refine tS_ HT_.out HW_.out (i := 3) (N := some 140) (v := ?_) (a' := ?_) rfl rfl (by kernel_rfl) (fun _ _ _ h => h) (Or.inl ⟨by rfl, ?_⟩) hHeld ?_ ?_; rotate_left; (· rintro w' ⟨s0, s1, s2, s3, s4, s5, s6, s7, s8⟩; go_simp; with_reducible rfl); rotate_left; (· simp only [Act.put, List.setIfInBounds_toArray, List.set_cons_zero, List.set_cons_succ, i64_w, i32_w]; rfl)
                     refine tS_ HT_.out HW_.out (i := 5) (N := some 142) (v := ?_) (a' := ?_) rfl rfl (by kernel_rfl) (fun _ _ _ h => h) (Or.inl ⟨by rfl, ?_⟩) hHeld ?_ ?_; rotate_left; (· rintro w' ⟨s0, s1, s2, s3, s4, s5, s6, s7, s8⟩; go_simp; with_reducible rfl); rotate_left; (· simp only [Act.put, List.setIfInBounds_toArray, List.set_cons_zero, List.set_cons_succ, i64_w, i32_w]; rfl)
                     refine pS_ HT_.out (i := 6) (N := some 143) (v := ?_) (a' := ?_) rfl rfl (by kernel_rfl) (fun _ _ _ h => h) (Or.inl ⟨by rfl, ?_⟩) ?_ ?_; rotate_left; (· intro w'; go_simp; with_reducible rfl); rotate_left; (· simp only [Act.put, List.setIfInBounds_toArray, List.set_cons_zero, List.set_cons_succ, i64_w, i32_w]; rfl)
                     refine pS_ HT_.out (i := 7) (N := some 144) (v := ?_) (a' := ?_) rfl rfl (by kernel_rfl) (fun _ _ _ h => h) (Or.inl ⟨by rfl, ?_⟩) ?_ ?_; rotate_left; (· intro w'; go_simp; with_reducible rfl); rotate_left; (· simp only [Act.put, List.setIfInBounds_toArray, List.set_cons_zero, List.set_cons_succ, i64_w, i32_w]; rfl)
                     refine pS_ HT_.out (i := 8) (N := some 145) (v := ?_) (a' := ?_) rfl rfl (by kernel_rfl) (fun _ _ _ h => h) (Or.inl ⟨by rfl, ?_⟩) ?_ ?_; rotate_left; (· intro w'; go_simp; with_reducible rfl); rotate_left; (· simp only [Act.put, List.setIfInBounds_toArray, List.set_cons_zero, List.set_cons_succ, i64_w, i32_w]; rfl)
                     refine pS_ HT_.out (i := 9) (N := some 146) (v := ?_) (a' := ?_) rfl rfl (by kernel_rfl) (fun _ _ _ h => h) (Or.inl ⟨by rfl, ?_⟩) ?_ ?_; rotate_left; (· intro w'; go_simp; with_reducible rfl); rotate_left; (· simp only [Act.put, List.setIfInBounds_toArray, List.set_cons_zero, List.set_cons_succ, i64_w, i32_w]; rfl)
                     refine pS_ HT_.out (i := 10) (N := some 147) (v := ?_) (a' := ?_) rfl rfl (by kernel_rfl) (fun _ _ _ h => h) (Or.inl ⟨by rfl, ?_⟩) ?_ ?_; rotate_left; (· intro w'; go_simp; with_reducible rfl); rotate_left; (· simp only [Act.put, List.setIfInBounds_toArray, List.set_cons_zero, List.set_cons_succ, i64_w, i32_w]; rfl)
                     refine pS_ HT_.out (i := 12) (N := some 149) (v := ?_) (a' := ?_) rfl rfl (by kernel_rfl) (fun _ _ _ h => h) (Or.inl ⟨by rfl, ?_⟩) ?_ ?_; rotate_left; (· intro w'; go_simp; with_reducible rfl); rotate_left; (· simp only [Act.put, List.setIfInBounds_toArray, List.set_cons_zero, List.set_cons_succ, i64_w, i32_w]; rfl)
                     refine pS_ HT_.out (i := 14) (N := some 151) (v := ?_) (a' := ?_) rfl rfl (by kernel_rfl) (fun _ _ _ h => h) (Or.inl ⟨by rfl, ?_⟩) ?_ ?_; rotate_left; (· intro w'; go_simp; with_reducible rfl); rotate_left; (· simp only [Act.put, List.setIfInBounds_toArray, List.set_cons_zero, List.set_cons_succ, i64_w, i32_w]; rfl)
                     refine tS_ HT_.out HW_.out (i := 11) (N := some 148) (v := ?_) (a' := ?_) rfl rfl (by kernel_rfl) (fun _ _ _ h => h) (Or.inl ⟨by rfl, ?_⟩) hHeld ?_ ?_; rotate_left; (· rintro w' ⟨s0, s1, s2, s3, s4, s5, s6, s7, s8⟩; go_simp; with_reducible rfl); rotate_left; (· simp only [Act.put, List.setIfInBounds_toArray, List.set_cons_zero, List.set_cons_succ, i64_w, i32_w]; rfl)
                     refine tS_ HT_.out HW_.out (i := 13) (N := some 150) (v := ?_) (a' := ?_) rfl rfl (by kernel_rfl) (fun _ _ _ h => h) (Or.inl ⟨by rfl, ?_⟩) hHeld ?_ ?_; rotate_left; (· rintro w' ⟨s0, s1, s2, s3, s4, s5, s6, s7, s8⟩; go_simp; with_reducible rfl); rotate_left; (· simp only [Act.put, List.setIfInBounds_toArray, List.set_cons_zero, List.set_cons_succ, i64_w, i32_w]; rfl)
                     refine tS_ HT_.out HW_.out (i := 15) (N := some 152) (v := ?_) (a' := ?_) rfl rfl (by kernel_rfl) (fun _ _ _ h => h) (Or.inl ⟨by rfl, ?_⟩) hHeld ?_ ?_; rotate_left; (· rintro w' ⟨s0, s1, s2, s3, s4, s5, s6, s7, s8⟩; go_simp; with_reducible rfl); rotate_left; (· simp only [Act.put, List.setIfInBounds_toArray, List.set_cons_zero, List.set_cons_succ, i64_w, i32_w]; rfl)
                     refine pS_ HT_.out (i := 16) (N := some 153) (v := ?_) (a' := ?_) rfl rfl (by kernel_rfl) (fun _ _ _ h => h) (Or.inl ⟨by rfl, ?_⟩) ?_ ?_; rotate_left; (· intro w'; go_simp; with_reducible rfl); rotate_left; (· simp only [Act.put, List.setIfInBounds_toArray, List.set_cons_zero, List.set_cons_succ, i64_w, i32_w]; rfl)
                     refine pS_ HT_.out (i := 17) (N := some 154) (v := ?_) (a' := ?_) rfl rfl (by kernel_rfl) (fun _ _ _ h => h) (Or.inl ⟨by rfl, ?_⟩) ?_ ?_; rotate_left; (· intro w'; go_simp; with_reducible rfl); rotate_left; (· simp only [Act.put, List.setIfInBounds_toArray, List.set_cons_zero, List.set_cons_succ, i64_w, i32_w]; rfl)
                     refine pS_ HT_.out (i := 18) (N := some 155) (v := ?_) (a' := ?_) rfl rfl (by kernel_rfl) (fun _ _ _ h => h) (Or.inl ⟨by rfl, ?_⟩) ?_ ?_; rotate_left; (· intro w'; go_simp; with_reducible rfl); rotate_left; (· simp only [Act.put, List.setIfInBounds_toArray, List.set_cons_zero, List.set_cons_succ, i64_w, i32_w]; rfl)
                     refine pS_ HT_.out (i := 19) (N := some 156) (v := ?_) (a' := ?_) rfl rfl (by kernel_rfl) (fun _ _ _ h => h) (Or.inl ⟨by rfl, ?_⟩) ?_ ?_; rotate_left; (· intro w'; go_simp; with_reducible rfl); rotate_left; (· simp only [Act.put, List.setIfInBounds_toArray, List.set_cons_zero, List.set_cons_succ, i64_w, i32_w]; rfl)
                     refine pS_ HT_.out (i := 20) (N := some 157) (v := ?_) (a' := ?_) rfl rfl (by kernel_rfl) (fun _ _ _ h => h) (Or.inl ⟨by rfl, ?_⟩) ?_ ?_; rotate_left; (· intro w'; go_simp; with_reducible rfl); rotate_left; (· simp only [Act.put, List.setIfInBounds_toArray, List.set_cons_zero, List.set_cons_succ, i64_w, i32_w]; rfl)
                     refine pS_ HT_.out (i := 21) (N := some 158) (v := undef) (a' := ?_) rfl rfl (by kernel_rfl) (fun _ _ _ h => h) (Or.inr ⟨by rfl, rfl⟩) ?_ ?_; rotate_left; (· simp only [Act.put, List.setIfInBounds_toArray, List.set_cons_zero, List.set_cons_succ, i64_w, i32_w]; rfl)
                     refine pS_ HT_.out (i := 22) (N := some 159) (v := undef) (a' := ?_) rfl rfl (by kernel_rfl) (fun _ _ _ h => h) (Or.inr ⟨by rfl, rfl⟩) ?_ ?_; rotate_left; (· simp only [Act.put, List.setIfInBounds_toArray, List.set_cons_zero, List.set_cons_succ, i64_w, i32_w]; rfl)
                     refine pS_ HT_.out (i := 23) (N := some 160) (v := undef) (a' := ?_) rfl rfl (by kernel_rfl) (fun _ _ _ h => h) (Or.inr ⟨by rfl, rfl⟩) ?_ ?_; rotate_left; (· simp only [Act.put, List.setIfInBounds_toArray, List.set_cons_zero, List.set_cons_succ, i64_w, i32_w]; rfl)
                     refine pS_ HT_.out (i := 24) (N := some 161) (v := undef) (a' := ?_) rfl rfl (by kernel_rfl) (fun _ _ _ h => h) (Or.inr ⟨by rfl, rfl⟩) ?_ ?_; rotate_left; (· simp only [Act.put, List.setIfInBounds_toArray, List.set_cons_zero, List.set_cons_succ, i64_w, i32_w]; rfl)
                     refine pS_ HT_.out (i := 25) (N := some 162) (v := undef) (a' := ?_) rfl rfl (by kernel_rfl) (fun _ _ _ h => h) (Or.inr ⟨by rfl, rfl⟩) ?_ ?_; rotate_left; (· simp only [Act.put, List.setIfInBounds_toArray, List.set_cons_zero, List.set_cons_succ, i64_w, i32_w]; rfl)
                     refine pS_ HT_.out (i := 26) (N := some 163) (v := undef) (a' := ?_) rfl rfl (by kernel_rfl) (fun _ _ _ h => h) (Or.inr ⟨by rfl, rfl⟩) ?_ ?_; rotate_left; (· simp only [Act.put, List.setIfInBounds_toArray, List.set_cons_zero, List.set_cons_succ, i64_w, i32_w]; rfl)
                     refine pS_ HT_.out (i := 27) (N := some 164) (v := undef) (a' := ?_) rfl rfl (by kernel_rfl) (fun _ _ _ h => h) (Or.inr ⟨by rfl, rfl⟩) ?_ ?_; rotate_left; (· simp only [Act.put, List.setIfInBounds_toArray, List.set_cons_zero, List.set_cons_succ, i64_w, i32_w]; rfl)
                     refine pS_ HT_.out (i := 28) (N := some 165) (v := undef) (a' := ?_) rfl rfl (by kernel_rfl) (fun _ _ _ h => h) (Or.inr ⟨by rfl, rfl⟩) ?_ ?_; rotate_left; (· simp only [Act.put, List.setIfInBounds_toArray, List.set_cons_zero, List.set_cons_succ, i64_w, i32_w]; rfl)
                     refine pS_ HT_.out (i := 29) (N := some 166) (v := undef) (a' := ?_) rfl rfl (by kernel_rfl) (fun _ _ _ h => h) (Or.inr ⟨by rfl, rfl⟩) ?_ ?_; rotate_left; (· simp only [Act.put, List.setIfInBounds_toArray, List.set_cons_zero, List.set_cons_succ, i64_w, i32_w]; rfl)
                     refine pS_ HT_.out (i := 30) (N := some 167) (v := undef) (a' := ?_) rfl rfl (by kernel_rfl) (fun _ _ _ h => h) (Or.inr ⟨by rfl, rfl⟩) ?_ ?_; rotate_left; (· simp only [Act.put, List.setIfInBounds_toArray, List.set_cons_zero, List.set_cons_succ, i64_w, i32_w]; rfl)
                     refine pS_ HT_.out (i := 31) (N := some 168) (v := undef) (a' := ?_) rfl rfl (by kernel_rfl) (fun _ _ _ h => h) (Or.inr ⟨by rfl, rfl⟩) ?_ ?_; rotate_left; (· simp only [Act.put, List.setIfInBounds_toArray, List.set_cons_zero, List.set_cons_succ, i64_w, i32_w]; rfl)
                     refine pS_ HT_.out (i := 32) (N := some 169) (v := undef) (a' := ?_) rfl rfl (by kernel_rfl) (fun _ _ _ h => h) (Or.inr ⟨by rfl, rfl⟩) ?_ ?_; rotate_left; (· simp only [Act.put, List.setIfInBounds_toArray, List.set_cons_zero, List.set_cons_succ, i64_w, i32_w]; rfl)
                     refine pS_ HT_.out (i := 33) (N := some 170) (v := undef) (a' := ?_) rfl rfl (by kernel_rfl) (fun _ _ _ h => h) (Or.inr ⟨by rfl, rfl⟩) ?_ ?_; rotate_left; (· simp only [Act.put, List.setIfInBounds_toArray, List.set_cons_zero, List.set_cons_succ, i64_w, i32_w]; rfl)
                     refine pS_ HT_.out (i := 34) (N := some 171) (v := undef) (a' := ?_) rfl rfl (by kernel_rfl) (fun _ _ _ h => h) (Or.inr ⟨by rfl, rfl⟩) ?_ ?_; rotate_left; (· simp only [Act.put, List.setIfInBounds_toArray, List.set_cons_zero, List.set_cons_succ, i64_w, i32_w]; rfl)
                     refine pS_ HT_.out (i := 35) (N := some 172) (v := undef) (a' := ?_) rfl rfl (by kernel_rfl) (fun _ _ _ h => h) (Or.inr ⟨by rfl, rfl⟩) ?_ ?_; rotate_left; (· simp only [Act.put, List.setIfInBounds_toArray, List.set_cons_zero, List.set_cons_succ, i64_w, i32_w]; rfl)
                     refine pS_ HT_.out (i := 36) (N := some 173) (v := undef) (a' := ?_) rfl rfl (by kernel_rfl) (fun _ _ _ h => h) (Or.inr ⟨by rfl, rfl⟩) ?_ ?_; rotate_left; (· simp only [Act.put, List.setIfInBounds_toArray, List.set_cons_zero, List.set_cons_succ, i64_w, i32_w]; rfl)
                     refine pS_ HT_.out (i := 37) (N := some 174) (v := undef) (a' := ?_) rfl rfl (by kernel_rfl) (fun _ _ _ h => h) (Or.inr ⟨by rfl, rfl⟩) ?_ ?_; rotate_left; (· simp only [Act.put, List.setIfInBounds_toArray, List.set_cons_zero, List.set_cons_succ, i64_w, i32_w]; rfl)
                     refine pS_ HT_.out (i := 38) (N := some 175) (v := undef) (a' := ?_) rfl rfl (by kernel_rfl) (fun _ _ _ h => h) (Or.inr ⟨by rfl, rfl⟩) ?_ ?_; rotate_left; (· simp only [Act.put, List.setIfInBounds_toArray, List.set_cons_zero, List.set_cons_succ, i64_w, i32_w]; rfl)
                     refine pS_ HT_.out (i := 39) (N := some 176) (v := undef) (a' := ?_) rfl rfl (by kernel_rfl) (fun _ _ _ h => h) (Or.inr ⟨by rfl, rfl⟩) ?_ ?_; rotate_left; (· simp only [Act.put, List.setIfInBounds_toArray, List.set_cons_zero, List.set_cons_succ, i64_w, i32_w]; rfl)
                     refine pS_ HT_.out (i := 40) (N := some 177) (v := ?_) (a' := ?_) rfl rfl (by kernel_rfl) (fun _ _ _ h => h) (Or.inl ⟨by rfl, ?_⟩) ?_ ?_; rotate_left; (· intro w'; go_simp; with_reducible rfl); rotate_left; (· simp only [Act.put, List.setIfInBounds_toArray, List.set_cons_zero, List.set_cons_succ, i64_w, i32_w]; rfl)
                     refine done_ (done_of HT_.out (by kernel_rfl)) ?_
                     try go_wp2
                     go_ret
                     exact ⟨by first | rfl | (simp [errW_none, errW_some] <;> rfl) | (simp [*, errW_none, errW_some] <;> rfl), by repeat (first | (with_reducible first | exact HB.out | apply below_alloc | apply pw_below_drewN | apply below_drew1 | refine below_set ?_ GE273.out) | exact HB.out)⟩
                    ·rw [if_neg c59] at H
                     have c59b0 : decide ((wrap64 (t262 + (t263.length : Int))) ≤ (rd t279 x22_4)) = false := decide_eq_false c59
                     clear c59
                     obtain ⟨ji62, hji62⟩ : ∃ j_ : Int, (wrap64 ((rd t279 x22_4) - t262)) = j_ := ⟨_, rfl⟩
                     replace H : (if 0 ≤ (ji62) then (if (ji62) < (t263.length : Int) then (if 0 ≤ (wrap64 (x22_4 - 1)) then (if (wrap64 (x22_4 - 1)) < (t279.length : Int) then ((laws_r8Has.f k4 ((rd_T36 t263 (ji62)).f2) (rd t279 (wrap64 (x22_4 - 1)))).bind fun t300 => (if t300 = true then (laws_FnPathDelays.l1 k4 t274 t275 t276 t277 t279 (wrap64 (x21_4 + ((rd_T36 t263 (ji62)).f1))) (wrap64 (x22_4 + 1)) t262 t263 t266 t269 t270 t271 t272) else (some false))) else (none)) else (none)) else (none)) else (none)) = some r := by first | (rw [hji62] at H; exact H) | (simp only [hji62] at H ⊢; exact H)
                     have hji62w : (IntKind.i64.wrap ((rd t279 x22_4) - t262)) = ji62 := (i64_w _).trans hji62
                     by_cases c63 : 0 ≤ (ji62)
                     ·rw [if_pos c63] at H
                      have c63b0 : decide (0 ≤ (ji62)) = true := decide_eq_true c63
                      clear c63
                      by_cases c64 : (ji62) < (t263.length : Int)
                      ·rw [if_pos c64] at H
                       have c64b0 : decide ((ji62) < (t263.length : Int)) = true := decide_eq_true c64
                       clear c64
                       obtain ⟨ji65, hji65⟩ : ∃ j_ : Int, (wrap64 (x22_4 - 1)) = j_ := ⟨_, rfl⟩
                       replace H : (if 0 ≤ (ji65) then (if (ji65) < (t279.length : Int) then ((laws_r8Has.f k4 ((rd_T36 t263 (ji62)).f2) (rd t279 (ji65))).bind fun t300 => (if t300 = true then (laws_FnPathDelays.l1 k4 t274 t275 t276 t277 t279 (wrap64 (x21_4 + ((rd_T36 t263 (ji62)).f1))) (wrap64 (x22_4 + 1)) t262 t263 t266 t269 t270 t271 t272) else (some false))) else (none)) else (none)) = some r := by first | (rw [hji65] at H; exact H) | (simp only [hji65] at H ⊢; exact H)
                       have hji65w : (IntKind.i64.wrap (x22_4 - 1)) = ji65 := (i64_w _).trans hji65
                       by_cases c66 : 0 ≤ (ji65)
                       ·rw [if_pos c66] at H
                        have c66b0 : decide (0 ≤ (ji65)) = true := decide_eq_true c66
                        clear c66
                        by_cases c67 : (ji65) < (t279.length : Int)
                        ·rw [if_pos c67] at H
                         have c67b0 : decide ((ji65) < (t279.length : Int)) = true := decide_eq_true c67
                         clear c67
                         replace H := Option.bind_eq_some_iff.mp H
                         obtain ⟨t300, A680, H⟩ := H
                         replace H : (if t300 = true then (laws_FnPathDelays.l1 k4 t274 t275 t276 t277 t279 (wrap64 (x21_4 + ((rd_T36 t263 (ji62)).f1))) (wrap64 (x22_4 + 1)) t262 t263 t266 t269 t270 t271 t272) else (some false)) = some r := H
                         have A68 := Aside0.mk A680
                         clear A680
                         by_cases c69 : t300 = true
                         ·subst c69
                          have H1 : (laws_FnPathDelays.l1 k4 t274 t275 t276 t277 t279 (wrap64 (x21_4 + ((rd_T36 t263 (ji62)).f1))) (wrap64 (x22_4 + 1)) t262 t263 t266 t269 t270 t271 t272) = some r := by rw [if_pos rfl] at H; exact H
                          clear H
                          have H := H1
                          clear H1
                          have H' := Aside0.mk H
                          clear H
                          obtain ⟨Ao70, co70, eo70⟩ := Kd.R_slice HO_11.out
                          subst eo70
                          try go_wp2
                          have n0_ := Aside0.mk (Kd.R_drew HO_11.out)
                          have n1_ := Aside0.mk (Kd.S_drew HO_274001.out)
                          have n2_ := Aside0.mk (Kd.R_drew HO_274002.out)
                          have n3_ := Aside0.mk (blk_drew BK273.out)
                          have n4_ := Aside0.mk (below_drew1 HB.out)
                          clear HO_11
                          clear HO_274001
                          clear HO_274002
                          clear BK273
                          clear HB
                          have HO_11 := n0_
                          have HO_274001 := n1_
                          have HO_274002 := n2_
                          have BK273 := n3_
                          have HB := n4_
                          clear n0_ n1_ n2_ n3_ n4_
                          have p295 : 0 ≤ (x22_4 : Int) := of_decide_eq_true (by with_reducible assumption)
                          have q295 : x22_4 < (t279.length : Int) := of_decide_eq_true (by with_reducible assumption)
                          obtain ⟨ad295, e295, hx295_0⟩ := Kd.at_int (Kd.R_reads' HO_11.out).2.2 x22_4 p295 q295
                          cases e295
                          replace p295 := eq_true p295
                          replace q295 := eq_true q295
                          have p296 : 0 ≤ (x22_4 : Int) := of_decide_eq_true (by with_reducible assumption)
                          have q296 : x22_4 < (t279.length : Int) := of_decide_eq_true (by with_reducible assumption)
                          obtain ⟨ad296, e296, hx296_0⟩ := Kd.at_int (Kd.R_reads' HO_11.out).2.2 x22_4 p296 q296
                          obtain rfl : ad295 = ad296 := (by injection e296)
                          replace p296 := eq_true p296
                          replace q296 := eq_true q296
                          have p297 : 0 ≤ (x22_4 : Int) := of_decide_eq_true (by with_reducible assumption)
                          have q297 : x22_4 < (t279.length : Int) := of_decide_eq_true (by with_reducible assumption)
                          obtain ⟨ad297, e297, hx297_0⟩ := Kd.at_int (Kd.R_reads' HO_11.out).2.2 x22_4 p297 q297
                          obtain rfl : ad295 = ad297 := (by injection e297)
                          replace p297 := eq_true p297
                          replace q297 := eq_true q297
                          have p298 : 0 ≤ ((ji62) : Int) := of_decide_eq_true (by with_reducible assumption)
                          have q298 : (ji62) < (t263.length : Int) := of_decide_eq_true (by with_reducible assumption)
                          obtain ⟨ad298, A298_2, c298_2, e298, hx298_0, hx298_1, hx298_2, hl298_2, hi298_2⟩ := at_T36 (Kd.S_reads' HO_274001.out).2.2 (ji62) p298 q298
                          cases e298
                          obtain ⟨ce298, hce298, hMe298, hcc298⟩ := Kd.S_get HO_274001.out z36 (ji62) p298 (by first | exact q298 | exact of_decide_eq_true (by with_reducible assumption) | (have e_ := (Kd.S_reads' HO_274001.out).1; omega))
                          obtain ⟨ve298_2, rfl, ge298_2⟩ := k36_openM hMe298
                          have hv298_2 := hcc298 2 _ rfl
                          rw [add_field _ _ 2 (by omega)] at hv298_2
                          replace hv298_2 := Option.some.inj (hv298_2.symm.trans hx298_2)
                          rw [hv298_2] at ge298_2
                          have HL298_2 := Aside0.mk (show Kd.R (Kd.int .i64) 2 _ _ _ _ ((rd_T36 t263 (ji62)).f2) from ge298_2)
                          clear hv298_2 ge298_2
                          clear hcc298 hce298
                          have HR298_2 := Aside0.mk hi298_2
                          have HC298_2 := Aside0.mk hl298_2
                          clear hi298_2 hl298_2
                          replace p298 := eq_true p298
                          replace q298 := eq_true q298
                          have p299 : 0 ≤ ((ji65) : Int) := of_decide_eq_true (by with_reducible assumption)
                          have q299 : (ji65) < (t279.length : Int) := of_decide_eq_true (by with_reducible assumption)
                          obtain ⟨ad299, e299, hx299_0⟩ := Kd.at_int (Kd.R_reads' HO_11.out).2.2 (ji65) p299 q299
                          obtain rfl : ad295 = ad299 := (by injection e299)
                          replace p299 := eq_true p299
                          replace q299 := eq_true q299
                          refine start_ (n := 41) (S := fun w' => w'.cell? ⟨gb273, 0, none⟩ = some (.int .i64 t262) ∧ w'.cell? ⟨gb273, 1, none⟩ = some (.slice (some ad298) t263.length co14) ∧ w'.cell? ⟨gb273, 2, none⟩ = some (.slice (some ad284) t266.length co15) ∧ w'.cell? ⟨gb273, 3, none⟩ = some (.int .i64 t269) ∧ w'.cell? ⟨gb273, 4, none⟩ = some (.int .i64 t270) ∧ w'.cell? ⟨gb273, 5, none⟩ = some (.int .i64 t271) ∧ w'.cell? ⟨gb273, 6, none⟩ = some (.int .i64 t272) ∧ w'.cell? (ad295.add (x22_4).toNat) = some (.int .i64 (rd t279 x22_4)) ∧ w'.cell? (ad295.add (x22_4).toNat) = some (.int .i64 (rd t279 x22_4)) ∧ w'.cell? (ad295.add (x22_4).toNat) = some (.int .i64 (rd t279 x22_4)) ∧ w'.cell? (ad298.add (((ji62)).toNat * 3)) = some (.int .i64 ((rd_T36 t263 (ji62)).f0)) ∧ w'.cell? ⟨(ad298.add (((ji62)).toNat * 3)).block, (ad298.add (((ji62)).toNat * 3)).off + 1, none⟩ = some (.int .i64 ((rd_T36 t263 (ji62)).f1)) ∧ w'.cell? ⟨(ad298.add (((ji62)).toNat * 3)).block, (ad298.add (((ji62)).toNat * 3)).off + 2, none⟩ = some (.slice A298_2 ((rd_T36 t263 (ji62)).f2).length c298_2) ∧ w'.cell? (ad295.add ((ji65)).toNat) = some (.int .i64 (rd t279 (ji65)))) (ds := []) #[false, false, false, false, false, false, false, false, false, false, false, false, false, false, false, false, false, false, false, false, false, false, false, false, false, false, false, false, false, false, false, false, false, false, false, false, false, false, false, false, false] (by kernel_rfl) rfl rfl ⟨(blk_cell BK273.out 0).trans rfl, (blk_cell BK273.out 1).trans rfl, (blk_cell BK273.out 2).trans rfl, (blk_cell BK273.out 3).trans rfl, (blk_cell BK273.out 4).trans rfl, (blk_cell BK273.out 5).trans rfl, (blk_cell BK273.out 6).trans rfl, hx295_0, hx296_0, hx297_0, hx298_0, hx298_1, hx298_2, hx299_0⟩ (fun hHeld => ?_); refine with_tabW laws_FnPathDelays.tab32 laws_FnPathDelays.bits32 (fun HT_ HW_ => ?_)
                          generalize wr.drew = w71 at HO_11 HO_274001 HO_274002 BK273 HB HL298_2 HR298_2 hx295_0 hx296_0 hx297_0 hx298_0 hx298_1 hx298_2 hx299_0 hHeld ⊢
                          refine pS_ HT_.out (i := 0) (N := some 137) (v := ?_) (a' := ?_) rfl rfl (by kernel_rfl) (fun _ _ _ h => h) (Or.inl ⟨by rfl, ?_⟩) ?_ ?_; rotate_left; (· intro w'; go_simp; with_reducible rfl); rotate_left; (· simp only [Act.put, List.setIfInBounds_toArray, List.set_cons_zero, List.set_cons_succ, i64_w, i32_w]; rfl)
                          refine pS_ HT_.out (i := 1) (N := some 138) (v := ?_) (a' := ?_) rfl rfl (by kernel_rfl) (fun _ _ _ h => h) (Or.inl ⟨by rfl, ?_⟩) ?_ ?_; rotate_left; (· intro w'; go_simp; with_reducible rfl); rotate_left; (· simp only [Act.put, List.setIfInBounds_toArray, List.set_cons_zero, List.set_cons_succ, i64_w, i32_w]; rfl)
                          refine pS_ HT_.out (i := 2) (N := some 139) (v := ?_) (a' := ?_) rfl rfl (by kernel_rfl) (fun _ _ _ h => h) (Or.inl ⟨by rfl, ?_⟩) ?_ ?_; rotate_left; (· intro w'; go_simp; with_reducible rfl); rotate_left; (· simp only [Act.put, List.setIfInBounds_toArray, List.set_cons_zero, List.set_cons_succ, i64_w, i32_w]; rfl)
                          refine pS_ HT_.out (i := 4) (N := some 141) (v := ?_) (a' := ?_) rfl rfl (by kernel_rfl) (fun _ _ _ h => h) (Or.inl ⟨by rfl, ?_⟩) ?_ ?_; rotate_left; (· intro w'; go_simp; with_reducible rfl); rotate_left; (· simp only [Act.put, List.setIfInBounds_toArray, List.set_cons_zero, List.set_cons_succ, i64_w, i32_w]; rfl)
                          refine tS_ HT_.out HW_.out (i := 3) (N := some 140) (v := ?_) (a' := ?_) rfl rfl (by kernel_rfl) (fun _ _ _ h => h) (Or.inl ⟨by rfl, ?_⟩) hHeld ?_ ?_; rotate_left; (· rintro w' ⟨s0, s1, s2, s3, s4, s5, s6, s7, s8, s9, s10, s11, s12, s13⟩; go_simp; with_reducible rfl); rotate_left; (· simp only [Act.put, List.setIfInBounds_toArray, List.set_cons_zero, List.set_cons_succ, i64_w, i32_w]; rfl)
                          refine tS_ HT_.out HW_.out (i := 5) (N := some 142) (v := ?_) (a' := ?_) rfl rfl (by kernel_rfl) (fun _ _ _ h => h) (Or.inl ⟨by rfl, ?_⟩) hHeld ?_ ?_; rotate_left; (· rintro w' ⟨s0, s1, s2, s3, s4, s5, s6, s7, s8, s9, s10, s11, s12, s13⟩; go_simp; with_reducible rfl); rotate_left; (· simp only [Act.put, List.setIfInBounds_toArray, List.set_cons_zero, List.set_cons_succ, i64_w, i32_w]; rfl)
                          refine pS_ HT_.out (i := 6) (N := some 143) (v := ?_) (a' := ?_) rfl rfl (by kernel_rfl) (fun _ _ _ h => h) (Or.inl ⟨by rfl, ?_⟩) ?_ ?_; rotate_left; (· intro w'; go_simp; with_reducible rfl); rotate_left; (· simp only [Act.put, List.setIfInBounds_toArray, List.set_cons_zero, List.set_cons_succ, i64_w, i32_w]; rfl)
                          refine pS_ HT_.out (i := 7) (N := some 144) (v := ?_) (a' := ?_) rfl rfl (by kernel_rfl) (fun _ _ _ h => h) (Or.inl ⟨by rfl, ?_⟩) ?_ ?_; rotate_left; (· intro w'; go_simp; with_reducible rfl); rotate_left; (· simp only [Act.put, List.setIfInBounds_toArray, List.set_cons_zero, List.set_cons_succ, i64_w, i32_w]; rfl)
                          refine pS_ HT_.out (i := 8) (N := some 145) (v := ?_) (a' := ?_) rfl rfl (by kernel_rfl) (fun _ _ _ h => h) (Or.inl ⟨by rfl, ?_⟩) ?_ ?_; rotate_left; (· intro w'; go_simp; with_reducible rfl); rotate_left; (· simp only [Act.put, List.setIfInBounds_toArray, List.set_cons_zero, List.set_cons_succ, i64_w, i32_w]; rfl)
                          refine pS_ HT_.out (i := 9) (N := some 146) (v := ?_) (a' := ?_) rfl rfl (by kernel_rfl) (fun _ _ _ h => h) (Or.inl ⟨by rfl, ?_⟩) ?_ ?_; rotate_left; (· intro w'; go_simp; with_reducible rfl); rotate_left; (· simp only [Act.put, List.setIfInBounds_toArray, List.set_cons_zero, List.set_cons_succ, i64_w, i32_w]; rfl)
                          refine pS_ HT_.out (i := 10) (N := some 147) (v := ?_) (a' := ?_) rfl rfl (by kernel_rfl) (fun _ _ _ h => h) (Or.inl ⟨by rfl, ?_⟩) ?_ ?_; rotate_left; (· intro w'; go_simp; with_reducible rfl); rotate_left; (· simp only [Act.put, List.setIfInBounds_toArray, List.set_cons_zero, List.set_cons_succ, i64_w, i32_w]; rfl)
                          refine pS_ HT_.out (i := 12) (N := some 149) (v := ?_) (a' := ?_) rfl rfl (by kernel_rfl) (fun _ _ _ h => h) (Or.inl ⟨by rfl, ?_⟩) ?_ ?_; rotate_left; (· intro w'; go_simp; with_reducible rfl); rotate_left; (· simp only [Act.put, List.setIfInBounds_toArray, List.set_cons_zero, List.set_cons_succ, i64_w, i32_w]; rfl)
                          refine pS_ HT_.out (i := 14) (N := some 151) (v := ?_) (a' := ?_) rfl rfl (by kernel_rfl) (fun _ _ _ h => h) (Or.inl ⟨by rfl, ?_⟩) ?_ ?_; rotate_left; (· intro w'; go_simp; with_reducible rfl); rotate_left; (· simp only [Act.put, List.setIfInBounds_toArray, List.set_cons_zero, List.set_cons_succ, i64_w, i32_w]; rfl)
                          refine tS_ HT_.out HW_.out (i := 11) (N := some 148) (v := ?_) (a' := ?_) rfl rfl (by kernel_rfl) (fun _ _ _ h => h) (Or.inl ⟨by rfl, ?_⟩) hHeld ?_ ?_; rotate_left; (· rintro w' ⟨s0, s1, s2, s3, s4, s5, s6, s7, s8, s9, s10, s11, s12, s13⟩; go_simp; with_reducible rfl); rotate_left; (· simp only [Act.put, List.setIfInBounds_toArray, List.set_cons_zero, List.set_cons_succ, i64_w, i32_w]; rfl)
                          refine tS_ HT_.out HW_.out (i := 13) (N := some 150) (v := ?_) (a' := ?_) rfl rfl (by kernel_rfl) (fun _ _ _ h => h) (Or.inl ⟨by rfl, ?_⟩) hHeld ?_ ?_; rotate_left; (· rintro w' ⟨s0, s1, s2, s3, s4, s5, s6, s7, s8, s9, s10, s11, s12, s13⟩; go_simp; with_reducible rfl); rotate_left; (· simp only [Act.put, List.setIfInBounds_toArray, List.set_cons_zero, List.set_cons_succ, i64_w, i32_w]; rfl)
                          refine tS_ HT_.out HW_.out (i := 15) (N := some 152) (v := ?_) (a' := ?_) rfl rfl (by kernel_rfl) (fun _ _ _ h => h) (Or.inl ⟨by rfl, ?_⟩) hHeld ?_ ?_; rotate_left; (· rintro w' ⟨s0, s1, s2, s3, s4, s5, s6, s7, s8, s9, s10, s11, s12, s13⟩; go_simp; with_reducible rfl); rotate_left; (· simp only [Act.put, List.setIfInBounds_toArray, List.set_cons_zero, List.set_cons_succ, i64_w, i32_w]; rfl)
                          refine pS_ HT_.out (i := 16) (N := some 153) (v := ?_) (a' := ?_) rfl rfl (by kernel_rfl) (fun _ _ _ h => h) (Or.inl ⟨by rfl, ?_⟩) ?_ ?_; rotate_left; (· intro w'; go_simp; with_reducible rfl); rotate_left; (· simp only [Act.put, List.setIfInBounds_toArray, List.set_cons_zero, List.set_cons_succ, i64_w, i32_w]; rfl)
                          refine pS_ HT_.out (i := 17) (N := some 154) (v := ?_) (a' := ?_) rfl rfl (by kernel_rfl) (fun _ _ _ h => h) (Or.inl ⟨by rfl, ?_⟩) ?_ ?_; rotate_left; (· intro w'; go_simp; with_reducible rfl); rotate_left; (· simp only [Act.put, List.setIfInBounds_toArray, List.set_cons_zero, List.set_cons_succ, i64_w, i32_w]; rfl)
                          refine pS_ HT_.out (i := 18) (N := some 155) (v := ?_) (a' := ?_) rfl rfl (by kernel_rfl) (fun _ _ _ h => h) (Or.inl ⟨by rfl, ?_⟩) ?_ ?_; rotate_left; (· intro w'; go_simp; with_reducible rfl); rotate_left; (· simp only [Act.put, List.setIfInBounds_toArray, List.set_cons_zero, List.set_cons_succ, i64_w, i32_w]; rfl)
                          refine pS_ HT_.out (i := 19) (N := some 156) (v := ?_) (a' := ?_) rfl rfl (by kernel_rfl) (fun _ _ _ h => h) (Or.inl ⟨by rfl, ?_⟩) ?_ ?_; rotate_left; (· intro w'; go_simp; with_reducible rfl); rotate_left; (· simp only [Act.put, List.setIfInBounds_toArray, List.set_cons_zero, List.set_cons_succ, i64_w, i32_w]; rfl)
                          refine pS_ HT_.out (i := 20) (N := some 157) (v := ?_) (a' := ?_) rfl rfl (by kernel_rfl) (fun _ _ _ h => h) (Or.inl ⟨by rfl, ?_⟩) ?_ ?_; rotate_left; (· intro w'; go_simp; with_reducible rfl); rotate_left; (· simp only [Act.put, List.setIfInBounds_toArray, List.set_cons_zero, List.set_cons_succ, i64_w, i32_w]; rfl)
                          refine pS_ HT_.out (i := 21) (N := some 158) (v := ?_) (a' := ?_) rfl rfl (by kernel_rfl) (fun _ _ _ h => h) (Or.inl ⟨by rfl, ?_⟩) ?_ ?_; rotate_left; (· intro w'; go_simp; with_reducible rfl); rotate_left; (· simp only [Act.put, List.setIfInBounds_toArray, List.set_cons_zero, List.set_cons_succ, i64_w, i32_w]; rfl)
                          refine pS_ HT_.out (i := 23) (N := some 160) (v := ?_) (a' := ?_) rfl rfl (by kernel_rfl) (fun _ _ _ h => h) (Or.inl ⟨by rfl, ?_⟩) ?_ ?_; rotate_left; (· intro w'; go_simp; with_reducible rfl); rotate_left; (· simp only [Act.put, List.setIfInBounds_toArray, List.set_cons_zero, List.set_cons_succ, i64_w, i32_w]; rfl)
                          refine pS_ HT_.out (i := 24) (N := some 161) (v := ?_) (a' := ?_) rfl rfl (by kernel_rfl) (fun _ _ _ h => h) (Or.inl ⟨by rfl, ?_⟩) ?_ ?_; rotate_left; (· intro w'; go_simp; with_reducible rfl); rotate_left; (· simp only [Act.put, List.setIfInBounds_toArray, List.set_cons_zero, List.set_cons_succ, i64_w, i32_w]; rfl)
                          refine pS_ HT_.out (i := 25) (N := some 162) (v := ?_) (a' := ?_) rfl rfl (by kernel_rfl) (fun _ _ _ h => h) (Or.inl ⟨by rfl, ?_⟩) ?_ ?_; rotate_left; (· intro w'; go_simp; with_reducible rfl); rotate_left; (· simp only [Act.put, List.setIfInBounds_toArray, List.set_cons_zero, List.set_cons_succ, i64_w, i32_w]; rfl)
                          refine pS_ HT_.out (i := 27) (N := some 164) (v := ?_) (a' := ?_) rfl rfl (by kernel_rfl) (fun _ _ _ h => h) (Or.inl ⟨by rfl, ?_⟩) ?_ ?_; rotate_left; (· intro w'; go_simp; with_reducible rfl); rotate_left; (· simp only [Act.put, List.setIfInBounds_toArray, List.set_cons_zero, List.set_cons_succ, i64_w, i32_w]; rfl)
                          refine pS_ HT_.out (i := 33) (N := some 170) (v := ?_) (a' := ?_) rfl rfl (by kernel_rfl) (fun _ _ _ h => h) (Or.inl ⟨by rfl, ?_⟩) ?_ ?_; rotate_left; (· intro w'; go_simp; with_reducible rfl); rotate_left; (· simp only [Act.put, List.setIfInBounds_toArray, List.set_cons_zero, List.set_cons_succ, i64_w, i32_w]; rfl)
                          refine pS_ HT_.out (i := 34) (N := some 171) (v := ?_) (a' := ?_) rfl rfl (by kernel_rfl) (fun _ _ _ h => h) (Or.inl ⟨by rfl, ?_⟩) ?_ ?_; rotate_left; (· intro w'; go_simp; with_reducible rfl); rotate_left; (· simp only [Act.put, List.setIfInBounds_toArray, List.set_cons_zero, List.set_cons_succ, i64_w, i32_w]; rfl)
                          refine pS_ HT_.out (i := 35) (N := some 172) (v := ?_) (a' := ?_) rfl rfl (by kernel_rfl) (fun _ _ _ h => h) (Or.inl ⟨by rfl, ?_⟩) ?_ ?_; rotate_left; (· intro w'; go_simp; with_reducible rfl); rotate_left; (· simp only [Act.put, List.setIfInBounds_toArray, List.set_cons_zero, List.set_cons_succ, i64_w, i32_w]; rfl)
                          refine pS_ HT_.out (i := 36) (N := some 173) (v := ?_) (a' := ?_) rfl rfl (by kernel_rfl) (fun _ _ _ h => h) (Or.inl ⟨by rfl, ?_⟩) ?_ ?_; rotate_left; (· intro w'; go_simp; with_reducible rfl); rotate_left; (· simp only [Act.put, List.setIfInBounds_toArray, List.set_cons_zero, List.set_cons_succ, i64_w, i32_w]; rfl)
                          refine tS_ HT_.out HW_.out (i := 22) (N := some 159) (v := ?_) (a' := ?_) rfl rfl (by kernel_rfl) (fun _ _ _ h => h) (Or.inl ⟨by rfl, ?_⟩) hHeld ?_ ?_; rotate_left; (· rintro w' ⟨s0, s1, s2, s3, s4, s5, s6, s7, s8, s9, s10, s11, s12, s13⟩; go_simp; with_reducible rfl); rotate_left; (· simp only [Act.put, List.setIfInBounds_toArray, List.set_cons_zero, List.set_cons_succ, i64_w, i32_w]; rfl)
                          refine tS_ HT_.out HW_.out (i := 26) (N := some 163) (v := ?_) (a' := ?_) rfl rfl (by kernel_rfl) (fun _ _ _ h => h) (Or.inl ⟨by rfl, ?_⟩) hHeld ?_ ?_; rotate_left; (· rintro w' ⟨s0, s1, s2, s3, s4, s5, s6, s7, s8, s9, s10, s11, s12, s13⟩; go_simp; with_reducible rfl); rotate_left; (· simp only [Act.put, List.setIfInBounds_toArray, List.set_cons_zero, List.set_cons_succ, i64_w, i32_w]; rfl)
                          refine tS_ HT_.out HW_.out (i := 28) (N := some 165) (v := ?_) (a' := ?_) rfl rfl (by kernel_rfl) (fun _ _ _ h => h) (Or.inl ⟨by rfl, ?_⟩) hHeld ?_ ?_; rotate_left; (· rintro w' ⟨s0, s1, s2, s3, s4, s5, s6, s7, s8, s9, s10, s11, s12, s13⟩; go_simp; with_reducible rfl); rotate_left; (· simp only [Act.put, List.setIfInBounds_toArray, List.set_cons_zero, List.set_cons_succ, i64_w, i32_w]; rfl)
                          refine pS_ HT_.out (i := 29) (N := some 166) (v := ?_) (a' := ?_) rfl rfl (by kernel_rfl) (fun _ _ _ h => h) (Or.inl ⟨by rfl, ?_⟩) ?_ ?_; rotate_left; (· intro w'; go_simp; with_reducible rfl); rotate_left; (· simp only [Act.put, List.setIfInBounds_toArray, List.set_cons_zero, List.set_cons_succ, i64_w, i32_w]; rfl)
                          refine pS_ HT_.out (i := 30) (N := some 167) (v := ?_) (a' := ?_) rfl rfl (by kernel_rfl) (fun _ _ _ h => h) (Or.inl ⟨by rfl, ?_⟩) ?_ ?_; rotate_left; (· intro w'; go_simp; with_reducible rfl); rotate_left; (· simp only [Act.put, List.setIfInBounds_toArray, List.set_cons_zero, List.set_cons_succ, i64_w, i32_w]; rfl)
                          refine pS_ HT_.out (i := 31) (N := some 168) (v := ?_) (a' := ?_) rfl rfl (by kernel_rfl) (fun _ _ _ h => h) (Or.inl ⟨by rfl, ?_⟩) ?_ ?_; rotate_left; (· intro w'; go_simp; with_reducible rfl); rotate_left; (· simp only [Act.put, List.setIfInBounds_toArray, List.set_cons_zero, List.set_cons_succ, i64_w, i32_w]; rfl)
                          refine tS_ HT_.out HW_.out (i := 32) (N := some 169) (v := ?_) (a' := ?_) rfl rfl (by kernel_rfl) (fun _ _ _ h => h) (Or.inl ⟨by rfl, ?_⟩) hHeld ?_ ?_; rotate_left; (· rintro w' ⟨s0, s1, s2, s3, s4, s5, s6, s7, s8, s9, s10, s11, s12, s13⟩; go_simp; with_reducible rfl); rotate_left; (· simp only [Act.put, List.setIfInBounds_toArray, List.set_cons_zero, List.set_cons_succ, i64_w, i32_w]; rfl)
                          refine tS_ HT_.out HW_.out (i := 37) (N := some 174) (v := ?_) (a' := ?_) rfl rfl (by kernel_rfl) (fun _ _ _ h => h) (Or.inl ⟨by rfl, ?_⟩) hHeld ?_ ?_; rotate_left; (· rintro w' ⟨s0, s1, s2, s3, s4, s5, s6, s7, s8, s9, s10, s11, s12, s13⟩; go_simp; with_reducible rfl); rotate_left; (· simp only [Act.put, List.setIfInBounds_toArray, List.set_cons_zero, List.set_cons_succ, i64_w, i32_w]; rfl)
                          refine one_ (i := 38) (N := some 175) #[true, true, true, true, true, true, true, true, true, true, true, true, true, true, true, true, true, true, true, true, true, true, true, true, true, true, true, true, true, true, true, true, true, true, true, true, true, true, true, false, false] rfl rfl (one_of HT_.out (by kernel_rfl)) (by decide) (fun K hK => ?_)
                          refine goes_ Try.func11 (by kernel_rfl) rfl #[.slice A298_2 ((rd_T36 t263 (ji62)).f2).length c298_2, .int .i64 (rd t279 (ji65))] (by rfl) rfl rfl (by (try simp only [List.map_toArray, List.map_cons, List.map_nil]); first | done | (simp only [hji62, hji65]; rfl) | rfl | (simp only [List.length_drop, List.length_take]; rfl)) ?_
                          with_reducible refine (laws_r8Has.calls k4 _ _ ((rd_T36 t263 (ji62)).f2) (rd t279 (ji65)) true _ ?side1 ?side2 A68.out).mono ?_
                          (case side1 => repeat (first | exact (by repeat (first | (with_reducible exact HR298_2.out) | (with_reducible refine Kd.C_alloc ?_ _) | (with_reducible refine Kd.C_drewN ?_ _) | (with_reducible refine Kd.C_drew ?_) | exact HR298_2.out)) | (with_reducible refine Kd.C_alloc ?_ _) | (with_reducible refine Kd.C_drewN ?_ _) | (with_reducible refine Kd.C_drew ?_)))
                          (case side2 => exact HC298_2.out)
                          rintro e w' ⟨rfl, ⟨nd, rfl⟩⟩
                          refine ⟨_, rfl, ?_⟩
                          refine hK.out _ _ ⟨(blk_cell BK273.out 0).trans rfl, (blk_cell BK273.out 1).trans rfl, (blk_cell BK273.out 2).trans rfl, (blk_cell BK273.out 3).trans rfl, (blk_cell BK273.out 4).trans rfl, (blk_cell BK273.out 5).trans rfl, (blk_cell BK273.out 6).trans rfl, hHeld.2.2.2.2.2.2.2.1, hHeld.2.2.2.2.2.2.2.2.1, hHeld.2.2.2.2.2.2.2.2.2.1, hHeld.2.2.2.2.2.2.2.2.2.2.1, hHeld.2.2.2.2.2.2.2.2.2.2.2.1, hHeld.2.2.2.2.2.2.2.2.2.2.2.2.1, hHeld.2.2.2.2.2.2.2.2.2.2.2.2.2⟩ (fun hHeld => ?_)
                          clear hK K
                          refine norm_ (a' := ?_) ?_ ?_
                          rotate_left
                          ·show Act.put _ (some 175) _ = _
                           simp only [Act.put, List.setIfInBounds_toArray, List.set_cons_zero, List.set_cons_succ, i64_w, i32_w]
                           rfl
                          refine pS_ HT_.out (i := 39) (N := some 176) (v := ?_) (a' := ?_) rfl rfl (by kernel_rfl) (fun _ _ _ h => h) (Or.inl ⟨by rfl, ?_⟩) ?_ ?_; rotate_left; (· intro w'; go_simp; with_reducible rfl); rotate_left; (· simp only [Act.put, List.setIfInBounds_toArray, List.set_cons_zero, List.set_cons_succ, i64_w, i32_w]; rfl)
                          refine pS_ HT_.out (i := 40) (N := some 177) (v := ?_) (a' := ?_) rfl rfl (by kernel_rfl) (fun _ _ _ h => h) (Or.inl ⟨by rfl, ?_⟩) ?_ ?_; rotate_left; (· intro w'; go_simp; with_reducible rfl); rotate_left; (· simp only [Act.put, List.setIfInBounds_toArray, List.set_cons_zero, List.set_cons_succ, i64_w, i32_w]; rfl)
                          refine done_ (done_of HT_.out (by kernel_rfl)) ?_
                          try go_wp2
                          (try (rw [drewN_self w71]; generalize hq_ : World.drewN w71 _ = w71; have n0_ : Aside0 (Kd.R (Kd.int .i64) 2 w71 w.heap.size (fun k_ => some k_ ≠ (.slice (some ad295) t279.length co70 : Value).ownBlock ∧ some k_ ≠ (.slice (some ad298) t263.length co14 : Value).ownBlock ∧ some k_ ≠ (.slice (some ad284) t266.length co15 : Value).ownBlock) (.slice A298_2 ((rd_T36 t263 (ji62)).f2).length c298_2) ((rd_T36 t263 (ji62)).f2)) := ⟨by rw [← hq_]; exact (by (with_reducible repeat (first | apply Kd.R_alloc | apply Kd.R_drewN | apply Kd.R_drew)); exact Kd.R_mono HL298_2.out (fun _ hk => ⟨hk.1.1, ⟨hk.2, hk.1.2⟩⟩))⟩; have n1_ : Aside0 (Kd.R (Kd.int .i64) 2 w71 w.heap.size (fun k_ => some k_ ≠ (.slice (some ad284) t266.length co15 : Value).ownBlock) (.slice (some ad295) t279.length co70) t279) := ⟨by rw [← hq_]; exact (by (with_reducible repeat (first | apply Kd.R_alloc | apply Kd.R_drewN | apply Kd.R_drew)); exact HO_11.out)⟩; have n2_ : Aside0 (Kd.S k36 36 w71 w.heap.size (fun k_ => some k_ ≠ (.slice (some ad295) t279.length co70 : Value).ownBlock ∧ some k_ ≠ (.slice (some ad284) t266.length co15 : Value).ownBlock) (.slice (some ad298) t263.length co14) t263) := ⟨by rw [← hq_]; exact (by (with_reducible repeat (first | apply Kd.S_alloc | apply Kd.S_drewN | apply Kd.S_drew)); exact HO_274001.out)⟩; have n3_ : Aside0 (Kd.R (Kd.int .i64) 2 w71 w.heap.size (fun k_ => some k_ ≠ (.slice (some ad295) t279.length co70 : Value).ownBlock) (.slice (some ad284) t266.length co15) t266) := ⟨by rw [← hq_]; exact (by (with_reducible repeat (first | apply Kd.R_alloc | apply Kd.R_drewN | apply Kd.R_drew)); exact HO_274002.out)⟩; have n4_ : Aside0 (w71.heap[gb273]? = some (.cells #[.int .i64 t262, .slice (some ad298) t263.length co14, .slice (some ad284) t266.length co15, .int .i64 t269, .int .i64 t270, .int .i64 t271, .int .i64 t272] 27 (0, 0))) := ⟨by rw [← hq_]; exact (by (with_reducible repeat (first | refine blk_drewN ?_ _ | refine blk_drew ?_ | refine blk_alloc ?_ _)); exact BK273.out)⟩; have n5_ : Aside0 (Below w.heap.size w w71) := ⟨by rw [← hq_]; exact (by repeat (first | (with_reducible first | exact HB.out | apply below_alloc | apply pw_below_drewN | apply below_drew1 | refine below_set ?_ GE273.out) | exact HB.out))⟩; have n6_ : Aside0 (Kd.C (Kd.int .i64) w71 A298_2 ((rd_T36 t263 (ji62)).f2).length ((rd_T36 t263 (ji62)).f2)) := ⟨by rw [← hq_]; exact (by repeat (first | (with_reducible exact HR298_2.out) | (with_reducible refine Kd.C_alloc ?_ _) | (with_reducible refine Kd.C_drewN ?_ _) | (with_reducible refine Kd.C_drew ?_) | exact HR298_2.out))⟩; clear HL298_2 HO_11 HO_274001 HO_274002 BK273 HB HR298_2 hq_; have HL298_2 := n0_; have HO_11 := n1_; have HO_274001 := n2_; have HO_274002 := n3_; have BK273 := n4_; have HB := n5_; have HR298_2 := n6_; clear n0_ n1_ n2_ n3_ n4_ n5_ n6_))
                          have n0_ := Aside0.mk (Kd.R_drew HO_11.out)
                          have n1_ := Aside0.mk (Kd.S_drew HO_274001.out)
                          have n2_ := Aside0.mk (Kd.R_drew HO_274002.out)
                          have n3_ := Aside0.mk (Kd.R_drew HL298_2.out)
                          have n4_ := Aside0.mk (blk_drew BK273.out)
                          have n5_ := Aside0.mk (Kd.C_drew HR298_2.out)
                          have n6_ := Aside0.mk (below_drew1 HB.out)
                          clear HO_11
                          clear HO_274001
                          clear HO_274002
                          clear HL298_2
                          clear BK273
                          clear HR298_2
                          clear HB
                          have HO_11 := n0_
                          have HO_274001 := n1_
                          have HO_274002 := n2_
                          have HL298_2 := n3_
                          have BK273 := n4_
                          have HR298_2 := n5_
                          have HB := n6_
                          clear n0_ n1_ n2_ n3_ n4_ n5_ n6_
                          have p301 : 0 ≤ (x22_4 : Int) := of_decide_eq_true (by with_reducible assumption)
                          have q301 : x22_4 < (t279.length : Int) := of_decide_eq_true (by with_reducible assumption)
                          obtain ⟨ad301, e301, hx301_0⟩ := Kd.at_int (Kd.R_reads' HO_11.out).2.2 x22_4 p301 q301
                          obtain rfl : ad295 = ad301 := (by injection e301)
                          replace p301 := eq_true p301
                          replace q301 := eq_true q301
                          have p302 : 0 ≤ ((ji62) : Int) := of_decide_eq_true (by with_reducible assumption)
                          have q302 : (ji62) < (t263.length : Int) := of_decide_eq_true (by with_reducible assumption)
                          obtain ⟨ad302, A302_2, c302_2, e302, hx302_0, hx302_1, hx302_2, hl302_2, hi302_2⟩ := at_T36 (Kd.S_reads' HO_274001.out).2.2 (ji62) p302 q302
                          obtain rfl : ad298 = ad302 := (by injection e302)
                          obtain ⟨ce302, hce302, hMe302, hcc302⟩ := Kd.S_get HO_274001.out z36 (ji62) p302 (by first | exact q302 | exact of_decide_eq_true (by with_reducible assumption) | (have e_ := (Kd.S_reads' HO_274001.out).1; omega))
                          obtain ⟨ve302_2, rfl, ge302_2⟩ := k36_openM hMe302
                          have hv302_2 := hcc302 2 _ rfl
                          rw [add_field _ _ 2 (by omega)] at hv302_2
                          replace hv302_2 := Option.some.inj (hv302_2.symm.trans hx302_2)
                          rw [hv302_2] at ge302_2
                          have HL302_2 := Aside0.mk (show Kd.R (Kd.int .i64) 2 _ _ _ _ ((rd_T36 t263 (ji62)).f2) from ge302_2)
                          clear hv302_2 ge302_2
                          clear hcc302 hce302
                          have HR302_2 := Aside0.mk hi302_2
                          have HC302_2 := Aside0.mk hl302_2
                          clear hi302_2 hl302_2
                          replace p302 := eq_true p302
                          replace q302 := eq_true q302
                          refine start_ (n := 15) (S := fun w' => w'.cell? ⟨gb273, 0, none⟩ = some (.int .i64 t262) ∧ w'.cell? ⟨gb273, 1, none⟩ = some (.slice (some ad298) t263.length co14) ∧ w'.cell? ⟨gb273, 2, none⟩ = some (.slice (some ad284) t266.length co15) ∧ w'.cell? ⟨gb273, 3, none⟩ = some (.int .i64 t269) ∧ w'.cell? ⟨gb273, 4, none⟩ = some (.int .i64 t270) ∧ w'.cell? ⟨gb273, 5, none⟩ = some (.int .i64 t271) ∧ w'.cell? ⟨gb273, 6, none⟩ = some (.int .i64 t272) ∧ w'.cell? (ad295.add (x22_4).toNat) = some (.int .i64 (rd t279 x22_4)) ∧ w'.cell? (ad298.add (((ji62)).toNat * 3)) = some (.int .i64 ((rd_T36 t263 (ji62)).f0)) ∧ w'.cell? ⟨(ad298.add (((ji62)).toNat * 3)).block, (ad298.add (((ji62)).toNat * 3)).off + 1, none⟩ = some (.int .i64 ((rd_T36 t263 (ji62)).f1)) ∧ w'.cell? ⟨(ad298.add (((ji62)).toNat * 3)).block, (ad298.add (((ji62)).toNat * 3)).off + 2, none⟩ = some (.slice A302_2 ((rd_T36 t263 (ji62)).f2).length c302_2)) (ds := []) #[false, false, false, false, false, false, false, false, false, false, false, false, false, false, false] (by kernel_rfl) rfl rfl ⟨(blk_cell BK273.out 0).trans rfl, (blk_cell BK273.out 1).trans rfl, (blk_cell BK273.out 2).trans rfl, (blk_cell BK273.out 3).trans rfl, (blk_cell BK273.out 4).trans rfl, (blk_cell BK273.out 5).trans rfl, (blk_cell BK273.out 6).trans rfl, hx301_0, hx302_0, hx302_1, hx302_2⟩ (fun hHeld => ?_); refine with_tabW laws_FnPathDelays.tab34 laws_FnPathDelays.bits34 (fun HT_ HW_ => ?_)
                          generalize w71.drew = w72 at HO_11 HO_274001 HO_274002 HL298_2 BK273 HR298_2 HB HL302_2 HR302_2 hx301_0 hx302_0 hx302_1 hx302_2 hHeld ⊢
                          refine pS_ HT_.out (i := 0) (N := some 178) (v := ?_) (a' := ?_) rfl rfl (by kernel_rfl) (fun _ _ _ h => h) (Or.inl ⟨by rfl, ?_⟩) ?_ ?_; rotate_left; (· intro w'; go_simp; with_reducible rfl); rotate_left; (· simp only [Act.put, List.setIfInBounds_toArray, List.set_cons_zero, List.set_cons_succ, i64_w, i32_w]; rfl)
                          refine pS_ HT_.out (i := 1) (N := some 179) (v := ?_) (a' := ?_) rfl rfl (by kernel_rfl) (fun _ _ _ h => h) (Or.inl ⟨by rfl, ?_⟩) ?_ ?_; rotate_left; (· intro w'; go_simp; with_reducible rfl); rotate_left; (· simp only [Act.put, List.setIfInBounds_toArray, List.set_cons_zero, List.set_cons_succ, i64_w, i32_w]; rfl)
                          refine pS_ HT_.out (i := 3) (N := some 181) (v := ?_) (a' := ?_) rfl rfl (by kernel_rfl) (fun _ _ _ h => h) (Or.inl ⟨by rfl, ?_⟩) ?_ ?_; rotate_left; (· intro w'; go_simp; with_reducible rfl); rotate_left; (· simp only [Act.put, List.setIfInBounds_toArray, List.set_cons_zero, List.set_cons_succ, i64_w, i32_w]; rfl)
                          refine pS_ HT_.out (i := 4) (N := some 182) (v := ?_) (a' := ?_) rfl rfl (by kernel_rfl) (fun _ _ _ h => h) (Or.inl ⟨by rfl, ?_⟩) ?_ ?_; rotate_left; (· intro w'; go_simp; with_reducible rfl); rotate_left; (· simp only [Act.put, List.setIfInBounds_toArray, List.set_cons_zero, List.set_cons_succ, i64_w, i32_w]; rfl)
                          refine pS_ HT_.out (i := 5) (N := some 183) (v := ?_) (a' := ?_) rfl rfl (by kernel_rfl) (fun _ _ _ h => h) (Or.inl ⟨by rfl, ?_⟩) ?_ ?_; rotate_left; (· intro w'; go_simp; with_reducible rfl); rotate_left; (· simp only [Act.put, List.setIfInBounds_toArray, List.set_cons_zero, List.set_cons_succ, i64_w, i32_w]; rfl)
                          refine pS_ HT_.out (i := 7) (N := some 185) (v := ?_) (a' := ?_) rfl rfl (by kernel_rfl) (fun _ _ _ h => h) (Or.inl ⟨by rfl, ?_⟩) ?_ ?_; rotate_left; (· intro w'; go_simp; with_reducible rfl); rotate_left; (· simp only [Act.put, List.setIfInBounds_toArray, List.set_cons_zero, List.set_cons_succ, i64_w, i32_w]; rfl)
                          refine tS_ HT_.out HW_.out (i := 2) (N := some 180) (v := ?_) (a' := ?_) rfl rfl (by kernel_rfl) (fun _ _ _ h => h) (Or.inl ⟨by rfl, ?_⟩) hHeld ?_ ?_; rotate_left; (· rintro w' ⟨s0, s1, s2, s3, s4, s5, s6, s7, s8, s9, s10⟩; go_simp; with_reducible rfl); rotate_left; (· simp only [Act.put, List.setIfInBounds_toArray, List.set_cons_zero, List.set_cons_succ, i64_w, i32_w]; rfl)
                          refine tS_ HT_.out HW_.out (i := 6) (N := some 184) (v := ?_) (a' := ?_) rfl rfl (by kernel_rfl) (fun _ _ _ h => h) (Or.inl ⟨by rfl, ?_⟩) hHeld ?_ ?_; rotate_left; (· rintro w' ⟨s0, s1, s2, s3, s4, s5, s6, s7, s8, s9, s10⟩; go_simp; with_reducible rfl); rotate_left; (· simp only [Act.put, List.setIfInBounds_toArray, List.set_cons_zero, List.set_cons_succ, i64_w, i32_w]; rfl)
                          refine tS_ HT_.out HW_.out (i := 8) (N := some 186) (v := ?_) (a' := ?_) rfl rfl (by kernel_rfl) (fun _ _ _ h => h) (Or.inl ⟨by rfl, ?_⟩) hHeld ?_ ?_; rotate_left; (· rintro w' ⟨s0, s1, s2, s3, s4, s5, s6, s7, s8, s9, s10⟩; go_simp; with_reducible rfl); rotate_left; (· simp only [Act.put, List.setIfInBounds_toArray, List.set_cons_zero, List.set_cons_succ, i64_w, i32_w]; rfl)
                          refine pS_ HT_.out (i := 9) (N := some 187) (v := ?_) (a' := ?_) rfl rfl (by kernel_rfl) (fun _ _ _ h => h) (Or.inl ⟨by rfl, ?_⟩) ?_ ?_; rotate_left; (· intro w'; go_simp; with_reducible rfl); rotate_left; (· simp only [Act.put, List.setIfInBounds_toArray, List.set_cons_zero, List.set_cons_succ, i64_w, i32_w]; rfl)
                          refine pS_ HT_.out (i := 10) (N := some 188) (v := ?_) (a' := ?_) rfl rfl (by kernel_rfl) (fun _ _ _ h => h) (Or.inl ⟨by rfl, ?_⟩) ?_ ?_; rotate_left; (· intro w'; go_simp; with_reducible rfl); rotate_left; (· simp only [Act.put, List.setIfInBounds_toArray, List.set_cons_zero, List.set_cons_succ, i64_w, i32_w]; rfl)
                          refine pS_ HT_.out (i := 11) (N := some 189) (v := ?_) (a' := ?_) rfl rfl (by kernel_rfl) (fun _ _ _ h => h) (Or.inl ⟨by rfl, ?_⟩) ?_ ?_; rotate_left; (· intro w'; go_simp; with_reducible rfl); rotate_left; (· simp only [Act.put, List.setIfInBounds_toArray, List.set_cons_zero, List.set_cons_succ, i64_w, i32_w]; rfl)
                          refine tS_ HT_.out HW_.out (i := 12) (N := some 190) (v := ?_) (a' := ?_) rfl rfl (by kernel_rfl) (fun _ _ _ h => h) (Or.inl ⟨by rfl, ?_⟩) hHeld ?_ ?_; rotate_left; (· rintro w' ⟨s0, s1, s2, s3, s4, s5, s6, s7, s8, s9, s10⟩; go_simp; with_reducible rfl); rotate_left; (· simp only [Act.put, List.setIfInBounds_toArray, List.set_cons_zero, List.set_cons_succ, i64_w, i32_w]; rfl)
                          refine pS_ HT_.out (i := 13) (N := some 191) (v := ?_) (a' := ?_) rfl rfl (by kernel_rfl) (fun _ _ _ h => h) (Or.inl ⟨by rfl, ?_⟩) ?_ ?_; rotate_left; (· intro w'; go_simp; with_reducible rfl); rotate_left; (· simp only [Act.put, List.setIfInBounds_toArray, List.set_cons_zero, List.set_cons_succ, i64_w, i32_w]; rfl)
                          refine pS_ HT_.out (i := 14) (N := some 21) (v := ?_) (a' := ?_) rfl rfl (by kernel_rfl) (fun _ _ _ h => h) (Or.inl ⟨by rfl, ?_⟩) ?_ ?_; rotate_left; (· intro w'; go_simp; with_reducible rfl); rotate_left; (· simp only [Act.put, List.setIfInBounds_toArray, List.set_cons_zero, List.set_cons_succ, i64_w, i32_w]; rfl)
                          refine done_ (done_of HT_.out (by kernel_rfl)) ?_
                          try go_wp2
                          go_roundg k4
                          case measure => have := HJ9.out; have := HK2.out; have := HJ40.out; have := HK4.out; omega
                          case rel => exact ⟨(wrap64 (x21_4 + ((rd_T36 t263 (ji62)).f1))), (wrap64 (x22_4 + 1)), (by first | rfl | (simp; done) | (simp only [← hji62] <;> (first | rfl | simp)) | (simp [*]; done)), (by first | rfl | (simp; done) | (simp [*]; done)), H', ⟨by have := HJ9.out; have := HK2.out; have := HJ40.out; have := HK4.out; omega⟩, ⟨by (with_reducible repeat (first | apply Kd.R_alloc | apply Kd.R_drewN | apply Kd.R_drew)); exact HO_11.out⟩, ⟨by (with_reducible repeat (first | apply Kd.S_alloc | apply Kd.S_drewN | apply Kd.S_drew)); exact HO_274001.out⟩, ⟨by (with_reducible repeat (first | apply Kd.R_alloc | apply Kd.R_drewN | apply Kd.R_drew)); exact HO_274002.out⟩, ⟨by (with_reducible repeat (first | refine blk_drewN ?_ _ | refine blk_drew ?_ | refine blk_alloc ?_ _)); exact BK273.out⟩, ⟨by repeat (first | (with_reducible first | exact HB.out | apply below_alloc | apply pw_below_drewN | apply below_drew1 | refine below_set ?_ GE273.out) | exact HB.out)⟩⟩
                         ·replace c69 := Bool.eq_false_iff.mpr c69
                          subst c69
                          have H1 : (some false) = some r := by rw [if_neg (show ¬ (false = true) by decide)] at H; exact H
                          clear H
                          have H := H1
                          clear H1
                          obtain rfl := Option.some.inj H
                          obtain ⟨Ao73, co73, eo73⟩ := Kd.R_slice HO_11.out
                          subst eo73
                          try go_wp2
                          have n0_ := Aside0.mk (Kd.R_drew HO_11.out)
                          have n1_ := Aside0.mk (Kd.S_drew HO_274001.out)
                          have n2_ := Aside0.mk (Kd.R_drew HO_274002.out)
                          have n3_ := Aside0.mk (blk_drew BK273.out)
                          have n4_ := Aside0.mk (below_drew1 HB.out)
                          clear HO_11
                          clear HO_274001
                          clear HO_274002
                          clear BK273
                          clear HB
                          have HO_11 := n0_
                          have HO_274001 := n1_
                          have HO_274002 := n2_
                          have BK273 := n3_
                          have HB := n4_
                          clear n0_ n1_ n2_ n3_ n4_
                          have p295 : 0 ≤ (x22_4 : Int) := of_decide_eq_true (by with_reducible assumption)
                          have q295 : x22_4 < (t279.length : Int) := of_decide_eq_true (by with_reducible assumption)
                          obtain ⟨ad295, e295, hx295_0⟩ := Kd.at_int (Kd.R_reads' HO_11.out).2.2 x22_4 p295 q295
                          cases e295
                          replace p295 := eq_true p295
                          replace q295 := eq_true q295
                          have p296 : 0 ≤ (x22_4 : Int) := of_decide_eq_true (by with_reducible assumption)
                          have q296 : x22_4 < (t279.length : Int) := of_decide_eq_true (by with_reducible assumption)
                          obtain ⟨ad296, e296, hx296_0⟩ := Kd.at_int (Kd.R_reads' HO_11.out).2.2 x22_4 p296 q296
                          obtain rfl : ad295 = ad296 := (by injection e296)
                          replace p296 := eq_true p296
                          replace q296 := eq_true q296
                          have p297 : 0 ≤ (x22_4 : Int) := of_decide_eq_true (by with_reducible assumption)
                          have q297 : x22_4 < (t279.length : Int) := of_decide_eq_true (by with_reducible assumption)
                          obtain ⟨ad297, e297, hx297_0⟩ := Kd.at_int (Kd.R_reads' HO_11.out).2.2 x22_4 p297 q297
                          obtain rfl : ad295 = ad297 := (by injection e297)
                          replace p297 := eq_true p297
                          replace q297 := eq_true q297
                          have p298 : 0 ≤ ((ji62) : Int) := of_decide_eq_true (by with_reducible assumption)
                          have q298 : (ji62) < (t263.length : Int) := of_decide_eq_true (by with_reducible assumption)
                          obtain ⟨ad298, A298_2, c298_2, e298, hx298_0, hx298_1, hx298_2, hl298_2, hi298_2⟩ := at_T36 (Kd.S_reads' HO_274001.out).2.2 (ji62) p298 q298
                          cases e298
                          obtain ⟨ce298, hce298, hMe298, hcc298⟩ := Kd.S_get HO_274001.out z36 (ji62) p298 (by first | exact q298 | exact of_decide_eq_true (by with_reducible assumption) | (have e_ := (Kd.S_reads' HO_274001.out).1; omega))
                          obtain ⟨ve298_2, rfl, ge298_2⟩ := k36_openM hMe298
                          have hv298_2 := hcc298 2 _ rfl
                          rw [add_field _ _ 2 (by omega)] at hv298_2
                          replace hv298_2 := Option.some.inj (hv298_2.symm.trans hx298_2)
                          rw [hv298_2] at ge298_2
                          have HL298_2 := Aside0.mk (show Kd.R (Kd.int .i64) 2 _ _ _ _ ((rd_T36 t263 (ji62)).f2) from ge298_2)
                          clear hv298_2 ge298_2
                          clear hcc298 hce298
                          have HR298_2 := Aside0.mk hi298_2
                          have HC298_2 := Aside0.mk hl298_2
                          clear hi298_2 hl298_2
                          replace p298 := eq_true p298
                          replace q298 := eq_true q298
                          have p299 : 0 ≤ ((ji65) : Int) := of_decide_eq_true (by with_reducible assumption)
                          have q299 : (ji65) < (t279.length : Int) := of_decide_eq_true (by with_reducible assumption)
                          obtain ⟨ad299, e299, hx299_0⟩ := Kd.at_int (Kd.R_reads' HO_11.out).2.2 (ji65) p299 q299
                          obtain rfl : ad295 = ad299 := (by injection e299)
                          replace p299 := eq_true p299
                          replace q299 := eq_true q299
                          refine start_ (n := 41) (S := fun w' => w'.cell? ⟨gb273, 0, none⟩ = some (.int .i64 t262) ∧ w'.cell? ⟨gb273, 1, none⟩ = some (.slice (some ad298) t263.length co14) ∧ w'.cell? ⟨gb273, 2, none⟩ = some (.slice (some ad284) t266.length co15) ∧ w'.cell? ⟨gb273, 3, none⟩ = some (.int .i64 t269) ∧ w'.cell? ⟨gb273, 4, none⟩ = some (.int .i64 t270) ∧ w'.cell? ⟨gb273, 5, none⟩ = some (.int .i64 t271) ∧ w'.cell? ⟨gb273, 6, none⟩ = some (.int .i64 t272) ∧ w'.cell? (ad295.add (x22_4).toNat) = some (.int .i64 (rd t279 x22_4)) ∧ w'.cell? (ad295.add (x22_4).toNat) = some (.int .i64 (rd t279 x22_4)) ∧ w'.cell? (ad295.add (x22_4).toNat) = some (.int .i64 (rd t279 x22_4)) ∧ w'.cell? (ad298.add (((ji62)).toNat * 3)) = some (.int .i64 ((rd_T36 t263 (ji62)).f0)) ∧ w'.cell? ⟨(ad298.add (((ji62)).toNat * 3)).block, (ad298.add (((ji62)).toNat * 3)).off + 1, none⟩ = some (.int .i64 ((rd_T36 t263 (ji62)).f1)) ∧ w'.cell? ⟨(ad298.add (((ji62)).toNat * 3)).block, (ad298.add (((ji62)).toNat * 3)).off + 2, none⟩ = some (.slice A298_2 ((rd_T36 t263 (ji62)).f2).length c298_2) ∧ w'.cell? (ad295.add ((ji65)).toNat) = some (.int .i64 (rd t279 (ji65)))) (ds := []) #[false, false, false, false, false, false, false, false, false, false, false, false, false, false, false, false, false, false, false, false, false, false, false, false, false, false, false, false, false, false, false, false, false, false, false, false, false, false, false, false, false] (by kernel_rfl) rfl rfl ⟨(blk_cell BK273.out 0).trans rfl, (blk_cell BK273.out 1).trans rfl, (blk_cell BK273.out 2).trans rfl, (blk_cell BK273.out 3).trans rfl, (blk_cell BK273.out 4).trans rfl, (blk_cell BK273.out 5).trans rfl, (blk_cell BK273.out 6).trans rfl, hx295_0, hx296_0, hx297_0, hx298_0, hx298_1, hx298_2, hx299_0⟩ (fun hHeld => ?_); refine with_tabW laws_FnPathDelays.tab32 laws_FnPathDelays.bits32 (fun HT_ HW_ => ?_)
                          generalize wr.drew = w74 at HO_11 HO_274001 HO_274002 BK273 HB HL298_2 HR298_2 hx295_0 hx296_0 hx297_0 hx298_0 hx298_1 hx298_2 hx299_0 hHeld ⊢
                          refine pS_ HT_.out (i := 0) (N := some 137) (v := ?_) (a' := ?_) rfl rfl (by kernel_rfl) (fun _ _ _ h => h) (Or.inl ⟨by rfl, ?_⟩) ?_ ?_; rotate_left; (· intro w'; go_simp; with_reducible rfl); rotate_left; (· simp only [Act.put, List.setIfInBounds_toArray, List.set_cons_zero, List.set_cons_succ, i64_w, i32_w]; rfl)
                          refine pS_ HT_.out (i := 1) (N := some 138) (v := ?_) (a' := ?_) rfl rfl (by kernel_rfl) (fun _ _ _ h => h) (Or.inl ⟨by rfl, ?_⟩) ?_ ?_; rotate_left; (· intro w'; go_simp; with_reducible rfl); rotate_left; (· simp only [Act.put, List.setIfInBounds_toArray, List.set_cons_zero, List.set_cons_succ, i64_w, i32_w]; rfl)
                          refine pS_ HT_.out (i := 2) (N := some 139) (v := ?_) (a' := ?_) rfl rfl (by kernel_rfl) (fun _ _ _ h => h) (Or.inl ⟨by rfl, ?_⟩) ?_ ?_; rotate_left; (· intro w'; go_simp; with_reducible rfl); rotate_left; (· simp only [Act.put, List.setIfInBounds_toArray, List.set_cons_zero, List.set_cons_succ, i64_w, i32_w]; rfl)
                          refine pS_ HT_.out (i := 4) (N := some 141) (v := ?_) (a' := ?_) rfl rfl (by kernel_rfl) (fun _ _ _ h => h) (Or.inl ⟨by rfl, ?_⟩) ?_ ?_; rotate_left; (· intro w'; go_simp; with_reducible rfl); rotate_left; (· simp only [Act.put, List.setIfInBounds_toArray, List.set_cons_zero, List.set_cons_succ, i64_w, i32_w]; rfl)
                          refine tS_ HT_.out HW_.out (i := 3) (N := some 140) (v := ?_) (a' := ?_) rfl rfl (by kernel_rfl) (fun _ _ _ h => h) (Or.inl ⟨by rfl, ?_⟩) hHeld ?_ ?_; rotate_left; (· rintro w' ⟨s0, s1, s2, s3, s4, s5, s6, s7, s8, s9, s10, s11, s12, s13⟩; go_simp; with_reducible rfl); rotate_left; (· simp only [Act.put, List.setIfInBounds_toArray, List.set_cons_zero, List.set_cons_succ, i64_w, i32_w]; rfl)
                          refine tS_ HT_.out HW_.out (i := 5) (N := some 142) (v := ?_) (a' := ?_) rfl rfl (by kernel_rfl) (fun _ _ _ h => h) (Or.inl ⟨by rfl, ?_⟩) hHeld ?_ ?_; rotate_left; (· rintro w' ⟨s0, s1, s2, s3, s4, s5, s6, s7, s8, s9, s10, s11, s12, s13⟩; go_simp; with_reducible rfl); rotate_left; (· simp only [Act.put, List.setIfInBounds_toArray, List.set_cons_zero, List.set_cons_succ, i64_w, i32_w]; rfl)
                          refine pS_ HT_.out (i := 6) (N := some 143) (v := ?_) (a' := ?_) rfl rfl (by kernel_rfl) (fun _ _ _ h => h) (Or.inl ⟨by rfl, ?_⟩) ?_ ?_; rotate_left; (· intro w'; go_simp; with_reducible rfl); rotate_left; (· simp only [Act.put, List.setIfInBounds_toArray, List.set_cons_zero, List.set_cons_succ, i64_w, i32_w]; rfl)
                          refine pS_ HT_.out (i := 7) (N := some 144) (v := ?_) (a' := ?_) rfl rfl (by kernel_rfl) (fun _ _ _ h => h) (Or.inl ⟨by rfl, ?_⟩) ?_ ?_; rotate_left; (· intro w'; go_simp; with_reducible rfl); rotate_left; (· simp only [Act.put, List.setIfInBounds_toArray, List.set_cons_zero, List.set_cons_succ, i64_w, i32_w]; rfl)
                          refine pS_ HT_.out (i := 8) (N := some 145) (v := ?_) (a' := ?_) rfl rfl (by kernel_rfl) (fun _ _ _ h => h) (Or.inl ⟨by rfl, ?_⟩) ?_ ?_; rotate_left; (· intro w'; go_simp; with_reducible rfl); rotate_left; (· simp only [Act.put, List.setIfInBounds_toArray, List.set_cons_zero, List.set_cons_succ, i64_w, i32_w]; rfl)
                          refine pS_ HT_.out (i := 9) (N := some 146) (v := ?_) (a' := ?_) rfl rfl (by kernel_rfl) (fun _ _ _ h => h) (Or.inl ⟨by rfl, ?_⟩) ?_ ?_; rotate_left; (· intro w'; go_simp; with_reducible rfl); rotate_left; (· simp only [Act.put, List.setIfInBounds_toArray, List.set_cons_zero, List.set_cons_succ, i64_w, i32_w]; rfl)
                          refine pS_ HT_.out (i := 10) (N := some 147) (v := ?_) (a' := ?_) rfl rfl (by kernel_rfl) (fun _ _ _ h => h) (Or.inl ⟨by rfl, ?_⟩) ?_ ?_; rotate_left; (· intro w'; go_simp; with_reducible rfl); rotate_left; (· simp only [Act.put, List.setIfInBounds_toArray, List.set_cons_zero, List.set_cons_succ, i64_w, i32_w]; rfl)
                          refine pS_ HT_.out (i := 12) (N := some 149) (v := ?_) (a' := ?_) rfl rfl (by kernel_rfl) (fun _ _ _ h => h) (Or.inl ⟨by rfl, ?_⟩) ?_ ?_; rotate_left; (· intro w'; go_simp; with_reducible rfl); rotate_left; (· simp only [Act.put, List.setIfInBounds_toArray, List.set_cons_zero, List.set_cons_succ, i64_w, i32_w]; rfl)
                          refine pS_ HT_.out (i := 14) (N := some 151) (v := ?_) (a' := ?_) rfl rfl (by kernel_rfl) (fun _ _ _ h => h) (Or.inl ⟨by rfl, ?_⟩) ?_ ?_; rotate_left; (· intro w'; go_simp; with_reducible rfl); rotate_left; (· simp only [Act.put, List.setIfInBounds_toArray, List.set_cons_zero, List.set_cons_succ, i64_w, i32_w]; rfl)
                          refine tS_ HT_.out HW_.out (i := 11) (N := some 148) (v := ?_) (a' := ?_) rfl rfl (by kernel_rfl) (fun _ _ _ h => h) (Or.inl ⟨by rfl, ?_⟩) hHeld ?_ ?_; rotate_left; (· rintro w' ⟨s0, s1, s2, s3, s4, s5, s6, s7, s8, s9, s10, s11, s12, s13⟩; go_simp; with_reducible rfl); rotate_left; (· simp only [Act.put, List.setIfInBounds_toArray, List.set_cons_zero, List.set_cons_succ, i64_w, i32_w]; rfl)
                          refine tS_ HT_.out HW_.out (i := 13) (N := some 150) (v := ?_) (a' := ?_) rfl rfl (by kernel_rfl) (fun _ _ _ h => h) (Or.inl ⟨by rfl, ?_⟩) hHeld ?_ ?_; rotate_left; (· rintro w' ⟨s0, s1, s2, s3, s4, s5, s6, s7, s8, s9, s10, s11, s12, s13⟩; go_simp; with_reducible rfl); rotate_left; (· simp only [Act.put, List.setIfInBounds_toArray, List.set_cons_zero, List.set_cons_succ, i64_w, i32_w]; rfl)
                          refine tS_ HT_.out HW_.out (i := 15) (N := some 152) (v := ?_) (a' := ?_) rfl rfl (by kernel_rfl) (fun _ _ _ h => h) (Or.inl ⟨by rfl, ?_⟩) hHeld ?_ ?_; rotate_left; (· rintro w' ⟨s0, s1, s2, s3, s4, s5, s6, s7, s8, s9, s10, s11, s12, s13⟩; go_simp; with_reducible rfl); rotate_left; (· simp only [Act.put, List.setIfInBounds_toArray, List.set_cons_zero, List.set_cons_succ, i64_w, i32_w]; rfl)
                          refine pS_ HT_.out (i := 16) (N := some 153) (v := ?_) (a' := ?_) rfl rfl (by kernel_rfl) (fun _ _ _ h => h) (Or.inl ⟨by rfl, ?_⟩) ?_ ?_; rotate_left; (· intro w'; go_simp; with_reducible rfl); rotate_left; (· simp only [Act.put, List.setIfInBounds_toArray, List.set_cons_zero, List.set_cons_succ, i64_w, i32_w]; rfl)
                          refine pS_ HT_.out (i := 17) (N := some 154) (v := ?_) (a' := ?_) rfl rfl (by kernel_rfl) (fun _ _ _ h => h) (Or.inl ⟨by rfl, ?_⟩) ?_ ?_; rotate_left; (· intro w'; go_simp; with_reducible rfl); rotate_left; (· simp only [Act.put, List.setIfInBounds_toArray, List.set_cons_zero, List.set_cons_succ, i64_w, i32_w]; rfl)
                          refine pS_ HT_.out (i := 18) (N := some 155) (v := ?_) (a' := ?_) rfl rfl (by kernel_rfl) (fun _ _ _ h => h) (Or.inl ⟨by rfl, ?_⟩) ?_ ?_; rotate_left; (· intro w'; go_simp; with_reducible rfl); rotate_left; (· simp only [Act.put, List.setIfInBounds_toArray, List.set_cons_zero, List.set_cons_succ, i64_w, i32_w]; rfl)
                          refine pS_ HT_.out (i := 19) (N := some 156) (v := ?_) (a' := ?_) rfl rfl (by kernel_rfl) (fun _ _ _ h => h) (Or.inl ⟨by rfl, ?_⟩) ?_ ?_; rotate_left; (· intro w'; go_simp; with_reducible rfl); rotate_left; (· simp only [Act.put, List.setIfInBounds_toArray, List.set_cons_zero, List.set_cons_succ, i64_w, i32_w]; rfl)
                          refine pS_ HT_.out (i := 20) (N := some 157) (v := ?_) (a' := ?_) rfl rfl (by kernel_rfl) (fun _ _ _ h => h) (Or.inl ⟨by rfl, ?_⟩) ?_ ?_; rotate_left; (· intro w'; go_simp; with_reducible rfl); rotate_left; (· simp only [Act.put, List.setIfInBounds_toArray, List.set_cons_zero, List.set_cons_succ, i64_w, i32_w]; rfl)
                          refine pS_ HT_.out (i := 21) (N := some 158) (v := ?_) (a' := ?_) rfl rfl (by kernel_rfl) (fun _ _ _ h => h) (Or.inl ⟨by rfl, ?_⟩) ?_ ?_; rotate_left; (· intro w'; go_simp; with_reducible rfl); rotate_left; (· simp only [Act.put, List.setIfInBounds_toArray, List.set_cons_zero, List.set_cons_succ, i64_w, i32_w]; rfl)
                          refine pS_ HT_.out (i := 23) (N := some 160) (v := ?_) (a' := ?_) rfl rfl (by kernel_rfl) (fun _ _ _ h => h) (Or.inl ⟨by rfl, ?_⟩) ?_ ?_; rotate_left; (· intro w'; go_simp; with_reducible rfl); rotate_left; (· simp only [Act.put, List.setIfInBounds_toArray, List.set_cons_zero, List.set_cons_succ, i64_w, i32_w]; rfl)
                          refine pS_ HT_.out (i := 24) (N := some 161) (v := ?_) (a' := ?_) rfl rfl (by kernel_rfl) (fun _ _ _ h => h) (Or.inl ⟨by rfl, ?_⟩) ?_ ?_; rotate_left; (· intro w'; go_simp; with_reducible rfl); rotate_left; (· simp only [Act.put, List.setIfInBounds_toArray, List.set_cons_zero, List.set_cons_succ, i64_w, i32_w]; rfl)
                          refine pS_ HT_.out (i := 25) (N := some 162) (v := ?_) (a' := ?_) rfl rfl (by kernel_rfl) (fun _ _ _ h => h) (Or.inl ⟨by rfl, ?_⟩) ?_ ?_; rotate_left; (· intro w'; go_simp; with_reducible rfl); rotate_left; (· simp only [Act.put, List.setIfInBounds_toArray, List.set_cons_zero, List.set_cons_succ, i64_w, i32_w]; rfl)
                          refine pS_ HT_.out (i := 27) (N := some 164) (v := ?_) (a' := ?_) rfl rfl (by kernel_rfl) (fun _ _ _ h => h) (Or.inl ⟨by rfl, ?_⟩) ?_ ?_; rotate_left; (· intro w'; go_simp; with_reducible rfl); rotate_left; (· simp only [Act.put, List.setIfInBounds_toArray, List.set_cons_zero, List.set_cons_succ, i64_w, i32_w]; rfl)
                          refine pS_ HT_.out (i := 33) (N := some 170) (v := ?_) (a' := ?_) rfl rfl (by kernel_rfl) (fun _ _ _ h => h) (Or.inl ⟨by rfl, ?_⟩) ?_ ?_; rotate_left; (· intro w'; go_simp; with_reducible rfl); rotate_left; (· simp only [Act.put, List.setIfInBounds_toArray, List.set_cons_zero, List.set_cons_succ, i64_w, i32_w]; rfl)
                          refine pS_ HT_.out (i := 34) (N := some 171) (v := ?_) (a' := ?_) rfl rfl (by kernel_rfl) (fun _ _ _ h => h) (Or.inl ⟨by rfl, ?_⟩) ?_ ?_; rotate_left; (· intro w'; go_simp; with_reducible rfl); rotate_left; (· simp only [Act.put, List.setIfInBounds_toArray, List.set_cons_zero, List.set_cons_succ, i64_w, i32_w]; rfl)
                          refine pS_ HT_.out (i := 35) (N := some 172) (v := ?_) (a' := ?_) rfl rfl (by kernel_rfl) (fun _ _ _ h => h) (Or.inl ⟨by rfl, ?_⟩) ?_ ?_; rotate_left; (· intro w'; go_simp; with_reducible rfl); rotate_left; (· simp only [Act.put, List.setIfInBounds_toArray, List.set_cons_zero, List.set_cons_succ, i64_w, i32_w]; rfl)
                          refine pS_ HT_.out (i := 36) (N := some 173) (v := ?_) (a' := ?_) rfl rfl (by kernel_rfl) (fun _ _ _ h => h) (Or.inl ⟨by rfl, ?_⟩) ?_ ?_; rotate_left; (· intro w'; go_simp; with_reducible rfl); rotate_left; (· simp only [Act.put, List.setIfInBounds_toArray, List.set_cons_zero, List.set_cons_succ, i64_w, i32_w]; rfl)
                          refine tS_ HT_.out HW_.out (i := 22) (N := some 159) (v := ?_) (a' := ?_) rfl rfl (by kernel_rfl) (fun _ _ _ h => h) (Or.inl ⟨by rfl, ?_⟩) hHeld ?_ ?_; rotate_left; (· rintro w' ⟨s0, s1, s2, s3, s4, s5, s6, s7, s8, s9, s10, s11, s12, s13⟩; go_simp; with_reducible rfl); rotate_left; (· simp only [Act.put, List.setIfInBounds_toArray, List.set_cons_zero, List.set_cons_succ, i64_w, i32_w]; rfl)
                          refine tS_ HT_.out HW_.out (i := 26) (N := some 163) (v := ?_) (a' := ?_) rfl rfl (by kernel_rfl) (fun _ _ _ h => h) (Or.inl ⟨by rfl, ?_⟩) hHeld ?_ ?_; rotate_left; (· rintro w' ⟨s0, s1, s2, s3, s4, s5, s6, s7, s8, s9, s10, s11, s12, s13⟩; go_simp; with_reducible rfl); rotate_left; (· simp only [Act.put, List.setIfInBounds_toArray, List.set_cons_zero, List.set_cons_succ, i64_w, i32_w]; rfl)
                          refine tS_ HT_.out HW_.out (i := 28) (N := some 165) (v := ?_) (a' := ?_) rfl rfl (by kernel_rfl) (fun _ _ _ h => h) (Or.inl ⟨by rfl, ?_⟩) hHeld ?_ ?_; rotate_left; (· rintro w' ⟨s0, s1, s2, s3, s4, s5, s6, s7, s8, s9, s10, s11, s12, s13⟩; go_simp; with_reducible rfl); rotate_left; (· simp only [Act.put, List.setIfInBounds_toArray, List.set_cons_zero, List.set_cons_succ, i64_w, i32_w]; rfl)
                          refine pS_ HT_.out (i := 29) (N := some 166) (v := ?_) (a' := ?_) rfl rfl (by kernel_rfl) (fun _ _ _ h => h) (Or.inl ⟨by rfl, ?_⟩) ?_ ?_; rotate_left; (· intro w'; go_simp; with_reducible rfl); rotate_left; (· simp only [Act.put, List.setIfInBounds_toArray, List.set_cons_zero, List.set_cons_succ, i64_w, i32_w]; rfl)
                          refine pS_ HT_.out (i := 30) (N := some 167) (v := ?_) (a' := ?_) rfl rfl (by kernel_rfl) (fun _ _ _ h => h) (Or.inl ⟨by rfl, ?_⟩) ?_ ?_; rotate_left; (· intro w'; go_simp; with_reducible rfl); rotate_left; (· simp only [Act.put, List.setIfInBounds_toArray, List.set_cons_zero, List.set_cons_succ, i64_w, i32_w]; rfl)
                          refine pS_ HT_.out (i := 31) (N := some 168) (v := ?_) (a' := ?_) rfl rfl (by kernel_rfl) (fun _ _ _ h => h) (Or.inl ⟨by rfl, ?_⟩) ?_ ?_; rotate_left; (· intro w'; go_simp; with_reducible rfl); rotate_left; (· simp only [Act.put, List.setIfInBounds_toArray, List.set_cons_zero, List.set_cons_succ, i64_w, i32_w]; rfl)
                          refine tS_ HT_.out HW_.out (i := 32) (N := some 169) (v := ?_) (a' := ?_) rfl rfl (by kernel_rfl) (fun _ _ _ h => h) (Or.inl ⟨by rfl, ?_⟩) hHeld ?_ ?_; rotate_left; (· rintro w' ⟨s0, s1, s2, s3, s4, s5, s6, s7, s8, s9, s10, s11, s12, s13⟩; go_simp; with_reducible rfl); rotate_left; (· simp only [Act.put, List.setIfInBounds_toArray, List.set_cons_zero, List.set_cons_succ, i64_w, i32_w]; rfl)
                          refine tS_ HT_.out HW_.out (i := 37) (N := some 174) (v := ?_) (a' := ?_) rfl rfl (by kernel_rfl) (fun _ _ _ h => h) (Or.inl ⟨by rfl, ?_⟩) hHeld ?_ ?_; rotate_left; (· rintro w' ⟨s0, s1, s2, s3, s4, s5, s6, s7, s8, s9, s10, s11, s12, s13⟩; go_simp; with_reducible rfl); rotate_left; (· simp only [Act.put, List.setIfInBounds_toArray, List.set_cons_zero, List.set_cons_succ, i64_w, i32_w]; rfl)
                          refine one_ (i := 38) (N := some 175) #[true, true, true, true, true, true, true, true, true, true, true, true, true, true, true, true, true, true, true, true, true, true, true, true, true, true, true, true, true, true, true, true, true, true, true, true, true, true, true, false, false] rfl rfl (one_of HT_.out (by kernel_rfl)) (by decide) (fun K hK => ?_)
                          refine goes_ Try.func11 (by kernel_rfl) rfl #[.slice A298_2 ((rd_T36 t263 (ji62)).f2).length c298_2, .int .i64 (rd t279 (ji65))] (by rfl) rfl rfl (by (try simp only [List.map_toArray, List.map_cons, List.map_nil]); first | done | (simp only [hji62, hji65]; rfl) | rfl | (simp only [List.length_drop, List.length_take]; rfl)) ?_
                          with_reducible refine (laws_r8Has.calls k4 _ _ ((rd_T36 t263 (ji62)).f2) (rd t279 (ji65)) false _ ?side1 ?side2 A68.out).mono ?_
                          (case side1 => repeat (first | exact (by repeat (first | (with_reducible exact HR298_2.out) | (with_reducible refine Kd.C_alloc ?_ _) | (with_reducible refine Kd.C_drewN ?_ _) | (with_reducible refine Kd.C_drew ?_) | exact HR298_2.out)) | (with_reducible refine Kd.C_alloc ?_ _) | (with_reducible refine Kd.C_drewN ?_ _) | (with_reducible refine Kd.C_drew ?_)))
                          (case side2 => exact HC298_2.out)
                          rintro e w' ⟨rfl, ⟨nd, rfl⟩⟩
                          refine ⟨_, rfl, ?_⟩
                          refine hK.out _ _ ⟨(blk_cell BK273.out 0).trans rfl, (blk_cell BK273.out 1).trans rfl, (blk_cell BK273.out 2).trans rfl, (blk_cell BK273.out 3).trans rfl, (blk_cell BK273.out 4).trans rfl, (blk_cell BK273.out 5).trans rfl, (blk_cell BK273.out 6).trans rfl, hHeld.2.2.2.2.2.2.2.1, hHeld.2.2.2.2.2.2.2.2.1, hHeld.2.2.2.2.2.2.2.2.2.1, hHeld.2.2.2.2.2.2.2.2.2.2.1, hHeld.2.2.2.2.2.2.2.2.2.2.2.1, hHeld.2.2.2.2.2.2.2.2.2.2.2.2.1, hHeld.2.2.2.2.2.2.2.2.2.2.2.2.2⟩ (fun hHeld => ?_)
                          clear hK K
                          refine norm_ (a' := ?_) ?_ ?_
                          rotate_left
                          ·show Act.put _ (some 175) _ = _
                           simp only [Act.put, List.setIfInBounds_toArray, List.set_cons_zero, List.set_cons_succ, i64_w, i32_w]
                           rfl
                          refine pS_ HT_.out (i := 39) (N := some 176) (v := ?_) (a' := ?_) rfl rfl (by kernel_rfl) (fun _ _ _ h => h) (Or.inl ⟨by rfl, ?_⟩) ?_ ?_; rotate_left; (· intro w'; go_simp; with_reducible rfl); rotate_left; (· simp only [Act.put, List.setIfInBounds_toArray, List.set_cons_zero, List.set_cons_succ, i64_w, i32_w]; rfl)
                          refine pS_ HT_.out (i := 40) (N := some 177) (v := ?_) (a' := ?_) rfl rfl (by kernel_rfl) (fun _ _ _ h => h) (Or.inl ⟨by rfl, ?_⟩) ?_ ?_; rotate_left; (· intro w'; go_simp; with_reducible rfl); rotate_left; (· simp only [Act.put, List.setIfInBounds_toArray, List.set_cons_zero, List.set_cons_succ, i64_w, i32_w]; rfl)
                          refine done_ (done_of HT_.out (by kernel_rfl)) ?_
                          try go_wp2
                          go_ret
                          exact ⟨by first | rfl | (simp [errW_none, errW_some] <;> rfl) | (simp only [← hji62, ← hji65]; first | rfl | (simp [errW_none, errW_some] <;> rfl)) | (simp [*, errW_none, errW_some] <;> rfl), by repeat (first | (with_reducible first | exact HB.out | apply below_alloc | apply pw_below_drewN | apply below_drew1 | refine below_set ?_ GE273.out) | exact HB.out)⟩
                        ·rw [if_neg c67] at H
                         exact absurd H (by simp)
                       ·rw [if_neg c66] at H
                        exact absurd H (by simp)
                      ·rw [if_neg c64] at H
                       exact absurd H (by simp)
                     ·rw [if_neg c63] at H
                      exact absurd H (by simp)
                  ·rw [if_neg c55] at H
                   exact absurd H (by simp)
                ·rw [if_neg c49] at H
                 have c49b0 : decide (x22_4 < (t279.length : Int)) = false := decide_eq_false c49
                 clear c49
                 by_cases c75 : (t279.length : Int) > 0
                 ·rw [if_pos c75] at H
                  have c75b0 : decide (0 < (t279.length : Int)) = true := decide_eq_true c75
                  have c75b1 : decide (0 < t279.length) = true := decide_eq_true (by omega)
                  clear c75
                  obtain ⟨ji76, hji76⟩ : ∃ j_ : Int, (wrap64 ((t279.length : Int) - 1)) = j_ := ⟨_, rfl⟩
                  replace H : (if 0 ≤ (ji76) then (if (ji76) < (t279.length : Int) then (if 0 ≤ t275 then (if t275 < (t266.length : Int) then (if (rd t279 (ji76)) = (rd t266 t275) then (if x21_4 = t277 then (some (decide (t276 ≤ t277))) else (some false)) else (some false)) else (none)) else (none)) else (none)) else (none)) = some r := by first | (rw [hji76] at H; exact H) | (simp only [hji76] at H ⊢; exact H)
                  have hji76w : (IntKind.i64.wrap ((t279.length : Int) - 1)) = ji76 := (i64_w _).trans hji76
                  by_cases c77 : 0 ≤ (ji76)
                  ·rw [if_pos c77] at H
                   have c77b0 : decide (0 ≤ (ji76)) = true := decide_eq_true c77
                   clear c77
                   by_cases c78 : (ji76) < (t279.length : Int)
                   ·rw [if_pos c78] at H
                    have c78b0 : decide ((ji76) < (t279.length : Int)) = true := decide_eq_true c78
                    clear c78
                    by_cases c79 : 0 ≤ t275
                    ·rw [if_pos c79] at H
                     have c79b0 : decide (0 ≤ t275) = true := decide_eq_true c79
                     clear c79
                     by_cases c80 : t275 < (t266.length : Int)
                     ·rw [if_pos c80] at H
                      have c80b0 : decide (t275 < (t266.length : Int)) = true := decide_eq_true c80
                      clear c80
                      by_cases c81 : (rd t279 (ji76)) = (rd t266 t275)
                      ·rw [if_pos c81] at H
                       have c81b0 : ((rd t279 (ji76)) == (rd t266 t275)) = true := beq_iff_eq.mpr c81
                       have c81b1 : ((rd t279 (ji76)) != (rd t266 t275)) = false := bne_eq_false_iff_eq.mpr c81
                       clear c81
                       by_cases c82 : x21_4 = t277
                       ·rw [if_pos c82] at H
                        have c82b0 : (x21_4 == t277) = true := beq_iff_eq.mpr c82
                        have c82b1 : (x21_4 != t277) = false := bne_eq_false_iff_eq.mpr c82
                        clear c82
                        obtain rfl := Option.some.inj H
                        obtain ⟨Ao83, co83, eo83⟩ := Kd.R_slice HO_11.out
                        subst eo83
                        try go_wp2
                        have n0_ := Aside0.mk (Kd.R_drew HO_11.out)
                        have n1_ := Aside0.mk (Kd.S_drew HO_274001.out)
                        have n2_ := Aside0.mk (Kd.R_drew HO_274002.out)
                        have n3_ := Aside0.mk (blk_drew BK273.out)
                        have n4_ := Aside0.mk (below_drew1 HB.out)
                        clear HO_11
                        clear HO_274001
                        clear HO_274002
                        clear BK273
                        clear HB
                        have HO_11 := n0_
                        have HO_274001 := n1_
                        have HO_274002 := n2_
                        have BK273 := n3_
                        have HB := n4_
                        clear n0_ n1_ n2_ n3_ n4_
                        have p292 : 0 ≤ ((ji76) : Int) := of_decide_eq_true (by with_reducible assumption)
                        have q292 : (ji76) < (t279.length : Int) := of_decide_eq_true (by with_reducible assumption)
                        obtain ⟨ad292, e292, hx292_0⟩ := Kd.at_int (Kd.R_reads' HO_11.out).2.2 (ji76) p292 q292
                        cases e292
                        replace p292 := eq_true p292
                        replace q292 := eq_true q292
                        have p293 : 0 ≤ (t275 : Int) := of_decide_eq_true (by with_reducible assumption)
                        have q293 : t275 < (t266.length : Int) := of_decide_eq_true (by with_reducible assumption)
                        obtain ⟨ad293, e293, hx293_0⟩ := Kd.at_int (Kd.R_reads' HO_274002.out).2.2 t275 p293 q293
                        obtain rfl : ad284 = ad293 := (by injection e293)
                        replace p293 := eq_true p293
                        replace q293 := eq_true q293
                        refine start_ (n := 28) (S := fun w' => w'.cell? ⟨gb273, 0, none⟩ = some (.int .i64 t262) ∧ w'.cell? ⟨gb273, 1, none⟩ = some (.slice Ao14 t263.length co14) ∧ w'.cell? ⟨gb273, 2, none⟩ = some (.slice (some ad284) t266.length co15) ∧ w'.cell? ⟨gb273, 3, none⟩ = some (.int .i64 t269) ∧ w'.cell? ⟨gb273, 4, none⟩ = some (.int .i64 t270) ∧ w'.cell? ⟨gb273, 5, none⟩ = some (.int .i64 t271) ∧ w'.cell? ⟨gb273, 6, none⟩ = some (.int .i64 t272) ∧ w'.cell? (ad292.add ((ji76)).toNat) = some (.int .i64 (rd t279 (ji76))) ∧ w'.cell? (ad284.add (t275).toNat) = some (.int .i64 (rd t266 t275))) (ds := []) #[false, false, false, false, false, false, false, false, false, false, false, false, false, false, false, false, false, false, false, false, false, false, false, false, false, false, false, false] (by kernel_rfl) rfl rfl ⟨(blk_cell BK273.out 0).trans rfl, (blk_cell BK273.out 1).trans rfl, (blk_cell BK273.out 2).trans rfl, (blk_cell BK273.out 3).trans rfl, (blk_cell BK273.out 4).trans rfl, (blk_cell BK273.out 5).trans rfl, (blk_cell BK273.out 6).trans rfl, hx292_0, hx293_0⟩ (fun hHeld => ?_); refine with_tabW laws_FnPathDelays.tab35 laws_FnPathDelays.bits35 (fun HT_ HW_ => ?_)
                        generalize wr.drew = w84 at HO_11 HO_274001 HO_274002 BK273 HB hx292_0 hx293_0 hHeld ⊢
                        refine pS_ HT_.out (i := 0) (N := some 192) (v := ?_) (a' := ?_) rfl rfl (by kernel_rfl) (fun _ _ _ h => h) (Or.inl ⟨by rfl, ?_⟩) ?_ ?_; rotate_left; (· intro w'; go_simp; with_reducible rfl); rotate_left; (· simp only [Act.put, List.setIfInBounds_toArray, List.set_cons_zero, List.set_cons_succ, i64_w, i32_w]; rfl)
                        refine pS_ HT_.out (i := 1) (N := some 193) (v := ?_) (a' := ?_) rfl rfl (by kernel_rfl) (fun _ _ _ h => h) (Or.inl ⟨by rfl, ?_⟩) ?_ ?_; rotate_left; (· intro w'; go_simp; with_reducible rfl); rotate_left; (· simp only [Act.put, List.setIfInBounds_toArray, List.set_cons_zero, List.set_cons_succ, i64_w, i32_w]; rfl)
                        refine pS_ HT_.out (i := 2) (N := some 194) (v := ?_) (a' := ?_) rfl rfl (by kernel_rfl) (fun _ _ _ h => h) (Or.inl ⟨by rfl, ?_⟩) ?_ ?_; rotate_left; (· intro w'; go_simp; with_reducible rfl); rotate_left; (· simp only [Act.put, List.setIfInBounds_toArray, List.set_cons_zero, List.set_cons_succ, i64_w, i32_w]; rfl)
                        refine pS_ HT_.out (i := 3) (N := some 195) (v := ?_) (a' := ?_) rfl rfl (by kernel_rfl) (fun _ _ _ h => h) (Or.inl ⟨by rfl, ?_⟩) ?_ ?_; rotate_left; (· intro w'; go_simp; with_reducible rfl); rotate_left; (· simp only [Act.put, List.setIfInBounds_toArray, List.set_cons_zero, List.set_cons_succ, i64_w, i32_w]; rfl)
                        refine pS_ HT_.out (i := 4) (N := some 196) (v := ?_) (a' := ?_) rfl rfl (by kernel_rfl) (fun _ _ _ h => h) (Or.inl ⟨by rfl, ?_⟩) ?_ ?_; rotate_left; (· intro w'; go_simp; with_reducible rfl); rotate_left; (· simp only [Act.put, List.setIfInBounds_toArray, List.set_cons_zero, List.set_cons_succ, i64_w, i32_w]; rfl)
                        refine pS_ HT_.out (i := 5) (N := some 197) (v := ?_) (a' := ?_) rfl rfl (by kernel_rfl) (fun _ _ _ h => h) (Or.inl ⟨by rfl, ?_⟩) ?_ ?_; rotate_left; (· intro w'; go_simp; with_reducible rfl); rotate_left; (· simp only [Act.put, List.setIfInBounds_toArray, List.set_cons_zero, List.set_cons_succ, i64_w, i32_w]; rfl)
                        refine pS_ HT_.out (i := 6) (N := some 198) (v := ?_) (a' := ?_) rfl rfl (by kernel_rfl) (fun _ _ _ h => h) (Or.inl ⟨by rfl, ?_⟩) ?_ ?_; rotate_left; (· intro w'; go_simp; with_reducible rfl); rotate_left; (· simp only [Act.put, List.setIfInBounds_toArray, List.set_cons_zero, List.set_cons_succ, i64_w, i32_w]; rfl)
                        refine pS_ HT_.out (i := 7) (N := some 199) (v := ?_) (a' := ?_) rfl rfl (by kernel_rfl) (fun _ _ _ h => h) (Or.inl ⟨by rfl, ?_⟩) ?_ ?_; rotate_left; (· intro w'; go_simp; with_reducible rfl); rotate_left; (· simp only [Act.put, List.setIfInBounds_toArray, List.set_cons_zero, List.set_cons_succ, i64_w, i32_w]; rfl)
                        refine pS_ HT_.out (i := 8) (N := some 200) (v := ?_) (a' := ?_) rfl rfl (by kernel_rfl) (fun _ _ _ h => h) (Or.inl ⟨by rfl, ?_⟩) ?_ ?_; rotate_left; (· intro w'; go_simp; with_reducible rfl); rotate_left; (· simp only [Act.put, List.setIfInBounds_toArray, List.set_cons_zero, List.set_cons_succ, i64_w, i32_w]; rfl)
                        refine pS_ HT_.out (i := 10) (N := some 202) (v := ?_) (a' := ?_) rfl rfl (by kernel_rfl) (fun _ _ _ h => h) (Or.inl ⟨by rfl, ?_⟩) ?_ ?_; rotate_left; (· intro w'; go_simp; with_reducible rfl); rotate_left; (· simp only [Act.put, List.setIfInBounds_toArray, List.set_cons_zero, List.set_cons_succ, i64_w, i32_w]; rfl)
                        refine pS_ HT_.out (i := 12) (N := some 204) (v := ?_) (a' := ?_) rfl rfl (by kernel_rfl) (fun _ _ _ h => h) (Or.inl ⟨by rfl, ?_⟩) ?_ ?_; rotate_left; (· intro w'; go_simp; with_reducible rfl); rotate_left; (· simp only [Act.put, List.setIfInBounds_toArray, List.set_cons_zero, List.set_cons_succ, i64_w, i32_w]; rfl)
                        refine tS_ HT_.out HW_.out (i := 9) (N := some 201) (v := ?_) (a' := ?_) rfl rfl (by kernel_rfl) (fun _ _ _ h => h) (Or.inl ⟨by rfl, ?_⟩) hHeld ?_ ?_; rotate_left; (· rintro w' ⟨s0, s1, s2, s3, s4, s5, s6, s7, s8⟩; go_simp; with_reducible rfl); rotate_left; (· simp only [Act.put, List.setIfInBounds_toArray, List.set_cons_zero, List.set_cons_succ, i64_w, i32_w]; rfl)
                        refine tS_ HT_.out HW_.out (i := 11) (N := some 203) (v := ?_) (a' := ?_) rfl rfl (by kernel_rfl) (fun _ _ _ h => h) (Or.inl ⟨by rfl, ?_⟩) hHeld ?_ ?_; rotate_left; (· rintro w' ⟨s0, s1, s2, s3, s4, s5, s6, s7, s8⟩; go_simp; with_reducible rfl); rotate_left; (· simp only [Act.put, List.setIfInBounds_toArray, List.set_cons_zero, List.set_cons_succ, i64_w, i32_w]; rfl)
                        refine pS_ HT_.out (i := 13) (N := some 205) (v := ?_) (a' := ?_) rfl rfl (by kernel_rfl) (fun _ _ _ h => h) (Or.inl ⟨by rfl, ?_⟩) ?_ ?_; rotate_left; (· intro w'; go_simp; with_reducible rfl); rotate_left; (· simp only [Act.put, List.setIfInBounds_toArray, List.set_cons_zero, List.set_cons_succ, i64_w, i32_w]; rfl)
                        refine tS_ HT_.out HW_.out (i := 14) (N := some 206) (v := ?_) (a' := ?_) rfl rfl (by kernel_rfl) (fun _ _ _ h => h) (Or.inl ⟨by rfl, ?_⟩) hHeld ?_ ?_; rotate_left; (· rintro w' ⟨s0, s1, s2, s3, s4, s5, s6, s7, s8⟩; go_simp; with_reducible rfl); rotate_left; (· simp only [Act.put, List.setIfInBounds_toArray, List.set_cons_zero, List.set_cons_succ, i64_w, i32_w]; rfl)
                        refine pS_ HT_.out (i := 15) (N := some 207) (v := ?_) (a' := ?_) rfl rfl (by kernel_rfl) (fun _ _ _ h => h) (Or.inl ⟨by rfl, ?_⟩) ?_ ?_; rotate_left; (· intro w'; go_simp; with_reducible rfl); rotate_left; (· simp only [Act.put, List.setIfInBounds_toArray, List.set_cons_zero, List.set_cons_succ, i64_w, i32_w]; rfl)
                        refine pS_ HT_.out (i := 16) (N := some 208) (v := ?_) (a' := ?_) rfl rfl (by kernel_rfl) (fun _ _ _ h => h) (Or.inl ⟨by rfl, ?_⟩) ?_ ?_; rotate_left; (· intro w'; go_simp; with_reducible rfl); rotate_left; (· simp only [Act.put, List.setIfInBounds_toArray, List.set_cons_zero, List.set_cons_succ, i64_w, i32_w]; rfl)
                        refine pS_ HT_.out (i := 17) (N := some 209) (v := ?_) (a' := ?_) rfl rfl (by kernel_rfl) (fun _ _ _ h => h) (Or.inl ⟨by rfl, ?_⟩) ?_ ?_; rotate_left; (· intro w'; go_simp; with_reducible rfl); rotate_left; (· simp only [Act.put, List.setIfInBounds_toArray, List.set_cons_zero, List.set_cons_succ, i64_w, i32_w]; rfl)
                        refine pS_ HT_.out (i := 18) (N := some 210) (v := ?_) (a' := ?_) rfl rfl (by kernel_rfl) (fun _ _ _ h => h) (Or.inl ⟨by rfl, ?_⟩) ?_ ?_; rotate_left; (· intro w'; go_simp; with_reducible rfl); rotate_left; (· simp only [Act.put, List.setIfInBounds_toArray, List.set_cons_zero, List.set_cons_succ, i64_w, i32_w]; rfl)
                        refine pS_ HT_.out (i := 19) (N := some 211) (v := ?_) (a' := ?_) rfl rfl (by kernel_rfl) (fun _ _ _ h => h) (Or.inl ⟨by rfl, ?_⟩) ?_ ?_; rotate_left; (· intro w'; go_simp; with_reducible rfl); rotate_left; (· simp only [Act.put, List.setIfInBounds_toArray, List.set_cons_zero, List.set_cons_succ, i64_w, i32_w]; rfl)
                        refine pS_ HT_.out (i := 20) (N := some 212) (v := ?_) (a' := ?_) rfl rfl (by kernel_rfl) (fun _ _ _ h => h) (Or.inl ⟨by rfl, ?_⟩) ?_ ?_; rotate_left; (· intro w'; go_simp; with_reducible rfl); rotate_left; (· simp only [Act.put, List.setIfInBounds_toArray, List.set_cons_zero, List.set_cons_succ, i64_w, i32_w]; rfl)
                        refine pS_ HT_.out (i := 21) (N := some 213) (v := ?_) (a' := ?_) rfl rfl (by kernel_rfl) (fun _ _ _ h => h) (Or.inl ⟨by rfl, ?_⟩) ?_ ?_; rotate_left; (· intro w'; go_simp; with_reducible rfl); rotate_left; (· simp only [Act.put, List.setIfInBounds_toArray, List.set_cons_zero, List.set_cons_succ, i64_w, i32_w]; rfl)
                        refine pS_ HT_.out (i := 22) (N := some 214) (v := ?_) (a' := ?_) rfl rfl (by kernel_rfl) (fun _ _ _ h => h) (Or.inl ⟨by rfl, ?_⟩) ?_ ?_; rotate_left; (· intro w'; go_simp; with_reducible rfl); rotate_left; (· simp only [Act.put, List.setIfInBounds_toArray, List.set_cons_zero, List.set_cons_succ, i64_w, i32_w]; rfl)
                        refine pS_ HT_.out (i := 23) (N := some 215) (v := ?_) (a' := ?_) rfl rfl (by kernel_rfl) (fun _ _ _ h => h) (Or.inl ⟨by rfl, ?_⟩) ?_ ?_; rotate_left; (· intro w'; go_simp; with_reducible rfl); rotate_left; (· simp only [Act.put, List.setIfInBounds_toArray, List.set_cons_zero, List.set_cons_succ, i64_w, i32_w]; rfl)
                        refine pS_ HT_.out (i := 24) (N := some 216) (v := ?_) (a' := ?_) rfl rfl (by kernel_rfl) (fun _ _ _ h => h) (Or.inl ⟨by rfl, ?_⟩) ?_ ?_; rotate_left; (· intro w'; go_simp; with_reducible rfl); rotate_left; (· simp only [Act.put, List.setIfInBounds_toArray, List.set_cons_zero, List.set_cons_succ, i64_w, i32_w]; rfl)
                        refine pS_ HT_.out (i := 25) (N := some 217) (v := ?_) (a' := ?_) rfl rfl (by kernel_rfl) (fun _ _ _ h => h) (Or.inl ⟨by rfl, ?_⟩) ?_ ?_; rotate_left; (· intro w'; go_simp; with_reducible rfl); rotate_left; (· simp only [Act.put, List.setIfInBounds_toArray, List.set_cons_zero, List.set_cons_succ, i64_w, i32_w]; rfl)
                        refine pS_ HT_.out (i := 26) (N := some 218) (v := ?_) (a' := ?_) rfl rfl (by kernel_rfl) (fun _ _ _ h => h) (Or.inl ⟨by rfl, ?_⟩) ?_ ?_; rotate_left; (· intro w'; go_simp; with_reducible rfl); rotate_left; (· simp only [Act.put, List.setIfInBounds_toArray, List.set_cons_zero, List.set_cons_succ, i64_w, i32_w]; rfl)
                        refine pS_ HT_.out (i := 27) (N := some 4) (v := ?_) (a' := ?_) rfl rfl (by kernel_rfl) (fun _ _ _ h => h) (Or.inl ⟨by rfl, ?_⟩) ?_ ?_; rotate_left; (· intro w'; go_simp; with_reducible rfl); rotate_left; (· simp only [Act.put, List.setIfInBounds_toArray, List.set_cons_zero, List.set_cons_succ, i64_w, i32_w]; rfl)
                        refine done_ (done_of HT_.out (by kernel_rfl)) ?_
                        try go_wp2
                        go_ret
                        exact ⟨by first | rfl | (simp [errW_none, errW_some] <;> rfl) | (simp only [← hji76]; first | rfl | (simp [errW_none, errW_some] <;> rfl)) | (simp [*, errW_none, errW_some] <;> rfl), by repeat (first | (with_reducible first | exact HB.out | apply below_alloc | apply pw_below_drewN | apply below_drew1 | refine below_set ?_ GE273.out) | exact HB.out)⟩
                       ·rw [if_neg c82] at H
                        have c82b0 : (x21_4 == t277) = false := beq_eq_false_iff_ne.mpr c82
                        have c82b1 : (x21_4 != t277) = true := bne_iff_ne.mpr c82
                        obtain rfl := Option.some.inj H
                        obtain ⟨Ao85, co85, eo85⟩ := Kd.R_slice HO_11.out
                        subst eo85
                        try go_wp2
                        have n0_ := Aside0.mk (Kd.R_drew HO_11.out)
                        have n1_ := Aside0.mk (Kd.S_drew HO_274001.out)
                        have n2_ := Aside0.mk (Kd.R_drew HO_274002.out)
                        have n3_ := Aside0.mk (blk_drew BK273.out)
                        have n4_ := Aside0.mk (below_drew1 HB.out)
                        clear HO_11
                        clear HO_274001
                        clear HO_274002
                        clear BK273
                        clear HB
                        have HO_11 := n0_
                        have HO_274001 := n1_
                        have HO_274002 := n2_
                        have BK273 := n3_
                        have HB := n4_
                        clear n0_ n1_ n2_ n3_ n4_
                        have p292 : 0 ≤ ((ji76) : Int) := of_decide_eq_true (by with_reducible assumption)
                        have q292 : (ji76) < (t279.length : Int) := of_decide_eq_true (by with_reducible assumption)
                        obtain ⟨ad292, e292, hx292_0⟩ := Kd.at_int (Kd.R_reads' HO_11.out).2.2 (ji76) p292 q292
                        cases e292
                        replace p292 := eq_true p292
                        replace q292 := eq_true q292
                        have p293 : 0 ≤ (t275 : Int) := of_decide_eq_true (by with_reducible assumption)
                        have q293 : t275 < (t266.length : Int) := of_decide_eq_true (by with_reducible assumption)
                        obtain ⟨ad293, e293, hx293_0⟩ := Kd.at_int (Kd.R_reads' HO_274002.out).2.2 t275 p293 q293
                        obtain rfl : ad284 = ad293 := (by injection e293)
                        replace p293 := eq_true p293
                        replace q293 := eq_true q293
                        refine start_ (n := 28) (S := fun w' => w'.cell? ⟨gb273, 0, none⟩ = some (.int .i64 t262) ∧ w'.cell? ⟨gb273, 1, none⟩ = some (.slice Ao14 t263.length co14) ∧ w'.cell? ⟨gb273, 2, none⟩ = some (.slice (some ad284) t266.length co15) ∧ w'.cell? ⟨gb273, 3, none⟩ = some (.int .i64 t269) ∧ w'.cell? ⟨gb273, 4, none⟩ = some (.int .i64 t270) ∧ w'.cell? ⟨gb273, 5, none⟩ = some (.int .i64 t271) ∧ w'.cell? ⟨gb273, 6, none⟩ = some (.int .i64 t272) ∧ w'.cell? (ad292.add ((ji76)).toNat) = some (.int .i64 (rd t279 (ji76))) ∧ w'.cell? (ad284.add (t275).toNat) = some (.int .i64 (rd t266 t275))) (ds := []) #[false, false, false, false, false, false, false, false, false, false, false, false, false, false, false, false, false, false, false, false, false, false, false, false, false, false, false, false] (by kernel_rfl) rfl rfl ⟨(blk_cell BK273.out 0).trans rfl, (blk_cell BK273.out 1).trans rfl, (blk_cell BK273.out 2).trans rfl, (blk_cell BK273.out 3).trans rfl, (blk_cell BK273.out 4).trans rfl, (blk_cell BK273.out 5).trans rfl, (blk_cell BK273.out 6).trans rfl, hx292_0, hx293_0⟩ (fun hHeld => ?_); refine with_tabW laws_FnPathDelays.tab35 laws_FnPathDelays.bits35 (fun HT_ HW_ => ?_)
                        generalize wr.drew = w86 at HO_11 HO_274001 HO_274002 BK273 HB hx292_0 hx293_0 hHeld ⊢
                        refine pS_ HT_.out (i := 0) (N := some 192) (v := ?_) (a' := ?_) rfl rfl (by kernel_rfl) (fun _ _ _ h => h) (Or.inl ⟨by rfl, ?_⟩) ?_ ?_; rotate_left; (· intro w'; go_simp; with_reducible rfl); rotate_left; (· simp only [Act.put, List.setIfInBounds_toArray, List.set_cons_zero, List.set_cons_succ, i64_w, i32_w]; rfl)
                        refine pS_ HT_.out (i := 1) (N := some 193) (v := ?_) (a' := ?_) rfl rfl (by kernel_rfl) (fun _ _ _ h => h) (Or.inl ⟨by rfl, ?_⟩) ?_ ?_; rotate_left; (· intro w'; go_simp; with_reducible rfl); rotate_left; (· simp only [Act.put, List.setIfInBounds_toArray, List.set_cons_zero, List.set_cons_succ, i64_w, i32_w]; rfl)
                        refine pS_ HT_.out (i := 2) (N := some 194) (v := ?_) (a' := ?_) rfl rfl (by kernel_rfl) (fun _ _ _ h => h) (Or.inl ⟨by rfl, ?_⟩) ?_ ?_; rotate_left; (· intro w'; go_simp; with_reducible rfl); rotate_left; (· simp only [Act.put, List.setIfInBounds_toArray, List.set_cons_zero, List.set_cons_succ, i64_w, i32_w]; rfl)
                        refine pS_ HT_.out (i := 3) (N := some 195) (v := ?_) (a' := ?_) rfl rfl (by kernel_rfl) (fun _ _ _ h => h) (Or.inl ⟨by rfl, ?_⟩) ?_ ?_; rotate_left; (· intro w'; go_simp; with_reducible rfl); rotate_left; (· simp only [Act.put, List.setIfInBounds_toArray, List.set_cons_zero, List.set_cons_succ, i64_w, i32_w]; rfl)
                        refine pS_ HT_.out (i := 4) (N := some 196) (v := ?_) (a' := ?_) rfl rfl (by kernel_rfl) (fun _ _ _ h => h) (Or.inl ⟨by rfl, ?_⟩) ?_ ?_; rotate_left; (· intro w'; go_simp; with_reducible rfl); rotate_left; (· simp only [Act.put, List.setIfInBounds_toArray, List.set_cons_zero, List.set_cons_succ, i64_w, i32_w]; rfl)
                        refine pS_ HT_.out (i := 5) (N := some 197) (v := ?_) (a' := ?_) rfl rfl (by kernel_rfl) (fun _ _ _ h => h) (Or.inl ⟨by rfl, ?_⟩) ?_ ?_; rotate_left; (· intro w'; go_simp; with_reducible rfl); rotate_left; (· simp only [Act.put, List.setIfInBounds_toArray, List.set_cons_zero, List.set_cons_succ, i64_w, i32_w]; rfl)
                        refine pS_ HT_.out (i := 6) (N := some 198) (v := ?_) (a' := ?_) rfl rfl (by kernel_rfl) (fun _ _ _ h => h) (Or.inl ⟨by rfl, ?_⟩) ?_ ?_; rotate_left; (· intro w'; go_simp; with_reducible rfl); rotate_left; (· simp only [Act.put, List.setIfInBounds_toArray, List.set_cons_zero, List.set_cons_succ, i64_w, i32_w]; rfl)
                        refine pS_ HT_.out (i := 7) (N := some 199) (v := ?_) (a' := ?_) rfl rfl (by kernel_rfl) (fun _ _ _ h => h) (Or.inl ⟨by rfl, ?_⟩) ?_ ?_; rotate_left; (· intro w'; go_simp; with_reducible rfl); rotate_left; (· simp only [Act.put, List.setIfInBounds_toArray, List.set_cons_zero, List.set_cons_succ, i64_w, i32_w]; rfl)
                        refine pS_ HT_.out (i := 8) (N := some 200) (v := ?_) (a' := ?_) rfl rfl (by kernel_rfl) (fun _ _ _ h => h) (Or.inl ⟨by rfl, ?_⟩) ?_ ?_; rotate_left; (· intro w'; go_simp; with_reducible rfl); rotate_left; (· simp only [Act.put, List.setIfInBounds_toArray, List.set_cons_zero, List.set_cons_succ, i64_w, i32_w]; rfl)
                        refine pS_ HT_.out (i := 10) (N := some 202) (v := ?_) (a' := ?_) rfl rfl (by kernel_rfl) (fun _ _ _ h => h) (Or.inl ⟨by rfl, ?_⟩) ?_ ?_; rotate_left; (· intro w'; go_simp; with_reducible rfl); rotate_left; (· simp only [Act.put, List.setIfInBounds_toArray, List.set_cons_zero, List.set_cons_succ, i64_w, i32_w]; rfl)
                        refine pS_ HT_.out (i := 12) (N := some 204) (v := ?_) (a' := ?_) rfl rfl (by kernel_rfl) (fun _ _ _ h => h) (Or.inl ⟨by rfl, ?_⟩) ?_ ?_; rotate_left; (· intro w'; go_simp; with_reducible rfl); rotate_left; (· simp only [Act.put, List.setIfInBounds_toArray, List.set_cons_zero, List.set_cons_succ, i64_w, i32_w]; rfl)
                        refine tS_ HT_.out HW_.out (i := 9) (N := some 201) (v := ?_) (a' := ?_) rfl rfl (by kernel_rfl) (fun _ _ _ h => h) (Or.inl ⟨by rfl, ?_⟩) hHeld ?_ ?_; rotate_left; (· rintro w' ⟨s0, s1, s2, s3, s4, s5, s6, s7, s8⟩; go_simp; with_reducible rfl); rotate_left; (· simp only [Act.put, List.setIfInBounds_toArray, List.set_cons_zero, List.set_cons_succ, i64_w, i32_w]; rfl)
                        refine tS_ HT_.out HW_.out (i := 11) (N := some 203) (v := ?_) (a' := ?_) rfl rfl (by kernel_rfl) (fun _ _ _ h => h) (Or.inl ⟨by rfl, ?_⟩) hHeld ?_ ?_; rotate_left; (· rintro w' ⟨s0, s1, s2, s3, s4, s5, s6, s7, s8⟩; go_simp; with_reducible rfl); rotate_left; (· simp only [Act.put, List.setIfInBounds_toArray, List.set_cons_zero, List.set_cons_succ, i64_w, i32_w]; rfl)
                        refine pS_ HT_.out (i := 13) (N := some 205) (v := ?_) (a' := ?_) rfl rfl (by kernel_rfl) (fun _ _ _ h => h) (Or.inl ⟨by rfl, ?_⟩) ?_ ?_; rotate_left; (· intro w'; go_simp; with_reducible rfl); rotate_left; (· simp only [Act.put, List.setIfInBounds_toArray, List.set_cons_zero, List.set_cons_succ, i64_w, i32_w]; rfl)
                        refine tS_ HT_.out HW_.out (i := 14) (N := some 206) (v := ?_) (a' := ?_) rfl rfl (by kernel_rfl) (fun _ _ _ h => h) (Or.inl ⟨by rfl, ?_⟩) hHeld ?_ ?_; rotate_left; (· rintro w' ⟨s0, s1, s2, s3, s4, s5, s6, s7, s8⟩; go_simp; with_reducible rfl); rotate_left; (· simp only [Act.put, List.setIfInBounds_toArray, List.set_cons_zero, List.set_cons_succ, i64_w, i32_w]; rfl)
                        refine pS_ HT_.out (i := 15) (N := some 207) (v := ?_) (a' := ?_) rfl rfl (by kernel_rfl) (fun _ _ _ h => h) (Or.inl ⟨by rfl, ?_⟩) ?_ ?_; rotate_left; (· intro w'; go_simp; with_reducible rfl); rotate_left; (· simp only [Act.put, List.setIfInBounds_toArray, List.set_cons_zero, List.set_cons_succ, i64_w, i32_w]; rfl)
                        refine pS_ HT_.out (i := 16) (N := some 208) (v := ?_) (a' := ?_) rfl rfl (by kernel_rfl) (fun _ _ _ h => h) (Or.inl ⟨by rfl, ?_⟩) ?_ ?_; rotate_left; (· intro w'; go_simp; with_reducible rfl); rotate_left; (· simp only [Act.put, List.setIfInBounds_toArray, List.set_cons_zero, List.set_cons_succ, i64_w, i32_w]; rfl)
                        refine pS_ HT_.out (i := 17) (N := some 209) (v := ?_) (a' := ?_) rfl rfl (by kernel_rfl) (fun _ _ _ h => h) (Or.inl ⟨by rfl, ?_⟩) ?_ ?_; rotate_left; (· intro w'; go_simp; with_reducible rfl); rotate_left; (· simp only [Act.put, List.setIfInBounds_toArray, List.set_cons_zero, List.set_cons_succ, i64_w, i32_w]; rfl)
                        refine pS_ HT_.out (i := 18) (N := some 210) (v := ?_) (a' := ?_) rfl rfl (by kernel_rfl) (fun _ _ _ h => h) (Or.inl ⟨by rfl, ?_⟩) ?_ ?_; rotate_left; (· intro w'; go_simp; with_reducible rfl); rotate_left; (· simp only [Act.put, List.setIfInBounds_toArray, List.set_cons_zero, List.set_cons_succ, i64_w, i32_w]; rfl)
                        refine pS_ HT_.out (i := 19) (N := some 211) (v := ?_) (a' := ?_) rfl rfl (by kernel_rfl) (fun _ _ _ h => h) (Or.inl ⟨by rfl, ?_⟩) ?_ ?_; rotate_left; (· intro w'; go_simp; with_reducible rfl); rotate_left; (· simp only [Act.put, List.setIfInBounds_toArray, List.set_cons_zero, List.set_cons_succ, i64_w, i32_w]; rfl)
                        refine pS_ HT_.out (i := 20) (N := some 212) (v := ?_) (a' := ?_) rfl rfl (by kernel_rfl) (fun _ _ _ h => h) (Or.inl ⟨by rfl, ?_⟩) ?_ ?_; rotate_left; (· intro w'; go_simp; with_reducible rfl); rotate_left; (· simp only [Act.put, List.setIfInBounds_toArray, List.set_cons_zero, List.set_cons_succ, i64_w, i32_w]; rfl)
                        refine pS_ HT_.out (i := 21) (N := some 213) (v := ?_) (a' := ?_) rfl rfl (by kernel_rfl) (fun _ _ _ h => h) (Or.inl ⟨by rfl, ?_⟩) ?_ ?_; rotate_left; (· intro w'; go_simp; with_reducible rfl); rotate_left; (· simp only [Act.put, List.setIfInBounds_toArray, List.set_cons_zero, List.set_cons_succ, i64_w, i32_w]; rfl)
                        refine pS_ HT_.out (i := 22) (N := some 214) (v := ?_) (a' := ?_) rfl rfl (by kernel_rfl) (fun _ _ _ h => h) (Or.inl ⟨by rfl, ?_⟩) ?_ ?_; rotate_left; (· intro w'; go_simp; with_reducible rfl); rotate_left; (· simp only [Act.put, List.setIfInBounds_toArray, List.set_cons_zero, List.set_cons_succ, i64_w, i32_w]; rfl)
                        refine pS_ HT_.out (i := 23) (N := some 215) (v := undef) (a' := ?_) rfl rfl (by kernel_rfl) (fun _ _ _ h => h) (Or.inr ⟨by rfl, rfl⟩) ?_ ?_; rotate_left; (· simp only [Act.put, List.setIfInBounds_toArray, List.set_cons_zero, List.set_cons_succ, i64_w, i32_w]; rfl)
                        refine pS_ HT_.out (i := 24) (N := some 216) (v := undef) (a' := ?_) rfl rfl (by kernel_rfl) (fun _ _ _ h => h) (Or.inr ⟨by rfl, rfl⟩) ?_ ?_; rotate_left; (· simp only [Act.put, List.setIfInBounds_toArray, List.set_cons_zero, List.set_cons_succ, i64_w, i32_w]; rfl)
                        refine pS_ HT_.out (i := 25) (N := some 217) (v := undef) (a' := ?_) rfl rfl (by kernel_rfl) (fun _ _ _ h => h) (Or.inr ⟨by rfl, rfl⟩) ?_ ?_; rotate_left; (· simp only [Act.put, List.setIfInBounds_toArray, List.set_cons_zero, List.set_cons_succ, i64_w, i32_w]; rfl)
                        refine pS_ HT_.out (i := 26) (N := some 218) (v := ?_) (a' := ?_) rfl rfl (by kernel_rfl) (fun _ _ _ h => h) (Or.inl ⟨by rfl, ?_⟩) ?_ ?_; rotate_left; (· intro w'; go_simp; with_reducible rfl); rotate_left; (· simp only [Act.put, List.setIfInBounds_toArray, List.set_cons_zero, List.set_cons_succ, i64_w, i32_w]; rfl)
                        refine pS_ HT_.out (i := 27) (N := some 4) (v := ?_) (a' := ?_) rfl rfl (by kernel_rfl) (fun _ _ _ h => h) (Or.inl ⟨by rfl, ?_⟩) ?_ ?_; rotate_left; (· intro w'; go_simp; with_reducible rfl); rotate_left; (· simp only [Act.put, List.setIfInBounds_toArray, List.set_cons_zero, List.set_cons_succ, i64_w, i32_w]; rfl)
                        refine done_ (done_of HT_.out (by kernel_rfl)) ?_
                        try go_wp2
                        go_ret
                        exact ⟨by first | rfl | (simp [errW_none, errW_some] <;> rfl) | (simp only [← hji76]; first | rfl | (simp [errW_none, errW_some] <;> rfl)) | (simp [*, errW_none, errW_some] <;> rfl), by repeat (first | (with_reducible first | exact HB.out | apply below_alloc | apply pw_below_drewN | apply below_drew1 | refine below_set ?_ GE273.out) | exact HB.out)⟩
                      ·rw [if_neg c81] at H
                       have c81b0 : ((rd t279 (ji76)) == (rd t266 t275)) = false := beq_eq_false_iff_ne.mpr c81
                       have c81b1 : ((rd t279 (ji76)) != (rd t266 t275)) = true := bne_iff_ne.mpr c81
                       obtain rfl := Option.some.inj H
                       obtain ⟨Ao87, co87, eo87⟩ := Kd.R_slice HO_11.out
                       subst eo87
                       try go_wp2
                       have n0_ := Aside0.mk (Kd.R_drew HO_11.out)
                       have n1_ := Aside0.mk (Kd.S_drew HO_274001.out)
                       have n2_ := Aside0.mk (Kd.R_drew HO_274002.out)
                       have n3_ := Aside0.mk (blk_drew BK273.out)
                       have n4_ := Aside0.mk (below_drew1 HB.out)
                       clear HO_11
                       clear HO_274001
                       clear HO_274002
                       clear BK273
                       clear HB
                       have HO_11 := n0_
                       have HO_274001 := n1_
                       have HO_274002 := n2_
                       have BK273 := n3_
                       have HB := n4_
                       clear n0_ n1_ n2_ n3_ n4_
                       have p292 : 0 ≤ ((ji76) : Int) := of_decide_eq_true (by with_reducible assumption)
                       have q292 : (ji76) < (t279.length : Int) := of_decide_eq_true (by with_reducible assumption)
                       obtain ⟨ad292, e292, hx292_0⟩ := Kd.at_int (Kd.R_reads' HO_11.out).2.2 (ji76) p292 q292
                       cases e292
                       replace p292 := eq_true p292
                       replace q292 := eq_true q292
                       have p293 : 0 ≤ (t275 : Int) := of_decide_eq_true (by with_reducible assumption)
                       have q293 : t275 < (t266.length : Int) := of_decide_eq_true (by with_reducible assumption)
                       obtain ⟨ad293, e293, hx293_0⟩ := Kd.at_int (Kd.R_reads' HO_274002.out).2.2 t275 p293 q293
                       obtain rfl : ad284 = ad293 := (by injection e293)
                       replace p293 := eq_true p293
                       replace q293 := eq_true q293
                       refine start_ (n := 28) (S := fun w' => w'.cell? ⟨gb273, 0, none⟩ = some (.int .i64 t262) ∧ w'.cell? ⟨gb273, 1, none⟩ = some (.slice Ao14 t263.length co14) ∧ w'.cell? ⟨gb273, 2, none⟩ = some (.slice (some ad284) t266.length co15) ∧ w'.cell? ⟨gb273, 3, none⟩ = some (.int .i64 t269) ∧ w'.cell? ⟨gb273, 4, none⟩ = some (.int .i64 t270) ∧ w'.cell? ⟨gb273, 5, none⟩ = some (.int .i64 t271) ∧ w'.cell? ⟨gb273, 6, none⟩ = some (.int .i64 t272) ∧ w'.cell? (ad292.add ((ji76)).toNat) = some (.int .i64 (rd t279 (ji76))) ∧ w'.cell? (ad284.add (t275).toNat) = some (.int .i64 (rd t266 t275))) (ds := []) #[false, false, false, false, false, false, false, false, false, false, false, false, false, false, false, false, false, false, false, false, false, false, false, false, false, false, false, false] (by kernel_rfl) rfl rfl ⟨(blk_cell BK273.out 0).trans rfl, (blk_cell BK273.out 1).trans rfl, (blk_cell BK273.out 2).trans rfl, (blk_cell BK273.out 3).trans rfl, (blk_cell BK273.out 4).trans rfl, (blk_cell BK273.out 5).trans rfl, (blk_cell BK273.out 6).trans rfl, hx292_0, hx293_0⟩ (fun hHeld => ?_); refine with_tabW laws_FnPathDelays.tab35 laws_FnPathDelays.bits35 (fun HT_ HW_ => ?_)
                       generalize wr.drew = w88 at HO_11 HO_274001 HO_274002 BK273 HB hx292_0 hx293_0 hHeld ⊢
                       refine pS_ HT_.out (i := 0) (N := some 192) (v := ?_) (a' := ?_) rfl rfl (by kernel_rfl) (fun _ _ _ h => h) (Or.inl ⟨by rfl, ?_⟩) ?_ ?_; rotate_left; (· intro w'; go_simp; with_reducible rfl); rotate_left; (· simp only [Act.put, List.setIfInBounds_toArray, List.set_cons_zero, List.set_cons_succ, i64_w, i32_w]; rfl)
                       refine pS_ HT_.out (i := 1) (N := some 193) (v := ?_) (a' := ?_) rfl rfl (by kernel_rfl) (fun _ _ _ h => h) (Or.inl ⟨by rfl, ?_⟩) ?_ ?_; rotate_left; (· intro w'; go_simp; with_reducible rfl); rotate_left; (· simp only [Act.put, List.setIfInBounds_toArray, List.set_cons_zero, List.set_cons_succ, i64_w, i32_w]; rfl)
                       refine pS_ HT_.out (i := 2) (N := some 194) (v := ?_) (a' := ?_) rfl rfl (by kernel_rfl) (fun _ _ _ h => h) (Or.inl ⟨by rfl, ?_⟩) ?_ ?_; rotate_left; (· intro w'; go_simp; with_reducible rfl); rotate_left; (· simp only [Act.put, List.setIfInBounds_toArray, List.set_cons_zero, List.set_cons_succ, i64_w, i32_w]; rfl)
                       refine pS_ HT_.out (i := 3) (N := some 195) (v := ?_) (a' := ?_) rfl rfl (by kernel_rfl) (fun _ _ _ h => h) (Or.inl ⟨by rfl, ?_⟩) ?_ ?_; rotate_left; (· intro w'; go_simp; with_reducible rfl); rotate_left; (· simp only [Act.put, List.setIfInBounds_toArray, List.set_cons_zero, List.set_cons_succ, i64_w, i32_w]; rfl)
                       refine pS_ HT_.out (i := 4) (N := some 196) (v := ?_) (a' := ?_) rfl rfl (by kernel_rfl) (fun _ _ _ h => h) (Or.inl ⟨by rfl, ?_⟩) ?_ ?_; rotate_left; (· intro w'; go_simp; with_reducible rfl); rotate_left; (· simp only [Act.put, List.setIfInBounds_toArray, List.set_cons_zero, List.set_cons_succ, i64_w, i32_w]; rfl)
                       refine pS_ HT_.out (i := 5) (N := some 197) (v := ?_) (a' := ?_) rfl rfl (by kernel_rfl) (fun _ _ _ h => h) (Or.inl ⟨by rfl, ?_⟩) ?_ ?_; rotate_left; (· intro w'; go_simp; with_reducible rfl); rotate_left; (· simp only [Act.put, List.setIfInBounds_toArray, List.set_cons_zero, List.set_cons_succ, i64_w, i32_w]; rfl)
                       refine pS_ HT_.out (i := 6) (N := some 198) (v := ?_) (a' := ?_) rfl rfl (by kernel_rfl) (fun _ _ _ h => h) (Or.inl ⟨by rfl, ?_⟩) ?_ ?_; rotate_left; (· intro w'; go_simp; with_reducible rfl); rotate_left; (· simp only [Act.put, List.setIfInBounds_toArray, List.set_cons_zero, List.set_cons_succ, i64_w, i32_w]; rfl)
                       refine pS_ HT_.out (i := 7) (N := some 199) (v := ?_) (a' := ?_) rfl rfl (by kernel_rfl) (fun _ _ _ h => h) (Or.inl ⟨by rfl, ?_⟩) ?_ ?_; rotate_left; (· intro w'; go_simp; with_reducible rfl); rotate_left; (· simp only [Act.put, List.setIfInBounds_toArray, List.set_cons_zero, List.set_cons_succ, i64_w, i32_w]; rfl)
                       refine pS_ HT_.out (i := 8) (N := some 200) (v := ?_) (a' := ?_) rfl rfl (by kernel_rfl) (fun _ _ _ h => h) (Or.inl ⟨by rfl, ?_⟩) ?_ ?_; rotate_left; (· intro w'; go_simp; with_reducible rfl); rotate_left; (· simp only [Act.put, List.setIfInBounds_toArray, List.set_cons_zero, List.set_cons_succ, i64_w, i32_w]; rfl)
                       refine pS_ HT_.out (i := 10) (N := some 202) (v := ?_) (a' := ?_) rfl rfl (by kernel_rfl) (fun _ _ _ h => h) (Or.inl ⟨by rfl, ?_⟩) ?_ ?_; rotate_left; (· intro w'; go_simp; with_reducible rfl); rotate_left; (· simp only [Act.put, List.setIfInBounds_toArray, List.set_cons_zero, List.set_cons_succ, i64_w, i32_w]; rfl)
                       refine pS_ HT_.out (i := 12) (N := some 204) (v := ?_) (a' := ?_) rfl rfl (by kernel_rfl) (fun _ _ _ h => h) (Or.inl ⟨by rfl, ?_⟩) ?_ ?_; rotate_left; (· intro w'; go_simp; with_reducible rfl); rotate_left; (· simp only [Act.put, List.setIfInBounds_toArray, List.set_cons_zero, List.set_cons_succ, i64_w, i32_w]; rfl)
                       refine tS_ HT_.out HW_.out (i := 9) (N := some 201) (v := ?_) (a' := ?_) rfl rfl (by kernel_rfl) (fun _ _ _ h => h) (Or.inl ⟨by rfl, ?_⟩) hHeld ?_ ?_; rotate_left; (· rintro w' ⟨s0, s1, s2, s3, s4, s5, s6, s7, s8⟩; go_simp; with_reducible rfl); rotate_left; (· simp only [Act.put, List.setIfInBounds_toArray, List.set_cons_zero, List.set_cons_succ, i64_w, i32_w]; rfl)
                       refine tS_ HT_.out HW_.out (i := 11) (N := some 203) (v := ?_) (a' := ?_) rfl rfl (by kernel_rfl) (fun _ _ _ h => h) (Or.inl ⟨by rfl, ?_⟩) hHeld ?_ ?_; rotate_left; (· rintro w' ⟨s0, s1, s2, s3, s4, s5, s6, s7, s8⟩; go_simp; with_reducible rfl); rotate_left; (· simp only [Act.put, List.setIfInBounds_toArray, List.set_cons_zero, List.set_cons_succ, i64_w, i32_w]; rfl)
                       refine pS_ HT_.out (i := 13) (N := some 205) (v := ?_) (a' := ?_) rfl rfl (by kernel_rfl) (fun _ _ _ h => h) (Or.inl ⟨by rfl, ?_⟩) ?_ ?_; rotate_left; (· intro w'; go_simp; with_reducible rfl); rotate_left; (· simp only [Act.put, List.setIfInBounds_toArray, List.set_cons_zero, List.set_cons_succ, i64_w, i32_w]; rfl)
                       refine tS_ HT_.out HW_.out (i := 14) (N := some 206) (v := ?_) (a' := ?_) rfl rfl (by kernel_rfl) (fun _ _ _ h => h) (Or.inl ⟨by rfl, ?_⟩) hHeld ?_ ?_; rotate_left; (· rintro w' ⟨s0, s1, s2, s3, s4, s5, s6, s7, s8⟩; go_simp; with_reducible rfl); rotate_left; (· simp only [Act.put, List.setIfInBounds_toArray, List.set_cons_zero, List.set_cons_succ, i64_w, i32_w]; rfl)
                       refine pS_ HT_.out (i := 15) (N := some 207) (v := ?_) (a' := ?_) rfl rfl (by kernel_rfl) (fun _ _ _ h => h) (Or.inl ⟨by rfl, ?_⟩) ?_ ?_; rotate_left; (· intro w'; go_simp; with_reducible rfl); rotate_left; (· simp only [Act.put, List.setIfInBounds_toArray, List.set_cons_zero, List.set_cons_succ, i64_w, i32_w]; rfl)
                       refine pS_ HT_.out (i := 16) (N := some 208) (v := ?_) (a' := ?_) rfl rfl (by kernel_rfl) (fun _ _ _ h => h) (Or.inl ⟨by rfl, ?_⟩) ?_ ?_; rotate_left; (· intro w'; go_simp; with_reducible rfl); rotate_left; (· simp only [Act.put, List.setIfInBounds_toArray, List.set_cons_zero, List.set_cons_succ, i64_w, i32_w]; rfl)
                       refine pS_ HT_.out (i := 17) (N := some 209) (v := ?_) (a' := ?_) rfl rfl (by kernel_rfl) (fun _ _ _ h => h) (Or.inl ⟨by rfl, ?_⟩) ?_ ?_; rotate_left; (· intro w'; go_simp; with_reducible rfl); rotate_left; (· simp only [Act.put, List.setIfInBounds_toArray, List.set_cons_zero, List.set_cons_succ, i64_w, i32_w]; rfl)
                       refine pS_ HT_.out (i := 18) (N := some 210) (v := undef) (a' := ?_) rfl rfl (by kernel_rfl) (fun _ _ _ h => h) (Or.inr ⟨by rfl, rfl⟩) ?_ ?_; rotate_left; (· simp only [Act.put, List.setIfInBounds_toArray, List.set_cons_zero, List.set_cons_succ, i64_w, i32_w]; rfl)
                       refine pS_ HT_.out (i := 19) (N := some 211) (v := undef) (a' := ?_) rfl rfl (by kernel_rfl) (fun _ _ _ h => h) (Or.inr ⟨by rfl, rfl⟩) ?_ ?_; rotate_left; (· simp only [Act.put, List.setIfInBounds_toArray, List.set_cons_zero, List.set_cons_succ, i64_w, i32_w]; rfl)
                       refine pS_ HT_.out (i := 20) (N := some 212) (v := undef) (a' := ?_) rfl rfl (by kernel_rfl) (fun _ _ _ h => h) (Or.inr ⟨by rfl, rfl⟩) ?_ ?_; rotate_left; (· simp only [Act.put, List.setIfInBounds_toArray, List.set_cons_zero, List.set_cons_succ, i64_w, i32_w]; rfl)
                       refine pS_ HT_.out (i := 21) (N := some 213) (v := ?_) (a' := ?_) rfl rfl (by kernel_rfl) (fun _ _ _ h => h) (Or.inl ⟨by rfl, ?_⟩) ?_ ?_; rotate_left; (· intro w'; go_simp; with_reducible rfl); rotate_left; (· simp only [Act.put, List.setIfInBounds_toArray, List.set_cons_zero, List.set_cons_succ, i64_w, i32_w]; rfl)
                       refine pS_ HT_.out (i := 22) (N := some 214) (v := ?_) (a' := ?_) rfl rfl (by kernel_rfl) (fun _ _ _ h => h) (Or.inl ⟨by rfl, ?_⟩) ?_ ?_; rotate_left; (· intro w'; go_simp; with_reducible rfl); rotate_left; (· simp only [Act.put, List.setIfInBounds_toArray, List.set_cons_zero, List.set_cons_succ, i64_w, i32_w]; rfl)
                       refine pS_ HT_.out (i := 23) (N := some 215) (v := undef) (a' := ?_) rfl rfl (by kernel_rfl) (fun _ _ _ h => h) (Or.inr ⟨by rfl, rfl⟩) ?_ ?_; rotate_left; (· simp only [Act.put, List.setIfInBounds_toArray, List.set_cons_zero, List.set_cons_succ, i64_w, i32_w]; rfl)
                       refine pS_ HT_.out (i := 24) (N := some 216) (v := undef) (a' := ?_) rfl rfl (by kernel_rfl) (fun _ _ _ h => h) (Or.inr ⟨by rfl, rfl⟩) ?_ ?_; rotate_left; (· simp only [Act.put, List.setIfInBounds_toArray, List.set_cons_zero, List.set_cons_succ, i64_w, i32_w]; rfl)
                       refine pS_ HT_.out (i := 25) (N := some 217) (v := undef) (a' := ?_) rfl rfl (by kernel_rfl) (fun _ _ _ h => h) (Or.inr ⟨by rfl, rfl⟩) ?_ ?_; rotate_left; (· simp only [Act.put, List.setIfInBounds_toArray, List.set_cons_zero, List.set_cons_succ, i64_w, i32_w]; rfl)
                       refine pS_ HT_.out (i := 26) (N := some 218) (v := ?_) (a' := ?_) rfl rfl (by kernel_rfl) (fun _ _ _ h => h) (Or.inl ⟨by rfl, ?_⟩) ?_ ?_; rotate_left; (· intro w'; go_simp; with_reducible rfl); rotate_left; (· simp only [Act.put, List.setIfInBounds_toArray, List.set_cons_zero, List.set_cons_succ, i64_w, i32_w]; rfl)
                       refine pS_ HT_.out (i := 27) (N := some 4) (v := ?_) (a' := ?_) rfl rfl (by kernel_rfl) (fun _ _ _ h => h) (Or.inl ⟨by rfl, ?_⟩) ?_ ?_; rotate_left; (· intro w'; go_simp; with_reducible rfl); rotate_left; (· simp only [Act.put, List.setIfInBounds_toArray, List.set_cons_zero, List.set_cons_succ, i64_w, i32_w]; rfl)
                       refine done_ (done_of HT_.out (by kernel_rfl)) ?_
                       try go_wp2
                       go_ret
                       exact ⟨by first | rfl | (simp [errW_none, errW_some] <;> rfl) | (simp only [← hji76]; first | rfl | (simp [errW_none, errW_some] <;> rfl)) | (simp [*, errW_none, errW_some] <;> rfl), by repeat (first | (with_reducible first | exact HB.out | apply below_alloc | apply pw_below_drewN | apply below_drew1 | refine below_set ?_ GE273.out) | exact HB.out)⟩
                     ·rw [if_neg c80] at H
                      exact absurd H (by simp)
                    ·rw [if_neg c79] at H
                     exact absurd H (by simp)
                   ·rw [if_neg c78] at H
                    exact absurd H (by simp)
                  ·rw [if_neg c77] at H
                   exact absurd H (by simp)
                 ·rw [if_neg c75] at H
                  have c75b0 : decide (0 < (t279.length : Int)) = false := decide_eq_false c75
                  have c75b1 : decide (0 < t279.length) = false := decide_eq_false (by omega)
                  clear c75
                  obtain rfl := Option.some.inj H
                  obtain ⟨Ao89, co89, eo89⟩ := Kd.R_slice HO_11.out
                  subst eo89
                  try go_wp2
                  have n0_ := Aside0.mk (Kd.R_drew HO_11.out)
                  have n1_ := Aside0.mk (Kd.S_drew HO_274001.out)
                  have n2_ := Aside0.mk (Kd.R_drew HO_274002.out)
                  have n3_ := Aside0.mk (blk_drew BK273.out)
                  have n4_ := Aside0.mk (below_drew1 HB.out)
                  clear HO_11
                  clear HO_274001
                  clear HO_274002
                  clear BK273
                  clear HB
                  have HO_11 := n0_
                  have HO_274001 := n1_
                  have HO_274002 := n2_
                  have BK273 := n3_
                  have HB := n4_
                  clear n0_ n1_ n2_ n3_ n4_
                  refine start_ (n := 28) (S := fun w' => True) (ds := []) #[false, false, false, false, false, false, false, false, false, false, false, false, false, false, false, false, false, false, false, false, false, false, false, false, false, false, false, false] (by kernel_rfl) rfl rfl trivial (fun hHeld => ?_); refine with_tabW laws_FnPathDelays.tab35 laws_FnPathDelays.bits35 (fun HT_ HW_ => ?_)
                  generalize wr.drew = w90 at HO_11 HO_274001 HO_274002 BK273 HB hHeld ⊢
                  refine pS_ HT_.out (i := 0) (N := some 192) (v := ?_) (a' := ?_) rfl rfl (by kernel_rfl) (fun _ _ _ h => h) (Or.inl ⟨by rfl, ?_⟩) ?_ ?_; rotate_left; (· intro w'; go_simp; with_reducible rfl); rotate_left; (· simp only [Act.put, List.setIfInBounds_toArray, List.set_cons_zero, List.set_cons_succ, i64_w, i32_w]; rfl)
                  refine pS_ HT_.out (i := 1) (N := some 193) (v := ?_) (a' := ?_) rfl rfl (by kernel_rfl) (fun _ _ _ h => h) (Or.inl ⟨by rfl, ?_⟩) ?_ ?_; rotate_left; (· intro w'; go_simp; with_reducible rfl); rotate_left; (· simp only [Act.put, List.setIfInBounds_toArray, List.set_cons_zero, List.set_cons_succ, i64_w, i32_w]; rfl)
                  refine pS_ HT_.out (i := 2) (N := some 194) (v := ?_) (a' := ?_) rfl rfl (by kernel_rfl) (fun _ _ _ h => h) (Or.inl ⟨by rfl, ?_⟩) ?_ ?_; rotate_left; (· intro w'; go_simp; with_reducible rfl); rotate_left; (· simp only [Act.put, List.setIfInBounds_toArray, List.set_cons_zero, List.set_cons_succ, i64_w, i32_w]; rfl)
                  refine pS_ HT_.out (i := 3) (N := some 195) (v := ?_) (a' := ?_) rfl rfl (by kernel_rfl) (fun _ _ _ h => h) (Or.inl ⟨by rfl, ?_⟩) ?_ ?_; rotate_left; (· intro w'; go_simp; with_reducible rfl); rotate_left; (· simp only [Act.put, List.setIfInBounds_toArray, List.set_cons_zero, List.set_cons_succ, i64_w, i32_w]; rfl)
                  refine pS_ HT_.out (i := 4) (N := some 196) (v := undef) (a' := ?_) rfl rfl (by kernel_rfl) (fun _ _ _ h => h) (Or.inr ⟨by rfl, rfl⟩) ?_ ?_; rotate_left; (· simp only [Act.put, List.setIfInBounds_toArray, List.set_cons_zero, List.set_cons_succ, i64_w, i32_w]; rfl)
                  refine pS_ HT_.out (i := 5) (N := some 197) (v := undef) (a' := ?_) rfl rfl (by kernel_rfl) (fun _ _ _ h => h) (Or.inr ⟨by rfl, rfl⟩) ?_ ?_; rotate_left; (· simp only [Act.put, List.setIfInBounds_toArray, List.set_cons_zero, List.set_cons_succ, i64_w, i32_w]; rfl)
                  refine pS_ HT_.out (i := 6) (N := some 198) (v := undef) (a' := ?_) rfl rfl (by kernel_rfl) (fun _ _ _ h => h) (Or.inr ⟨by rfl, rfl⟩) ?_ ?_; rotate_left; (· simp only [Act.put, List.setIfInBounds_toArray, List.set_cons_zero, List.set_cons_succ, i64_w, i32_w]; rfl)
                  refine pS_ HT_.out (i := 7) (N := some 199) (v := undef) (a' := ?_) rfl rfl (by kernel_rfl) (fun _ _ _ h => h) (Or.inr ⟨by rfl, rfl⟩) ?_ ?_; rotate_left; (· simp only [Act.put, List.setIfInBounds_toArray, List.set_cons_zero, List.set_cons_succ, i64_w, i32_w]; rfl)
                  refine pS_ HT_.out (i := 8) (N := some 200) (v := undef) (a' := ?_) rfl rfl (by kernel_rfl) (fun _ _ _ h => h) (Or.inr ⟨by rfl, rfl⟩) ?_ ?_; rotate_left; (· simp only [Act.put, List.setIfInBounds_toArray, List.set_cons_zero, List.set_cons_succ, i64_w, i32_w]; rfl)
                  refine pS_ HT_.out (i := 9) (N := some 201) (v := undef) (a' := ?_) rfl rfl (by kernel_rfl) (fun _ _ _ h => h) (Or.inr ⟨by rfl, rfl⟩) ?_ ?_; rotate_left; (· simp only [Act.put, List.setIfInBounds_toArray, List.set_cons_zero, List.set_cons_succ, i64_w, i32_w]; rfl)
                  refine pS_ HT_.out (i := 10) (N := some 202) (v := undef) (a' := ?_) rfl rfl (by kernel_rfl) (fun _ _ _ h => h) (Or.inr ⟨by rfl, rfl⟩) ?_ ?_; rotate_left; (· simp only [Act.put, List.setIfInBounds_toArray, List.set_cons_zero, List.set_cons_succ, i64_w, i32_w]; rfl)
                  refine pS_ HT_.out (i := 11) (N := some 203) (v := undef) (a' := ?_) rfl rfl (by kernel_rfl) (fun _ _ _ h => h) (Or.inr ⟨by rfl, rfl⟩) ?_ ?_; rotate_left; (· simp only [Act.put, List.setIfInBounds_toArray, List.set_cons_zero, List.set_cons_succ, i64_w, i32_w]; rfl)
                  refine pS_ HT_.out (i := 12) (N := some 204) (v := undef) (a' := ?_) rfl rfl (by kernel_rfl) (fun _ _ _ h => h) (Or.inr ⟨by rfl, rfl⟩) ?_ ?_; rotate_left; (· simp only [Act.put, List.setIfInBounds_toArray, List.set_cons_zero, List.set_cons_succ, i64_w, i32_w]; rfl)
                  refine pS_ HT_.out (i := 13) (N := some 205) (v := undef) (a' := ?_) rfl rfl (by kernel_rfl) (fun _ _ _ h => h) (Or.inr ⟨by rfl, rfl⟩) ?_ ?_; rotate_left; (· simp only [Act.put, List.setIfInBounds_toArray, List.set_cons_zero, List.set_cons_succ, i64_w, i32_w]; rfl)
                  refine pS_ HT_.out (i := 14) (N := some 206) (v := undef) (a' := ?_) rfl rfl (by kernel_rfl) (fun _ _ _ h => h) (Or.inr ⟨by rfl, rfl⟩) ?_ ?_; rotate_left; (· simp only [Act.put, List.setIfInBounds_toArray, List.set_cons_zero, List.set_cons_succ, i64_w, i32_w]; rfl)
                  refine pS_ HT_.out (i := 15) (N := some 207) (v := undef) (a' := ?_) rfl rfl (by kernel_rfl) (fun _ _ _ h => h) (Or.inr ⟨by rfl, rfl⟩) ?_ ?_; rotate_left; (· simp only [Act.put, List.setIfInBounds_toArray, List.set_cons_zero, List.set_cons_succ, i64_w, i32_w]; rfl)
                  refine pS_ HT_.out (i := 16) (N := some 208) (v := ?_) (a' := ?_) rfl rfl (by kernel_rfl) (fun _ _ _ h => h) (Or.inl ⟨by rfl, ?_⟩) ?_ ?_; rotate_left; (· intro w'; go_simp; with_reducible rfl); rotate_left; (· simp only [Act.put, List.setIfInBounds_toArray, List.set_cons_zero, List.set_cons_succ, i64_w, i32_w]; rfl)
                  refine pS_ HT_.out (i := 17) (N := some 209) (v := ?_) (a' := ?_) rfl rfl (by kernel_rfl) (fun _ _ _ h => h) (Or.inl ⟨by rfl, ?_⟩) ?_ ?_; rotate_left; (· intro w'; go_simp; with_reducible rfl); rotate_left; (· simp only [Act.put, List.setIfInBounds_toArray, List.set_cons_zero, List.set_cons_succ, i64_w, i32_w]; rfl)
                  refine pS_ HT_.out (i := 18) (N := some 210) (v := undef) (a' := ?_) rfl rfl (by kernel_rfl) (fun _ _ _ h => h) (Or.inr ⟨by rfl, rfl⟩) ?_ ?_; rotate_left; (· simp only [Act.put, List.setIfInBounds_toArray, List.set_cons_zero, List.set_cons_succ, i64_w, i32_w]; rfl)
                  refine pS_ HT_.out (i := 19) (N := some 211) (v := undef) (a' := ?_) rfl rfl (by kernel_rfl) (fun _ _ _ h => h) (Or.inr ⟨by rfl, rfl⟩) ?_ ?_; rotate_left; (· simp only [Act.put, List.setIfInBounds_toArray, List.set_cons_zero, List.set_cons_succ, i64_w, i32_w]; rfl)
                  refine pS_ HT_.out (i := 20) (N := some 212) (v := undef) (a' := ?_) rfl rfl (by kernel_rfl) (fun _ _ _ h => h) (Or.inr ⟨by rfl, rfl⟩) ?_ ?_; rotate_left; (· simp only [Act.put, List.setIfInBounds_toArray, List.set_cons_zero, List.set_cons_succ, i64_w, i32_w]; rfl)
                  refine pS_ HT_.out (i := 21) (N := some 213) (v := ?_) (a' := ?_) rfl rfl (by kernel_rfl) (fun _ _ _ h => h) (Or.inl ⟨by rfl, ?_⟩) ?_ ?_; rotate_left; (· intro w'; go_simp; with_reducible rfl); rotate_left; (· simp only [Act.put, List.setIfInBounds_toArray, List.set_cons_zero, List.set_cons_succ, i64_w, i32_w]; rfl)
                  refine pS_ HT_.out (i := 22) (N := some 214) (v := ?_) (a' := ?_) rfl rfl (by kernel_rfl) (fun _ _ _ h => h) (Or.inl ⟨by rfl, ?_⟩) ?_ ?_; rotate_left; (· intro w'; go_simp; with_reducible rfl); rotate_left; (· simp only [Act.put, List.setIfInBounds_toArray, List.set_cons_zero, List.set_cons_succ, i64_w, i32_w]; rfl)
                  refine pS_ HT_.out (i := 23) (N := some 215) (v := undef) (a' := ?_) rfl rfl (by kernel_rfl) (fun _ _ _ h => h) (Or.inr ⟨by rfl, rfl⟩) ?_ ?_; rotate_left; (· simp only [Act.put, List.setIfInBounds_toArray, List.set_cons_zero, List.set_cons_succ, i64_w, i32_w]; rfl)
                  refine pS_ HT_.out (i := 24) (N := some 216) (v := undef) (a' := ?_) rfl rfl (by kernel_rfl) (fun _ _ _ h => h) (Or.inr ⟨by rfl, rfl⟩) ?_ ?_; rotate_left; (· simp only [Act.put, List.setIfInBounds_toArray, List.set_cons_zero, List.set_cons_succ, i64_w, i32_w]; rfl)
                  refine pS_ HT_.out (i := 25) (N := some 217) (v := undef) (a' := ?_) rfl rfl (by kernel_rfl) (fun _ _ _ h => h) (Or.inr ⟨by rfl, rfl⟩) ?_ ?_; rotate_left; (· simp only [Act.put, List.setIfInBounds_toArray, List.set_cons_zero, List.set_cons_succ, i64_w, i32_w]; rfl)
                  refine pS_ HT_.out (i := 26) (N := some 218) (v := ?_) (a' := ?_) rfl rfl (by kernel_rfl) (fun _ _ _ h => h) (Or.inl ⟨by rfl, ?_⟩) ?_ ?_; rotate_left; (· intro w'; go_simp; with_reducible rfl); rotate_left; (· simp only [Act.put, List.setIfInBounds_toArray, List.set_cons_zero, List.set_cons_succ, i64_w, i32_w]; rfl)
                  refine pS_ HT_.out (i := 27) (N := some 4) (v := ?_) (a' := ?_) rfl rfl (by kernel_rfl) (fun _ _ _ h => h) (Or.inl ⟨by rfl, ?_⟩) ?_ ?_; rotate_left; (· intro w'; go_simp; with_reducible rfl); rotate_left; (· simp only [Act.put, List.setIfInBounds_toArray, List.set_cons_zero, List.set_cons_succ, i64_w, i32_w]; rfl)
                  refine done_ (done_of HT_.out (by kernel_rfl)) ?_
                  try go_wp2
                  go_ret
                  exact ⟨by first | rfl | (simp [errW_none, errW_some] <;> rfl) | (simp [*, errW_none, errW_some] <;> rfl), by repeat (first | (with_reducible first | exact HB.out | apply below_alloc | apply pw_below_drewN | apply below_drew1 | refine below_set ?_ GE273.out) | exact HB.out)⟩
             ·replace c47 := Bool.eq_false_iff.mpr c47
              subst c47
              have H1 : (some true) = some r := by rw [if_neg (show ¬ (false = true) by decide)] at H; exact H
              clear H
              have H := H1
              clear H1
              obtain rfl := Option.some.inj H
              go_wp2
              go_ret
              exact ⟨by first | rfl | (simp [errW_none, errW_some] <;> rfl) | (simp [*, errW_none, errW_some] <;> rfl), by repeat (first | (with_reducible first | exact HB.out | apply below_alloc | apply pw_below_drewN | apply below_drew1 | refine below_set ?_ GE273.out) | exact HB.out)⟩
      ·rw [if_neg c25] at H
       exact absurd H (by simp)
     ·rw [if_neg c24] at H
      exact absurd H (by simp)

/-- THE ONE PURE STATEMENT of laws_FnPathDelays: yours. -/
def laws_FnPathDelays.Pure : Prop := ∀ (l0 : List Int) (l1 : List Int), l0.length ≤ maxLen → l0.length * 1 ≤ 140737488351232 → (∀ x ∈ l0, (Lit.int .u8 x).wf = true) → l1.length ≤ maxLen → l1.length * 1 ≤ 140737488351232 → (∀ x ∈ l1, (Lit.int .u8 x).wf = true) → ∃ k, laws_FnPathDelays.f k l0 l1 = some true
theorem laws_FnPathDelays.walk (P : laws_FnPathDelays.Pure) (a0 : Option Addr) (len0 cap0 : Nat) (z0 : List Int) (a1 : Option Addr) (len1 cap1 : Nat) (z1 : List Int) (w : World) (w0 : (a0 = none ∧ len0 = 0 ∧ cap0 = 0 ∧ z0 = []) ∨ ∃ x, a0 = some x ∧ len0 ≤ cap0 ∧ cap0 ≤ maxLen ∧ z0.length = cap0 ∧ (∀ i, i < z0.length → w.cell? (x.add i) = some (.int .u8 (z0.getD i 0))) ∧ ∀ n ∈ z0, (Lit.int .u8 n).wf = true) (y0 : len0 * 1 ≤ 140737488351232) (w1 : (a1 = none ∧ len1 = 0 ∧ cap1 = 0 ∧ z1 = []) ∨ ∃ x, a1 = some x ∧ len1 ≤ cap1 ∧ cap1 ≤ maxLen ∧ z1.length = cap1 ∧ (∀ i, i < z1.length → w.cell? (x.add i) = some (.int .u8 (z1.getD i 0))) ∧ ∀ n ∈ z1, (Lit.int .u8 n).wf = true) (y1 : len1 * 1 ≤ 140737488351232) :
  Calls Try.prog 3 #[.slice a0 len0 cap0, .slice a1 len1 cap1] w fun e w' => e = .returned (.bool true) ∧ Below w.heap.size w w' := by
 obtain ⟨l0, rfl, hr0, hm0, hw0, hc0⟩ := ReadsInt.ofRowC w0
 obtain ⟨l1, rfl, hr1, hm1, hw1, hc1⟩ := ReadsInt.ofRowC w1
 obtain ⟨k, h⟩ := P l0 l1 hm0 y0 hw0 hm1 y1 hw1
 refine (laws_FnPathDelays.calls k _ _ l0 _ _ l1 true w (Kd.C_of_reads (d := (0 : Int)) (h1 := fun _ => rfl) hr0) hc0 (Kd.C_of_reads (d := (0 : Int)) (h1 := fun _ => rfl) hr1) hc1 h).mono ?_
 rintro e w' ⟨rfl, hd⟩
 exact ⟨rfl, hd⟩

end Go.Proofs.Ytbkofbcmhddbfaa.Pa
