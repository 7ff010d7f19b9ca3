-- Written for this claim by a program of this session.
import Derived.Test.YtahjcmmgdcedpaaXPax0
import Derived.Test.YtahjcmmgdcedpaaXCoreP1
namespace Go.Proofs.Ytahjcmmgdcedpaa.Pa
open Go.RowKit Go.Proofs.YtahjcmmgdcedpaaW.PrintWords Go.Proofs.YtahjcmmgdcedpaaW.PrintLast Go.Proofs.YtahjcmmgdcedpaaW.PrintMore
attribute [local go_sem] max2_int min2_int max_two min_two max_three min_three max_four min_four   -- for this text's walks alone
set_option linter.unusedVariables false
set_option linter.unusedSimpArgs false

/-! ### spec_l06DrawOk: function 47 -/
mutual
def spec_l06DrawOk.j0 : Nat → Int → List Int → Int → Int → Int → List (S56) → List Int → Int → Int → Int → Int → Option (Int × (List (S56)) × List Int × Int × Int × Int × Int × Int × Int)
 | 0, _, _, _, _, _, _, _, _, _, _, _ => none
 | k + 1, x4, x1000, x1001, x1002, x342000, x342001, x342002, x342003, x342004, x342005, x342006 => spec_l06DrawOk.l0 k x4 0 x1000 x1001 x1002 x342000 x342001 x342002 x342003 x342004 x342005 x342006
def spec_l06DrawOk.l0 : Nat → Int → Int → List Int → Int → Int → Int → List (S56) → List Int → Int → Int → Int → Int → Option (Int × (List (S56)) × List Int × Int × Int × Int × Int × Int × Int)
 | 0, _, _, _, _, _, _, _, _, _, _, _, _ => none
 | k + 1, x4, x5, x1000, x1001, x1002, x342000, x342001, x342002, x342003, x342004, x342005, x342006 => if x5 < x4 then ((spec_l00Src_pick.f x1000 x1001 x1002 5).bind fun bt348 => ((spec_l00Src_pick.f x1000 bt348.2.1 bt348.2.2 6).bind fun bt355 => (spec_l06DrawOk.l1 k x4 x5 0 x1000 bt355.2.1 bt355.2.2 x342000 x342001 x342002 x342003 x342004 x342005 x342006 bt348.1 (wrap64 (bt348.1 + bt355.1)) (([] : List Int))))) else (spec_l06DrawOk.l2 k x4 0 x1000 x1001 x1002 x342000 x342001 x342002 x342003 x342004 x342005 x342006)
def spec_l06DrawOk.l1 : Nat → Int → Int → Int → List Int → Int → Int → Int → List (S56) → List Int → Int → Int → Int → Int → Int → Int → List Int → Option (Int × (List (S56)) × List Int × Int × Int × Int × Int × Int × Int)
 | 0, _, _, _, _, _, _, _, _, _, _, _, _, _, _, _, _ => none
 | k + 1, x4, x5, x7, x1000, x1001, x1002, x342000, x342001, x342002, x342003, x342004, x342005, x342006, x355000, x355001, x355002 => if x7 < (wrap64 (x342000 + x5)) then ((spec_l00Src_one.f x1000 x1001 x1002 3).bind fun bt358 => (if bt358.1 = true then (if x355002.length < 17592186044416 then (spec_l06DrawOk.l1 k x4 x5 (wrap64 (x7 + 1)) x1000 bt358.2.1 bt358.2.2 x342000 x342001 x342002 x342003 x342004 x342005 x342006 x355000 x355001 (x355002 ++ [x7])) else (none)) else (spec_l06DrawOk.l1 k x4 x5 (wrap64 (x7 + 1)) x1000 bt358.2.1 bt358.2.2 x342000 x342001 x342002 x342003 x342004 x342005 x342006 x355000 x355001 x355002))) else (if (x355002.length : Int) = 0 then ((spec_l00Src_pick.f x1000 x1001 x1002 (wrap64 (x342000 + x5))).bind fun bt364 => (if x355002.length < 17592186044416 then (if x342001.length < 3518437208883 then (spec_l06DrawOk.l0 k x4 (wrap64 (x5 + 1)) x1000 bt364.2.1 bt364.2.2 x342000 (x342001 ++ [(⟨x355000, x355001, (x355002 ++ [bt364.1])⟩ : S56)]) x342002 x342003 x342004 x342005 x342006) else (none)) else (none))) else (if x342001.length < 3518437208883 then (spec_l06DrawOk.l0 k x4 (wrap64 (x5 + 1)) x1000 x1001 x1002 x342000 (x342001 ++ [(⟨x355000, x355001, x355002⟩ : S56)]) x342002 x342003 x342004 x342005 x342006) else (none)))
def spec_l06DrawOk.l2 : Nat → Int → Int → List Int → Int → Int → Int → List (S56) → List Int → Int → Int → Int → Int → Option (Int × (List (S56)) × List Int × Int × Int × Int × Int × Int × Int)
 | 0, _, _, _, _, _, _, _, _, _, _, _, _ => none
 | k + 1, x4, x8, x1000, x1001, x1002, x342000, x342001, x342002, x342003, x342004, x342005, x342006 => if x8 < x342000 then ((spec_l00Src_pick.f x1000 x1001 x1002 (wrap64 (x342000 + x4))).bind fun bt376 => (if x342002.length < 17592186044416 then (spec_l06DrawOk.l2 k x4 (wrap64 (x8 + 1)) x1000 bt376.2.1 bt376.2.2 x342000 x342001 (x342002 ++ [bt376.1]) x342003 x342004 x342005 x342006) else (none))) else ((spec_l00Src_pick.f x1000 x1001 x1002 4).bind fun bt382 => ((spec_l00Src_pick.f x1000 bt382.2.1 bt382.2.2 4).bind fun bt385 => ((spec_l00Src_pick.f x1000 bt385.2.1 bt385.2.2 4).bind fun bt388 => ((spec_l00Src_pick.f x1000 bt388.2.1 bt388.2.2 4).bind fun bt391 => (some (x342000, x342001, x342002, bt382.1, bt385.1, bt388.1, wrap64 (bt388.1 + bt391.1), bt391.2.1, bt391.2.2))))))
end
def spec_l06DrawOk.f (k : Nat) (s0_0 : List Int) (s0_1 : Int) (s0_2 : Int) : Option (Int × (List (S56)) × List Int × Int × Int × Int × Int × Int × Int) := (spec_l00Src_pick.f s0_0 s0_1 s0_2 4).bind fun bt332 => ((some (([] : List (S56)) : List (S56))).bind fun y335 => ((some (([] : List Int) : List Int)).bind fun y338 => ((spec_l00Src_pick.f s0_0 bt332.2.1 bt332.2.2 7).bind fun bt342 => ((spec_l00Src_one.f s0_0 bt342.2.1 bt342.2.2 20).bind fun bt345 => (if bt345.1 = true then (spec_l06DrawOk.j0 k 10 s0_0 bt345.2.1 bt345.2.2 (wrap64 (1 + bt332.1)) y335 y338 0 0 0 0) else (spec_l06DrawOk.j0 k bt342.1 s0_0 bt345.2.1 bt345.2.2 (wrap64 (1 + bt332.1)) y335 y338 0 0 0 0))))))
theorem spec_l06DrawOk.mono_l : ∀ k, (∀ y0 y1 y2 y3 y4 y5 y6 y7 y8 y9 y10, LeO (spec_l06DrawOk.j0 k y0 y1 y2 y3 y4 y5 y6 y7 y8 y9 y10) (spec_l06DrawOk.j0 (k + 1) y0 y1 y2 y3 y4 y5 y6 y7 y8 y9 y10)) ∧ (∀ y0 y1 y2 y3 y4 y5 y6 y7 y8 y9 y10 y11, LeO (spec_l06DrawOk.l0 k y0 y1 y2 y3 y4 y5 y6 y7 y8 y9 y10 y11) (spec_l06DrawOk.l0 (k + 1) y0 y1 y2 y3 y4 y5 y6 y7 y8 y9 y10 y11)) ∧ (∀ y0 y1 y2 y3 y4 y5 y6 y7 y8 y9 y10 y11 y12 y13 y14 y15, LeO (spec_l06DrawOk.l1 k y0 y1 y2 y3 y4 y5 y6 y7 y8 y9 y10 y11 y12 y13 y14 y15) (spec_l06DrawOk.l1 (k + 1) y0 y1 y2 y3 y4 y5 y6 y7 y8 y9 y10 y11 y12 y13 y14 y15)) ∧ (∀ y0 y1 y2 y3 y4 y5 y6 y7 y8 y9 y10 y11, LeO (spec_l06DrawOk.l2 k y0 y1 y2 y3 y4 y5 y6 y7 y8 y9 y10 y11) (spec_l06DrawOk.l2 (k + 1) y0 y1 y2 y3 y4 y5 y6 y7 y8 y9 y10 y11))
 | 0 => ⟨fun _ _ _ _ _ _ _ _ _ _ _ r h => by simp [spec_l06DrawOk.j0] at h, fun _ _ _ _ _ _ _ _ _ _ _ _ r h => by simp [spec_l06DrawOk.l0] at h, fun _ _ _ _ _ _ _ _ _ _ _ _ _ _ _ _ r h => by simp [spec_l06DrawOk.l1] at h, fun _ _ _ _ _ _ _ _ _ _ _ _ r h => by simp [spec_l06DrawOk.l2] at h⟩
 | k + 1 => by
  obtain ⟨ih0, ih1, ih2, ih3⟩ := spec_l06DrawOk.mono_l k
  refine ⟨?_, ?_, ?_, ?_⟩
  ·intro y0 y1 y2 y3 y4 y5 y6 y7 y8 y9 y10
   unfold spec_l06DrawOk.j0
   repeat' first
   | (with_reducible exact ih0 _ _ _ _ _ _ _ _ _ _ _)
   | (with_reducible exact ih1 _ _ _ _ _ _ _ _ _ _ _ _)
   | (with_reducible exact ih2 _ _ _ _ _ _ _ _ _ _ _ _ _ _ _ _)
   | (with_reducible exact ih3 _ _ _ _ _ _ _ _ _ _ _ _)
   | (with_reducible exact LeO.refl _)
   | (with_reducible exact LeO.none _)
   | (with_reducible refine LeO.ite ?_ ?_)
   | (with_reducible refine LeO.bind ?_ (fun _ => ?_))
   | exact ih0 _ _ _ _ _ _ _ _ _ _ _
   | exact ih1 _ _ _ _ _ _ _ _ _ _ _ _
   | exact ih2 _ _ _ _ _ _ _ _ _ _ _ _ _ _ _ _
   | exact ih3 _ _ _ _ _ _ _ _ _ _ _ _
   | exact LeO.none _
   | refine LeO.ite ?_ ?_
   | refine LeO.bind ?_ (fun _ => ?_)
  ·intro y0 y1 y2 y3 y4 y5 y6 y7 y8 y9 y10 y11
   unfold spec_l06DrawOk.l0
   repeat' first
   | (with_reducible exact ih0 _ _ _ _ _ _ _ _ _ _ _)
   | (with_reducible exact ih1 _ _ _ _ _ _ _ _ _ _ _ _)
   | (with_reducible exact ih2 _ _ _ _ _ _ _ _ _ _ _ _ _ _ _ _)
   | (with_reducible exact ih3 _ _ _ _ _ _ _ _ _ _ _ _)
   | (with_reducible exact LeO.refl _)
   | (with_reducible exact LeO.none _)
   | (with_reducible refine LeO.ite ?_ ?_)
   | (with_reducible refine LeO.bind ?_ (fun _ => ?_))
   | exact ih0 _ _ _ _ _ _ _ _ _ _ _
   | exact ih1 _ _ _ _ _ _ _ _ _ _ _ _
   | exact ih2 _ _ _ _ _ _ _ _ _ _ _ _ _ _ _ _
   | exact ih3 _ _ _ _ _ _ _ _ _ _ _ _
   | exact LeO.none _
   | refine LeO.ite ?_ ?_
   | refine LeO.bind ?_ (fun _ => ?_)
  ·intro y0 y1 y2 y3 y4 y5 y6 y7 y8 y9 y10 y11 y12 y13 y14 y15
   unfold spec_l06DrawOk.l1
   repeat' first
   | (with_reducible exact ih0 _ _ _ _ _ _ _ _ _ _ _)
   | (with_reducible exact ih1 _ _ _ _ _ _ _ _ _ _ _ _)
   | (with_reducible exact ih2 _ _ _ _ _ _ _ _ _ _ _ _ _ _ _ _)
   | (with_reducible exact ih3 _ _ _ _ _ _ _ _ _ _ _ _)
   | (with_reducible exact LeO.refl _)
   | (with_reducible exact LeO.none _)
   | (with_reducible refine LeO.ite ?_ ?_)
   | (with_reducible refine LeO.bind ?_ (fun _ => ?_))
   | exact ih0 _ _ _ _ _ _ _ _ _ _ _
   | exact ih1 _ _ _ _ _ _ _ _ _ _ _ _
   | exact ih2 _ _ _ _ _ _ _ _ _ _ _ _ _ _ _ _
   | exact ih3 _ _ _ _ _ _ _ _ _ _ _ _
   | exact LeO.none _
   | refine LeO.ite ?_ ?_
   | refine LeO.bind ?_ (fun _ => ?_)
  ·intro y0 y1 y2 y3 y4 y5 y6 y7 y8 y9 y10 y11
   unfold spec_l06DrawOk.l2
   repeat' first
   | (with_reducible exact ih0 _ _ _ _ _ _ _ _ _ _ _)
   | (with_reducible exact ih1 _ _ _ _ _ _ _ _ _ _ _ _)
   | (with_reducible exact ih2 _ _ _ _ _ _ _ _ _ _ _ _ _ _ _ _)
   | (with_reducible exact ih3 _ _ _ _ _ _ _ _ _ _ _ _)
   | (with_reducible exact LeO.refl _)
   | (with_reducible exact LeO.none _)
   | (with_reducible refine LeO.ite ?_ ?_)
   | (with_reducible refine LeO.bind ?_ (fun _ => ?_))
   | exact ih0 _ _ _ _ _ _ _ _ _ _ _
   | exact ih1 _ _ _ _ _ _ _ _ _ _ _ _
   | exact ih2 _ _ _ _ _ _ _ _ _ _ _ _ _ _ _ _
   | exact ih3 _ _ _ _ _ _ _ _ _ _ _ _
   | exact LeO.none _
   | refine LeO.ite ?_ ?_
   | refine LeO.bind ?_ (fun _ => ?_)
theorem spec_l06DrawOk.mono : ∀ a0 a1 a2 k, LeO (spec_l06DrawOk.f k a0 a1 a2) (spec_l06DrawOk.f (k + 1) a0 a1 a2) := by
 intro a0 a1 a2 k
 obtain ⟨ih0, ih1, ih2, ih3⟩ := spec_l06DrawOk.mono_l k
 unfold spec_l06DrawOk.f
 repeat' first
   | (with_reducible exact ih0 _ _ _ _ _ _ _ _ _ _ _)
   | (with_reducible exact ih1 _ _ _ _ _ _ _ _ _ _ _ _)
   | (with_reducible exact ih2 _ _ _ _ _ _ _ _ _ _ _ _ _ _ _ _)
   | (with_reducible exact ih3 _ _ _ _ _ _ _ _ _ _ _ _)
   | (with_reducible exact LeO.refl _)
   | (with_reducible exact LeO.none _)
   | (with_reducible refine LeO.ite ?_ ?_)
   | (with_reducible refine LeO.bind ?_ (fun _ => ?_))
   | exact ih0 _ _ _ _ _ _ _ _ _ _ _
   | exact ih1 _ _ _ _ _ _ _ _ _ _ _ _
   | exact ih2 _ _ _ _ _ _ _ _ _ _ _ _ _ _ _ _
   | exact ih3 _ _ _ _ _ _ _ _ _ _ _ _
   | exact LeO.none _
   | refine LeO.ite ?_ ?_
   | refine LeO.bind ?_ (fun _ => ?_)
def spec_l06DrawOk.T16 : Bool × List (List Nat × List Nat) := (true, [([], []), ([0], [0]), ([], []), ([], []), ([3], [3]), ([], []), ([4, 5], [4, 5]), ([2, 6], [2, 6]), ([7], [7]), ([1, 8, 7], [1, 8]), ([0, 1, 2, 3, 4, 5, 6, 7, 8, 9], []), ([10, 9, 9, 0, 1, 2, 3, 4, 5, 6, 7, 8, 9], [9, 10])])
def spec_l06DrawOk.B16 : List Nat := [0, 1, 0, 0, 8, 0, 56, 124, 252, 511, 1023, 2047]
theorem spec_l06DrawOk.tab16 : rtab .any (opsOf Try.f47 16) = spec_l06DrawOk.T16 := by kernel_rfl
theorem spec_l06DrawOk.bits16 : waitsOk spec_l06DrawOk.T16.2 spec_l06DrawOk.B16 = true := by kernel_rfl
def spec_l06DrawOk.T21 : Bool × List (List Nat × List Nat) := (true, [([], []), ([0], [0]), ([], []), ([], []), ([3], [3]), ([], []), ([4, 5], [4, 5]), ([2, 6], [2, 6]), ([7], [7]), ([1, 8, 7], [1, 8]), ([0, 1, 2, 3, 4, 5, 6, 7, 8, 9], []), ([10, 9, 9, 0, 1, 2, 3, 4, 5, 6, 7, 8, 9], [9, 10])])
def spec_l06DrawOk.B21 : List Nat := [0, 1, 0, 0, 8, 0, 56, 124, 252, 511, 1023, 2047]
theorem spec_l06DrawOk.tab21 : rtab .any (opsOf Try.f47 21) = spec_l06DrawOk.T21 := by kernel_rfl
theorem spec_l06DrawOk.bits21 : waitsOk spec_l06DrawOk.T21.2 spec_l06DrawOk.B21 = true := by kernel_rfl
set_option maxHeartbeats 8000000 in
set_option maxRecDepth 100000 in
theorem spec_l06DrawOk.calls (k : Nat) (g : Nat) (s0_0 : List Int) (s0_1 : Int) (s0_2 : Int) (r1 : Int) (r2 : List (S56)) (r3 : List Int) (r4 : Int) (r5 : Int) (r6 : Int) (r7 : Int) (r8 : Int) (r9 : Int) (w0 w : World) (hI : IsS94 w0 w g s0_0 s0_1 s0_2) (hB : Below w0.heap.size w0 w) (h : spec_l06DrawOk.f k s0_0 s0_1 s0_2 = some (r1, r2, r3, r4, r5, r6, r7, r8, r9)) :
  Calls Try.prog 47 #[.pointer (some ⟨g, 0, none⟩)] w fun e w' => ∃ v1_ v2_ : Value, e = .returned (.agg #[.int .i64 r1, v1_, v2_, .int .i64 r4, .int .i64 r5, .int .i64 r6, .int .i64 r7]) ∧ Kd.S k56 56 w' w.heap.size (fun k_ => some k_ ≠ (v2_ : Value).ownBlock) v1_ r2 ∧ Kd.R (Kd.int .i64) 2 w' w.heap.size (fun _ => True) v2_ r3 ∧ IsS94 w0 w' g s0_0 r8 r9 ∧ Below w0.heap.size w0 w' ∧ KeepBut w w' g none := by
 have hu45 := Try.underlying45
 have hu56 := Try.underlying56
 have HI0 := Aside0.mk hI
 have HK := Aside0.mk (KeepBut.refl w g none)
 have HL := Aside0.mk hB.size
 clear hI
 have HW0 := Aside0.mk hB.size
 have HB := Aside0.mk hB
 clear hB
 have H : ((spec_l00Src_pick.f s0_0 s0_1 s0_2 4).bind fun bt332 => ((some (([] : List (S56)) : List (S56))).bind fun y335 => ((some (([] : List Int) : List Int)).bind fun y338 => ((spec_l00Src_pick.f s0_0 bt332.2.1 bt332.2.2 7).bind fun bt342 => ((spec_l00Src_one.f s0_0 bt342.2.1 bt342.2.2 20).bind fun bt345 => (if bt345.1 = true then (spec_l06DrawOk.j0 k 10 s0_0 bt345.2.1 bt345.2.2 (wrap64 (1 + bt332.1)) y335 y338 0 0 0 0) else (spec_l06DrawOk.j0 k bt342.1 s0_0 bt345.2.1 bt345.2.2 (wrap64 (1 + bt332.1)) y335 y338 0 0 0 0))))))) = some (r1, r2, r3, r4, r5, r6, r7, r8, r9) := h
 clear h
 replace H := Option.bind_eq_some_iff.mp H
 obtain ⟨⟨t332, t333, t334⟩, A20, H⟩ := H
 try dsimp only at H
 have A2 := Aside0.mk A20
 clear A20
 obtain ⟨y335, hy335⟩ : ∃ y_ : List (S56), y_ = (([] : List (S56))) := ⟨_, rfl⟩
 (try rw [Option.bind_some] at H); try rw [← hy335] at H
 have Ny335 := Aside0.mk hy335
 clear hy335
 obtain ⟨y338, hy338⟩ : ∃ y_ : List Int, y_ = (([] : List Int)) := ⟨_, rfl⟩
 (try rw [Option.bind_some] at H); try rw [← hy338] at H
 have Ny338 := Aside0.mk hy338
 clear hy338
 replace H := Option.bind_eq_some_iff.mp H
 obtain ⟨⟨t342, t343, t344⟩, A30, H⟩ := H
 try dsimp only at H
 have A3 := Aside0.mk A30
 clear A30
 replace H := Option.bind_eq_some_iff.mp H
 obtain ⟨⟨t345, t346, t347⟩, A40, H⟩ := H
 try dsimp only at H
 have A4 := Aside0.mk A40
 clear A40
 have HC5 := Aside0.mk H
 clear H
 go_enter Try.func47, Try.ntmps47
 go_upto_if 18 with (first | ((with_reducible refine gate_dst (N := 2) rfl ?_); refine box_event ?hg (N := 2) ?hd (cs := #[.int .i64 0, .slice none 0 0, .slice none 0 0, .int .i64 0, .int .i64 0, .int .i64 0, .int .i64 0]) (t := 45) ?hr ?_; (case hd => rfl); (case hg => rfl); (case hr => first | (go_simp; done) | (go_simp; rfl)); intro gb331 hg w6 hbox hb; have n0_ := Aside0.mk (IsS94.below (by with_reducible repeat (first | exact HI0.out | apply IsS94.alloc | apply IsS94.drewN | apply IsS94.drew | apply IsS94.set_1 | apply IsS94.set_2)) hb); have n1_ := Aside0.mk (KeepBut.trans (by with_reducible repeat (first | exact HK.out | apply KeepBut.set_ | apply keep_drewN | apply keep_drew | apply keep_alloc)) (KeepBut.of_below hb g none) (.inl rfl)); have n2_ := Aside0.mk (below_step (by with_reducible repeat (first | exact HB.out | apply below_alloc | apply pw_below_drewN | apply below_drew1 | refine below_set ?_ (IsS94.ge HI0.out))) hb); have n3_ := Aside0.mk (hbox); have n4_ := Aside0.mk ((by rw [hg]; exact (keep_size (w := w) (g := g) (row := none) (by with_reducible repeat (first | exact HK.out | apply KeepBut.set_ | apply keep_drewN | apply keep_drew | apply keep_alloc))) : w.heap.size ≤ gb331)); have n5_ := Aside0.mk ((Nat.le_trans HW0.out (by rw [hg]; exact (keep_size (w := w) (g := g) (row := none) (by with_reducible repeat (first | exact HK.out | apply KeepBut.set_ | apply keep_drewN | apply keep_drew | apply keep_alloc))) : w.heap.size ≤ gb331) : w0.heap.size ≤ gb331)); have n6_ := Aside0.mk ((by rw [hg]; exact Nat.ne_of_lt (IsS94.lt (show IsS94 w0 _ g s0_0 s0_1 s0_2 from by with_reducible repeat (first | exact HI0.out | apply IsS94.alloc | apply IsS94.drewN | apply IsS94.drew | apply IsS94.set_1 | apply IsS94.set_2))) : g ≠ gb331)); have n7_ := Aside0.mk ((by rw [hg]; exact Nat.ne_of_gt (IsS94.lt (show IsS94 w0 _ g s0_0 s0_1 s0_2 from by with_reducible repeat (first | exact HI0.out | apply IsS94.alloc | apply IsS94.drewN | apply IsS94.drew | apply IsS94.set_1 | apply IsS94.set_2))) : gb331 ≠ g)); clear HI0; clear HK; clear HB; have HI0 := n0_; have HK := n1_; have HB := n2_; have BK331 := n3_; have GW331 := n4_; have GE331 := n5_; have NB0_331 := n6_; have NB331_0 := n7_; clear n0_ n1_ n2_ n3_ n4_ n5_ n6_ n7_; clear hb hbox hg) | ((with_reducible refine gate_callee (f := 35) rfl ?_); refine goesL_ (some 10) rfl rfl Try.func35 (by kernel_rfl) rfl #[.pointer (some ⟨g, 0, none⟩), .int .i64 4] rfl (by (try simp only [List.map_toArray, List.map_cons, List.map_nil]); first | done | rfl | (simp only [List.length_drop, List.length_take]; rfl)) ?_; (with_reducible refine (spec_l00Src_pick.calls g s0_0 s0_1 s0_2 4 t332 t333 t334 w0 _ ?side1 ?side2 A2.out).mono ?_); (case side1 => repeat (first | (with_reducible first | exact HI0.out | apply IsS94.alloc | apply IsS94.drewN | apply IsS94.drew | apply IsS94.set_1 | apply IsS94.set_2 | refine IsS94.far ?_ NB0_331.out _) | exact HI0.out)); (case side2 => repeat (first | (with_reducible first | exact HB.out | apply below_alloc | apply pw_below_drewN | apply below_drew1 | refine below_set ?_ (IsS94.ge HI0.out) | refine below_set ?_ GE331.out) | exact HB.out)); rintro e w7 ⟨rfl, hi, hb, hk⟩; refine ⟨_, rfl, ?_⟩; have n0_ := Aside0.mk (KeepBut.blk hk (g' := gb331) (o := .cells #[.int .i64 0, .slice none 0 0, .slice none 0 0, .int .i64 0, .int .i64 0, .int .i64 0, .int .i64 0] 45 (0, 0)) (by (with_reducible repeat (first | refine blk_drewN ?_ _ | refine blk_drew ?_ | refine blk_alloc ?_ _)); exact BK331.out) NB331_0.out (by simp)); have n1_ := Aside0.mk (KeepBut.trans (by with_reducible repeat (first | exact HK.out | apply KeepBut.set_ | apply keep_drewN | apply keep_drew | apply keep_alloc | refine keep_far ?_ GW331.out _)) hk (.inl rfl)); have n2_ := Aside0.mk (hb); have n3_ := Aside0.mk (hi); clear BK331; clear HK; clear HB; clear HI0; have BK331 := n0_; have HK := n1_; have HB := n2_; have HI0 := n3_; clear n0_ n1_ n2_ n3_; (try clear hb); (try clear hb2); (try clear hk); (try clear hi)) | ((with_reducible refine gate_dst (N := 12) rfl ?_); refine Kd.S_lit k56 _ 56 ?hg (N := 12) ?hd (xs := ([] : List (S56))) (inner := []) (ok := fun _ => True) (okp := fun _ => True) ?hr ?hp (fun _ hk => hk) trivial (Below.refl _ _) (Nat.le_refl _) (by simp) ?_; (case hd => rfl); (case hg => rfl); (case hr => first | (go_simp; done) | (go_simp; rfl)); (case hp => exact (Reps.none _ _)); intro v336 w8 ho9 hb hg_ hnew_; clear hg_ hnew_; (first | rw [← Ny335.out] at ho9 | (simp only [Int.reduceToNat] at ho9; rw [← Ny335.out] at ho9)); have n0_ := Aside0.mk (Kd.S_lower ho9 (keep_size (w := w) (g := g) (row := none) (by with_reducible repeat (first | exact HK.out | apply KeepBut.set_ | apply keep_drewN | apply keep_drew | apply keep_alloc | refine keep_far ?_ GW331.out _)))); have n1_ := Aside0.mk (IsS94.below (by with_reducible repeat (first | exact HI0.out | apply IsS94.alloc | apply IsS94.drewN | apply IsS94.drew | apply IsS94.set_1 | apply IsS94.set_2 | refine IsS94.far ?_ NB0_331.out _)) hb); have n2_ := Aside0.mk (blk_below (g := gb331) (o := .cells #[.int .i64 0, .slice none 0 0, .slice none 0 0, .int .i64 0, .int .i64 0, .int .i64 0, .int .i64 0] 45 (0, 0)) (by (with_reducible repeat (first | refine blk_drewN ?_ _ | refine blk_drew ?_ | refine blk_alloc ?_ _)); exact BK331.out) hb); have n3_ := Aside0.mk (KeepBut.trans (by with_reducible repeat (first | exact HK.out | apply KeepBut.set_ | apply keep_drewN | apply keep_drew | apply keep_alloc | refine keep_far ?_ GW331.out _)) (KeepBut.of_below hb g none) (.inl rfl)); have n4_ := Aside0.mk (below_step (by with_reducible repeat (first | exact HB.out | apply below_alloc | apply pw_below_drewN | apply below_drew1 | refine below_set ?_ (IsS94.ge HI0.out) | refine below_set ?_ GE331.out)) hb); clear HI0; clear BK331; clear HK; clear HB; have HO337 := n0_; have HI0 := n1_; have BK331 := n2_; have HK := n3_; have HB := n4_; clear n0_ n1_ n2_ n3_ n4_; clear hb ho9) | ((with_reducible refine gate_dst (N := 13) rfl ?_); refine Kd.R_lit (Kd.int .i64) _ 2 ?hg (N := 13) ?hd (xs := ([] : List Int)) (inner := []) (ok := fun _ => True) (okp := fun _ => True) ?hr ?hp (fun _ hk => hk) trivial (Below.refl _ _) (Nat.le_refl _) (by simp) ?_; (case hd => rfl); (case hg => rfl); (case hr => first | (go_simp; done) | (go_simp; rfl)); (case hp => exact (Reps.none _ _)); intro v339 w10 ho11 hb hg_ hnew_; clear hg_ hnew_; (first | rw [← Ny338.out] at ho11 | (simp only [Int.reduceToNat] at ho11; rw [← Ny338.out] at ho11)); have n0_ := Aside0.mk (Kd.S_elder' (by (with_reducible repeat (first | apply Kd.S_alloc | apply Kd.S_drewN | apply Kd.S_drew)); exact HO337.out) (Kd.R_base ho11) hb); have n1_ := Aside0.mk (Kd.R_lower ho11 (keep_size (w := w) (g := g) (row := none) (by with_reducible repeat (first | exact HK.out | apply KeepBut.set_ | apply keep_drewN | apply keep_drew | apply keep_alloc | refine keep_far ?_ GW331.out _)))); have n2_ := Aside0.mk (IsS94.below (by with_reducible repeat (first | exact HI0.out | apply IsS94.alloc | apply IsS94.drewN | apply IsS94.drew | apply IsS94.set_1 | apply IsS94.set_2 | refine IsS94.far ?_ NB0_331.out _)) hb); have n3_ := Aside0.mk (blk_below (g := gb331) (o := .cells #[.int .i64 0, .slice none 0 0, .slice none 0 0, .int .i64 0, .int .i64 0, .int .i64 0, .int .i64 0] 45 (0, 0)) (by (with_reducible repeat (first | refine blk_drewN ?_ _ | refine blk_drew ?_ | refine blk_alloc ?_ _)); exact BK331.out) hb); have n4_ := Aside0.mk (KeepBut.trans (by with_reducible repeat (first | exact HK.out | apply KeepBut.set_ | apply keep_drewN | apply keep_drew | apply keep_alloc | refine keep_far ?_ GW331.out _)) (KeepBut.of_below hb g none) (.inl rfl)); have n5_ := Aside0.mk (below_step (by with_reducible repeat (first | exact HB.out | apply below_alloc | apply pw_below_drewN | apply below_drew1 | refine below_set ?_ (IsS94.ge HI0.out) | refine below_set ?_ GE331.out)) hb); clear HO337; clear HI0; clear BK331; clear HK; clear HB; have HO337 := n0_; have HO340 := n1_; have HI0 := n2_; have BK331 := n3_; have HK := n4_; have HB := n5_; clear n0_ n1_ n2_ n3_ n4_ n5_; clear hb ho11; obtain ⟨Ao12, co12, eo12⟩ := Kd.R_slice HO340.out; subst eo12; obtain ⟨Ao13, co13, eo13⟩ := Kd.S_slice HO337.out; subst eo13) | ((with_reducible refine gate_dst (N := 3) rfl ?_); refine box_event ?hg (N := 3) ?hd (cs := #[.int .i64 0, .slice none 0 0, .slice none 0 0, .int .i64 0, .int .i64 0, .int .i64 0, .int .i64 0]) (t := 45) ?hr ?_; (case hd => rfl); (case hg => rfl); (case hr => first | (go_simp; done) | (go_simp; rfl)); intro gb341 hg w14 hbox hb; have n0_ := Aside0.mk (Kd.S_below (by (with_reducible repeat (first | apply Kd.S_alloc | apply Kd.S_drewN | apply Kd.S_drew)); exact HO337.out) hb); have n1_ := Aside0.mk (Kd.R_below (by (with_reducible repeat (first | apply Kd.R_alloc | apply Kd.R_drewN | apply Kd.R_drew)); exact HO340.out) hb); have n2_ := Aside0.mk (IsS94.below (by with_reducible repeat (first | exact HI0.out | apply IsS94.alloc | apply IsS94.drewN | apply IsS94.drew | apply IsS94.set_1 | apply IsS94.set_2 | refine IsS94.far ?_ NB0_331.out _)) hb); have n3_ := Aside0.mk (blk_below (g := gb331) (o := .cells #[.int .i64 0, .slice none 0 0, .slice none 0 0, .int .i64 0, .int .i64 0, .int .i64 0, .int .i64 0] 45 (0, 0)) (by (with_reducible repeat (first | refine blk_drewN ?_ _ | refine blk_drew ?_ | refine blk_alloc ?_ _)); exact BK331.out) hb); have n4_ := Aside0.mk (KeepBut.trans (by with_reducible repeat (first | exact HK.out | apply KeepBut.set_ | apply keep_drewN | apply keep_drew | apply keep_alloc | refine keep_far ?_ GW331.out _)) (KeepBut.of_below hb g none) (.inl rfl)); have n5_ := Aside0.mk (below_step (by with_reducible repeat (first | exact HB.out | apply below_alloc | apply pw_below_drewN | apply below_drew1 | refine below_set ?_ (IsS94.ge HI0.out) | refine below_set ?_ GE331.out)) hb); have n6_ := Aside0.mk (hbox); have n7_ := Aside0.mk ((by rw [hg]; exact (keep_size (w := w) (g := g) (row := none) (by with_reducible repeat (first | exact HK.out | apply KeepBut.set_ | apply keep_drewN | apply keep_drew | apply keep_alloc | refine keep_far ?_ GW331.out _))) : w.heap.size ≤ gb341)); have n8_ := Aside0.mk ((Nat.le_trans HW0.out (by rw [hg]; exact (keep_size (w := w) (g := g) (row := none) (by with_reducible repeat (first | exact HK.out | apply KeepBut.set_ | apply keep_drewN | apply keep_drew | apply keep_alloc | refine keep_far ?_ GW331.out _))) : w.heap.size ≤ gb341) : w0.heap.size ≤ gb341)); have n9_ := Aside0.mk ((by rw [hg]; exact Nat.ne_of_lt (blk_lt (g := gb331) (o := .cells #[.int .i64 0, .slice none 0 0, .slice none 0 0, .int .i64 0, .int .i64 0, .int .i64 0, .int .i64 0] 45 (0, 0)) (by (with_reducible repeat (first | refine blk_drewN ?_ _ | refine blk_drew ?_ | refine blk_alloc ?_ _)); exact BK331.out)) : gb331 ≠ gb341)); have n10_ := Aside0.mk ((by rw [hg]; exact Nat.ne_of_gt (blk_lt (g := gb331) (o := .cells #[.int .i64 0, .slice none 0 0, .slice none 0 0, .int .i64 0, .int .i64 0, .int .i64 0, .int .i64 0] 45 (0, 0)) (by (with_reducible repeat (first | refine blk_drewN ?_ _ | refine blk_drew ?_ | refine blk_alloc ?_ _)); exact BK331.out)) : gb341 ≠ gb331)); have n11_ := Aside0.mk ((by rw [hg]; exact Nat.ne_of_lt (IsS94.lt (show IsS94 w0 _ g s0_0 t333 t334 from by with_reducible repeat (first | exact HI0.out | apply IsS94.alloc | apply IsS94.drewN | apply IsS94.drew | apply IsS94.set_1 | apply IsS94.set_2 | refine IsS94.far ?_ NB0_331.out _))) : g ≠ gb341)); have n12_ := Aside0.mk ((by rw [hg]; exact Nat.ne_of_gt (IsS94.lt (show IsS94 w0 _ g s0_0 t333 t334 from by with_reducible repeat (first | exact HI0.out | apply IsS94.alloc | apply IsS94.drewN | apply IsS94.drew | apply IsS94.set_1 | apply IsS94.set_2 | refine IsS94.far ?_ NB0_331.out _))) : gb341 ≠ g)); clear HO337; clear HO340; clear HI0; clear BK331; clear HK; clear HB; have HO337 := n0_; have HO340 := n1_; have HI0 := n2_; have BK331 := n3_; have HK := n4_; have HB := n5_; have BK341 := n6_; have GW341 := n7_; have GE341 := n8_; have NB331_341 := n9_; have NB341_331 := n10_; have NB0_341 := n11_; have NB341_0 := n12_; clear n0_ n1_ n2_ n3_ n4_ n5_ n6_ n7_ n8_ n9_ n10_ n11_ n12_; clear hb hbox hg; have hnb15 := NB341_331.out; have hnc15 := NB331_341.out; have hnb16 := NB341_0.out; have hnc16 := NB0_341.out; have hcz17_0 : w14.cell? ⟨gb341, 0, none⟩ = some (.int .i64 0) := (blk_cell BK341.out 0).trans rfl; have hcz17_1 : w14.cell? ⟨gb341, 1, none⟩ = some (.slice none 0 0) := (blk_cell BK341.out 1).trans rfl; have hcz17_2 : w14.cell? ⟨gb341, 2, none⟩ = some (.slice none 0 0) := (blk_cell BK341.out 2).trans rfl; have hcz17_3 : w14.cell? ⟨gb341, 3, none⟩ = some (.int .i64 0) := (blk_cell BK341.out 3).trans rfl; have hcz17_4 : w14.cell? ⟨gb341, 4, none⟩ = some (.int .i64 0) := (blk_cell BK341.out 4).trans rfl; have hcz17_5 : w14.cell? ⟨gb341, 5, none⟩ = some (.int .i64 0) := (blk_cell BK341.out 5).trans rfl; have hcz17_6 : w14.cell? ⟨gb341, 6, none⟩ = some (.int .i64 0) := (blk_cell BK341.out 6).trans rfl; have hfz17_0 := blk_frozen BK341.out 0; have hfz17_1 := blk_frozen BK341.out 1; have hfz17_2 := blk_frozen BK341.out 2; have hfz17_3 := blk_frozen BK341.out 3; have hfz17_4 := blk_frozen BK341.out 4; have hfz17_5 := blk_frozen BK341.out 5; have hfz17_6 := blk_frozen BK341.out 6) | ((with_reducible refine gate_callee (f := 35) rfl ?_); refine goesL_ (some 16) rfl rfl Try.func35 (by kernel_rfl) rfl #[.pointer (some ⟨g, 0, none⟩), .int .i64 7] rfl (by (try simp only [List.map_toArray, List.map_cons, List.map_nil]); first | done | rfl | (simp only [List.length_drop, List.length_take]; rfl)) ?_; (with_reducible refine (spec_l00Src_pick.calls g s0_0 t333 t334 7 t342 t343 t344 w0 _ ?side1 ?side2 A3.out).mono ?_); (case side1 => repeat (first | (with_reducible first | exact HI0.out | apply IsS94.alloc | apply IsS94.drewN | apply IsS94.drew | apply IsS94.set_1 | apply IsS94.set_2 | refine IsS94.far ?_ NB0_331.out _ | refine IsS94.far ?_ NB0_341.out _) | exact HI0.out)); (case side2 => repeat (first | (with_reducible first | exact HB.out | apply below_alloc | apply pw_below_drewN | apply below_drew1 | refine below_set ?_ (IsS94.ge HI0.out) | refine below_set ?_ GE331.out | refine below_set ?_ GE341.out) | exact HB.out)); rintro e w18 ⟨rfl, hi, hb, hk⟩; refine ⟨_, rfl, ?_⟩; have n0_ := Aside0.mk (KeepBut.blk hk (g' := gb331) (o := .cells #[.int .i64 0, .slice none 0 0, .slice none 0 0, .int .i64 0, .int .i64 0, .int .i64 0, .int .i64 0] 45 (0, 0)) (by (with_reducible repeat (first | refine blk_drewN ?_ _ | refine blk_drew ?_ | refine blk_alloc ?_ _)); refine blk_far ?_ NB331_341.out _; (with_reducible repeat (first | refine blk_drewN ?_ _ | refine blk_drew ?_ | refine blk_alloc ?_ _)); refine blk_far ?_ NB331_341.out _; (with_reducible repeat (first | refine blk_drewN ?_ _ | refine blk_drew ?_ | refine blk_alloc ?_ _)); refine blk_far ?_ NB331_341.out _; (with_reducible repeat (first | refine blk_drewN ?_ _ | refine blk_drew ?_ | refine blk_alloc ?_ _)); refine blk_far ?_ NB331_341.out _; (with_reducible repeat (first | refine blk_drewN ?_ _ | refine blk_drew ?_ | refine blk_alloc ?_ _)); refine blk_far ?_ NB331_341.out _; (with_reducible repeat (first | refine blk_drewN ?_ _ | refine blk_drew ?_ | refine blk_alloc ?_ _)); refine blk_far ?_ NB331_341.out _; (with_reducible repeat (first | refine blk_drewN ?_ _ | refine blk_drew ?_ | refine blk_alloc ?_ _)); refine blk_far ?_ NB331_341.out _; (with_reducible repeat (first | refine blk_drewN ?_ _ | refine blk_drew ?_ | refine blk_alloc ?_ _)); exact BK331.out) NB331_0.out (by simp)); have n1_ := Aside0.mk (Kd.S_mono (Kd.S_keep (IsS94.apartS (show IsS94 w0 _ g s0_0 t333 t334 from by with_reducible repeat (first | exact HI0.out | apply IsS94.alloc | apply IsS94.drewN | apply IsS94.drew | apply IsS94.set_1 | apply IsS94.set_2 | refine IsS94.far ?_ NB0_331.out _ | refine IsS94.far ?_ NB0_341.out _)) (by (with_reducible repeat (first | apply Kd.S_alloc | apply Kd.S_drewN | apply Kd.S_drew)); exact (Kd.S_mono (Kd.S_far (p := ⟨gb341, 6, none⟩) (Kd.S_far (p := ⟨gb341, 5, none⟩) (Kd.S_far (p := ⟨gb341, 4, none⟩) (Kd.S_far (p := ⟨gb341, 3, none⟩) (Kd.S_far (p := ⟨gb341, 2, none⟩) (Kd.S_far (p := ⟨gb341, 1, none⟩) (Kd.S_far (p := ⟨gb341, 0, none⟩) (Kd.S_types HO337.out BK341.out (by decide)) (fun _ hk => hk.2) (.int .i64 (wrap64 (1 + t332)))) (fun _ hk => hk.2) (.slice Ao13 y335.length co13)) (fun _ hk => hk.2) (.slice Ao12 y338.length co12)) (fun _ hk => hk.2) (.int .i64 0)) (fun _ hk => hk.2) (.int .i64 0)) (fun _ hk => hk.2) (.int .i64 0)) (fun _ hk => hk.2) (.int .i64 0)) (fun _ h_ => h_.1))) (by decide)) hk (fun _ h => h.2)) (fun _ h => h.1)); have n2_ := Aside0.mk (Kd.R_mono (Kd.R_keep (IsS94.apart (show IsS94 w0 _ g s0_0 t333 t334 from by with_reducible repeat (first | exact HI0.out | apply IsS94.alloc | apply IsS94.drewN | apply IsS94.drew | apply IsS94.set_1 | apply IsS94.set_2 | refine IsS94.far ?_ NB0_331.out _ | refine IsS94.far ?_ NB0_341.out _)) (by (with_reducible repeat (first | apply Kd.R_alloc | apply Kd.R_drewN | apply Kd.R_drew)); exact (Kd.R_mono (Kd.R_far (p := ⟨gb341, 6, none⟩) (Kd.R_far (p := ⟨gb341, 5, none⟩) (Kd.R_far (p := ⟨gb341, 4, none⟩) (Kd.R_far (p := ⟨gb341, 3, none⟩) (Kd.R_far (p := ⟨gb341, 2, none⟩) (Kd.R_far (p := ⟨gb341, 1, none⟩) (Kd.R_far (p := ⟨gb341, 0, none⟩) (Kd.R_types HO340.out BK341.out (by decide)) (fun _ hk => hk.2) (.int .i64 (wrap64 (1 + t332)))) (fun _ hk => hk.2) (.slice Ao13 y335.length co13)) (fun _ hk => hk.2) (.slice Ao12 y338.length co12)) (fun _ hk => hk.2) (.int .i64 0)) (fun _ hk => hk.2) (.int .i64 0)) (fun _ hk => hk.2) (.int .i64 0)) (fun _ hk => hk.2) (.int .i64 0)) (fun _ h_ => h_.1))) (by decide)) hk (fun _ h => h.2)) (fun _ h => h.1)); have n3_ := Aside0.mk (KeepBut.blk hk (g' := gb341) (o := .cells #[.int .i64 (wrap64 (1 + t332)), .slice Ao13 y335.length co13, .slice Ao12 y338.length co12, .int .i64 0, .int .i64 0, .int .i64 0, .int .i64 0] 45 (0, 0)) (by (with_reducible repeat (first | refine blk_drewN ?_ _ | refine blk_drew ?_ | refine blk_alloc ?_ _)); refine blk_put (cs := #[.int .i64 (wrap64 (1 + t332)), .slice Ao13 y335.length co13, .slice Ao12 y338.length co12, .int .i64 0, .int .i64 0, .int .i64 0, .int .i64 0]) ?_ 6 _ rfl; (with_reducible repeat (first | refine blk_drewN ?_ _ | refine blk_drew ?_ | refine blk_alloc ?_ _)); refine blk_put (cs := #[.int .i64 (wrap64 (1 + t332)), .slice Ao13 y335.length co13, .slice Ao12 y338.length co12, .int .i64 0, .int .i64 0, .int .i64 0, .int .i64 0]) ?_ 5 _ rfl; (with_reducible repeat (first | refine blk_drewN ?_ _ | refine blk_drew ?_ | refine blk_alloc ?_ _)); refine blk_put (cs := #[.int .i64 (wrap64 (1 + t332)), .slice Ao13 y335.length co13, .slice Ao12 y338.length co12, .int .i64 0, .int .i64 0, .int .i64 0, .int .i64 0]) ?_ 4 _ rfl; (with_reducible repeat (first | refine blk_drewN ?_ _ | refine blk_drew ?_ | refine blk_alloc ?_ _)); refine blk_put (cs := #[.int .i64 (wrap64 (1 + t332)), .slice Ao13 y335.length co13, .slice Ao12 y338.length co12, .int .i64 0, .int .i64 0, .int .i64 0, .int .i64 0]) ?_ 3 _ rfl; (with_reducible repeat (first | refine blk_drewN ?_ _ | refine blk_drew ?_ | refine blk_alloc ?_ _)); refine blk_put (cs := #[.int .i64 (wrap64 (1 + t332)), .slice Ao13 y335.length co13, .slice none 0 0, .int .i64 0, .int .i64 0, .int .i64 0, .int .i64 0]) ?_ 2 _ rfl; (with_reducible repeat (first | refine blk_drewN ?_ _ | refine blk_drew ?_ | refine blk_alloc ?_ _)); refine blk_put (cs := #[.int .i64 (wrap64 (1 + t332)), .slice none 0 0, .slice none 0 0, .int .i64 0, .int .i64 0, .int .i64 0, .int .i64 0]) ?_ 1 _ rfl; (with_reducible repeat (first | refine blk_drewN ?_ _ | refine blk_drew ?_ | refine blk_alloc ?_ _)); refine blk_put (cs := #[.int .i64 0, .slice none 0 0, .slice none 0 0, .int .i64 0, .int .i64 0, .int .i64 0, .int .i64 0]) ?_ 0 _ rfl; (with_reducible repeat (first | refine blk_drewN ?_ _ | refine blk_drew ?_ | refine blk_alloc ?_ _)); exact BK341.out) NB341_0.out (by simp)); have n4_ := Aside0.mk (KeepBut.trans (by with_reducible repeat (first | exact HK.out | apply KeepBut.set_ | apply keep_drewN | apply keep_drew | apply keep_alloc | refine keep_far ?_ GW331.out _ | refine keep_far ?_ GW341.out _)) hk (.inl rfl)); have n5_ := Aside0.mk (hb); have n6_ := Aside0.mk (hi); clear BK331; clear HO337; clear HO340; clear BK341; clear HK; clear HB; clear HI0; have BK331 := n0_; have HO337 := n1_; have HO340 := n2_; have BK341 := n3_; have HK := n4_; have HB := n5_; have HI0 := n6_; clear n0_ n1_ n2_ n3_ n4_ n5_ n6_; (try clear hb); (try clear hb2); (try clear hk); (try clear hi)) | ((with_reducible refine gate_callee (f := 66) rfl ?_); refine goesL_ (some 18) rfl rfl Try.func66 (by kernel_rfl) rfl #[.pointer (some ⟨g, 0, none⟩), .int .i64 20] rfl (by (try simp only [List.map_toArray, List.map_cons, List.map_nil]); first | done | rfl | (simp only [List.length_drop, List.length_take]; rfl)) ?_; (with_reducible refine (spec_l00Src_one.calls g s0_0 t343 t344 20 t345 t346 t347 w0 _ ?side1 ?side2 A4.out).mono ?_); (case side1 => repeat (first | (with_reducible first | exact HI0.out | apply IsS94.alloc | apply IsS94.drewN | apply IsS94.drew | apply IsS94.set_1 | apply IsS94.set_2 | refine IsS94.far ?_ NB0_331.out _ | refine IsS94.far ?_ NB0_341.out _) | exact HI0.out)); (case side2 => repeat (first | (with_reducible first | exact HB.out | apply below_alloc | apply pw_below_drewN | apply below_drew1 | refine below_set ?_ (IsS94.ge HI0.out) | refine below_set ?_ GE331.out | refine below_set ?_ GE341.out) | exact HB.out)); rintro e w19 ⟨rfl, hi, hb, hk⟩; refine ⟨_, rfl, ?_⟩; have n0_ := Aside0.mk (KeepBut.blk hk (g' := gb331) (o := .cells #[.int .i64 0, .slice none 0 0, .slice none 0 0, .int .i64 0, .int .i64 0, .int .i64 0, .int .i64 0] 45 (0, 0)) (by (with_reducible repeat (first | refine blk_drewN ?_ _ | refine blk_drew ?_ | refine blk_alloc ?_ _)); exact BK331.out) NB331_0.out (by simp)); have n1_ := Aside0.mk (Kd.S_mono (Kd.S_keep (IsS94.apartS (show IsS94 w0 _ g s0_0 t343 t344 from by with_reducible repeat (first | exact HI0.out | apply IsS94.alloc | apply IsS94.drewN | apply IsS94.drew | apply IsS94.set_1 | apply IsS94.set_2 | refine IsS94.far ?_ NB0_331.out _ | refine IsS94.far ?_ NB0_341.out _)) (by (with_reducible repeat (first | apply Kd.S_alloc | apply Kd.S_drewN | apply Kd.S_drew)); exact HO337.out) (by decide)) hk (fun _ h => h.2)) (fun _ h => h.1)); have n2_ := Aside0.mk (Kd.R_mono (Kd.R_keep (IsS94.apart (show IsS94 w0 _ g s0_0 t343 t344 from by with_reducible repeat (first | exact HI0.out | apply IsS94.alloc | apply IsS94.drewN | apply IsS94.drew | apply IsS94.set_1 | apply IsS94.set_2 | refine IsS94.far ?_ NB0_331.out _ | refine IsS94.far ?_ NB0_341.out _)) (by (with_reducible repeat (first | apply Kd.R_alloc | apply Kd.R_drewN | apply Kd.R_drew)); exact HO340.out) (by decide)) hk (fun _ h => h.2)) (fun _ h => h.1)); have n3_ := Aside0.mk (KeepBut.blk hk (g' := gb341) (o := .cells #[.int .i64 (wrap64 (1 + t332)), .slice Ao13 y335.length co13, .slice Ao12 y338.length co12, .int .i64 0, .int .i64 0, .int .i64 0, .int .i64 0] 45 (0, 0)) (by (with_reducible repeat (first | refine blk_drewN ?_ _ | refine blk_drew ?_ | refine blk_alloc ?_ _)); exact BK341.out) NB341_0.out (by simp)); have n4_ := Aside0.mk (KeepBut.trans (by with_reducible repeat (first | exact HK.out | apply KeepBut.set_ | apply keep_drewN | apply keep_drew | apply keep_alloc | refine keep_far ?_ GW331.out _ | refine keep_far ?_ GW341.out _)) hk (.inl rfl)); have n5_ := Aside0.mk (hb); have n6_ := Aside0.mk (hi); clear BK331; clear HO337; clear HO340; clear BK341; clear HK; clear HB; clear HI0; have BK331 := n0_; have HO337 := n1_; have HO340 := n2_; have BK341 := n3_; have HK := n4_; have HB := n5_; have HI0 := n6_; clear n0_ n1_ n2_ n3_ n4_ n5_ n6_; (try clear hb); (try clear hb2); (try clear hk); (try clear hi)))
 (try simp only [Act.put, List.setIfInBounds_toArray, List.set_cons_zero, List.set_cons_succ])
 go_cut [4] (fun v4 wc => ∃ (kq : Nat) (x4_4 : Int), v4 = .int .i64 x4_4 ∧ Aside0 (spec_l06DrawOk.j0 kq x4_4 s0_0 t346 t347 (wrap64 (1 + t332)) y335 y338 0 0 0 0 = some (r1, r2, r3, r4, r5, r6, r7, r8, r9)) ∧ Aside0 (kq ≤ k) ∧ Aside0 (Kd.S k56 56 wc w.heap.size (fun k_ => some k_ ≠ ((.slice Ao12 y338.length co12) : Value).ownBlock) (.slice Ao13 y335.length co13) y335) ∧ Aside0 (Kd.R (Kd.int .i64) 2 wc w.heap.size (fun _ => True) (.slice Ao12 y338.length co12) y338) ∧ Aside0 (wc.heap[gb331]? = some (.cells #[.int .i64 0, (.slice none 0 0), (.slice none 0 0), .int .i64 0, .int .i64 0, .int .i64 0, .int .i64 0] 45 (0, 0))) ∧ Aside0 (wc.heap[gb341]? = some (.cells #[.int .i64 (wrap64 (1 + t332)), (.slice Ao13 y335.length co13), (.slice Ao12 y338.length co12), .int .i64 0, .int .i64 0, .int .i64 0, .int .i64 0] 45 (0, 0))) ∧ Aside0 (IsS94 w0 wc g s0_0 t346 t347) ∧ Aside0 (KeepBut w wc g none) ∧ Aside0 (Below w0.heap.size w0 wc))
 case first =>
  have H := HC5.out
  clear HC5
  by_cases c20 : t345 = true
  ·subst c20
   rw [if_pos rfl] at H
   have H' := Aside0.mk H
   clear H
   go_wp2
   go_meet
   case rel => exact ⟨_, (10), (by first | rfl | (simp; done) | (simp [*]; done)), H', ⟨by first | omega | exact Nat.le_refl _⟩, ⟨by (with_reducible repeat (first | apply Kd.S_alloc | apply Kd.S_drewN | apply Kd.S_drew)); exact Kd.S_mono HO337.out (fun _ hk => hk.2)⟩, ⟨by (with_reducible repeat (first | apply Kd.R_alloc | apply Kd.R_drewN | apply Kd.R_drew)); exact HO340.out⟩, ⟨by (with_reducible repeat (first | refine blk_drewN ?_ _ | refine blk_drew ?_ | refine blk_alloc ?_ _)); exact BK331.out⟩, ⟨by (with_reducible repeat (first | refine blk_drewN ?_ _ | refine blk_drew ?_ | refine blk_alloc ?_ _)); exact BK341.out⟩, ⟨by with_reducible repeat (first | exact HI0.out | apply IsS94.alloc | apply IsS94.drewN | apply IsS94.drew | apply IsS94.set_1 | apply IsS94.set_2 | refine IsS94.far ?_ NB0_331.out _ | refine IsS94.far ?_ NB0_341.out _)⟩, ⟨by with_reducible repeat (first | exact HK.out | apply KeepBut.set_ | apply keep_drewN | apply keep_drew | apply keep_alloc | refine keep_far ?_ GW331.out _ | refine keep_far ?_ GW341.out _)⟩, ⟨by with_reducible repeat (first | exact HB.out | apply below_alloc | apply pw_below_drewN | apply below_drew1 | refine below_set ?_ (IsS94.ge HI0.out) | refine below_set ?_ GE331.out | refine below_set ?_ GE341.out)⟩⟩
  ·replace c20 := Bool.eq_false_iff.mpr c20
   subst c20
   rw [if_neg (by decide)] at H
   have H' := Aside0.mk H
   clear H
   go_wp2
   go_meet
   case rel => exact ⟨_, (t342), (by first | rfl | (simp; done) | (simp [*]; done)), H', ⟨by first | omega | exact Nat.le_refl _⟩, ⟨by (with_reducible repeat (first | apply Kd.S_alloc | apply Kd.S_drewN | apply Kd.S_drew)); exact Kd.S_mono HO337.out (fun _ hk => hk.2)⟩, ⟨by (with_reducible repeat (first | apply Kd.R_alloc | apply Kd.R_drewN | apply Kd.R_drew)); exact HO340.out⟩, ⟨by (with_reducible repeat (first | refine blk_drewN ?_ _ | refine blk_drew ?_ | refine blk_alloc ?_ _)); exact BK331.out⟩, ⟨by (with_reducible repeat (first | refine blk_drewN ?_ _ | refine blk_drew ?_ | refine blk_alloc ?_ _)); exact BK341.out⟩, ⟨by with_reducible repeat (first | exact HI0.out | apply IsS94.alloc | apply IsS94.drewN | apply IsS94.drew | apply IsS94.set_1 | apply IsS94.set_2 | refine IsS94.far ?_ NB0_331.out _ | refine IsS94.far ?_ NB0_341.out _)⟩, ⟨by with_reducible repeat (first | exact HK.out | apply KeepBut.set_ | apply keep_drewN | apply keep_drew | apply keep_alloc | refine keep_far ?_ GW331.out _ | refine keep_far ?_ GW341.out _)⟩, ⟨by with_reducible repeat (first | exact HB.out | apply below_alloc | apply pw_below_drewN | apply below_drew1 | refine below_set ?_ (IsS94.ge HI0.out) | refine below_set ?_ GE331.out | refine below_set ?_ GE341.out)⟩⟩
 case rest =>
  clear HC5
  try clear c1
  try clear c2
  try clear p2
  try clear c3
  try clear c4
  try clear c6
  try clear p6
  try clear c15
  try clear c16
  try clear c20
  try clear hcz17_0
  try clear hcz17_1
  try clear hcz17_2
  try clear hcz17_3
  try clear hcz17_4
  try clear hcz17_5
  try clear hcz17_6
  try clear hfz17_0
  try clear hfz17_1
  try clear hfz17_2
  try clear hfz17_3
  try clear hfz17_4
  try clear hfz17_5
  try clear hfz17_6
  obtain ⟨kq, x4_4, rfl, HA, HJ4, HO_342001, HO_342002, BK331, BK341, HI0, HK, HB⟩ := hcut
  cases kq with
  | zero => exact absurd HA.out (by simp [spec_l06DrawOk.j0])
  | succ kj4 =>
   have H := HA.out
   clear HA
   simp only [spec_l06DrawOk.j0] at H
   have H' := Aside0.mk H
   clear H
   go_wp2
   go_loopg [5] kj4 (fun kq v5 w' => ∃ (x5_2 : Int) (x1001_2 : Int) (x1002_2 : Int) (x342001_2 : List (S56)) (u342001 : Value), v5 = .int .i64 x5_2 ∧ Aside0 (spec_l06DrawOk.l0 kq x4_4 x5_2 s0_0 x1001_2 x1002_2 (wrap64 (1 + t332)) x342001_2 y338 0 0 0 0 = some (r1, r2, r3, r4, r5, r6, r7, r8, r9)) ∧ Aside0 (kq ≤ kj4) ∧ Aside0 (Kd.S k56 56 w' w.heap.size (fun k_ => some k_ ≠ ((.slice Ao12 y338.length co12) : Value).ownBlock) u342001 x342001_2) ∧ Aside0 (Kd.R (Kd.int .i64) 2 w' w.heap.size (fun _ => True) (.slice Ao12 y338.length co12) y338) ∧ Aside0 (w'.heap[gb331]? = some (.cells #[.int .i64 0, (.slice none 0 0), (.slice none 0 0), .int .i64 0, .int .i64 0, .int .i64 0, .int .i64 0] 45 (0, 0))) ∧ Aside0 (w'.heap[gb341]? = some (.cells #[.int .i64 (wrap64 (1 + t332)), u342001, (.slice Ao12 y338.length co12), .int .i64 0, .int .i64 0, .int .i64 0, .int .i64 0] 45 (0, 0))) ∧ Aside0 (IsS94 w0 w' g s0_0 x1001_2 x1002_2) ∧ Aside0 (KeepBut w w' g none) ∧ Aside0 (Below w0.heap.size w0 w'))
   case atStart => exact ⟨(0), (t346), (t347), (y335), (.slice Ao13 y335.length co13), (by first | rfl | (simp; done) | (simp [*]; done)), H', ⟨Nat.le_refl _⟩, ⟨by (with_reducible repeat (first | apply Kd.S_alloc | apply Kd.S_drewN | apply Kd.S_drew)); exact HO_342001.out⟩, ⟨by (with_reducible repeat (first | apply Kd.R_alloc | apply Kd.R_drewN | apply Kd.R_drew)); exact HO_342002.out⟩, ⟨by (with_reducible repeat (first | refine blk_drewN ?_ _ | refine blk_drew ?_ | refine blk_alloc ?_ _)); exact BK331.out⟩, ⟨by (with_reducible repeat (first | refine blk_drewN ?_ _ | refine blk_drew ?_ | refine blk_alloc ?_ _)); exact BK341.out⟩, ⟨by with_reducible repeat (first | exact HI0.out | apply IsS94.alloc | apply IsS94.drewN | apply IsS94.drew | apply IsS94.set_1 | apply IsS94.set_2 | refine IsS94.far ?_ NB0_331.out _ | refine IsS94.far ?_ NB0_341.out _)⟩, ⟨by with_reducible repeat (first | exact HK.out | apply KeepBut.set_ | apply keep_drewN | apply keep_drew | apply keep_alloc | refine keep_far ?_ GW331.out _ | refine keep_far ?_ GW341.out _)⟩, ⟨by with_reducible repeat (first | exact HB.out | apply below_alloc | apply pw_below_drewN | apply below_drew1 | refine below_set ?_ (IsS94.ge HI0.out) | refine below_set ?_ GE331.out | refine below_set ?_ GE341.out)⟩⟩
   case round =>
    clear H'
    try clear c1
    try clear c2
    try clear p2
    try clear c3
    try clear c4
    try clear c6
    try clear p6
    try clear c15
    try clear c16
    try clear c20
    try clear hcz17_0
    try clear hcz17_1
    try clear hcz17_2
    try clear hcz17_3
    try clear hcz17_4
    try clear hcz17_5
    try clear hcz17_6
    try clear hfz17_0
    try clear hfz17_1
    try clear hfz17_2
    try clear hfz17_3
    try clear hfz17_4
    try clear hfz17_5
    try clear hfz17_6
    try clear p2
    try clear p6
    obtain ⟨x5_2, x1001_2, x1002_2, x342001_2, u342001, rfl, HA, HK2, HO_342001, HO_342002, BK331, BK341, HI0, HK, HB⟩ := hrel
    cases gk with
    | zero => exact absurd HA.out (by simp [spec_l06DrawOk.l0])
    | succ k2 =>
     have H := HA.out
     clear HA
     simp only [spec_l06DrawOk.l0] at H
     by_cases c21 : x5_2 < x4_4
     ·rw [if_pos c21] at H
      have c21b0 : decide (x5_2 < x4_4) = true := decide_eq_true c21
      clear c21
      replace H := Option.bind_eq_some_iff.mp H
      obtain ⟨⟨t348, t349, t350⟩, A220, H⟩ := H
      try dsimp only at H
      have A22 := Aside0.mk A220
      clear A220
      obtain ⟨y351, hy351⟩ : ∃ y_ : List Int, y_ = (([] : List Int)) := ⟨_, rfl⟩
      (try rw [Option.bind_some] at H); try rw [← hy351] at H
      have Ny351 := Aside0.mk hy351
      clear hy351
      replace H := Option.bind_eq_some_iff.mp H
      obtain ⟨⟨t355, t356, t357⟩, A230, H⟩ := H
      try dsimp only at H
      have A23 := Aside0.mk A230
      clear A230
      have H' := Aside0.mk H
      clear H
      try go_wp2_with (first | ((with_reducible refine gate_callee (f := 35) rfl ?_); refine goesL_ (some 25) rfl rfl Try.func35 (by kernel_rfl) rfl #[.pointer (some ⟨g, 0, none⟩), .int .i64 5] rfl (by (try simp only [List.map_toArray, List.map_cons, List.map_nil]); first | done | rfl | (simp only [List.length_drop, List.length_take]; rfl)) ?_; (with_reducible refine (spec_l00Src_pick.calls g s0_0 x1001_2 x1002_2 5 t348 t349 t350 w0 _ ?side1 ?side2 A22.out).mono ?_); (case side1 => repeat (first | (with_reducible first | exact HI0.out | apply IsS94.alloc | apply IsS94.drewN | apply IsS94.drew | apply IsS94.set_1 | apply IsS94.set_2 | refine IsS94.far ?_ NB0_331.out _ | refine IsS94.far ?_ NB0_341.out _) | exact HI0.out)); (case side2 => repeat (first | (with_reducible first | exact HB.out | apply below_alloc | apply pw_below_drewN | apply below_drew1 | refine below_set ?_ (IsS94.ge HI0.out) | refine below_set ?_ GE331.out | refine below_set ?_ GE341.out) | exact HB.out)); rintro e w24 ⟨rfl, hi, hb, hk⟩; refine ⟨_, rfl, ?_⟩; have n0_ := Aside0.mk (Kd.S_mono (Kd.S_keep (IsS94.apartS (show IsS94 w0 _ g s0_0 x1001_2 x1002_2 from by with_reducible repeat (first | exact HI0.out | apply IsS94.alloc | apply IsS94.drewN | apply IsS94.drew | apply IsS94.set_1 | apply IsS94.set_2 | refine IsS94.far ?_ NB0_331.out _ | refine IsS94.far ?_ NB0_341.out _)) (by (with_reducible repeat (first | apply Kd.S_alloc | apply Kd.S_drewN | apply Kd.S_drew)); exact HO_342001.out) (by decide)) hk (fun _ h => h.2)) (fun _ h => h.1)); have n1_ := Aside0.mk (Kd.R_mono (Kd.R_keep (IsS94.apart (show IsS94 w0 _ g s0_0 x1001_2 x1002_2 from by with_reducible repeat (first | exact HI0.out | apply IsS94.alloc | apply IsS94.drewN | apply IsS94.drew | apply IsS94.set_1 | apply IsS94.set_2 | refine IsS94.far ?_ NB0_331.out _ | refine IsS94.far ?_ NB0_341.out _)) (by (with_reducible repeat (first | apply Kd.R_alloc | apply Kd.R_drewN | apply Kd.R_drew)); exact HO_342002.out) (by decide)) hk (fun _ h => h.2)) (fun _ h => h.1)); have n2_ := Aside0.mk (KeepBut.blk hk (g' := gb331) (o := .cells #[.int .i64 0, .slice none 0 0, .slice none 0 0, .int .i64 0, .int .i64 0, .int .i64 0, .int .i64 0] 45 (0, 0)) (by (with_reducible repeat (first | refine blk_drewN ?_ _ | refine blk_drew ?_ | refine blk_alloc ?_ _)); exact BK331.out) NB331_0.out (by simp)); have n3_ := Aside0.mk (KeepBut.blk hk (g' := gb341) (o := .cells #[.int .i64 (wrap64 (1 + t332)), u342001, .slice Ao12 y338.length co12, .int .i64 0, .int .i64 0, .int .i64 0, .int .i64 0] 45 (0, 0)) (by (with_reducible repeat (first | refine blk_drewN ?_ _ | refine blk_drew ?_ | refine blk_alloc ?_ _)); exact BK341.out) NB341_0.out (by simp)); have n4_ := Aside0.mk (KeepBut.trans (by with_reducible repeat (first | exact HK.out | apply KeepBut.set_ | apply keep_drewN | apply keep_drew | apply keep_alloc | refine keep_far ?_ GW331.out _ | refine keep_far ?_ GW341.out _)) hk (.inl rfl)); have n5_ := Aside0.mk (hb); have n6_ := Aside0.mk (hi); clear HO_342001; clear HO_342002; clear BK331; clear BK341; clear HK; clear HB; clear HI0; have HO_342001 := n0_; have HO_342002 := n1_; have BK331 := n2_; have BK341 := n3_; have HK := n4_; have HB := n5_; have HI0 := n6_; clear n0_ n1_ n2_ n3_ n4_ n5_ n6_; (try clear hb); (try clear hb2); (try clear hk); (try clear hi)) | ((with_reducible refine gate_dst (N := 26) rfl ?_); refine Kd.R_lit (Kd.int .i64) _ 2 ?hg (N := 26) ?hd (xs := ([] : List Int)) (inner := []) (ok := fun _ => True) (okp := fun _ => True) ?hr ?hp (fun _ hk => hk) trivial (Below.refl _ _) (Nat.le_refl _) (by simp) ?_; (case hd => rfl); (case hg => rfl); (case hr => first | (go_simp; done) | (go_simp; rfl)); (case hp => exact (Reps.none _ _)); intro v352 w25 ho26 hb hg_ hnew_; clear hg_ hnew_; (first | rw [← Ny351.out] at ho26 | (simp only [Int.reduceToNat] at ho26; rw [← Ny351.out] at ho26)); have n0_ := Aside0.mk (Kd.S_elder' (by (with_reducible repeat (first | apply Kd.S_alloc | apply Kd.S_drewN | apply Kd.S_drew)); exact HO_342001.out) (Kd.R_base ho26) hb); have n1_ := Aside0.mk (Kd.R_elder' (by (with_reducible repeat (first | apply Kd.R_alloc | apply Kd.R_drewN | apply Kd.R_drew)); exact HO_342002.out) (Kd.R_base ho26) hb); have n2_ := Aside0.mk (Kd.R_lower (Kd.R_new' ho26 (Kd.R_lt (by (with_reducible repeat (first | apply Kd.R_alloc | apply Kd.R_drewN | apply Kd.R_drew)); exact HO_342002.out))) (keep_size (w := w) (g := g) (row := none) (by with_reducible repeat (first | exact HK.out | apply KeepBut.set_ | apply keep_drewN | apply keep_drew | apply keep_alloc | refine keep_far ?_ GW331.out _ | refine keep_far ?_ GW341.out _)))); have n3_ := Aside0.mk (blk_below (g := gb331) (o := .cells #[.int .i64 0, .slice none 0 0, .slice none 0 0, .int .i64 0, .int .i64 0, .int .i64 0, .int .i64 0] 45 (0, 0)) (by (with_reducible repeat (first | refine blk_drewN ?_ _ | refine blk_drew ?_ | refine blk_alloc ?_ _)); exact BK331.out) hb); have n4_ := Aside0.mk (blk_below (g := gb341) (o := .cells #[.int .i64 (wrap64 (1 + t332)), u342001, .slice Ao12 y338.length co12, .int .i64 0, .int .i64 0, .int .i64 0, .int .i64 0] 45 (0, 0)) (by (with_reducible repeat (first | refine blk_drewN ?_ _ | refine blk_drew ?_ | refine blk_alloc ?_ _)); exact BK341.out) hb); have n5_ := Aside0.mk (IsS94.below (by with_reducible repeat (first | exact HI0.out | apply IsS94.alloc | apply IsS94.drewN | apply IsS94.drew | apply IsS94.set_1 | apply IsS94.set_2 | refine IsS94.far ?_ NB0_331.out _ | refine IsS94.far ?_ NB0_341.out _)) hb); have n6_ := Aside0.mk (KeepBut.trans (by with_reducible repeat (first | exact HK.out | apply KeepBut.set_ | apply keep_drewN | apply keep_drew | apply keep_alloc | refine keep_far ?_ GW331.out _ | refine keep_far ?_ GW341.out _)) (KeepBut.of_below hb g none) (.inl rfl)); have n7_ := Aside0.mk (below_step (by with_reducible repeat (first | exact HB.out | apply below_alloc | apply pw_below_drewN | apply below_drew1 | refine below_set ?_ (IsS94.ge HI0.out) | refine below_set ?_ GE331.out | refine below_set ?_ GE341.out)) hb); clear HO_342001; clear HO_342002; clear BK331; clear BK341; clear HI0; clear HK; clear HB; have HO_342001 := n0_; have HO_342002 := n1_; have HO353 := n2_; have BK331 := n3_; have BK341 := n4_; have HI0 := n5_; have HK := n6_; have HB := n7_; clear n0_ n1_ n2_ n3_ n4_ n5_ n6_ n7_; clear hb ho26; obtain ⟨Ao27, co27, eo27⟩ := Kd.R_slice HO353.out; subst eo27) | ((with_reducible refine gate_dst (N := 6) rfl ?_); refine box_event ?hg (N := 6) ?hd (cs := #[.int .i64 0, .int .i64 0, .slice none 0 0]) (t := 56) ?hr ?_; (case hd => rfl); (case hg => rfl); (case hr => first | (go_simp; done) | (go_simp; rfl)); intro gb354 hg w28 hbox hb; have n0_ := Aside0.mk (Kd.S_below (Kd.S_elderB (by (with_reducible repeat (first | apply Kd.S_alloc | apply Kd.S_drewN | apply Kd.S_drew)); exact HO_342001.out) gb354 (Nat.le_of_eq hg.symm)) hb); have n1_ := Aside0.mk (Kd.R_below (by (with_reducible repeat (first | apply Kd.R_alloc | apply Kd.R_drewN | apply Kd.R_drew)); exact HO_342002.out) hb); have n2_ := Aside0.mk (Kd.R_below (by (with_reducible repeat (first | apply Kd.R_alloc | apply Kd.R_drewN | apply Kd.R_drew)); exact HO353.out) hb); have n3_ := Aside0.mk (blk_below (g := gb331) (o := .cells #[.int .i64 0, .slice none 0 0, .slice none 0 0, .int .i64 0, .int .i64 0, .int .i64 0, .int .i64 0] 45 (0, 0)) (by (with_reducible repeat (first | refine blk_drewN ?_ _ | refine blk_drew ?_ | refine blk_alloc ?_ _)); exact BK331.out) hb); have n4_ := Aside0.mk (blk_below (g := gb341) (o := .cells #[.int .i64 (wrap64 (1 + t332)), u342001, .slice Ao12 y338.length co12, .int .i64 0, .int .i64 0, .int .i64 0, .int .i64 0] 45 (0, 0)) (by (with_reducible repeat (first | refine blk_drewN ?_ _ | refine blk_drew ?_ | refine blk_alloc ?_ _)); exact BK341.out) hb); have n5_ := Aside0.mk (IsS94.below (by with_reducible repeat (first | exact HI0.out | apply IsS94.alloc | apply IsS94.drewN | apply IsS94.drew | apply IsS94.set_1 | apply IsS94.set_2 | refine IsS94.far ?_ NB0_331.out _ | refine IsS94.far ?_ NB0_341.out _)) hb); have n6_ := Aside0.mk (KeepBut.trans (by with_reducible repeat (first | exact HK.out | apply KeepBut.set_ | apply keep_drewN | apply keep_drew | apply keep_alloc | refine keep_far ?_ GW331.out _ | refine keep_far ?_ GW341.out _)) (KeepBut.of_below hb g none) (.inl rfl)); have n7_ := Aside0.mk (below_step (by with_reducible repeat (first | exact HB.out | apply below_alloc | apply pw_below_drewN | apply below_drew1 | refine below_set ?_ (IsS94.ge HI0.out) | refine below_set ?_ GE331.out | refine below_set ?_ GE341.out)) hb); have n8_ := Aside0.mk (hbox); have n9_ := Aside0.mk ((by rw [hg]; exact (keep_size (w := w) (g := g) (row := none) (by with_reducible repeat (first | exact HK.out | apply KeepBut.set_ | apply keep_drewN | apply keep_drew | apply keep_alloc | refine keep_far ?_ GW331.out _ | refine keep_far ?_ GW341.out _))) : w.heap.size ≤ gb354)); have n10_ := Aside0.mk ((Nat.le_trans HW0.out (by rw [hg]; exact (keep_size (w := w) (g := g) (row := none) (by with_reducible repeat (first | exact HK.out | apply KeepBut.set_ | apply keep_drewN | apply keep_drew | apply keep_alloc | refine keep_far ?_ GW331.out _ | refine keep_far ?_ GW341.out _))) : w.heap.size ≤ gb354) : w0.heap.size ≤ gb354)); have n11_ := Aside0.mk ((by rw [hg]; exact Nat.ne_of_lt (blk_lt (g := gb331) (o := .cells #[.int .i64 0, .slice none 0 0, .slice none 0 0, .int .i64 0, .int .i64 0, .int .i64 0, .int .i64 0] 45 (0, 0)) (by (with_reducible repeat (first | refine blk_drewN ?_ _ | refine blk_drew ?_ | refine blk_alloc ?_ _)); exact BK331.out)) : gb331 ≠ gb354)); have n12_ := Aside0.mk ((by rw [hg]; exact Nat.ne_of_gt (blk_lt (g := gb331) (o := .cells #[.int .i64 0, .slice none 0 0, .slice none 0 0, .int .i64 0, .int .i64 0, .int .i64 0, .int .i64 0] 45 (0, 0)) (by (with_reducible repeat (first | refine blk_drewN ?_ _ | refine blk_drew ?_ | refine blk_alloc ?_ _)); exact BK331.out)) : gb354 ≠ gb331)); have n13_ := Aside0.mk ((by rw [hg]; exact Nat.ne_of_lt (blk_lt (g := gb341) (o := .cells #[.int .i64 (wrap64 (1 + t332)), u342001, .slice Ao12 y338.length co12, .int .i64 0, .int .i64 0, .int .i64 0, .int .i64 0] 45 (0, 0)) (by (with_reducible repeat (first | refine blk_drewN ?_ _ | refine blk_drew ?_ | refine blk_alloc ?_ _)); exact BK341.out)) : gb341 ≠ gb354)); have n14_ := Aside0.mk ((by rw [hg]; exact Nat.ne_of_gt (blk_lt (g := gb341) (o := .cells #[.int .i64 (wrap64 (1 + t332)), u342001, .slice Ao12 y338.length co12, .int .i64 0, .int .i64 0, .int .i64 0, .int .i64 0] 45 (0, 0)) (by (with_reducible repeat (first | refine blk_drewN ?_ _ | refine blk_drew ?_ | refine blk_alloc ?_ _)); exact BK341.out)) : gb354 ≠ gb341)); have n15_ := Aside0.mk ((by rw [hg]; exact Nat.ne_of_lt (IsS94.lt (show IsS94 w0 _ g s0_0 t349 t350 from by with_reducible repeat (first | exact HI0.out | apply IsS94.alloc | apply IsS94.drewN | apply IsS94.drew | apply IsS94.set_1 | apply IsS94.set_2 | refine IsS94.far ?_ NB0_331.out _ | refine IsS94.far ?_ NB0_341.out _))) : g ≠ gb354)); have n16_ := Aside0.mk ((by rw [hg]; exact Nat.ne_of_gt (IsS94.lt (show IsS94 w0 _ g s0_0 t349 t350 from by with_reducible repeat (first | exact HI0.out | apply IsS94.alloc | apply IsS94.drewN | apply IsS94.drew | apply IsS94.set_1 | apply IsS94.set_2 | refine IsS94.far ?_ NB0_331.out _ | refine IsS94.far ?_ NB0_341.out _))) : gb354 ≠ g)); clear HO_342001; clear HO_342002; clear HO353; clear BK331; clear BK341; clear HI0; clear HK; clear HB; have HO_342001 := n0_; have HO_342002 := n1_; have HO353 := n2_; have BK331 := n3_; have BK341 := n4_; have HI0 := n5_; have HK := n6_; have HB := n7_; have BK354 := n8_; have GW354 := n9_; have GE354 := n10_; have NB331_354 := n11_; have NB354_331 := n12_; have NB341_354 := n13_; have NB354_341 := n14_; have NB0_354 := n15_; have NB354_0 := n16_; clear n0_ n1_ n2_ n3_ n4_ n5_ n6_ n7_ n8_ n9_ n10_ n11_ n12_ n13_ n14_ n15_ n16_; clear hb hbox hg; have hnb29 := NB354_331.out; have hnc29 := NB331_354.out; have hnb30 := NB354_341.out; have hnc30 := NB341_354.out; have hnb31 := NB354_0.out; have hnc31 := NB0_354.out; have hcz32_0 : w28.cell? ⟨gb354, 0, none⟩ = some (.int .i64 0) := (blk_cell BK354.out 0).trans rfl; have hcz32_1 : w28.cell? ⟨gb354, 1, none⟩ = some (.int .i64 0) := (blk_cell BK354.out 1).trans rfl; have hcz32_2 : w28.cell? ⟨gb354, 2, none⟩ = some (.slice none 0 0) := (blk_cell BK354.out 2).trans rfl; have hfz32_0 := blk_frozen BK354.out 0; have hfz32_1 := blk_frozen BK354.out 1; have hfz32_2 := blk_frozen BK354.out 2))
      have n0_ : Aside0 (Kd.S k56 56 (((w28.setCell ⟨gb354, 0, none⟩ (.int .i64 t348)).setCell ⟨gb354, 1, none⟩ (.int .i64 0)).setCell ⟨gb354, 2, none⟩ (.slice Ao27 y351.length co27)) w.heap.size (fun k_ => some k_ ≠ (.slice Ao12 y338.length co12 : Value).ownBlock ∧ some k_ ≠ (.slice Ao27 y351.length co27 : Value).ownBlock ∧ k_ ≠ gb354) u342001 x342001_2) := ⟨by (with_reducible repeat (first | apply Kd.S_alloc | apply Kd.S_drewN | apply Kd.S_drew)); exact Kd.S_mono (Kd.S_far (p := ⟨gb354, 2, none⟩) (Kd.S_far (p := ⟨gb354, 1, none⟩) (Kd.S_far (p := ⟨gb354, 0, none⟩) (Kd.S_mono HO_342001.out (fun k_ hk => (⟨hk, hk.2⟩ : _ ∧ k_ ≠ gb354))) (fun _ hk => hk.2) (.int .i64 t348)) (fun _ hk => hk.2) (.int .i64 0)) (fun _ hk => hk.2) (.slice Ao27 y351.length co27)) (fun _ hk => ⟨hk.1.1.1, ⟨hk.1.1.2, hk.1.2⟩⟩)⟩
      have n1_ : Aside0 (Kd.R (Kd.int .i64) 2 (((w28.setCell ⟨gb354, 0, none⟩ (.int .i64 t348)).setCell ⟨gb354, 1, none⟩ (.int .i64 0)).setCell ⟨gb354, 2, none⟩ (.slice Ao27 y351.length co27)) w.heap.size (fun k_ => some k_ ≠ (.slice Ao27 y351.length co27 : Value).ownBlock) (.slice Ao12 y338.length co12) y338) := ⟨by (with_reducible repeat (first | apply Kd.R_alloc | apply Kd.R_drewN | apply Kd.R_drew)); exact Kd.R_mono (Kd.R_far (p := ⟨gb354, 2, none⟩) (Kd.R_far (p := ⟨gb354, 1, none⟩) (Kd.R_far (p := ⟨gb354, 0, none⟩) (Kd.R_types HO_342002.out BK354.out (by decide)) (fun _ hk => hk.2) (.int .i64 t348)) (fun _ hk => hk.2) (.int .i64 0)) (fun _ hk => hk.2) (.slice Ao27 y351.length co27)) (fun _ hk => hk.1.2)⟩
      have n2_ : Aside0 (Kd.R (Kd.int .i64) 2 (((w28.setCell ⟨gb354, 0, none⟩ (.int .i64 t348)).setCell ⟨gb354, 1, none⟩ (.int .i64 0)).setCell ⟨gb354, 2, none⟩ (.slice Ao27 y351.length co27)) w.heap.size (fun k_ => some k_ ≠ (.slice Ao12 y338.length co12 : Value).ownBlock) (.slice Ao27 y351.length co27) y351) := ⟨by (with_reducible repeat (first | apply Kd.R_alloc | apply Kd.R_drewN | apply Kd.R_drew)); exact Kd.R_mono (Kd.R_far (p := ⟨gb354, 2, none⟩) (Kd.R_far (p := ⟨gb354, 1, none⟩) (Kd.R_far (p := ⟨gb354, 0, none⟩) (Kd.R_types HO353.out BK354.out (by decide)) (fun _ hk => hk.2) (.int .i64 t348)) (fun _ hk => hk.2) (.int .i64 0)) (fun _ hk => hk.2) (.slice Ao27 y351.length co27)) (fun _ hk => hk.1.2)⟩
      have n3_ : Aside0 ((((w28.setCell ⟨gb354, 0, none⟩ (.int .i64 t348)).setCell ⟨gb354, 1, none⟩ (.int .i64 0)).setCell ⟨gb354, 2, none⟩ (.slice Ao27 y351.length co27)).heap[gb331]? = some (.cells #[.int .i64 0, .slice none 0 0, .slice none 0 0, .int .i64 0, .int .i64 0, .int .i64 0, .int .i64 0] 45 (0, 0))) := ⟨by (with_reducible repeat (first | refine blk_drewN ?_ _ | refine blk_drew ?_ | refine blk_alloc ?_ _)); refine blk_far ?_ NB331_354.out _; (with_reducible repeat (first | refine blk_drewN ?_ _ | refine blk_drew ?_ | refine blk_alloc ?_ _)); refine blk_far ?_ NB331_354.out _; (with_reducible repeat (first | refine blk_drewN ?_ _ | refine blk_drew ?_ | refine blk_alloc ?_ _)); refine blk_far ?_ NB331_354.out _; (with_reducible repeat (first | refine blk_drewN ?_ _ | refine blk_drew ?_ | refine blk_alloc ?_ _)); exact BK331.out⟩
      have n4_ : Aside0 ((((w28.setCell ⟨gb354, 0, none⟩ (.int .i64 t348)).setCell ⟨gb354, 1, none⟩ (.int .i64 0)).setCell ⟨gb354, 2, none⟩ (.slice Ao27 y351.length co27)).heap[gb341]? = some (.cells #[.int .i64 (wrap64 (1 + t332)), u342001, .slice Ao12 y338.length co12, .int .i64 0, .int .i64 0, .int .i64 0, .int .i64 0] 45 (0, 0))) := ⟨by (with_reducible repeat (first | refine blk_drewN ?_ _ | refine blk_drew ?_ | refine blk_alloc ?_ _)); refine blk_far ?_ NB341_354.out _; (with_reducible repeat (first | refine blk_drewN ?_ _ | refine blk_drew ?_ | refine blk_alloc ?_ _)); refine blk_far ?_ NB341_354.out _; (with_reducible repeat (first | refine blk_drewN ?_ _ | refine blk_drew ?_ | refine blk_alloc ?_ _)); refine blk_far ?_ NB341_354.out _; (with_reducible repeat (first | refine blk_drewN ?_ _ | refine blk_drew ?_ | refine blk_alloc ?_ _)); exact BK341.out⟩
      have n5_ : Aside0 ((((w28.setCell ⟨gb354, 0, none⟩ (.int .i64 t348)).setCell ⟨gb354, 1, none⟩ (.int .i64 0)).setCell ⟨gb354, 2, none⟩ (.slice Ao27 y351.length co27)).heap[gb354]? = some (.cells #[.int .i64 t348, .int .i64 0, .slice Ao27 y351.length co27] 56 (0, 0))) := ⟨by (with_reducible repeat (first | refine blk_drewN ?_ _ | refine blk_drew ?_ | refine blk_alloc ?_ _)); refine blk_put (cs := #[.int .i64 t348, .int .i64 0, .slice none 0 0]) ?_ 2 _ rfl; (with_reducible repeat (first | refine blk_drewN ?_ _ | refine blk_drew ?_ | refine blk_alloc ?_ _)); refine blk_put (cs := #[.int .i64 t348, .int .i64 0, .slice none 0 0]) ?_ 1 _ rfl; (with_reducible repeat (first | refine blk_drewN ?_ _ | refine blk_drew ?_ | refine blk_alloc ?_ _)); refine blk_put (cs := #[.int .i64 0, .int .i64 0, .slice none 0 0]) ?_ 0 _ rfl; (with_reducible repeat (first | refine blk_drewN ?_ _ | refine blk_drew ?_ | refine blk_alloc ?_ _)); exact BK354.out⟩
      have n6_ : Aside0 (IsS94 w0 (((w28.setCell ⟨gb354, 0, none⟩ (.int .i64 t348)).setCell ⟨gb354, 1, none⟩ (.int .i64 0)).setCell ⟨gb354, 2, none⟩ (.slice Ao27 y351.length co27)) g s0_0 t349 t350) := ⟨by with_reducible repeat (first | exact HI0.out | apply IsS94.alloc | apply IsS94.drewN | apply IsS94.drew | apply IsS94.set_1 | apply IsS94.set_2 | refine IsS94.far ?_ NB0_331.out _ | refine IsS94.far ?_ NB0_341.out _ | refine IsS94.far ?_ NB0_354.out _)⟩
      have n7_ : Aside0 (KeepBut w (((w28.setCell ⟨gb354, 0, none⟩ (.int .i64 t348)).setCell ⟨gb354, 1, none⟩ (.int .i64 0)).setCell ⟨gb354, 2, none⟩ (.slice Ao27 y351.length co27)) g none) := ⟨by with_reducible repeat (first | exact HK.out | apply KeepBut.set_ | apply keep_drewN | apply keep_drew | apply keep_alloc | refine keep_far ?_ GW331.out _ | refine keep_far ?_ GW341.out _ | refine keep_far ?_ GW354.out _)⟩
      have n8_ : Aside0 (Below w0.heap.size w0 (((w28.setCell ⟨gb354, 0, none⟩ (.int .i64 t348)).setCell ⟨gb354, 1, none⟩ (.int .i64 0)).setCell ⟨gb354, 2, none⟩ (.slice Ao27 y351.length co27))) := ⟨by with_reducible repeat (first | exact HB.out | apply below_alloc | apply pw_below_drewN | apply below_drew1 | refine below_set ?_ (IsS94.ge HI0.out) | refine below_set ?_ GE331.out | refine below_set ?_ GE341.out | refine below_set ?_ GE354.out)⟩
      (try clear HO_342001)
      (try clear HO_342002)
      (try clear HO353)
      (try clear BK331)
      (try clear BK341)
      (try clear BK354)
      (try clear HI0)
      (try clear HK)
      (try clear HB)
      generalize (((w28.setCell ⟨gb354, 0, none⟩ (.int .i64 t348)).setCell ⟨gb354, 1, none⟩ (.int .i64 0)).setCell ⟨gb354, 2, none⟩ (.slice Ao27 y351.length co27)) = w33 at n0_ n1_ n2_ n3_ n4_ n5_ n6_ n7_ n8_ ⊢
      have HO_342001 := n0_
      have HO_342002 := n1_
      have HO353 := n2_
      have BK331 := n3_
      have BK341 := n4_
      have BK354 := n5_
      have HI0 := n6_
      have HK := n7_
      have HB := n8_
      clear n0_ n1_ n2_ n3_ n4_ n5_ n6_ n7_ n8_
      have n0_ := Aside0.mk (Kd.S_drew HO_342001.out)
      have n1_ := Aside0.mk (Kd.R_drew HO_342002.out)
      have n2_ := Aside0.mk (Kd.R_drew HO353.out)
      have n3_ := Aside0.mk (blk_drew BK331.out)
      have n4_ := Aside0.mk (blk_drew BK341.out)
      have n5_ := Aside0.mk (blk_drew BK354.out)
      have n6_ := Aside0.mk (IsS94.drew HI0.out)
      have n7_ := Aside0.mk (keep_drew HK.out)
      have n8_ := Aside0.mk (below_drew1 HB.out)
      clear HO_342001
      clear HO_342002
      clear HO353
      clear BK331
      clear BK341
      clear BK354
      clear HI0
      clear HK
      clear HB
      have HO_342001 := n0_
      have HO_342002 := n1_
      have HO353 := n2_
      have BK331 := n3_
      have BK341 := n4_
      have BK354 := n5_
      have HI0 := n6_
      have HK := n7_
      have HB := n8_
      clear n0_ n1_ n2_ n3_ n4_ n5_ n6_ n7_ n8_
      refine start_ (n := 7) (S := fun w' => w'.cell? ⟨gb354, 0, none⟩ = some (.int .i64 t348) ∧ w'.cell? ⟨gb354, 1, none⟩ = some (.int .i64 0) ∧ w'.cell? ⟨gb354, 2, none⟩ = some (.slice Ao27 y351.length co27)) (ds := [6]) #[false, false, false, false, false, false, false] (by kernel_rfl) rfl rfl ⟨(blk_cell BK354.out 0).trans rfl, (blk_cell BK354.out 1).trans rfl, (blk_cell BK354.out 2).trans rfl⟩ (fun hHeld => ?_)
      generalize w33.drew = w34 at HO_342001 HO_342002 HO353 BK331 BK341 BK354 HI0 HK HB hHeld ⊢
      refine pure_ (i := 0) (N := some 28) (v := ?_) (a' := ?_) #[true, false, false, false, false, false, false] rfl rfl (by kernel_rfl) (fun _ _ _ h => h) (Or.inl ⟨by rfl, ?_⟩) ?_ ?_
      rotate_left
      ·intro w'
       go_simp
       with_reducible rfl
      rotate_left
      ·simp only [Act.put, List.setIfInBounds_toArray, List.set_cons_zero, List.set_cons_succ, i64_w, i32_w]
       rfl
      refine pure_ (i := 2) (N := some 30) (v := ?_) (a' := ?_) #[true, false, true, false, false, false, false] rfl rfl (by kernel_rfl) (fun _ _ _ h => h) (Or.inl ⟨by rfl, ?_⟩) ?_ ?_
      rotate_left
      ·intro w'
       go_simp
       with_reducible rfl
      rotate_left
      ·simp only [Act.put, List.setIfInBounds_toArray, List.set_cons_zero, List.set_cons_succ, i64_w, i32_w]
       rfl
      refine take_ (i := 1) (N := some 29) (v := ?_) (a' := ?_) #[true, true, true, false, false, false, false] rfl rfl (by kernel_rfl) (fun _ _ _ h => h) (Or.inl ⟨by rfl, ?_⟩) hHeld ?_ ?_
      rotate_left
      ·rintro w' ⟨s0, s1, s2⟩
       go_simp
       with_reducible rfl
      rotate_left
      ·simp only [Act.put, List.setIfInBounds_toArray, List.set_cons_zero, List.set_cons_succ, i64_w, i32_w]
       rfl
      refine one_ (i := 3) (N := some 31) #[true, true, true, true, false, false, false] rfl rfl (by kernel_rfl) (by decide) (fun K hK => ?_)
      refine goes_ Try.func35 (by kernel_rfl) rfl #[.pointer (some ⟨g, 0, none⟩), .int .i64 6] (by rfl) rfl rfl (by (try simp only [List.map_toArray, List.map_cons, List.map_nil]); first | done | rfl | (simp only [List.length_drop, List.length_take]; rfl)) ?_
      with_reducible refine (spec_l00Src_pick.calls g s0_0 t349 t350 6 t355 t356 t357 w0 _ ?side1 ?side2 A23.out).mono ?_
      (case side1 => repeat (first | (with_reducible first | exact HI0.out | apply IsS94.alloc | apply IsS94.drewN | apply IsS94.drew | apply IsS94.set_1 | apply IsS94.set_2 | refine IsS94.far ?_ NB0_331.out _ | refine IsS94.far ?_ NB0_341.out _ | refine IsS94.far ?_ NB0_354.out _) | exact HI0.out))
      (case side2 => repeat (first | (with_reducible first | exact HB.out | apply below_alloc | apply pw_below_drewN | apply below_drew1 | refine below_set ?_ (IsS94.ge HI0.out) | refine below_set ?_ GE331.out | refine below_set ?_ GE341.out | refine below_set ?_ GE354.out) | exact HB.out))
      rintro e w35 ⟨rfl, hi, hb, hk⟩
      refine ⟨_, rfl, ?_⟩
      have n0_ := Aside0.mk (Kd.S_mono (Kd.S_keep (IsS94.apartS (show IsS94 w0 _ g s0_0 t349 t350 from by with_reducible repeat (first | exact HI0.out | apply IsS94.alloc | apply IsS94.drewN | apply IsS94.drew | apply IsS94.set_1 | apply IsS94.set_2 | refine IsS94.far ?_ NB0_331.out _ | refine IsS94.far ?_ NB0_341.out _ | refine IsS94.far ?_ NB0_354.out _)) (by (with_reducible repeat (first | apply Kd.S_alloc | apply Kd.S_drewN | apply Kd.S_drew)); exact HO_342001.out) (by decide)) hk (fun _ h => h.2)) (fun _ h => h.1))
      have n1_ := Aside0.mk (Kd.R_mono (Kd.R_keep (IsS94.apart (show IsS94 w0 _ g s0_0 t349 t350 from by with_reducible repeat (first | exact HI0.out | apply IsS94.alloc | apply IsS94.drewN | apply IsS94.drew | apply IsS94.set_1 | apply IsS94.set_2 | refine IsS94.far ?_ NB0_331.out _ | refine IsS94.far ?_ NB0_341.out _ | refine IsS94.far ?_ NB0_354.out _)) (by (with_reducible repeat (first | apply Kd.R_alloc | apply Kd.R_drewN | apply Kd.R_drew)); exact HO_342002.out) (by decide)) hk (fun _ h => h.2)) (fun _ h => h.1))
      have n2_ := Aside0.mk (KeepBut.blk hk (g' := gb331) (o := .cells #[.int .i64 0, .slice none 0 0, .slice none 0 0, .int .i64 0, .int .i64 0, .int .i64 0, .int .i64 0] 45 (0, 0)) (by (with_reducible repeat (first | refine blk_drewN ?_ _ | refine blk_drew ?_ | refine blk_alloc ?_ _)); exact BK331.out) NB331_0.out (by simp))
      have n3_ := Aside0.mk (KeepBut.blk hk (g' := gb341) (o := .cells #[.int .i64 (wrap64 (1 + t332)), u342001, .slice Ao12 y338.length co12, .int .i64 0, .int .i64 0, .int .i64 0, .int .i64 0] 45 (0, 0)) (by (with_reducible repeat (first | refine blk_drewN ?_ _ | refine blk_drew ?_ | refine blk_alloc ?_ _)); exact BK341.out) NB341_0.out (by simp))
      have n4_ := Aside0.mk (Kd.R_mono (Kd.R_keep (IsS94.apart (show IsS94 w0 _ g s0_0 t349 t350 from by with_reducible repeat (first | exact HI0.out | apply IsS94.alloc | apply IsS94.drewN | apply IsS94.drew | apply IsS94.set_1 | apply IsS94.set_2 | refine IsS94.far ?_ NB0_331.out _ | refine IsS94.far ?_ NB0_341.out _ | refine IsS94.far ?_ NB0_354.out _)) (by (with_reducible repeat (first | apply Kd.R_alloc | apply Kd.R_drewN | apply Kd.R_drew)); exact HO353.out) (by decide)) hk (fun _ h => h.2)) (fun _ h => h.1))
      have n5_ := Aside0.mk (KeepBut.blk hk (g' := gb354) (o := .cells #[.int .i64 t348, .int .i64 0, .slice Ao27 y351.length co27] 56 (0, 0)) (by (with_reducible repeat (first | refine blk_drewN ?_ _ | refine blk_drew ?_ | refine blk_alloc ?_ _)); exact BK354.out) NB354_0.out (by simp))
      have n6_ := Aside0.mk (KeepBut.trans (by with_reducible repeat (first | exact HK.out | apply KeepBut.set_ | apply keep_drewN | apply keep_drew | apply keep_alloc | refine keep_far ?_ GW331.out _ | refine keep_far ?_ GW341.out _ | refine keep_far ?_ GW354.out _)) hk (.inl rfl))
      have n7_ := Aside0.mk (hb)
      have n8_ := Aside0.mk (hi)
      clear HO_342001
      clear HO_342002
      clear BK331
      clear BK341
      clear HO353
      clear BK354
      clear HK
      clear HB
      clear HI0
      have HO_342001 := n0_
      have HO_342002 := n1_
      have BK331 := n2_
      have BK341 := n3_
      have HO353 := n4_
      have BK354 := n5_
      have HK := n6_
      have HB := n7_
      have HI0 := n8_
      clear n0_ n1_ n2_ n3_ n4_ n5_ n6_ n7_ n8_
      (try clear hb)
      (try clear hb2)
      (try clear hk)
      (try clear hi)
      refine hK.out _ _ ⟨(blk_cell BK354.out 0).trans rfl, (blk_cell BK354.out 1).trans rfl, (blk_cell BK354.out 2).trans rfl⟩ (fun hHeld => ?_)
      clear hK K
      refine norm_ (a' := ?_) ?_ ?_
      rotate_left
      ·show Act.put _ (some 31) _ = _
       simp only [Act.put, List.setIfInBounds_toArray, List.set_cons_zero, List.set_cons_succ, i64_w, i32_w]
       rfl
      refine pure_ (i := 4) (N := some 32) (v := ?_) (a' := ?_) #[true, true, true, true, true, false, false] rfl rfl (by kernel_rfl) (fun _ _ _ h => h) (Or.inl ⟨by rfl, ?_⟩) ?_ ?_
      rotate_left
      ·intro w'
       go_simp
       with_reducible rfl
      rotate_left
      ·simp only [Act.put, List.setIfInBounds_toArray, List.set_cons_zero, List.set_cons_succ, i64_w, i32_w]
       rfl
      refine pure_ (i := 5) (N := some 33) (v := ?_) (a' := ?_) #[true, true, true, true, true, true, false] rfl rfl (by kernel_rfl) (fun _ _ _ h => h) (Or.inl ⟨by rfl, ?_⟩) ?_ ?_
      rotate_left
      ·intro w'
       go_simp
       with_reducible rfl
      rotate_left
      ·simp only [Act.put, List.setIfInBounds_toArray, List.set_cons_zero, List.set_cons_succ, i64_w, i32_w]
       rfl
      refine last_ (i := 6) (N := none) #[true, true, true, true, true, true, true] rfl rfl (by kernel_rfl) (by decide) (fun K hK => ?_)
      have hs36 : w35.cell? ⟨gb354, 1, none⟩ = some (.int .i64 0) := (blk_cell BK354.out 1).trans rfl
      have hfs36 := blk_frozen BK354.out 1
      have hns36_0 := NB331_354.out
      have hns36_1 := NB341_354.out
      have hms36_0 := NB354_331.out
      have hms36_1 := NB354_341.out
      refine skip_ (w1 := ?_) (by rfl) rfl ?_ ?_
      rotate_left
      ·go_simp
       rfl
      refine hK.out _ _ ?_
      clear hK K
      refine done_ (by kernel_rfl) ?_
      try go_wp2
      go_loopg [7] k2 (fun kq v7 w' => ∃ (x7_3 : Int) (x1001_3 : Int) (x1002_3 : Int) (x355002_3 : List Int) (u355002 : Value), v7 = .int .i64 x7_3 ∧ Aside0 (spec_l06DrawOk.l1 kq x4_4 x5_2 x7_3 s0_0 x1001_3 x1002_3 (wrap64 (1 + t332)) x342001_2 y338 0 0 0 0 t348 (wrap64 (t348 + t355)) x355002_3 = some (r1, r2, r3, r4, r5, r6, r7, r8, r9)) ∧ Aside0 (kq ≤ k2) ∧ Aside0 (Kd.S k56 56 w' w.heap.size (fun k_ => some k_ ≠ ((.slice Ao12 y338.length co12) : Value).ownBlock ∧ some k_ ≠ (u355002 : Value).ownBlock ∧ k_ ≠ gb354) u342001 x342001_2) ∧ Aside0 (Kd.R (Kd.int .i64) 2 w' w.heap.size (fun k_ => some k_ ≠ (u355002 : Value).ownBlock) (.slice Ao12 y338.length co12) y338) ∧ Aside0 (Kd.R (Kd.int .i64) 2 w' w.heap.size (fun k_ => some k_ ≠ ((.slice Ao12 y338.length co12) : Value).ownBlock) u355002 x355002_3) ∧ Aside0 (w'.heap[gb331]? = some (.cells #[.int .i64 0, (.slice none 0 0), (.slice none 0 0), .int .i64 0, .int .i64 0, .int .i64 0, .int .i64 0] 45 (0, 0))) ∧ Aside0 (w'.heap[gb341]? = some (.cells #[.int .i64 (wrap64 (1 + t332)), u342001, (.slice Ao12 y338.length co12), .int .i64 0, .int .i64 0, .int .i64 0, .int .i64 0] 45 (0, 0))) ∧ Aside0 (w'.heap[gb354]? = some (.cells #[.int .i64 t348, .int .i64 (wrap64 (t348 + t355)), u355002] 56 (0, 0))) ∧ Aside0 (IsS94 w0 w' g s0_0 x1001_3 x1002_3) ∧ Aside0 (KeepBut w w' g none) ∧ Aside0 (Below w0.heap.size w0 w'))
      case atStart => exact ⟨(0), (t356), (t357), (y351), (.slice Ao27 y351.length co27), (by first | rfl | (simp; done) | (simp [*]; done)), H', ⟨Nat.le_refl _⟩, ⟨by (with_reducible repeat (first | apply Kd.S_alloc | apply Kd.S_drewN | apply Kd.S_drew)); exact Kd.S_mono (Kd.S_far (p := ⟨gb354, 1, none⟩) (Kd.S_mono HO_342001.out (fun k_ hk => (⟨hk, hk.2.2⟩ : _ ∧ k_ ≠ gb354))) (fun _ hk => hk.2) (.int .i64 (wrap64 (t348 + t355)))) (fun _ hk => ⟨hk.1.1, ⟨hk.1.2.1, hk.1.2.2⟩⟩)⟩, ⟨by (with_reducible repeat (first | apply Kd.R_alloc | apply Kd.R_drewN | apply Kd.R_drew)); exact Kd.R_mono (Kd.R_far (p := ⟨gb354, 1, none⟩) (Kd.R_types HO_342002.out BK354.out (by decide)) (fun _ hk => hk.2) (.int .i64 (wrap64 (t348 + t355)))) (fun _ hk => hk.1)⟩, ⟨by (with_reducible repeat (first | apply Kd.R_alloc | apply Kd.R_drewN | apply Kd.R_drew)); exact Kd.R_mono (Kd.R_far (p := ⟨gb354, 1, none⟩) (Kd.R_types HO353.out BK354.out (by decide)) (fun _ hk => hk.2) (.int .i64 (wrap64 (t348 + t355)))) (fun _ hk => hk.1)⟩, ⟨by (with_reducible repeat (first | refine blk_drewN ?_ _ | refine blk_drew ?_ | refine blk_alloc ?_ _)); refine blk_far ?_ NB331_354.out _; (with_reducible repeat (first | refine blk_drewN ?_ _ | refine blk_drew ?_ | refine blk_alloc ?_ _)); exact BK331.out⟩, ⟨by (with_reducible repeat (first | refine blk_drewN ?_ _ | refine blk_drew ?_ | refine blk_alloc ?_ _)); refine blk_far ?_ NB341_354.out _; (with_reducible repeat (first | refine blk_drewN ?_ _ | refine blk_drew ?_ | refine blk_alloc ?_ _)); exact BK341.out⟩, ⟨by (with_reducible repeat (first | refine blk_drewN ?_ _ | refine blk_drew ?_ | refine blk_alloc ?_ _)); refine blk_put (cs := #[.int .i64 t348, .int .i64 0, .slice Ao27 y351.length co27]) ?_ 1 _ rfl; (with_reducible repeat (first | refine blk_drewN ?_ _ | refine blk_drew ?_ | refine blk_alloc ?_ _)); exact BK354.out⟩, ⟨by with_reducible repeat (first | exact HI0.out | apply IsS94.alloc | apply IsS94.drewN | apply IsS94.drew | apply IsS94.set_1 | apply IsS94.set_2 | refine IsS94.far ?_ NB0_331.out _ | refine IsS94.far ?_ NB0_341.out _ | refine IsS94.far ?_ NB0_354.out _)⟩, ⟨by with_reducible repeat (first | exact HK.out | apply KeepBut.set_ | apply keep_drewN | apply keep_drew | apply keep_alloc | refine keep_far ?_ GW331.out _ | refine keep_far ?_ GW341.out _ | refine keep_far ?_ GW354.out _)⟩, ⟨by with_reducible repeat (first | exact HB.out | apply below_alloc | apply pw_below_drewN | apply below_drew1 | refine below_set ?_ (IsS94.ge HI0.out) | refine below_set ?_ GE331.out | refine below_set ?_ GE341.out | refine below_set ?_ GE354.out)⟩⟩
      case round =>
       clear H'
       try clear c1
       try clear c2
       try clear p2
       try clear c3
       try clear c4
       try clear c6
       try clear p6
       try clear c15
       try clear c16
       try clear c20
       try clear c21
       try clear c21b0
       try clear c29
       try clear c30
       try clear c31
       try clear c35
       try clear hcz17_0
       try clear hcz17_1
       try clear hcz17_2
       try clear hcz17_3
       try clear hcz17_4
       try clear hcz17_5
       try clear hcz17_6
       try clear hcz32_0
       try clear hcz32_1
       try clear hcz32_2
       try clear hfz17_0
       try clear hfz17_1
       try clear hfz17_2
       try clear hfz17_3
       try clear hfz17_4
       try clear hfz17_5
       try clear hfz17_6
       try clear hfz32_0
       try clear hfz32_1
       try clear hfz32_2
       try clear p2
       try clear p6
       obtain ⟨x7_3, x1001_3, x1002_3, x355002_3, u355002, rfl, HA, HK3, HO_342001, HO_342002, HO_355002, BK331, BK341, BK354, HI0, HK, HB⟩ := hrel
       cases gk with
       | zero => exact absurd HA.out (by simp [spec_l06DrawOk.l1])
       | succ k3 =>
        have H := HA.out
        clear HA
        simp only [spec_l06DrawOk.l1] at H
        by_cases c37 : x7_3 < (wrap64 ((wrap64 (1 + t332)) + x5_2))
        ·rw [if_pos c37] at H
         have c37b0 : decide (x7_3 < (wrap64 ((wrap64 (1 + t332)) + x5_2))) = true := decide_eq_true c37
         clear c37
         replace H := Option.bind_eq_some_iff.mp H
         obtain ⟨⟨t358, t359, t360⟩, A380, H⟩ := H
         try dsimp only at H
         have A38 := Aside0.mk A380
         clear A380
         by_cases c39 : t358 = true
         ·subst c39
          rw [if_pos rfl] at H
          by_cases c40 : x355002_3.length < 17592186044416
          case neg => rw [if_neg c40] at H; exact absurd H (by simp)
          rw [if_pos c40] at H
          have LMc40 := Aside0.mk c40
          clear c40
          obtain ⟨y361, hy361⟩ : ∃ y_ : List Int, y_ = (x355002_3 ++ [x7_3]) := ⟨_, rfl⟩
          (try rw [Option.bind_some] at H); try rw [← hy361] at H
          have Ny361 := Aside0.mk hy361
          clear hy361
          have H' := Aside0.mk H
          clear H
          have hnb41 := NB341_331.out
          have hnc41 := NB331_341.out
          have hnb42 := NB341_354.out
          have hnc42 := NB354_341.out
          have hnb43 := NB341_0.out
          have hnc43 := NB0_341.out
          have hcz44_0 : wr.cell? ⟨gb341, 0, none⟩ = some (.int .i64 (wrap64 (1 + t332))) := (blk_cell BK341.out 0).trans rfl
          have hcz44_1 : wr.cell? ⟨gb341, 1, none⟩ = some (u342001) := (blk_cell BK341.out 1).trans rfl
          have hcz44_2 : wr.cell? ⟨gb341, 2, none⟩ = some (.slice Ao12 y338.length co12) := (blk_cell BK341.out 2).trans rfl
          have hcz44_3 : wr.cell? ⟨gb341, 3, none⟩ = some (.int .i64 0) := (blk_cell BK341.out 3).trans rfl
          have hcz44_4 : wr.cell? ⟨gb341, 4, none⟩ = some (.int .i64 0) := (blk_cell BK341.out 4).trans rfl
          have hcz44_5 : wr.cell? ⟨gb341, 5, none⟩ = some (.int .i64 0) := (blk_cell BK341.out 5).trans rfl
          have hcz44_6 : wr.cell? ⟨gb341, 6, none⟩ = some (.int .i64 0) := (blk_cell BK341.out 6).trans rfl
          have hfz44_0 := blk_frozen BK341.out 0
          have hfz44_1 := blk_frozen BK341.out 1
          have hfz44_2 := blk_frozen BK341.out 2
          have hfz44_3 := blk_frozen BK341.out 3
          have hfz44_4 := blk_frozen BK341.out 4
          have hfz44_5 := blk_frozen BK341.out 5
          have hfz44_6 := blk_frozen BK341.out 6
          go_wp2_with (first | ((with_reducible refine gate_callee (f := 66) rfl ?_); refine goesL_ (some 43) rfl rfl Try.func66 (by kernel_rfl) rfl #[.pointer (some ⟨g, 0, none⟩), .int .i64 3] rfl (by (try simp only [List.map_toArray, List.map_cons, List.map_nil]); first | done | rfl | (simp only [List.length_drop, List.length_take]; rfl)) ?_; (with_reducible refine (spec_l00Src_one.calls g s0_0 x1001_3 x1002_3 3 true t359 t360 w0 _ ?side1 ?side2 A38.out).mono ?_); (case side1 => repeat (first | (with_reducible first | exact HI0.out | apply IsS94.alloc | apply IsS94.drewN | apply IsS94.drew | apply IsS94.set_1 | apply IsS94.set_2 | refine IsS94.far ?_ NB0_331.out _ | refine IsS94.far ?_ NB0_341.out _ | refine IsS94.far ?_ NB0_354.out _) | exact HI0.out)); (case side2 => repeat (first | (with_reducible first | exact HB.out | apply below_alloc | apply pw_below_drewN | apply below_drew1 | refine below_set ?_ (IsS94.ge HI0.out) | refine below_set ?_ GE331.out | refine below_set ?_ GE341.out | refine below_set ?_ GE354.out) | exact HB.out)); rintro e w45 ⟨rfl, hi, hb, hk⟩; refine ⟨_, rfl, ?_⟩; have n0_ := Aside0.mk (Kd.S_mono (Kd.S_keep (IsS94.apartS (show IsS94 w0 _ g s0_0 x1001_3 x1002_3 from by with_reducible repeat (first | exact HI0.out | apply IsS94.alloc | apply IsS94.drewN | apply IsS94.drew | apply IsS94.set_1 | apply IsS94.set_2 | refine IsS94.far ?_ NB0_331.out _ | refine IsS94.far ?_ NB0_341.out _ | refine IsS94.far ?_ NB0_354.out _)) (by (with_reducible repeat (first | apply Kd.S_alloc | apply Kd.S_drewN | apply Kd.S_drew)); exact HO_342001.out) (by decide)) hk (fun _ h => h.2)) (fun _ h => h.1)); have n1_ := Aside0.mk (Kd.R_mono (Kd.R_keep (IsS94.apart (show IsS94 w0 _ g s0_0 x1001_3 x1002_3 from by with_reducible repeat (first | exact HI0.out | apply IsS94.alloc | apply IsS94.drewN | apply IsS94.drew | apply IsS94.set_1 | apply IsS94.set_2 | refine IsS94.far ?_ NB0_331.out _ | refine IsS94.far ?_ NB0_341.out _ | refine IsS94.far ?_ NB0_354.out _)) (by (with_reducible repeat (first | apply Kd.R_alloc | apply Kd.R_drewN | apply Kd.R_drew)); exact HO_342002.out) (by decide)) hk (fun _ h => h.2)) (fun _ h => h.1)); have n2_ := Aside0.mk (Kd.R_mono (Kd.R_keep (IsS94.apart (show IsS94 w0 _ g s0_0 x1001_3 x1002_3 from by with_reducible repeat (first | exact HI0.out | apply IsS94.alloc | apply IsS94.drewN | apply IsS94.drew | apply IsS94.set_1 | apply IsS94.set_2 | refine IsS94.far ?_ NB0_331.out _ | refine IsS94.far ?_ NB0_341.out _ | refine IsS94.far ?_ NB0_354.out _)) (by (with_reducible repeat (first | apply Kd.R_alloc | apply Kd.R_drewN | apply Kd.R_drew)); exact HO_355002.out) (by decide)) hk (fun _ h => h.2)) (fun _ h => h.1)); have n3_ := Aside0.mk (KeepBut.blk hk (g' := gb331) (o := .cells #[.int .i64 0, .slice none 0 0, .slice none 0 0, .int .i64 0, .int .i64 0, .int .i64 0, .int .i64 0] 45 (0, 0)) (by (with_reducible repeat (first | refine blk_drewN ?_ _ | refine blk_drew ?_ | refine blk_alloc ?_ _)); exact BK331.out) NB331_0.out (by simp)); have n4_ := Aside0.mk (KeepBut.blk hk (g' := gb341) (o := .cells #[.int .i64 (wrap64 (1 + t332)), u342001, .slice Ao12 y338.length co12, .int .i64 0, .int .i64 0, .int .i64 0, .int .i64 0] 45 (0, 0)) (by (with_reducible repeat (first | refine blk_drewN ?_ _ | refine blk_drew ?_ | refine blk_alloc ?_ _)); exact BK341.out) NB341_0.out (by simp)); have n5_ := Aside0.mk (KeepBut.blk hk (g' := gb354) (o := .cells #[.int .i64 t348, .int .i64 (wrap64 (t348 + t355)), u355002] 56 (0, 0)) (by (with_reducible repeat (first | refine blk_drewN ?_ _ | refine blk_drew ?_ | refine blk_alloc ?_ _)); exact BK354.out) NB354_0.out (by simp)); have n6_ := Aside0.mk (KeepBut.trans (by with_reducible repeat (first | exact HK.out | apply KeepBut.set_ | apply keep_drewN | apply keep_drew | apply keep_alloc | refine keep_far ?_ GW331.out _ | refine keep_far ?_ GW341.out _ | refine keep_far ?_ GW354.out _)) hk (.inl rfl)); have n7_ := Aside0.mk (hb); have n8_ := Aside0.mk (hi); clear HO_342001; clear HO_342002; clear HO_355002; clear BK331; clear BK341; clear BK354; clear HK; clear HB; clear HI0; have HO_342001 := n0_; have HO_342002 := n1_; have HO_355002 := n2_; have BK331 := n3_; have BK341 := n4_; have BK354 := n5_; have HK := n6_; have HB := n7_; have HI0 := n8_; clear n0_ n1_ n2_ n3_ n4_ n5_ n6_ n7_ n8_; (try clear hb); (try clear hb2); (try clear hk); (try clear hi); have hnb46 := NB354_331.out; have hnc46 := NB331_354.out; have hnb47 := NB354_0.out; have hnc47 := NB0_354.out; have hcz48_0 : w45.cell? ⟨gb354, 0, none⟩ = some (.int .i64 t348) := (blk_cell BK354.out 0).trans rfl; have hcz48_1 : w45.cell? ⟨gb354, 1, none⟩ = some (.int .i64 (wrap64 (t348 + t355))) := (blk_cell BK354.out 1).trans rfl; have hcz48_2 : w45.cell? ⟨gb354, 2, none⟩ = some (u355002) := (blk_cell BK354.out 2).trans rfl; have hfz48_0 := blk_frozen BK354.out 0; have hfz48_1 := blk_frozen BK354.out 1; have hfz48_2 := blk_frozen BK354.out 2) | ((with_reducible refine gate_builtin (b := .append) (xs := #[.tmp 45, .tmp 47]) rfl ?_); at_builtin; refine Kd.R_append (Kd.int .i64) w.heap.size rfl (.tmp 45) (.tmp 47) 28 2 (.int .i64 0) 8 rfl Try.underlying28 info2 rfl (by decide) (by omega) u355002 x355002_3 x7_3 [.int .i64 x7_3] (fun k_ => some k_ ≠ (.slice Ao12 y338.length co12 : Value).ownBlock) (fun _ => False) rfl rfl ?aP (fun _ hk => hk.elim) ?aF ?aO (Below.refl _ _) ?aS ?aL ?_; (case aP => exact rfl); (case aF => exact (fun k_ hk => Kd.fresh' (Kd.R_lt (by (with_reducible repeat (first | apply Kd.R_alloc | apply Kd.R_drewN | apply Kd.R_drew)); exact HO_342002.out)) k_ hk)); (case aO => exact (by (with_reducible repeat (first | apply Kd.R_alloc | apply Kd.R_drewN | apply Kd.R_drew)); exact HO_355002.out)); (case aS => exact (keep_size (w := w) (g := g) (row := none) (by with_reducible repeat (first | exact HK.out | apply KeepBut.set_ | apply keep_drewN | apply keep_drew | apply keep_alloc | refine keep_far ?_ GW331.out _ | refine keep_far ?_ GW341.out _ | refine keep_far ?_ GW354.out _)))); (case aL => have := LMc40.out; omega); intro v362 w49 ho hb hg hat; rw [← Ny361.out] at ho; have n0_ := Aside0.mk (Kd.S_after (ok := (fun k_ => some k_ ≠ (.slice Ao12 y338.length co12 : Value).ownBlock ∧ k_ ≠ gb354)) (by (with_reducible repeat (first | apply Kd.S_alloc | apply Kd.S_drewN | apply Kd.S_drew)); exact Kd.S_mono HO_342001.out (fun _ hk => ⟨⟨hk.1, hk.2.2⟩, hk.2.1⟩)) hg hat); have n1_ := Aside0.mk (Kd.R_after (ok := (fun _ => True)) (by (with_reducible repeat (first | apply Kd.R_alloc | apply Kd.R_drewN | apply Kd.R_drew)); exact Kd.R_mono HO_342002.out (fun _ hk => ⟨trivial, hk⟩)) hg hat); have n2_ := Aside0.mk (blk_grown (g := gb331) (o := .cells #[.int .i64 0, .slice none 0 0, .slice none 0 0, .int .i64 0, .int .i64 0, .int .i64 0, .int .i64 0] 45 (0, 0)) (by (with_reducible repeat (first | refine blk_drewN ?_ _ | refine blk_drew ?_ | refine blk_alloc ?_ _)); exact BK331.out) hg (Kd.R_ne HO_355002.out BK331.out (by decide))); have n3_ := Aside0.mk (blk_grown (g := gb341) (o := .cells #[.int .i64 (wrap64 (1 + t332)), u342001, .slice Ao12 y338.length co12, .int .i64 0, .int .i64 0, .int .i64 0, .int .i64 0] 45 (0, 0)) (by (with_reducible repeat (first | refine blk_drewN ?_ _ | refine blk_drew ?_ | refine blk_alloc ?_ _)); exact BK341.out) hg (Kd.R_ne HO_355002.out BK341.out (by decide))); have n4_ := Aside0.mk (blk_grown (g := gb354) (o := .cells #[.int .i64 t348, .int .i64 (wrap64 (t348 + t355)), u355002] 56 (0, 0)) (by (with_reducible repeat (first | refine blk_drewN ?_ _ | refine blk_drew ?_ | refine blk_alloc ?_ _)); exact BK354.out) hg (Kd.R_ne HO_355002.out BK354.out (by decide))); have n5_ := Aside0.mk (IsS94.grown (by with_reducible repeat (first | exact HI0.out | apply IsS94.alloc | apply IsS94.drewN | apply IsS94.drew | apply IsS94.set_1 | apply IsS94.set_2 | refine IsS94.far ?_ NB0_331.out _ | refine IsS94.far ?_ NB0_341.out _ | refine IsS94.far ?_ NB0_354.out _)) hg (IsS94.own_ne HI0.out HO_355002.out (by decide))); have n6_ := Aside0.mk (below_weaken (by with_reducible repeat (first | exact HB.out | apply below_alloc | apply pw_below_drewN | apply below_drew1 | refine below_set ?_ (IsS94.ge HI0.out) | refine below_set ?_ GE331.out | refine below_set ?_ GE341.out | refine below_set ?_ GE354.out)) HL.out hb); have n7_ := Aside0.mk (KeepBut.trans (by with_reducible repeat (first | exact HK.out | apply KeepBut.set_ | apply keep_drewN | apply keep_drew | apply keep_alloc | refine keep_far ?_ GW331.out _ | refine keep_far ?_ GW341.out _ | refine keep_far ?_ GW354.out _)) (KeepBut.of_grown hg g) (Kd.R_base2 HO_355002.out)); have n8_ := Aside0.mk (ho); clear HO_342001; clear HO_342002; clear BK331; clear BK341; clear BK354; clear HI0; clear HB; clear HK; clear HO_355002; have HO_342001 := n0_; have HO_342002 := n1_; have BK331 := n2_; have BK341 := n3_; have BK354 := n4_; have HI0 := n5_; have HB := n6_; have HK := n7_; have HO363 := n8_; clear n0_ n1_ n2_ n3_ n4_ n5_ n6_ n7_ n8_; clear ho hb hg hat; obtain ⟨Ao50, co50, eo50⟩ := Kd.R_slice HO363.out; subst eo50; have hcz51_0 : w49.cell? ⟨gb354, 0, none⟩ = some (.int .i64 t348) := (blk_cell BK354.out 0).trans rfl; have hcz51_1 : w49.cell? ⟨gb354, 1, none⟩ = some (.int .i64 (wrap64 (t348 + t355))) := (blk_cell BK354.out 1).trans rfl; have hcz51_2 : w49.cell? ⟨gb354, 2, none⟩ = some (u355002) := (blk_cell BK354.out 2).trans rfl; have hfz51_0 := blk_frozen BK354.out 0; have hfz51_1 := blk_frozen BK354.out 1; have hfz51_2 := blk_frozen BK354.out 2))
          go_roundg k3
          case measure => have := HJ4.out; have := HK2.out; have := HK3.out; omega
          case rel => exact ⟨(wrap64 (x7_3 + 1)), (t359), (t360), (y361), (.slice Ao50 y361.length co50), (by first | rfl | (simp; done) | (simp [*]; done)), H', ⟨by have := HJ4.out; have := HK2.out; have := HK3.out; omega⟩, ⟨by (with_reducible repeat (first | apply Kd.S_alloc | apply Kd.S_drewN | apply Kd.S_drew)); exact Kd.S_mono (Kd.S_far (p := ⟨gb354, 2, none⟩) (Kd.S_mono HO_342001.out (fun k_ hk => (⟨hk, hk.1.2⟩ : _ ∧ k_ ≠ gb354))) (fun _ hk => hk.2) (.slice Ao50 y361.length co50)) (fun _ hk => ⟨hk.1.1.1, ⟨hk.1.2, hk.1.1.2⟩⟩)⟩, ⟨by (with_reducible repeat (first | apply Kd.R_alloc | apply Kd.R_drewN | apply Kd.R_drew)); exact Kd.R_mono (Kd.R_far (p := ⟨gb354, 2, none⟩) (Kd.R_types HO_342002.out BK354.out (by decide)) (fun _ hk => hk.2) (.slice Ao50 y361.length co50)) (fun _ hk => hk.1.2)⟩, ⟨by (with_reducible repeat (first | apply Kd.R_alloc | apply Kd.R_drewN | apply Kd.R_drew)); exact Kd.R_mono (Kd.R_far (p := ⟨gb354, 2, none⟩) (Kd.R_types HO363.out BK354.out (by decide)) (fun _ hk => hk.2) (.slice Ao50 y361.length co50)) (fun _ hk => hk.1)⟩, ⟨by (with_reducible repeat (first | refine blk_drewN ?_ _ | refine blk_drew ?_ | refine blk_alloc ?_ _)); refine blk_far ?_ NB331_354.out _; (with_reducible repeat (first | refine blk_drewN ?_ _ | refine blk_drew ?_ | refine blk_alloc ?_ _)); exact BK331.out⟩, ⟨by (with_reducible repeat (first | refine blk_drewN ?_ _ | refine blk_drew ?_ | refine blk_alloc ?_ _)); refine blk_far ?_ NB341_354.out _; (with_reducible repeat (first | refine blk_drewN ?_ _ | refine blk_drew ?_ | refine blk_alloc ?_ _)); exact BK341.out⟩, ⟨by (with_reducible repeat (first | refine blk_drewN ?_ _ | refine blk_drew ?_ | refine blk_alloc ?_ _)); refine blk_put (cs := #[.int .i64 t348, .int .i64 (wrap64 (t348 + t355)), u355002]) ?_ 2 _ rfl; (with_reducible repeat (first | refine blk_drewN ?_ _ | refine blk_drew ?_ | refine blk_alloc ?_ _)); exact BK354.out⟩, ⟨by with_reducible repeat (first | exact HI0.out | apply IsS94.alloc | apply IsS94.drewN | apply IsS94.drew | apply IsS94.set_1 | apply IsS94.set_2 | refine IsS94.far ?_ NB0_331.out _ | refine IsS94.far ?_ NB0_341.out _ | refine IsS94.far ?_ NB0_354.out _)⟩, ⟨by with_reducible repeat (first | exact HK.out | apply KeepBut.set_ | apply keep_drewN | apply keep_drew | apply keep_alloc | refine keep_far ?_ GW331.out _ | refine keep_far ?_ GW341.out _ | refine keep_far ?_ GW354.out _)⟩, ⟨by with_reducible repeat (first | exact HB.out | apply below_alloc | apply pw_below_drewN | apply below_drew1 | refine below_set ?_ (IsS94.ge HI0.out) | refine below_set ?_ GE331.out | refine below_set ?_ GE341.out | refine below_set ?_ GE354.out)⟩⟩
         ·replace c39 := Bool.eq_false_iff.mpr c39
          subst c39
          rw [if_neg (by decide)] at H
          have H' := Aside0.mk H
          clear H
          have hnb52 := NB341_331.out
          have hnc52 := NB331_341.out
          have hnb53 := NB341_354.out
          have hnc53 := NB354_341.out
          have hnb54 := NB341_0.out
          have hnc54 := NB0_341.out
          have hcz55_0 : wr.cell? ⟨gb341, 0, none⟩ = some (.int .i64 (wrap64 (1 + t332))) := (blk_cell BK341.out 0).trans rfl
          have hcz55_1 : wr.cell? ⟨gb341, 1, none⟩ = some (u342001) := (blk_cell BK341.out 1).trans rfl
          have hcz55_2 : wr.cell? ⟨gb341, 2, none⟩ = some (.slice Ao12 y338.length co12) := (blk_cell BK341.out 2).trans rfl
          have hcz55_3 : wr.cell? ⟨gb341, 3, none⟩ = some (.int .i64 0) := (blk_cell BK341.out 3).trans rfl
          have hcz55_4 : wr.cell? ⟨gb341, 4, none⟩ = some (.int .i64 0) := (blk_cell BK341.out 4).trans rfl
          have hcz55_5 : wr.cell? ⟨gb341, 5, none⟩ = some (.int .i64 0) := (blk_cell BK341.out 5).trans rfl
          have hcz55_6 : wr.cell? ⟨gb341, 6, none⟩ = some (.int .i64 0) := (blk_cell BK341.out 6).trans rfl
          have hfz55_0 := blk_frozen BK341.out 0
          have hfz55_1 := blk_frozen BK341.out 1
          have hfz55_2 := blk_frozen BK341.out 2
          have hfz55_3 := blk_frozen BK341.out 3
          have hfz55_4 := blk_frozen BK341.out 4
          have hfz55_5 := blk_frozen BK341.out 5
          have hfz55_6 := blk_frozen BK341.out 6
          go_wp2_with (first | ((with_reducible refine gate_callee (f := 66) rfl ?_); refine goesL_ (some 43) rfl rfl Try.func66 (by kernel_rfl) rfl #[.pointer (some ⟨g, 0, none⟩), .int .i64 3] rfl (by (try simp only [List.map_toArray, List.map_cons, List.map_nil]); first | done | rfl | (simp only [List.length_drop, List.length_take]; rfl)) ?_; (with_reducible refine (spec_l00Src_one.calls g s0_0 x1001_3 x1002_3 3 false t359 t360 w0 _ ?side1 ?side2 A38.out).mono ?_); (case side1 => repeat (first | (with_reducible first | exact HI0.out | apply IsS94.alloc | apply IsS94.drewN | apply IsS94.drew | apply IsS94.set_1 | apply IsS94.set_2 | refine IsS94.far ?_ NB0_331.out _ | refine IsS94.far ?_ NB0_341.out _ | refine IsS94.far ?_ NB0_354.out _) | exact HI0.out)); (case side2 => repeat (first | (with_reducible first | exact HB.out | apply below_alloc | apply pw_below_drewN | apply below_drew1 | refine below_set ?_ (IsS94.ge HI0.out) | refine below_set ?_ GE331.out | refine below_set ?_ GE341.out | refine below_set ?_ GE354.out) | exact HB.out)); rintro e w56 ⟨rfl, hi, hb, hk⟩; refine ⟨_, rfl, ?_⟩; have n0_ := Aside0.mk (Kd.S_mono (Kd.S_keep (IsS94.apartS (show IsS94 w0 _ g s0_0 x1001_3 x1002_3 from by with_reducible repeat (first | exact HI0.out | apply IsS94.alloc | apply IsS94.drewN | apply IsS94.drew | apply IsS94.set_1 | apply IsS94.set_2 | refine IsS94.far ?_ NB0_331.out _ | refine IsS94.far ?_ NB0_341.out _ | refine IsS94.far ?_ NB0_354.out _)) (by (with_reducible repeat (first | apply Kd.S_alloc | apply Kd.S_drewN | apply Kd.S_drew)); exact HO_342001.out) (by decide)) hk (fun _ h => h.2)) (fun _ h => h.1)); have n1_ := Aside0.mk (Kd.R_mono (Kd.R_keep (IsS94.apart (show IsS94 w0 _ g s0_0 x1001_3 x1002_3 from by with_reducible repeat (first | exact HI0.out | apply IsS94.alloc | apply IsS94.drewN | apply IsS94.drew | apply IsS94.set_1 | apply IsS94.set_2 | refine IsS94.far ?_ NB0_331.out _ | refine IsS94.far ?_ NB0_341.out _ | refine IsS94.far ?_ NB0_354.out _)) (by (with_reducible repeat (first | apply Kd.R_alloc | apply Kd.R_drewN | apply Kd.R_drew)); exact HO_342002.out) (by decide)) hk (fun _ h => h.2)) (fun _ h => h.1)); have n2_ := Aside0.mk (Kd.R_mono (Kd.R_keep (IsS94.apart (show IsS94 w0 _ g s0_0 x1001_3 x1002_3 from by with_reducible repeat (first | exact HI0.out | apply IsS94.alloc | apply IsS94.drewN | apply IsS94.drew | apply IsS94.set_1 | apply IsS94.set_2 | refine IsS94.far ?_ NB0_331.out _ | refine IsS94.far ?_ NB0_341.out _ | refine IsS94.far ?_ NB0_354.out _)) (by (with_reducible repeat (first | apply Kd.R_alloc | apply Kd.R_drewN | apply Kd.R_drew)); exact HO_355002.out) (by decide)) hk (fun _ h => h.2)) (fun _ h => h.1)); have n3_ := Aside0.mk (KeepBut.blk hk (g' := gb331) (o := .cells #[.int .i64 0, .slice none 0 0, .slice none 0 0, .int .i64 0, .int .i64 0, .int .i64 0, .int .i64 0] 45 (0, 0)) (by (with_reducible repeat (first | refine blk_drewN ?_ _ | refine blk_drew ?_ | refine blk_alloc ?_ _)); exact BK331.out) NB331_0.out (by simp)); have n4_ := Aside0.mk (KeepBut.blk hk (g' := gb341) (o := .cells #[.int .i64 (wrap64 (1 + t332)), u342001, .slice Ao12 y338.length co12, .int .i64 0, .int .i64 0, .int .i64 0, .int .i64 0] 45 (0, 0)) (by (with_reducible repeat (first | refine blk_drewN ?_ _ | refine blk_drew ?_ | refine blk_alloc ?_ _)); exact BK341.out) NB341_0.out (by simp)); have n5_ := Aside0.mk (KeepBut.blk hk (g' := gb354) (o := .cells #[.int .i64 t348, .int .i64 (wrap64 (t348 + t355)), u355002] 56 (0, 0)) (by (with_reducible repeat (first | refine blk_drewN ?_ _ | refine blk_drew ?_ | refine blk_alloc ?_ _)); exact BK354.out) NB354_0.out (by simp)); have n6_ := Aside0.mk (KeepBut.trans (by with_reducible repeat (first | exact HK.out | apply KeepBut.set_ | apply keep_drewN | apply keep_drew | apply keep_alloc | refine keep_far ?_ GW331.out _ | refine keep_far ?_ GW341.out _ | refine keep_far ?_ GW354.out _)) hk (.inl rfl)); have n7_ := Aside0.mk (hb); have n8_ := Aside0.mk (hi); clear HO_342001; clear HO_342002; clear HO_355002; clear BK331; clear BK341; clear BK354; clear HK; clear HB; clear HI0; have HO_342001 := n0_; have HO_342002 := n1_; have HO_355002 := n2_; have BK331 := n3_; have BK341 := n4_; have BK354 := n5_; have HK := n6_; have HB := n7_; have HI0 := n8_; clear n0_ n1_ n2_ n3_ n4_ n5_ n6_ n7_ n8_; (try clear hb); (try clear hb2); (try clear hk); (try clear hi)))
          go_roundg k3
          case measure => have := HJ4.out; have := HK2.out; have := HK3.out; omega
          case rel => exact ⟨(wrap64 (x7_3 + 1)), (t359), (t360), (x355002_3), (u355002), (by first | rfl | (simp; done) | (simp [*]; done)), H', ⟨by have := HJ4.out; have := HK2.out; have := HK3.out; omega⟩, ⟨by (with_reducible repeat (first | apply Kd.S_alloc | apply Kd.S_drewN | apply Kd.S_drew)); exact HO_342001.out⟩, ⟨by (with_reducible repeat (first | apply Kd.R_alloc | apply Kd.R_drewN | apply Kd.R_drew)); exact HO_342002.out⟩, ⟨by (with_reducible repeat (first | apply Kd.R_alloc | apply Kd.R_drewN | apply Kd.R_drew)); exact HO_355002.out⟩, ⟨by (with_reducible repeat (first | refine blk_drewN ?_ _ | refine blk_drew ?_ | refine blk_alloc ?_ _)); exact BK331.out⟩, ⟨by (with_reducible repeat (first | refine blk_drewN ?_ _ | refine blk_drew ?_ | refine blk_alloc ?_ _)); exact BK341.out⟩, ⟨by (with_reducible repeat (first | refine blk_drewN ?_ _ | refine blk_drew ?_ | refine blk_alloc ?_ _)); exact BK354.out⟩, ⟨by with_reducible repeat (first | exact HI0.out | apply IsS94.alloc | apply IsS94.drewN | apply IsS94.drew | apply IsS94.set_1 | apply IsS94.set_2 | refine IsS94.far ?_ NB0_331.out _ | refine IsS94.far ?_ NB0_341.out _ | refine IsS94.far ?_ NB0_354.out _)⟩, ⟨by with_reducible repeat (first | exact HK.out | apply KeepBut.set_ | apply keep_drewN | apply keep_drew | apply keep_alloc | refine keep_far ?_ GW331.out _ | refine keep_far ?_ GW341.out _ | refine keep_far ?_ GW354.out _)⟩, ⟨by with_reducible repeat (first | exact HB.out | apply below_alloc | apply pw_below_drewN | apply below_drew1 | refine below_set ?_ (IsS94.ge HI0.out) | refine below_set ?_ GE331.out | refine below_set ?_ GE341.out | refine below_set ?_ GE354.out)⟩⟩
        ·rw [if_neg c37] at H
         have c37b0 : decide (x7_3 < (wrap64 ((wrap64 (1 + t332)) + x5_2))) = false := decide_eq_false c37
         clear c37
         by_cases c57 : (x355002_3.length : Int) = 0
         ·rw [if_pos c57] at H
          have c57b0 : ((x355002_3.length : Int) == 0) = true := beq_iff_eq.mpr c57
          have c57b1 : ((x355002_3.length : Int) != 0) = false := bne_eq_false_iff_eq.mpr c57
          clear c57
          replace H := Option.bind_eq_some_iff.mp H
          obtain ⟨⟨t364, t365, t366⟩, A580, H⟩ := H
          try dsimp only at H
          have A58 := Aside0.mk A580
          clear A580
          by_cases c59 : x355002_3.length < 17592186044416
          case neg => rw [if_neg c59] at H; exact absurd H (by simp)
          rw [if_pos c59] at H
          have LMc59 := Aside0.mk c59
          clear c59
          obtain ⟨y367, hy367⟩ : ∃ y_ : List Int, y_ = (x355002_3 ++ [t364]) := ⟨_, rfl⟩
          (try rw [Option.bind_some] at H); try rw [← hy367] at H
          have Ny367 := Aside0.mk hy367
          clear hy367
          by_cases c60 : x342001_2.length < 3518437208883
          case neg => rw [if_neg c60] at H; exact absurd H (by simp)
          rw [if_pos c60] at H
          have LMc60 := Aside0.mk c60
          clear c60
          obtain ⟨y370, hy370⟩ : ∃ y_ : List (S56), y_ = (x342001_2 ++ [(⟨t348, (wrap64 (t348 + t355)), y367⟩ : S56)]) := ⟨_, rfl⟩
          (try rw [Option.bind_some] at H); try rw [← hy370] at H
          have Ny370 := Aside0.mk hy370
          clear hy370
          have H' := Aside0.mk H
          clear H
          have hnb61 := NB341_331.out
          have hnc61 := NB331_341.out
          have hnb62 := NB341_354.out
          have hnc62 := NB354_341.out
          have hnb63 := NB341_0.out
          have hnc63 := NB0_341.out
          have hcz64_0 : wr.cell? ⟨gb341, 0, none⟩ = some (.int .i64 (wrap64 (1 + t332))) := (blk_cell BK341.out 0).trans rfl
          have hcz64_1 : wr.cell? ⟨gb341, 1, none⟩ = some (u342001) := (blk_cell BK341.out 1).trans rfl
          have hcz64_2 : wr.cell? ⟨gb341, 2, none⟩ = some (.slice Ao12 y338.length co12) := (blk_cell BK341.out 2).trans rfl
          have hcz64_3 : wr.cell? ⟨gb341, 3, none⟩ = some (.int .i64 0) := (blk_cell BK341.out 3).trans rfl
          have hcz64_4 : wr.cell? ⟨gb341, 4, none⟩ = some (.int .i64 0) := (blk_cell BK341.out 4).trans rfl
          have hcz64_5 : wr.cell? ⟨gb341, 5, none⟩ = some (.int .i64 0) := (blk_cell BK341.out 5).trans rfl
          have hcz64_6 : wr.cell? ⟨gb341, 6, none⟩ = some (.int .i64 0) := (blk_cell BK341.out 6).trans rfl
          have hfz64_0 := blk_frozen BK341.out 0
          have hfz64_1 := blk_frozen BK341.out 1
          have hfz64_2 := blk_frozen BK341.out 2
          have hfz64_3 := blk_frozen BK341.out 3
          have hfz64_4 := blk_frozen BK341.out 4
          have hfz64_5 := blk_frozen BK341.out 5
          have hfz64_6 := blk_frozen BK341.out 6
          have hnb65 := NB354_331.out
          have hnc65 := NB331_354.out
          have hnb66 := NB354_0.out
          have hnc66 := NB0_354.out
          have hcz67_0 : wr.cell? ⟨gb354, 0, none⟩ = some (.int .i64 t348) := (blk_cell BK354.out 0).trans rfl
          have hcz67_1 : wr.cell? ⟨gb354, 1, none⟩ = some (.int .i64 (wrap64 (t348 + t355))) := (blk_cell BK354.out 1).trans rfl
          have hcz67_2 : wr.cell? ⟨gb354, 2, none⟩ = some (u355002) := (blk_cell BK354.out 2).trans rfl
          have hfz67_0 := blk_frozen BK354.out 0
          have hfz67_1 := blk_frozen BK354.out 1
          have hfz67_2 := blk_frozen BK354.out 2
          obtain ⟨Ao68, co68, eo68⟩ := Kd.R_slice HO_355002.out
          subst eo68
          try go_wp2
          have n0_ := Aside0.mk (Kd.S_drew HO_342001.out)
          have n1_ := Aside0.mk (Kd.R_drew HO_342002.out)
          have n2_ := Aside0.mk (Kd.R_drew HO_355002.out)
          have n3_ := Aside0.mk (blk_drew BK331.out)
          have n4_ := Aside0.mk (blk_drew BK341.out)
          have n5_ := Aside0.mk (blk_drew BK354.out)
          have n6_ := Aside0.mk (IsS94.drew HI0.out)
          have n7_ := Aside0.mk (keep_drew HK.out)
          have n8_ := Aside0.mk (below_drew1 HB.out)
          clear HO_342001
          clear HO_342002
          clear HO_355002
          clear BK331
          clear BK341
          clear BK354
          clear HI0
          clear HK
          clear HB
          have HO_342001 := n0_
          have HO_342002 := n1_
          have HO_355002 := n2_
          have BK331 := n3_
          have BK341 := n4_
          have BK354 := n5_
          have HI0 := n6_
          have HK := n7_
          have HB := n8_
          clear n0_ n1_ n2_ n3_ n4_ n5_ n6_ n7_ n8_
          refine start_ (n := 12) (S := fun w' => w'.cell? ⟨gb354, 0, none⟩ = some (.int .i64 t348) ∧ w'.cell? ⟨gb354, 1, none⟩ = some (.int .i64 (wrap64 (t348 + t355))) ∧ w'.cell? ⟨gb354, 2, none⟩ = some (.slice Ao68 x355002_3.length co68) ∧ w'.cell? ⟨gb341, 0, none⟩ = some (.int .i64 (wrap64 (1 + t332))) ∧ w'.cell? ⟨gb341, 1, none⟩ = some (u342001) ∧ w'.cell? ⟨gb341, 2, none⟩ = some (.slice Ao12 y338.length co12) ∧ w'.cell? ⟨gb341, 3, none⟩ = some (.int .i64 0) ∧ w'.cell? ⟨gb341, 4, none⟩ = some (.int .i64 0) ∧ w'.cell? ⟨gb341, 5, none⟩ = some (.int .i64 0) ∧ w'.cell? ⟨gb341, 6, none⟩ = some (.int .i64 0)) (ds := [11]) #[false, false, false, false, false, false, false, false, false, false, false, false] (by kernel_rfl) rfl rfl ⟨(blk_cell BK354.out 0).trans rfl, (blk_cell BK354.out 1).trans rfl, (blk_cell BK354.out 2).trans rfl, (blk_cell BK341.out 0).trans rfl, (blk_cell BK341.out 1).trans rfl, (blk_cell BK341.out 2).trans rfl, (blk_cell BK341.out 3).trans rfl, (blk_cell BK341.out 4).trans rfl, (blk_cell BK341.out 5).trans rfl, (blk_cell BK341.out 6).trans rfl⟩ (fun hHeld => ?_); refine with_tabW spec_l06DrawOk.tab16 spec_l06DrawOk.bits16 (fun HT_ HW_ => ?_)
          generalize wr.drew = w69 at HO_342001 HO_342002 HO_355002 BK331 BK341 BK354 HI0 HK HB hHeld ⊢
          refine pure_ (i := 0) (N := some 54) (v := ?_) (a' := ?_) #[true, false, false, false, false, false, false, false, false, false, false, false] rfl rfl (any_of HT_.out (by kernel_rfl)) (fun _ _ _ h => h) (Or.inl ⟨by rfl, ?_⟩) ?_ ?_
          rotate_left
          ·intro w'
           go_simp
           with_reducible rfl
          rotate_left
          ·simp only [Act.put, List.setIfInBounds_toArray, List.set_cons_zero, List.set_cons_succ, i64_w, i32_w]
           rfl
          refine pure_ (i := 2) (N := some 56) (v := ?_) (a' := ?_) #[true, false, true, false, false, false, false, false, false, false, false, false] rfl rfl (any_of HT_.out (by kernel_rfl)) (fun _ _ _ h => h) (Or.inl ⟨by rfl, ?_⟩) ?_ ?_
          rotate_left
          ·intro w'
           go_simp
           with_reducible rfl
          rotate_left
          ·simp only [Act.put, List.setIfInBounds_toArray, List.set_cons_zero, List.set_cons_succ, i64_w, i32_w]
           rfl
          refine pure_ (i := 3) (N := some 57) (v := ?_) (a' := ?_) #[true, false, true, true, false, false, false, false, false, false, false, false] rfl rfl (any_of HT_.out (by kernel_rfl)) (fun _ _ _ h => h) (Or.inl ⟨by rfl, ?_⟩) ?_ ?_
          rotate_left
          ·intro w'
           go_simp
           with_reducible rfl
          rotate_left
          ·simp only [Act.put, List.setIfInBounds_toArray, List.set_cons_zero, List.set_cons_succ, i64_w, i32_w]
           rfl
          refine pure_ (i := 5) (N := some 59) (v := ?_) (a' := ?_) #[true, false, true, true, false, true, false, false, false, false, false, false] rfl rfl (any_of HT_.out (by kernel_rfl)) (fun _ _ _ h => h) (Or.inl ⟨by rfl, ?_⟩) ?_ ?_
          rotate_left
          ·intro w'
           go_simp
           with_reducible rfl
          rotate_left
          ·simp only [Act.put, List.setIfInBounds_toArray, List.set_cons_zero, List.set_cons_succ, i64_w, i32_w]
           rfl
          refine take_ (i := 1) (N := some 55) (v := ?_) (a' := ?_) #[true, true, true, true, false, true, false, false, false, false, false, false] rfl rfl (take_ofW HT_.out HW_.out (by kernel_rfl)) (fun _ _ _ h => h) (Or.inl ⟨by rfl, ?_⟩) hHeld ?_ ?_
          rotate_left
          ·rintro w' ⟨s0, s1, s2, s3, s4, s5, s6, s7, s8, s9⟩
           go_simp
           with_reducible rfl
          rotate_left
          ·simp only [Act.put, List.setIfInBounds_toArray, List.set_cons_zero, List.set_cons_succ, i64_w, i32_w]
           rfl
          refine take_ (i := 4) (N := some 58) (v := ?_) (a' := ?_) #[true, true, true, true, true, true, false, false, false, false, false, false] rfl rfl (take_ofW HT_.out HW_.out (by kernel_rfl)) (fun _ _ _ h => h) (Or.inl ⟨by rfl, ?_⟩) hHeld ?_ ?_
          rotate_left
          ·rintro w' ⟨s0, s1, s2, s3, s4, s5, s6, s7, s8, s9⟩
           go_simp
           with_reducible rfl
          rotate_left
          ·simp only [Act.put, List.setIfInBounds_toArray, List.set_cons_zero, List.set_cons_succ, i64_w, i32_w]
           rfl
          refine pure_ (i := 6) (N := some 60) (v := ?_) (a' := ?_) #[true, true, true, true, true, true, true, false, false, false, false, false] rfl rfl (any_of HT_.out (by kernel_rfl)) (fun _ _ _ h => h) (Or.inl ⟨by rfl, ?_⟩) ?_ ?_
          rotate_left
          ·intro w'
           go_simp
           with_reducible rfl
          rotate_left
          ·simp only [Act.put, List.setIfInBounds_toArray, List.set_cons_zero, List.set_cons_succ, i64_w, i32_w]
           rfl
          refine one_ (i := 7) (N := some 61) #[true, true, true, true, true, true, true, true, false, false, false, false] rfl rfl (one_of HT_.out (by kernel_rfl)) (by decide) (fun K hK => ?_)
          refine goes_ Try.func35 (by kernel_rfl) rfl #[.pointer (some ⟨g, 0, none⟩), .int .i64 (wrap64 ((wrap64 (1 + t332)) + x5_2))] (by rfl) rfl rfl (by (try simp only [List.map_toArray, List.map_cons, List.map_nil]); first | done | rfl | (simp only [List.length_drop, List.length_take]; rfl)) ?_
          with_reducible refine (spec_l00Src_pick.calls g s0_0 x1001_3 x1002_3 (wrap64 ((wrap64 (1 + t332)) + x5_2)) t364 t365 t366 w0 _ ?side1 ?side2 A58.out).mono ?_
          (case side1 => repeat (first | (with_reducible first | exact HI0.out | apply IsS94.alloc | apply IsS94.drewN | apply IsS94.drew | apply IsS94.set_1 | apply IsS94.set_2 | refine IsS94.far ?_ NB0_331.out _ | refine IsS94.far ?_ NB0_341.out _ | refine IsS94.far ?_ NB0_354.out _) | exact HI0.out))
          (case side2 => repeat (first | (with_reducible first | exact HB.out | apply below_alloc | apply pw_below_drewN | apply below_drew1 | refine below_set ?_ (IsS94.ge HI0.out) | refine below_set ?_ GE331.out | refine below_set ?_ GE341.out | refine below_set ?_ GE354.out) | exact HB.out))
          rintro e w70 ⟨rfl, hi, hb, hk⟩
          refine ⟨_, rfl, ?_⟩
          have n0_ := Aside0.mk (Kd.S_mono (Kd.S_keep (IsS94.apartS (show IsS94 w0 _ g s0_0 x1001_3 x1002_3 from by with_reducible repeat (first | exact HI0.out | apply IsS94.alloc | apply IsS94.drewN | apply IsS94.drew | apply IsS94.set_1 | apply IsS94.set_2 | refine IsS94.far ?_ NB0_331.out _ | refine IsS94.far ?_ NB0_341.out _ | refine IsS94.far ?_ NB0_354.out _)) (by (with_reducible repeat (first | apply Kd.S_alloc | apply Kd.S_drewN | apply Kd.S_drew)); exact HO_342001.out) (by decide)) hk (fun _ h => h.2)) (fun _ h => h.1))
          have n1_ := Aside0.mk (Kd.R_mono (Kd.R_keep (IsS94.apart (show IsS94 w0 _ g s0_0 x1001_3 x1002_3 from by with_reducible repeat (first | exact HI0.out | apply IsS94.alloc | apply IsS94.drewN | apply IsS94.drew | apply IsS94.set_1 | apply IsS94.set_2 | refine IsS94.far ?_ NB0_331.out _ | refine IsS94.far ?_ NB0_341.out _ | refine IsS94.far ?_ NB0_354.out _)) (by (with_reducible repeat (first | apply Kd.R_alloc | apply Kd.R_drewN | apply Kd.R_drew)); exact HO_342002.out) (by decide)) hk (fun _ h => h.2)) (fun _ h => h.1))
          have n2_ := Aside0.mk (Kd.R_mono (Kd.R_keep (IsS94.apart (show IsS94 w0 _ g s0_0 x1001_3 x1002_3 from by with_reducible repeat (first | exact HI0.out | apply IsS94.alloc | apply IsS94.drewN | apply IsS94.drew | apply IsS94.set_1 | apply IsS94.set_2 | refine IsS94.far ?_ NB0_331.out _ | refine IsS94.far ?_ NB0_341.out _ | refine IsS94.far ?_ NB0_354.out _)) (by (with_reducible repeat (first | apply Kd.R_alloc | apply Kd.R_drewN | apply Kd.R_drew)); exact HO_355002.out) (by decide)) hk (fun _ h => h.2)) (fun _ h => h.1))
          have n3_ := Aside0.mk (KeepBut.blk hk (g' := gb331) (o := .cells #[.int .i64 0, .slice none 0 0, .slice none 0 0, .int .i64 0, .int .i64 0, .int .i64 0, .int .i64 0] 45 (0, 0)) (by (with_reducible repeat (first | refine blk_drewN ?_ _ | refine blk_drew ?_ | refine blk_alloc ?_ _)); exact BK331.out) NB331_0.out (by simp))
          have n4_ := Aside0.mk (KeepBut.blk hk (g' := gb341) (o := .cells #[.int .i64 (wrap64 (1 + t332)), u342001, .slice Ao12 y338.length co12, .int .i64 0, .int .i64 0, .int .i64 0, .int .i64 0] 45 (0, 0)) (by (with_reducible repeat (first | refine blk_drewN ?_ _ | refine blk_drew ?_ | refine blk_alloc ?_ _)); exact BK341.out) NB341_0.out (by simp))
          have n5_ := Aside0.mk (KeepBut.blk hk (g' := gb354) (o := .cells #[.int .i64 t348, .int .i64 (wrap64 (t348 + t355)), .slice Ao68 x355002_3.length co68] 56 (0, 0)) (by (with_reducible repeat (first | refine blk_drewN ?_ _ | refine blk_drew ?_ | refine blk_alloc ?_ _)); exact BK354.out) NB354_0.out (by simp))
          have n6_ := Aside0.mk (KeepBut.trans (by with_reducible repeat (first | exact HK.out | apply KeepBut.set_ | apply keep_drewN | apply keep_drew | apply keep_alloc | refine keep_far ?_ GW331.out _ | refine keep_far ?_ GW341.out _ | refine keep_far ?_ GW354.out _)) hk (.inl rfl))
          have n7_ := Aside0.mk (hb)
          have n8_ := Aside0.mk (hi)
          clear HO_342001
          clear HO_342002
          clear HO_355002
          clear BK331
          clear BK341
          clear BK354
          clear HK
          clear HB
          clear HI0
          have HO_342001 := n0_
          have HO_342002 := n1_
          have HO_355002 := n2_
          have BK331 := n3_
          have BK341 := n4_
          have BK354 := n5_
          have HK := n6_
          have HB := n7_
          have HI0 := n8_
          clear n0_ n1_ n2_ n3_ n4_ n5_ n6_ n7_ n8_
          (try clear hb)
          (try clear hb2)
          (try clear hk)
          (try clear hi)
          refine hK.out _ _ ⟨(blk_cell BK354.out 0).trans rfl, (blk_cell BK354.out 1).trans rfl, (blk_cell BK354.out 2).trans rfl, (blk_cell BK341.out 0).trans rfl, (blk_cell BK341.out 1).trans rfl, (blk_cell BK341.out 2).trans rfl, (blk_cell BK341.out 3).trans rfl, (blk_cell BK341.out 4).trans rfl, (blk_cell BK341.out 5).trans rfl, (blk_cell BK341.out 6).trans rfl⟩ (fun hHeld => ?_)
          clear hK K
          refine norm_ (a' := ?_) ?_ ?_
          rotate_left
          ·show Act.put _ (some 61) _ = _
           simp only [Act.put, List.setIfInBounds_toArray, List.set_cons_zero, List.set_cons_succ, i64_w, i32_w]
           rfl
          refine one_ (i := 8) (N := some 62) #[true, true, true, true, true, true, true, true, true, false, false, false] rfl rfl (one_of HT_.out (by kernel_rfl)) (by decide) (fun K hK => ?_)
          refine value_ (w1 := ?_) (v := ?_) (by rfl) rfl ?_ ?_
          rotate_left 2
          ·go_simp
           constructor
           ·rfl
           ·rfl
          refine hK.out _ _ ⟨(blk_cell (blk_alloc BK354.out _) 0).trans rfl, (blk_cell (blk_alloc BK354.out _) 1).trans rfl, (blk_cell (blk_alloc BK354.out _) 2).trans rfl, (blk_cell (blk_alloc BK341.out _) 0).trans rfl, (blk_cell (blk_alloc BK341.out _) 1).trans rfl, (blk_cell (blk_alloc BK341.out _) 2).trans rfl, (blk_cell (blk_alloc BK341.out _) 3).trans rfl, (blk_cell (blk_alloc BK341.out _) 4).trans rfl, (blk_cell (blk_alloc BK341.out _) 5).trans rfl, (blk_cell (blk_alloc BK341.out _) 6).trans rfl⟩ (fun hHeld => ?_)
          clear hK K
          refine norm_ (a' := ?_) ?_ ?_
          rotate_left
          ·show Act.put _ (some 62) _ = _
           simp only [Act.put, List.setIfInBounds_toArray, List.set_cons_zero, List.set_cons_succ, i64_w, i32_w]
           rfl
          refine one_ (i := 9) (N := some 63) #[true, true, true, true, true, true, true, true, true, true, false, false] rfl rfl (one_of HT_.out (by kernel_rfl)) (by decide) (fun K hK => ?_)
          refine Kd.R_append_step (Kd.int .i64) w.heap.size (by rfl) (.tmp 55) (.tmp 62) 28 2 (.int .i64 0) 8 rfl Try.underlying28 info2 rfl (by decide) (by omega) (.slice Ao68 x355002_3.length co68) x355002_3 t364 [.int .i64 t364] (fun k_ => some k_ ≠ (.slice Ao12 y338.length co12 : Value).ownBlock) (fun _ => False) rfl rfl ?aP (fun _ hk => hk.elim) ?aF ?aO (Below.refl _ _) ?aS ?aL ?_
          (case aP => exact rfl)
          (case aF => exact (fun k_ hk => Kd.fresh' (Kd.R_lt (by (with_reducible repeat (first | apply Kd.R_alloc | apply Kd.R_drewN | apply Kd.R_drew)); exact HO_342002.out)) k_ hk))
          (case aO => exact (by (with_reducible repeat (first | apply Kd.R_alloc | apply Kd.R_drewN | apply Kd.R_drew)); exact HO_355002.out))
          (case aS => exact (keep_size (w := w) (g := g) (row := none) (by with_reducible repeat (first | exact HK.out | apply KeepBut.set_ | apply keep_drewN | apply keep_drew | apply keep_alloc | refine keep_far ?_ GW331.out _ | refine keep_far ?_ GW341.out _ | refine keep_far ?_ GW354.out _))))
          (case aL => have := LMc59.out; omega)
          intro v368 w71 ho hb hg hat
          rw [← Ny367.out] at ho
          have n0_ := Aside0.mk (Kd.S_after (ok := (fun k_ => some k_ ≠ (.slice Ao12 y338.length co12 : Value).ownBlock ∧ k_ ≠ gb354)) (by (with_reducible repeat (first | apply Kd.S_alloc | apply Kd.S_drewN | apply Kd.S_drew)); exact Kd.S_mono HO_342001.out (fun _ hk => ⟨⟨hk.1, hk.2.2⟩, hk.2.1⟩)) hg hat)
          have n1_ := Aside0.mk (Kd.R_after (ok := (fun _ => True)) (by (with_reducible repeat (first | apply Kd.R_alloc | apply Kd.R_drewN | apply Kd.R_drew)); exact Kd.R_mono HO_342002.out (fun _ hk => ⟨trivial, hk⟩)) hg hat)
          have n2_ := Aside0.mk (blk_grown (g := gb331) (o := .cells #[.int .i64 0, .slice none 0 0, .slice none 0 0, .int .i64 0, .int .i64 0, .int .i64 0, .int .i64 0] 45 (0, 0)) (by (with_reducible repeat (first | refine blk_drewN ?_ _ | refine blk_drew ?_ | refine blk_alloc ?_ _)); exact BK331.out) hg (Kd.R_ne HO_355002.out BK331.out (by decide)))
          have n3_ := Aside0.mk (blk_grown (g := gb341) (o := .cells #[.int .i64 (wrap64 (1 + t332)), u342001, .slice Ao12 y338.length co12, .int .i64 0, .int .i64 0, .int .i64 0, .int .i64 0] 45 (0, 0)) (by (with_reducible repeat (first | refine blk_drewN ?_ _ | refine blk_drew ?_ | refine blk_alloc ?_ _)); exact BK341.out) hg (Kd.R_ne HO_355002.out BK341.out (by decide)))
          have n4_ := Aside0.mk (blk_grown (g := gb354) (o := .cells #[.int .i64 t348, .int .i64 (wrap64 (t348 + t355)), .slice Ao68 x355002_3.length co68] 56 (0, 0)) (by (with_reducible repeat (first | refine blk_drewN ?_ _ | refine blk_drew ?_ | refine blk_alloc ?_ _)); exact BK354.out) hg (Kd.R_ne HO_355002.out BK354.out (by decide)))
          have n5_ := Aside0.mk (IsS94.grown (by with_reducible repeat (first | exact HI0.out | apply IsS94.alloc | apply IsS94.drewN | apply IsS94.drew | apply IsS94.set_1 | apply IsS94.set_2 | refine IsS94.far ?_ NB0_331.out _ | refine IsS94.far ?_ NB0_341.out _ | refine IsS94.far ?_ NB0_354.out _)) hg (IsS94.own_ne HI0.out HO_355002.out (by decide)))
          have n6_ := Aside0.mk (below_weaken (by with_reducible repeat (first | exact HB.out | apply below_alloc | apply pw_below_drewN | apply below_drew1 | refine below_set ?_ (IsS94.ge HI0.out) | refine below_set ?_ GE331.out | refine below_set ?_ GE341.out | refine below_set ?_ GE354.out)) HL.out hb)
          have n7_ := Aside0.mk (KeepBut.trans (by with_reducible repeat (first | exact HK.out | apply KeepBut.set_ | apply keep_drewN | apply keep_drew | apply keep_alloc | refine keep_far ?_ GW331.out _ | refine keep_far ?_ GW341.out _ | refine keep_far ?_ GW354.out _)) (KeepBut.of_grown hg g) (Kd.R_base2 HO_355002.out))
          have n8_ := Aside0.mk (ho)
          clear HO_342001
          clear HO_342002
          clear BK331
          clear BK341
          clear BK354
          clear HI0
          clear HB
          clear HK
          clear HO_355002
          have HO_342001 := n0_
          have HO_342002 := n1_
          have BK331 := n2_
          have BK341 := n3_
          have BK354 := n4_
          have HI0 := n5_
          have HB := n6_
          have HK := n7_
          have HO369 := n8_
          clear n0_ n1_ n2_ n3_ n4_ n5_ n6_ n7_ n8_
          clear ho hb hg hat
          obtain ⟨Ao72, co72, eo72⟩ := Kd.R_slice HO369.out
          (first | subst eo72 | (injection eo72 with f1_ f2_ f3_; have f4_ := f1_.symm; have f5_ := f3_.symm; clear f1_ f2_ f3_; subst f4_; subst f5_))
          refine hK.out _ _ ⟨(blk_cell BK354.out 0).trans rfl, (blk_cell BK354.out 1).trans rfl, (blk_cell BK354.out 2).trans rfl, (blk_cell BK341.out 0).trans rfl, (blk_cell BK341.out 1).trans rfl, (blk_cell BK341.out 2).trans rfl, (blk_cell BK341.out 3).trans rfl, (blk_cell BK341.out 4).trans rfl, (blk_cell BK341.out 5).trans rfl, (blk_cell BK341.out 6).trans rfl⟩ (fun hHeld => ?_)
          clear hK K
          refine norm_ (a' := ?_) ?_ ?_
          rotate_left
          ·show Act.put _ (some 63) _ = _
           simp only [Act.put, List.setIfInBounds_toArray, List.set_cons_zero, List.set_cons_succ, i64_w, i32_w]
           rfl
          refine pure_ (i := 10) (N := some 64) (v := ?_) (a' := ?_) #[true, true, true, true, true, true, true, true, true, true, true, false] rfl rfl (any_of HT_.out (by kernel_rfl)) (fun _ _ _ h => h) (Or.inl ⟨by rfl, ?_⟩) ?_ ?_
          rotate_left
          ·intro w'
           go_simp
           with_reducible rfl
          rotate_left
          ·simp only [Act.put, List.setIfInBounds_toArray, List.set_cons_zero, List.set_cons_succ, i64_w, i32_w]
           rfl
          refine last_ (i := 11) (N := none) #[true, true, true, true, true, true, true, true, true, true, true, true] rfl rfl (one_of HT_.out (by kernel_rfl)) (by decide) (fun K hK => ?_)
          have hs73 : w71.cell? ⟨gb354, 2, none⟩ = some (.slice Ao68 x355002_3.length co68) := (blk_cell BK354.out 2).trans rfl
          have hfs73 := blk_frozen BK354.out 2
          have hns73_0 := NB331_354.out
          have hns73_1 := NB341_354.out
          have hms73_0 := NB354_331.out
          have hms73_1 := NB354_341.out
          refine skip_ (w1 := ?_) (by rfl) rfl ?_ ?_
          rotate_left
          ·go_simp
           rfl
          refine hK.out _ _ ?_
          clear hK K
          refine done_ (done_of HT_.out (by kernel_rfl)) ?_
          have n0_ : Aside0 (Kd.S k56 56 (w71.setCell ⟨gb354, 2, none⟩ (.slice Ao72 y367.length co72)) w.heap.size (fun k_ => some k_ ≠ (.slice Ao12 y338.length co12 : Value).ownBlock ∧ some k_ ≠ (.slice Ao72 y367.length co72 : Value).ownBlock ∧ k_ ≠ gb354) u342001 x342001_2) := ⟨by (with_reducible repeat (first | apply Kd.S_alloc | apply Kd.S_drewN | apply Kd.S_drew)); exact Kd.S_mono (Kd.S_far (p := ⟨gb354, 2, none⟩) (Kd.S_mono HO_342001.out (fun k_ hk => (⟨hk, hk.1.2⟩ : _ ∧ k_ ≠ gb354))) (fun _ hk => hk.2) (.slice Ao72 y367.length co72)) (fun _ hk => ⟨hk.1.1.1, ⟨hk.1.2, hk.1.1.2⟩⟩)⟩
          have n1_ : Aside0 (Kd.R (Kd.int .i64) 2 (w71.setCell ⟨gb354, 2, none⟩ (.slice Ao72 y367.length co72)) w.heap.size (fun k_ => some k_ ≠ (.slice Ao72 y367.length co72 : Value).ownBlock) (.slice Ao12 y338.length co12) y338) := ⟨by (with_reducible repeat (first | apply Kd.R_alloc | apply Kd.R_drewN | apply Kd.R_drew)); exact Kd.R_mono (Kd.R_far (p := ⟨gb354, 2, none⟩) (Kd.R_types HO_342002.out BK354.out (by decide)) (fun _ hk => hk.2) (.slice Ao72 y367.length co72)) (fun _ hk => hk.1.2)⟩
          have n2_ : Aside0 (Kd.R (Kd.int .i64) 2 (w71.setCell ⟨gb354, 2, none⟩ (.slice Ao72 y367.length co72)) w.heap.size (fun k_ => some k_ ≠ (.slice Ao12 y338.length co12 : Value).ownBlock) (.slice Ao72 y367.length co72) y367) := ⟨by (with_reducible repeat (first | apply Kd.R_alloc | apply Kd.R_drewN | apply Kd.R_drew)); exact Kd.R_mono (Kd.R_far (p := ⟨gb354, 2, none⟩) (Kd.R_types HO369.out BK354.out (by decide)) (fun _ hk => hk.2) (.slice Ao72 y367.length co72)) (fun _ hk => hk.1)⟩
          have n3_ : Aside0 ((w71.setCell ⟨gb354, 2, none⟩ (.slice Ao72 y367.length co72)).heap[gb331]? = some (.cells #[.int .i64 0, .slice none 0 0, .slice none 0 0, .int .i64 0, .int .i64 0, .int .i64 0, .int .i64 0] 45 (0, 0))) := ⟨by (with_reducible repeat (first | refine blk_drewN ?_ _ | refine blk_drew ?_ | refine blk_alloc ?_ _)); refine blk_far ?_ NB331_354.out _; (with_reducible repeat (first | refine blk_drewN ?_ _ | refine blk_drew ?_ | refine blk_alloc ?_ _)); exact BK331.out⟩
          have n4_ : Aside0 ((w71.setCell ⟨gb354, 2, none⟩ (.slice Ao72 y367.length co72)).heap[gb341]? = some (.cells #[.int .i64 (wrap64 (1 + t332)), u342001, .slice Ao12 y338.length co12, .int .i64 0, .int .i64 0, .int .i64 0, .int .i64 0] 45 (0, 0))) := ⟨by (with_reducible repeat (first | refine blk_drewN ?_ _ | refine blk_drew ?_ | refine blk_alloc ?_ _)); refine blk_far ?_ NB341_354.out _; (with_reducible repeat (first | refine blk_drewN ?_ _ | refine blk_drew ?_ | refine blk_alloc ?_ _)); exact BK341.out⟩
          have n5_ : Aside0 ((w71.setCell ⟨gb354, 2, none⟩ (.slice Ao72 y367.length co72)).heap[gb354]? = some (.cells #[.int .i64 t348, .int .i64 (wrap64 (t348 + t355)), .slice Ao72 y367.length co72] 56 (0, 0))) := ⟨by (with_reducible repeat (first | refine blk_drewN ?_ _ | refine blk_drew ?_ | refine blk_alloc ?_ _)); refine blk_put (cs := #[.int .i64 t348, .int .i64 (wrap64 (t348 + t355)), .slice Ao68 x355002_3.length co68]) ?_ 2 _ rfl; (with_reducible repeat (first | refine blk_drewN ?_ _ | refine blk_drew ?_ | refine blk_alloc ?_ _)); exact BK354.out⟩
          have n6_ : Aside0 (IsS94 w0 (w71.setCell ⟨gb354, 2, none⟩ (.slice Ao72 y367.length co72)) g s0_0 t365 t366) := ⟨by with_reducible repeat (first | exact HI0.out | apply IsS94.alloc | apply IsS94.drewN | apply IsS94.drew | apply IsS94.set_1 | apply IsS94.set_2 | refine IsS94.far ?_ NB0_331.out _ | refine IsS94.far ?_ NB0_341.out _ | refine IsS94.far ?_ NB0_354.out _)⟩
          have n7_ : Aside0 (KeepBut w (w71.setCell ⟨gb354, 2, none⟩ (.slice Ao72 y367.length co72)) g none) := ⟨by with_reducible repeat (first | exact HK.out | apply KeepBut.set_ | apply keep_drewN | apply keep_drew | apply keep_alloc | refine keep_far ?_ GW331.out _ | refine keep_far ?_ GW341.out _ | refine keep_far ?_ GW354.out _)⟩
          have n8_ : Aside0 (Below w0.heap.size w0 (w71.setCell ⟨gb354, 2, none⟩ (.slice Ao72 y367.length co72))) := ⟨by with_reducible repeat (first | exact HB.out | apply below_alloc | apply pw_below_drewN | apply below_drew1 | refine below_set ?_ (IsS94.ge HI0.out) | refine below_set ?_ GE331.out | refine below_set ?_ GE341.out | refine below_set ?_ GE354.out)⟩
          (try clear HO_342001)
          (try clear HO_342002)
          (try clear HO369)
          (try clear BK331)
          (try clear BK341)
          (try clear BK354)
          (try clear HI0)
          (try clear HK)
          (try clear HB)
          generalize (w71.setCell ⟨gb354, 2, none⟩ (.slice Ao72 y367.length co72)) = w74 at n0_ n1_ n2_ n3_ n4_ n5_ n6_ n7_ n8_ ⊢
          have HO_342001 := n0_
          have HO_342002 := n1_
          have HO369 := n2_
          have BK331 := n3_
          have BK341 := n4_
          have BK354 := n5_
          have HI0 := n6_
          have HK := n7_
          have HB := n8_
          clear n0_ n1_ n2_ n3_ n4_ n5_ n6_ n7_ n8_
          have hcz75_0 : w74.cell? ⟨gb341, 0, none⟩ = some (.int .i64 (wrap64 (1 + t332))) := (blk_cell BK341.out 0).trans rfl
          have hcz75_1 : w74.cell? ⟨gb341, 1, none⟩ = some (u342001) := (blk_cell BK341.out 1).trans rfl
          have hcz75_2 : w74.cell? ⟨gb341, 2, none⟩ = some (.slice Ao12 y338.length co12) := (blk_cell BK341.out 2).trans rfl
          have hcz75_3 : w74.cell? ⟨gb341, 3, none⟩ = some (.int .i64 0) := (blk_cell BK341.out 3).trans rfl
          have hcz75_4 : w74.cell? ⟨gb341, 4, none⟩ = some (.int .i64 0) := (blk_cell BK341.out 4).trans rfl
          have hcz75_5 : w74.cell? ⟨gb341, 5, none⟩ = some (.int .i64 0) := (blk_cell BK341.out 5).trans rfl
          have hcz75_6 : w74.cell? ⟨gb341, 6, none⟩ = some (.int .i64 0) := (blk_cell BK341.out 6).trans rfl
          have hfz75_0 := blk_frozen BK341.out 0
          have hfz75_1 := blk_frozen BK341.out 1
          have hfz75_2 := blk_frozen BK341.out 2
          have hfz75_3 := blk_frozen BK341.out 3
          have hfz75_4 := blk_frozen BK341.out 4
          have hfz75_5 := blk_frozen BK341.out 5
          have hfz75_6 := blk_frozen BK341.out 6
          have hcz76_0 : w74.cell? ⟨gb354, 0, none⟩ = some (.int .i64 t348) := (blk_cell BK354.out 0).trans rfl
          have hcz76_1 : w74.cell? ⟨gb354, 1, none⟩ = some (.int .i64 (wrap64 (t348 + t355))) := (blk_cell BK354.out 1).trans rfl
          have hcz76_2 : w74.cell? ⟨gb354, 2, none⟩ = some (.slice Ao72 y367.length co72) := (blk_cell BK354.out 2).trans rfl
          have hfz76_0 := blk_frozen BK354.out 0
          have hfz76_1 := blk_frozen BK354.out 1
          have hfz76_2 := blk_frozen BK354.out 2
          try go_wp2_with (first | ((with_reducible refine gate_builtin (b := .append) (xs := #[.tmp 66, .tmp 68]) rfl ?_); at_builtin; refine Kd.S_append k56 w.heap.size rfl (.tmp 66) (.tmp 68) 43 56 (.agg #[(.int .i64 0), (.int .i64 0), (.slice none 0 0)]) 40 rfl Try.underlying43 info56 rfl (by decide) (by omega) u342001 x342001_2 (⟨t348, (wrap64 (t348 + t355)), y367⟩ : S56) [.int .i64 t348, .int .i64 (wrap64 (t348 + t355)), .slice Ao72 y367.length co72] (fun k_ => some k_ ≠ (.slice Ao12 y338.length co12 : Value).ownBlock ∧ k_ ≠ gb354) (fun k_ => some k_ = (.slice Ao72 y367.length co72 : Value).ownBlock) rfl rfl ?aP (fun k_ hk_ => ((Kd.R_mono (ok' := fun k_ => ((fun k_ => some k_ ≠ (.slice Ao12 y338.length co12 : Value).ownBlock ∧ k_ ≠ gb354)) k_ ∧ some k_ ≠ (u342001 : Value).ownBlock) (Kd.R_types (Kd.R_apart' (HO369.out) (Kd.S_typed HO_342001.out) (by decide)) BK354.out (by decide)) (fun k_ hk => ⟨⟨hk.1.1, hk.2⟩, hk.1.2⟩))).1 k_ hk_.symm) ?aF ?aO (Below.refl _ _) ?aS ?aL ?_; (case aP => exact k56_mkM _ _ _ (⟨t348, (wrap64 (t348 + t355)), y367⟩ : S56) (Kd.R_mono (Kd.R_tight rfl (Kd.R_mono (ok' := fun k_ => ((fun k_ => some k_ ≠ (.slice Ao12 y338.length co12 : Value).ownBlock ∧ k_ ≠ gb354)) k_ ∧ some k_ ≠ (u342001 : Value).ownBlock) (Kd.R_types (Kd.R_apart' (HO369.out) (Kd.S_typed HO_342001.out) (by decide)) BK354.out (by decide)) (fun k_ hk => ⟨⟨hk.1.1, hk.2⟩, hk.1.2⟩))) (fun _ h_ => h_))); (case aF => exact (fun k_ hk => ⟨Kd.fresh' (Kd.R_lt (by (with_reducible repeat (first | apply Kd.R_alloc | apply Kd.R_drewN | apply Kd.R_drew)); exact HO_342002.out)) k_ hk, Kd.freshB (g := gb354) (o := .cells #[.int .i64 t348, .int .i64 (wrap64 (t348 + t355)), .slice Ao72 y367.length co72] 56 (0, 0)) (by (with_reducible repeat (first | refine blk_drewN ?_ _ | refine blk_drew ?_ | refine blk_alloc ?_ _)); exact BK354.out) k_ hk⟩)); (case aO => exact (by (with_reducible repeat (first | apply Kd.S_alloc | apply Kd.S_drewN | apply Kd.S_drew)); exact Kd.S_mono HO_342001.out (fun k_ hk => ⟨⟨hk.1, hk.2.2⟩, fun e_ => hk.2.1 e_⟩))); (case aS => exact (keep_size (w := w) (g := g) (row := none) (by with_reducible repeat (first | exact HK.out | apply KeepBut.set_ | apply keep_drewN | apply keep_drew | apply keep_alloc | refine keep_far ?_ GW331.out _ | refine keep_far ?_ GW341.out _ | refine keep_far ?_ GW354.out _)))); (case aL => have := LMc60.out; omega); intro v371 w77 ho hb hg hat; rw [← Ny370.out] at ho; have n0_ := Aside0.mk (Kd.R_over' (by (with_reducible repeat (first | apply Kd.R_alloc | apply Kd.R_drewN | apply Kd.R_drew)); exact HO_342002.out) (Kd.S_typed (by (with_reducible repeat (first | apply Kd.S_alloc | apply Kd.S_drewN | apply Kd.S_drew)); exact HO_342001.out)) (by decide) hg); have n1_ := Aside0.mk (blk_grown (g := gb331) (o := .cells #[.int .i64 0, .slice none 0 0, .slice none 0 0, .int .i64 0, .int .i64 0, .int .i64 0, .int .i64 0] 45 (0, 0)) (by (with_reducible repeat (first | refine blk_drewN ?_ _ | refine blk_drew ?_ | refine blk_alloc ?_ _)); exact BK331.out) hg (Kd.S_ne HO_342001.out BK331.out (by decide))); have n2_ := Aside0.mk (blk_grown (g := gb341) (o := .cells #[.int .i64 (wrap64 (1 + t332)), u342001, .slice Ao12 y338.length co12, .int .i64 0, .int .i64 0, .int .i64 0, .int .i64 0] 45 (0, 0)) (by (with_reducible repeat (first | refine blk_drewN ?_ _ | refine blk_drew ?_ | refine blk_alloc ?_ _)); exact BK341.out) hg (Kd.S_ne HO_342001.out BK341.out (by decide))); have n3_ := Aside0.mk (blk_grown (g := gb354) (o := .cells #[.int .i64 t348, .int .i64 (wrap64 (t348 + t355)), .slice Ao72 y367.length co72] 56 (0, 0)) (by (with_reducible repeat (first | refine blk_drewN ?_ _ | refine blk_drew ?_ | refine blk_alloc ?_ _)); exact BK354.out) hg (Kd.S_away HO_342001.out (fun _ hk => hk.2.2))); have n4_ := Aside0.mk (IsS94.grown (by with_reducible repeat (first | exact HI0.out | apply IsS94.alloc | apply IsS94.drewN | apply IsS94.drew | apply IsS94.set_1 | apply IsS94.set_2 | refine IsS94.far ?_ NB0_331.out _ | refine IsS94.far ?_ NB0_341.out _ | refine IsS94.far ?_ NB0_354.out _)) hg (IsS94.own_neS HI0.out HO_342001.out (by decide))); have n5_ := Aside0.mk (below_weaken (by with_reducible repeat (first | exact HB.out | apply below_alloc | apply pw_below_drewN | apply below_drew1 | refine below_set ?_ (IsS94.ge HI0.out) | refine below_set ?_ GE331.out | refine below_set ?_ GE341.out | refine below_set ?_ GE354.out)) HL.out hb); have n6_ := Aside0.mk (KeepBut.trans (by with_reducible repeat (first | exact HK.out | apply KeepBut.set_ | apply keep_drewN | apply keep_drew | apply keep_alloc | refine keep_far ?_ GW331.out _ | refine keep_far ?_ GW341.out _ | refine keep_far ?_ GW354.out _)) (KeepBut.of_grown hg g) (Kd.S_base2 HO_342001.out)); have n7_ := Aside0.mk (ho); clear HO_342002; clear BK331; clear BK341; clear BK354; clear HI0; clear HB; clear HK; clear HO_342001; clear HO369; have HO_342002 := n0_; have BK331 := n1_; have BK341 := n2_; have BK354 := n3_; have HI0 := n4_; have HB := n5_; have HK := n6_; have HO372 := n7_; clear n0_ n1_ n2_ n3_ n4_ n5_ n6_ n7_; clear ho hb hg hat; obtain ⟨Ao78, co78, eo78⟩ := Kd.S_slice HO372.out; subst eo78; have hcz79_0 : w77.cell? ⟨gb341, 0, none⟩ = some (.int .i64 (wrap64 (1 + t332))) := (blk_cell BK341.out 0).trans rfl; have hcz79_1 : w77.cell? ⟨gb341, 1, none⟩ = some (u342001) := (blk_cell BK341.out 1).trans rfl; have hcz79_2 : w77.cell? ⟨gb341, 2, none⟩ = some (.slice Ao12 y338.length co12) := (blk_cell BK341.out 2).trans rfl; have hcz79_3 : w77.cell? ⟨gb341, 3, none⟩ = some (.int .i64 0) := (blk_cell BK341.out 3).trans rfl; have hcz79_4 : w77.cell? ⟨gb341, 4, none⟩ = some (.int .i64 0) := (blk_cell BK341.out 4).trans rfl; have hcz79_5 : w77.cell? ⟨gb341, 5, none⟩ = some (.int .i64 0) := (blk_cell BK341.out 5).trans rfl; have hcz79_6 : w77.cell? ⟨gb341, 6, none⟩ = some (.int .i64 0) := (blk_cell BK341.out 6).trans rfl; have hfz79_0 := blk_frozen BK341.out 0; have hfz79_1 := blk_frozen BK341.out 1; have hfz79_2 := blk_frozen BK341.out 2; have hfz79_3 := blk_frozen BK341.out 3; have hfz79_4 := blk_frozen BK341.out 4; have hfz79_5 := blk_frozen BK341.out 5; have hfz79_6 := blk_frozen BK341.out 6))
          go_roundg k3
          case measure => have := HJ4.out; have := HK2.out; have := HK3.out; omega
          case rel => exact ⟨(wrap64 (x5_2 + 1)), (t365), (t366), (y370), (.slice Ao78 y370.length co78), (by first | rfl | (simp; done) | (simp [*]; done)), H', ⟨by have := HJ4.out; have := HK2.out; have := HK3.out; omega⟩, ⟨by (with_reducible repeat (first | apply Kd.S_alloc | apply Kd.S_drewN | apply Kd.S_drew)); exact Kd.S_mono (Kd.S_far (p := ⟨gb341, 1, none⟩) (Kd.S_types HO372.out BK341.out (by decide)) (fun _ hk => hk.2) (.slice Ao78 y370.length co78)) (fun _ hk => hk.1.1)⟩, ⟨by (with_reducible repeat (first | apply Kd.R_alloc | apply Kd.R_drewN | apply Kd.R_drew)); exact Kd.R_mono (Kd.R_far (p := ⟨gb341, 1, none⟩) (Kd.R_types HO_342002.out BK341.out (by decide)) (fun _ hk => hk.2) (.slice Ao78 y370.length co78)) (fun _ hk => trivial)⟩, ⟨by (with_reducible repeat (first | refine blk_drewN ?_ _ | refine blk_drew ?_ | refine blk_alloc ?_ _)); refine blk_far ?_ NB331_341.out _; (with_reducible repeat (first | refine blk_drewN ?_ _ | refine blk_drew ?_ | refine blk_alloc ?_ _)); exact BK331.out⟩, ⟨by (with_reducible repeat (first | refine blk_drewN ?_ _ | refine blk_drew ?_ | refine blk_alloc ?_ _)); refine blk_put (cs := #[.int .i64 (wrap64 (1 + t332)), u342001, .slice Ao12 y338.length co12, .int .i64 0, .int .i64 0, .int .i64 0, .int .i64 0]) ?_ 1 _ rfl; (with_reducible repeat (first | refine blk_drewN ?_ _ | refine blk_drew ?_ | refine blk_alloc ?_ _)); exact BK341.out⟩, ⟨by with_reducible repeat (first | exact HI0.out | apply IsS94.alloc | apply IsS94.drewN | apply IsS94.drew | apply IsS94.set_1 | apply IsS94.set_2 | refine IsS94.far ?_ NB0_331.out _ | refine IsS94.far ?_ NB0_341.out _ | refine IsS94.far ?_ NB0_354.out _)⟩, ⟨by with_reducible repeat (first | exact HK.out | apply KeepBut.set_ | apply keep_drewN | apply keep_drew | apply keep_alloc | refine keep_far ?_ GW331.out _ | refine keep_far ?_ GW341.out _ | refine keep_far ?_ GW354.out _)⟩, ⟨by with_reducible repeat (first | exact HB.out | apply below_alloc | apply pw_below_drewN | apply below_drew1 | refine below_set ?_ (IsS94.ge HI0.out) | refine below_set ?_ GE331.out | refine below_set ?_ GE341.out | refine below_set ?_ GE354.out)⟩⟩
         ·rw [if_neg c57] at H
          have c57b0 : ((x355002_3.length : Int) == 0) = false := beq_eq_false_iff_ne.mpr c57
          have c57b1 : ((x355002_3.length : Int) != 0) = true := bne_iff_ne.mpr c57
          have c57b2 : ¬ (x355002_3 = []) := fun h_ => c57 (by rw [h_]; rfl)
          by_cases c80 : x342001_2.length < 3518437208883
          case neg => rw [if_neg c80] at H; exact absurd H (by simp)
          rw [if_pos c80] at H
          have LMc80 := Aside0.mk c80
          clear c80
          obtain ⟨y373, hy373⟩ : ∃ y_ : List (S56), y_ = (x342001_2 ++ [(⟨t348, (wrap64 (t348 + t355)), x355002_3⟩ : S56)]) := ⟨_, rfl⟩
          (try rw [Option.bind_some] at H); try rw [← hy373] at H
          have Ny373 := Aside0.mk hy373
          clear hy373
          have H' := Aside0.mk H
          clear H
          have hnb81 := NB341_331.out
          have hnc81 := NB331_341.out
          have hnb82 := NB341_354.out
          have hnc82 := NB354_341.out
          have hnb83 := NB341_0.out
          have hnc83 := NB0_341.out
          have hcz84_0 : wr.cell? ⟨gb341, 0, none⟩ = some (.int .i64 (wrap64 (1 + t332))) := (blk_cell BK341.out 0).trans rfl
          have hcz84_1 : wr.cell? ⟨gb341, 1, none⟩ = some (u342001) := (blk_cell BK341.out 1).trans rfl
          have hcz84_2 : wr.cell? ⟨gb341, 2, none⟩ = some (.slice Ao12 y338.length co12) := (blk_cell BK341.out 2).trans rfl
          have hcz84_3 : wr.cell? ⟨gb341, 3, none⟩ = some (.int .i64 0) := (blk_cell BK341.out 3).trans rfl
          have hcz84_4 : wr.cell? ⟨gb341, 4, none⟩ = some (.int .i64 0) := (blk_cell BK341.out 4).trans rfl
          have hcz84_5 : wr.cell? ⟨gb341, 5, none⟩ = some (.int .i64 0) := (blk_cell BK341.out 5).trans rfl
          have hcz84_6 : wr.cell? ⟨gb341, 6, none⟩ = some (.int .i64 0) := (blk_cell BK341.out 6).trans rfl
          have hfz84_0 := blk_frozen BK341.out 0
          have hfz84_1 := blk_frozen BK341.out 1
          have hfz84_2 := blk_frozen BK341.out 2
          have hfz84_3 := blk_frozen BK341.out 3
          have hfz84_4 := blk_frozen BK341.out 4
          have hfz84_5 := blk_frozen BK341.out 5
          have hfz84_6 := blk_frozen BK341.out 6
          have hnb85 := NB354_331.out
          have hnc85 := NB331_354.out
          have hnb86 := NB354_0.out
          have hnc86 := NB0_354.out
          have hcz87_0 : wr.cell? ⟨gb354, 0, none⟩ = some (.int .i64 t348) := (blk_cell BK354.out 0).trans rfl
          have hcz87_1 : wr.cell? ⟨gb354, 1, none⟩ = some (.int .i64 (wrap64 (t348 + t355))) := (blk_cell BK354.out 1).trans rfl
          have hcz87_2 : wr.cell? ⟨gb354, 2, none⟩ = some (u355002) := (blk_cell BK354.out 2).trans rfl
          have hfz87_0 := blk_frozen BK354.out 0
          have hfz87_1 := blk_frozen BK354.out 1
          have hfz87_2 := blk_frozen BK354.out 2
          obtain ⟨Ao88, co88, eo88⟩ := Kd.R_slice HO_355002.out
          subst eo88
          go_wp2_with (first | ((with_reducible refine gate_builtin (b := .append) (xs := #[.tmp 66, .tmp 68]) rfl ?_); at_builtin; refine Kd.S_append k56 w.heap.size rfl (.tmp 66) (.tmp 68) 43 56 (.agg #[(.int .i64 0), (.int .i64 0), (.slice none 0 0)]) 40 rfl Try.underlying43 info56 rfl (by decide) (by omega) u342001 x342001_2 (⟨t348, (wrap64 (t348 + t355)), x355002_3⟩ : S56) [.int .i64 t348, .int .i64 (wrap64 (t348 + t355)), .slice Ao88 x355002_3.length co88] (fun k_ => some k_ ≠ (.slice Ao12 y338.length co12 : Value).ownBlock ∧ k_ ≠ gb354) (fun k_ => some k_ = (.slice Ao88 x355002_3.length co88 : Value).ownBlock) rfl rfl ?aP (fun k_ hk_ => ((Kd.R_mono (ok' := fun k_ => ((fun k_ => some k_ ≠ (.slice Ao12 y338.length co12 : Value).ownBlock ∧ k_ ≠ gb354)) k_ ∧ some k_ ≠ (u342001 : Value).ownBlock) (Kd.R_types (Kd.R_apart' (HO_355002.out) (Kd.S_typed HO_342001.out) (by decide)) BK354.out (by decide)) (fun k_ hk => ⟨⟨hk.1.1, hk.2⟩, hk.1.2⟩))).1 k_ hk_.symm) ?aF ?aO (Below.refl _ _) ?aS ?aL ?_; (case aP => exact k56_mkM _ _ _ (⟨t348, (wrap64 (t348 + t355)), x355002_3⟩ : S56) (Kd.R_mono (Kd.R_tight rfl (Kd.R_mono (ok' := fun k_ => ((fun k_ => some k_ ≠ (.slice Ao12 y338.length co12 : Value).ownBlock ∧ k_ ≠ gb354)) k_ ∧ some k_ ≠ (u342001 : Value).ownBlock) (Kd.R_types (Kd.R_apart' (HO_355002.out) (Kd.S_typed HO_342001.out) (by decide)) BK354.out (by decide)) (fun k_ hk => ⟨⟨hk.1.1, hk.2⟩, hk.1.2⟩))) (fun _ h_ => h_))); (case aF => exact (fun k_ hk => ⟨Kd.fresh' (Kd.R_lt (by (with_reducible repeat (first | apply Kd.R_alloc | apply Kd.R_drewN | apply Kd.R_drew)); exact HO_342002.out)) k_ hk, Kd.freshB (g := gb354) (o := .cells #[.int .i64 t348, .int .i64 (wrap64 (t348 + t355)), .slice Ao88 x355002_3.length co88] 56 (0, 0)) (by (with_reducible repeat (first | refine blk_drewN ?_ _ | refine blk_drew ?_ | refine blk_alloc ?_ _)); exact BK354.out) k_ hk⟩)); (case aO => exact (by (with_reducible repeat (first | apply Kd.S_alloc | apply Kd.S_drewN | apply Kd.S_drew)); exact Kd.S_mono HO_342001.out (fun k_ hk => ⟨⟨hk.1, hk.2.2⟩, fun e_ => hk.2.1 e_⟩))); (case aS => exact (keep_size (w := w) (g := g) (row := none) (by with_reducible repeat (first | exact HK.out | apply KeepBut.set_ | apply keep_drewN | apply keep_drew | apply keep_alloc | refine keep_far ?_ GW331.out _ | refine keep_far ?_ GW341.out _ | refine keep_far ?_ GW354.out _)))); (case aL => have := LMc80.out; omega); intro v374 w89 ho hb hg hat; rw [← Ny373.out] at ho; have n0_ := Aside0.mk (Kd.R_over' (by (with_reducible repeat (first | apply Kd.R_alloc | apply Kd.R_drewN | apply Kd.R_drew)); exact HO_342002.out) (Kd.S_typed (by (with_reducible repeat (first | apply Kd.S_alloc | apply Kd.S_drewN | apply Kd.S_drew)); exact HO_342001.out)) (by decide) hg); have n1_ := Aside0.mk (blk_grown (g := gb331) (o := .cells #[.int .i64 0, .slice none 0 0, .slice none 0 0, .int .i64 0, .int .i64 0, .int .i64 0, .int .i64 0] 45 (0, 0)) (by (with_reducible repeat (first | refine blk_drewN ?_ _ | refine blk_drew ?_ | refine blk_alloc ?_ _)); exact BK331.out) hg (Kd.S_ne HO_342001.out BK331.out (by decide))); have n2_ := Aside0.mk (blk_grown (g := gb341) (o := .cells #[.int .i64 (wrap64 (1 + t332)), u342001, .slice Ao12 y338.length co12, .int .i64 0, .int .i64 0, .int .i64 0, .int .i64 0] 45 (0, 0)) (by (with_reducible repeat (first | refine blk_drewN ?_ _ | refine blk_drew ?_ | refine blk_alloc ?_ _)); exact BK341.out) hg (Kd.S_ne HO_342001.out BK341.out (by decide))); have n3_ := Aside0.mk (blk_grown (g := gb354) (o := .cells #[.int .i64 t348, .int .i64 (wrap64 (t348 + t355)), .slice Ao88 x355002_3.length co88] 56 (0, 0)) (by (with_reducible repeat (first | refine blk_drewN ?_ _ | refine blk_drew ?_ | refine blk_alloc ?_ _)); exact BK354.out) hg (Kd.S_away HO_342001.out (fun _ hk => hk.2.2))); have n4_ := Aside0.mk (IsS94.grown (by with_reducible repeat (first | exact HI0.out | apply IsS94.alloc | apply IsS94.drewN | apply IsS94.drew | apply IsS94.set_1 | apply IsS94.set_2 | refine IsS94.far ?_ NB0_331.out _ | refine IsS94.far ?_ NB0_341.out _ | refine IsS94.far ?_ NB0_354.out _)) hg (IsS94.own_neS HI0.out HO_342001.out (by decide))); have n5_ := Aside0.mk (below_weaken (by with_reducible repeat (first | exact HB.out | apply below_alloc | apply pw_below_drewN | apply below_drew1 | refine below_set ?_ (IsS94.ge HI0.out) | refine below_set ?_ GE331.out | refine below_set ?_ GE341.out | refine below_set ?_ GE354.out)) HL.out hb); have n6_ := Aside0.mk (KeepBut.trans (by with_reducible repeat (first | exact HK.out | apply KeepBut.set_ | apply keep_drewN | apply keep_drew | apply keep_alloc | refine keep_far ?_ GW331.out _ | refine keep_far ?_ GW341.out _ | refine keep_far ?_ GW354.out _)) (KeepBut.of_grown hg g) (Kd.S_base2 HO_342001.out)); have n7_ := Aside0.mk (ho); clear HO_342002; clear BK331; clear BK341; clear BK354; clear HI0; clear HB; clear HK; clear HO_342001; clear HO_355002; have HO_342002 := n0_; have BK331 := n1_; have BK341 := n2_; have BK354 := n3_; have HI0 := n4_; have HB := n5_; have HK := n6_; have HO375 := n7_; clear n0_ n1_ n2_ n3_ n4_ n5_ n6_ n7_; clear ho hb hg hat; obtain ⟨Ao90, co90, eo90⟩ := Kd.S_slice HO375.out; subst eo90; have hcz91_0 : w89.cell? ⟨gb341, 0, none⟩ = some (.int .i64 (wrap64 (1 + t332))) := (blk_cell BK341.out 0).trans rfl; have hcz91_1 : w89.cell? ⟨gb341, 1, none⟩ = some (u342001) := (blk_cell BK341.out 1).trans rfl; have hcz91_2 : w89.cell? ⟨gb341, 2, none⟩ = some (.slice Ao12 y338.length co12) := (blk_cell BK341.out 2).trans rfl; have hcz91_3 : w89.cell? ⟨gb341, 3, none⟩ = some (.int .i64 0) := (blk_cell BK341.out 3).trans rfl; have hcz91_4 : w89.cell? ⟨gb341, 4, none⟩ = some (.int .i64 0) := (blk_cell BK341.out 4).trans rfl; have hcz91_5 : w89.cell? ⟨gb341, 5, none⟩ = some (.int .i64 0) := (blk_cell BK341.out 5).trans rfl; have hcz91_6 : w89.cell? ⟨gb341, 6, none⟩ = some (.int .i64 0) := (blk_cell BK341.out 6).trans rfl; have hfz91_0 := blk_frozen BK341.out 0; have hfz91_1 := blk_frozen BK341.out 1; have hfz91_2 := blk_frozen BK341.out 2; have hfz91_3 := blk_frozen BK341.out 3; have hfz91_4 := blk_frozen BK341.out 4; have hfz91_5 := blk_frozen BK341.out 5; have hfz91_6 := blk_frozen BK341.out 6))
          go_roundg k3
          case measure => have := HJ4.out; have := HK2.out; have := HK3.out; omega
          case rel => exact ⟨(wrap64 (x5_2 + 1)), (x1001_3), (x1002_3), (y373), (.slice Ao90 y373.length co90), (by first | rfl | (simp; done) | (simp [*]; done)), H', ⟨by have := HJ4.out; have := HK2.out; have := HK3.out; omega⟩, ⟨by (with_reducible repeat (first | apply Kd.S_alloc | apply Kd.S_drewN | apply Kd.S_drew)); exact Kd.S_mono (Kd.S_far (p := ⟨gb341, 1, none⟩) (Kd.S_types HO375.out BK341.out (by decide)) (fun _ hk => hk.2) (.slice Ao90 y373.length co90)) (fun _ hk => hk.1.1)⟩, ⟨by (with_reducible repeat (first | apply Kd.R_alloc | apply Kd.R_drewN | apply Kd.R_drew)); exact Kd.R_mono (Kd.R_far (p := ⟨gb341, 1, none⟩) (Kd.R_types HO_342002.out BK341.out (by decide)) (fun _ hk => hk.2) (.slice Ao90 y373.length co90)) (fun _ hk => trivial)⟩, ⟨by (with_reducible repeat (first | refine blk_drewN ?_ _ | refine blk_drew ?_ | refine blk_alloc ?_ _)); refine blk_far ?_ NB331_341.out _; (with_reducible repeat (first | refine blk_drewN ?_ _ | refine blk_drew ?_ | refine blk_alloc ?_ _)); exact BK331.out⟩, ⟨by (with_reducible repeat (first | refine blk_drewN ?_ _ | refine blk_drew ?_ | refine blk_alloc ?_ _)); refine blk_put (cs := #[.int .i64 (wrap64 (1 + t332)), u342001, .slice Ao12 y338.length co12, .int .i64 0, .int .i64 0, .int .i64 0, .int .i64 0]) ?_ 1 _ rfl; (with_reducible repeat (first | refine blk_drewN ?_ _ | refine blk_drew ?_ | refine blk_alloc ?_ _)); exact BK341.out⟩, ⟨by with_reducible repeat (first | exact HI0.out | apply IsS94.alloc | apply IsS94.drewN | apply IsS94.drew | apply IsS94.set_1 | apply IsS94.set_2 | refine IsS94.far ?_ NB0_331.out _ | refine IsS94.far ?_ NB0_341.out _ | refine IsS94.far ?_ NB0_354.out _)⟩, ⟨by with_reducible repeat (first | exact HK.out | apply KeepBut.set_ | apply keep_drewN | apply keep_drew | apply keep_alloc | refine keep_far ?_ GW331.out _ | refine keep_far ?_ GW341.out _ | refine keep_far ?_ GW354.out _)⟩, ⟨by with_reducible repeat (first | exact HB.out | apply below_alloc | apply pw_below_drewN | apply below_drew1 | refine below_set ?_ (IsS94.ge HI0.out) | refine below_set ?_ GE331.out | refine below_set ?_ GE341.out | refine below_set ?_ GE354.out)⟩⟩
     ·rw [if_neg c21] at H
      have c21b0 : decide (x5_2 < x4_4) = false := decide_eq_false c21
      clear c21
      have H' := Aside0.mk H
      clear H
      go_wp2
      go_loopg [8] k2 (fun kq v8 w' => ∃ (x8_3 : Int) (x1001_3 : Int) (x1002_3 : Int) (x342002_3 : List Int) (u342002 : Value), v8 = .int .i64 x8_3 ∧ Aside0 (spec_l06DrawOk.l2 kq x4_4 x8_3 s0_0 x1001_3 x1002_3 (wrap64 (1 + t332)) x342001_2 x342002_3 0 0 0 0 = some (r1, r2, r3, r4, r5, r6, r7, r8, r9)) ∧ Aside0 (kq ≤ k2) ∧ Aside0 (Kd.S k56 56 w' w.heap.size (fun k_ => some k_ ≠ (u342002 : Value).ownBlock) u342001 x342001_2) ∧ Aside0 (Kd.R (Kd.int .i64) 2 w' w.heap.size (fun _ => True) u342002 x342002_3) ∧ Aside0 (w'.heap[gb331]? = some (.cells #[.int .i64 0, (.slice none 0 0), (.slice none 0 0), .int .i64 0, .int .i64 0, .int .i64 0, .int .i64 0] 45 (0, 0))) ∧ Aside0 (w'.heap[gb341]? = some (.cells #[.int .i64 (wrap64 (1 + t332)), u342001, u342002, .int .i64 0, .int .i64 0, .int .i64 0, .int .i64 0] 45 (0, 0))) ∧ Aside0 (IsS94 w0 w' g s0_0 x1001_3 x1002_3) ∧ Aside0 (KeepBut w w' g none) ∧ Aside0 (Below w0.heap.size w0 w'))
      case atStart => exact ⟨(0), (x1001_2), (x1002_2), (y338), (.slice Ao12 y338.length co12), (by first | rfl | (simp; done) | (simp [*]; done)), H', ⟨Nat.le_refl _⟩, ⟨by (with_reducible repeat (first | apply Kd.S_alloc | apply Kd.S_drewN | apply Kd.S_drew)); exact HO_342001.out⟩, ⟨by (with_reducible repeat (first | apply Kd.R_alloc | apply Kd.R_drewN | apply Kd.R_drew)); exact HO_342002.out⟩, ⟨by (with_reducible repeat (first | refine blk_drewN ?_ _ | refine blk_drew ?_ | refine blk_alloc ?_ _)); exact BK331.out⟩, ⟨by (with_reducible repeat (first | refine blk_drewN ?_ _ | refine blk_drew ?_ | refine blk_alloc ?_ _)); exact BK341.out⟩, ⟨by with_reducible repeat (first | exact HI0.out | apply IsS94.alloc | apply IsS94.drewN | apply IsS94.drew | apply IsS94.set_1 | apply IsS94.set_2 | refine IsS94.far ?_ NB0_331.out _ | refine IsS94.far ?_ NB0_341.out _)⟩, ⟨by with_reducible repeat (first | exact HK.out | apply KeepBut.set_ | apply keep_drewN | apply keep_drew | apply keep_alloc | refine keep_far ?_ GW331.out _ | refine keep_far ?_ GW341.out _)⟩, ⟨by with_reducible repeat (first | exact HB.out | apply below_alloc | apply pw_below_drewN | apply below_drew1 | refine below_set ?_ (IsS94.ge HI0.out) | refine below_set ?_ GE331.out | refine below_set ?_ GE341.out)⟩⟩
      case round =>
       clear H'
       try clear c1
       try clear c2
       try clear p2
       try clear c3
       try clear c4
       try clear c5
       try clear c6
       try clear p6
       try clear c8
       try clear c15
       try clear c16
       try clear c20
       try clear c21
       try clear c21b0
       try clear c29
       try clear c30
       try clear c31
       try clear c35
       try clear c37
       try clear c37b0
       try clear c39
       try clear c40
       try clear c41
       try clear c42
       try clear c43
       try clear c46
       try clear c47
       try clear c52
       try clear c53
       try clear c54
       try clear c57
       try clear c57b0
       try clear c57b1
       try clear c57b2
       try clear c59
       try clear c60
       try clear c61
       try clear c62
       try clear c63
       try clear p64
       try clear c65
       try clear c66
       try clear c80
       try clear c81
       try clear c82
       try clear c83
       try clear c85
       try clear c86
       try clear hcz17_0
       try clear hcz17_1
       try clear hcz17_2
       try clear hcz17_3
       try clear hcz17_4
       try clear hcz17_5
       try clear hcz17_6
       try clear hcz32_0
       try clear hcz32_1
       try clear hcz32_2
       try clear hcz44_0
       try clear hcz44_1
       try clear hcz44_2
       try clear hcz44_3
       try clear hcz44_4
       try clear hcz44_5
       try clear hcz44_6
       try clear hcz48_0
       try clear hcz48_1
       try clear hcz48_2
       try clear hcz51_0
       try clear hcz51_1
       try clear hcz51_2
       try clear hcz55_0
       try clear hcz55_1
       try clear hcz55_2
       try clear hcz55_3
       try clear hcz55_4
       try clear hcz55_5
       try clear hcz55_6
       try clear hcz64_0
       try clear hcz64_1
       try clear hcz64_2
       try clear hcz64_3
       try clear hcz64_4
       try clear hcz64_5
       try clear hcz64_6
       try clear hcz67_0
       try clear hcz67_1
       try clear hcz67_2
       try clear hcz75_0
       try clear hcz75_1
       try clear hcz75_2
       try clear hcz75_3
       try clear hcz75_4
       try clear hcz75_5
       try clear hcz75_6
       try clear hcz76_0
       try clear hcz76_1
       try clear hcz76_2
       try clear hcz79_0
       try clear hcz79_1
       try clear hcz79_2
       try clear hcz79_3
       try clear hcz79_4
       try clear hcz79_5
       try clear hcz79_6
       try clear hcz84_0
       try clear hcz84_1
       try clear hcz84_2
       try clear hcz84_3
       try clear hcz84_4
       try clear hcz84_5
       try clear hcz84_6
       try clear hcz87_0
       try clear hcz87_1
       try clear hcz87_2
       try clear hcz91_0
       try clear hcz91_1
       try clear hcz91_2
       try clear hcz91_3
       try clear hcz91_4
       try clear hcz91_5
       try clear hcz91_6
       try clear hfz17_0
       try clear hfz17_1
       try clear hfz17_2
       try clear hfz17_3
       try clear hfz17_4
       try clear hfz17_5
       try clear hfz17_6
       try clear hfz32_0
       try clear hfz32_1
       try clear hfz32_2
       try clear hfz44_0
       try clear hfz44_1
       try clear hfz44_2
       try clear hfz44_3
       try clear hfz44_4
       try clear hfz44_5
       try clear hfz44_6
       try clear hfz48_0
       try clear hfz48_1
       try clear hfz48_2
       try clear hfz51_0
       try clear hfz51_1
       try clear hfz51_2
       try clear hfz55_0
       try clear hfz55_1
       try clear hfz55_2
       try clear hfz55_3
       try clear hfz55_4
       try clear hfz55_5
       try clear hfz55_6
       try clear hfz64_0
       try clear hfz64_1
       try clear hfz64_2
       try clear hfz64_3
       try clear hfz64_4
       try clear hfz64_5
       try clear hfz64_6
       try clear hfz67_0
       try clear hfz67_1
       try clear hfz67_2
       try clear hfz75_0
       try clear hfz75_1
       try clear hfz75_2
       try clear hfz75_3
       try clear hfz75_4
       try clear hfz75_5
       try clear hfz75_6
       try clear hfz76_0
       try clear hfz76_1
       try clear hfz76_2
       try clear hfz79_0
       try clear hfz79_1
       try clear hfz79_2
       try clear hfz79_3
       try clear hfz79_4
       try clear hfz79_5
       try clear hfz79_6
       try clear hfz84_0
       try clear hfz84_1
       try clear hfz84_2
       try clear hfz84_3
       try clear hfz84_4
       try clear hfz84_5
       try clear hfz84_6
       try clear hfz87_0
       try clear hfz87_1
       try clear hfz87_2
       try clear hfz91_0
       try clear hfz91_1
       try clear hfz91_2
       try clear hfz91_3
       try clear hfz91_4
       try clear hfz91_5
       try clear hfz91_6
       try clear p2
       try clear p6
       obtain ⟨x8_3, x1001_3, x1002_3, x342002_3, u342002, rfl, HA, HK3, HO_342001, HO_342002, BK331, BK341, HI0, HK, HB⟩ := hrel
       cases gk with
       | zero => exact absurd HA.out (by simp [spec_l06DrawOk.l2])
       | succ k3 =>
        have H := HA.out
        clear HA
        simp only [spec_l06DrawOk.l2] at H
        by_cases c92 : x8_3 < (wrap64 (1 + t332))
        ·rw [if_pos c92] at H
         have c92b0 : decide (x8_3 < (wrap64 (1 + t332))) = true := decide_eq_true c92
         clear c92
         replace H := Option.bind_eq_some_iff.mp H
         obtain ⟨⟨t376, t377, t378⟩, A930, H⟩ := H
         try dsimp only at H
         have A93 := Aside0.mk A930
         clear A930
         by_cases c94 : x342002_3.length < 17592186044416
         case neg => rw [if_neg c94] at H; exact absurd H (by simp)
         rw [if_pos c94] at H
         have LMc94 := Aside0.mk c94
         clear c94
         obtain ⟨y379, hy379⟩ : ∃ y_ : List Int, y_ = (x342002_3 ++ [t376]) := ⟨_, rfl⟩
         (try rw [Option.bind_some] at H); try rw [← hy379] at H
         have Ny379 := Aside0.mk hy379
         clear hy379
         have H' := Aside0.mk H
         clear H
         have hnb95 := NB341_331.out
         have hnc95 := NB331_341.out
         have hnb96 := NB341_0.out
         have hnc96 := NB0_341.out
         have hcz97_0 : wr.cell? ⟨gb341, 0, none⟩ = some (.int .i64 (wrap64 (1 + t332))) := (blk_cell BK341.out 0).trans rfl
         have hcz97_1 : wr.cell? ⟨gb341, 1, none⟩ = some (u342001) := (blk_cell BK341.out 1).trans rfl
         have hcz97_2 : wr.cell? ⟨gb341, 2, none⟩ = some (u342002) := (blk_cell BK341.out 2).trans rfl
         have hcz97_3 : wr.cell? ⟨gb341, 3, none⟩ = some (.int .i64 0) := (blk_cell BK341.out 3).trans rfl
         have hcz97_4 : wr.cell? ⟨gb341, 4, none⟩ = some (.int .i64 0) := (blk_cell BK341.out 4).trans rfl
         have hcz97_5 : wr.cell? ⟨gb341, 5, none⟩ = some (.int .i64 0) := (blk_cell BK341.out 5).trans rfl
         have hcz97_6 : wr.cell? ⟨gb341, 6, none⟩ = some (.int .i64 0) := (blk_cell BK341.out 6).trans rfl
         have hfz97_0 := blk_frozen BK341.out 0
         have hfz97_1 := blk_frozen BK341.out 1
         have hfz97_2 := blk_frozen BK341.out 2
         have hfz97_3 := blk_frozen BK341.out 3
         have hfz97_4 := blk_frozen BK341.out 4
         have hfz97_5 := blk_frozen BK341.out 5
         have hfz97_6 := blk_frozen BK341.out 6
         try go_wp2
         have n0_ := Aside0.mk (Kd.S_drew HO_342001.out)
         have n1_ := Aside0.mk (Kd.R_drew HO_342002.out)
         have n2_ := Aside0.mk (blk_drew BK331.out)
         have n3_ := Aside0.mk (blk_drew BK341.out)
         have n4_ := Aside0.mk (IsS94.drew HI0.out)
         have n5_ := Aside0.mk (keep_drew HK.out)
         have n6_ := Aside0.mk (below_drew1 HB.out)
         clear HO_342001
         clear HO_342002
         clear BK331
         clear BK341
         clear HI0
         clear HK
         clear HB
         have HO_342001 := n0_
         have HO_342002 := n1_
         have BK331 := n2_
         have BK341 := n3_
         have HI0 := n4_
         have HK := n5_
         have HB := n6_
         clear n0_ n1_ n2_ n3_ n4_ n5_ n6_
         refine start_ (n := 12) (S := fun w' => w'.cell? ⟨gb341, 0, none⟩ = some (.int .i64 (wrap64 (1 + t332))) ∧ w'.cell? ⟨gb341, 1, none⟩ = some (u342001) ∧ w'.cell? ⟨gb341, 2, none⟩ = some (u342002) ∧ w'.cell? ⟨gb341, 3, none⟩ = some (.int .i64 0) ∧ w'.cell? ⟨gb341, 4, none⟩ = some (.int .i64 0) ∧ w'.cell? ⟨gb341, 5, none⟩ = some (.int .i64 0) ∧ w'.cell? ⟨gb341, 6, none⟩ = some (.int .i64 0)) (ds := [11]) #[false, false, false, false, false, false, false, false, false, false, false, false] (by kernel_rfl) rfl rfl ⟨(blk_cell BK341.out 0).trans rfl, (blk_cell BK341.out 1).trans rfl, (blk_cell BK341.out 2).trans rfl, (blk_cell BK341.out 3).trans rfl, (blk_cell BK341.out 4).trans rfl, (blk_cell BK341.out 5).trans rfl, (blk_cell BK341.out 6).trans rfl⟩ (fun hHeld => ?_); refine with_tabW spec_l06DrawOk.tab21 spec_l06DrawOk.bits21 (fun HT_ HW_ => ?_)
         generalize wr.drew = w98 at HO_342001 HO_342002 BK331 BK341 HI0 HK HB hHeld ⊢
         refine pure_ (i := 0) (N := some 77) (v := ?_) (a' := ?_) #[true, false, false, false, false, false, false, false, false, false, false, false] rfl rfl (any_of HT_.out (by kernel_rfl)) (fun _ _ _ h => h) (Or.inl ⟨by rfl, ?_⟩) ?_ ?_
         rotate_left
         ·intro w'
          go_simp
          with_reducible rfl
         rotate_left
         ·simp only [Act.put, List.setIfInBounds_toArray, List.set_cons_zero, List.set_cons_succ, i64_w, i32_w]
          rfl
         refine pure_ (i := 2) (N := some 79) (v := ?_) (a' := ?_) #[true, false, true, false, false, false, false, false, false, false, false, false] rfl rfl (any_of HT_.out (by kernel_rfl)) (fun _ _ _ h => h) (Or.inl ⟨by rfl, ?_⟩) ?_ ?_
         rotate_left
         ·intro w'
          go_simp
          with_reducible rfl
         rotate_left
         ·simp only [Act.put, List.setIfInBounds_toArray, List.set_cons_zero, List.set_cons_succ, i64_w, i32_w]
          rfl
         refine pure_ (i := 3) (N := some 80) (v := ?_) (a' := ?_) #[true, false, true, true, false, false, false, false, false, false, false, false] rfl rfl (any_of HT_.out (by kernel_rfl)) (fun _ _ _ h => h) (Or.inl ⟨by rfl, ?_⟩) ?_ ?_
         rotate_left
         ·intro w'
          go_simp
          with_reducible rfl
         rotate_left
         ·simp only [Act.put, List.setIfInBounds_toArray, List.set_cons_zero, List.set_cons_succ, i64_w, i32_w]
          rfl
         refine pure_ (i := 5) (N := some 82) (v := ?_) (a' := ?_) #[true, false, true, true, false, true, false, false, false, false, false, false] rfl rfl (any_of HT_.out (by kernel_rfl)) (fun _ _ _ h => h) (Or.inl ⟨by rfl, ?_⟩) ?_ ?_
         rotate_left
         ·intro w'
          go_simp
          with_reducible rfl
         rotate_left
         ·simp only [Act.put, List.setIfInBounds_toArray, List.set_cons_zero, List.set_cons_succ, i64_w, i32_w]
          rfl
         refine take_ (i := 1) (N := some 78) (v := ?_) (a' := ?_) #[true, true, true, true, false, true, false, false, false, false, false, false] rfl rfl (take_ofW HT_.out HW_.out (by kernel_rfl)) (fun _ _ _ h => h) (Or.inl ⟨by rfl, ?_⟩) hHeld ?_ ?_
         rotate_left
         ·rintro w' ⟨s0, s1, s2, s3, s4, s5, s6⟩
          go_simp
          with_reducible rfl
         rotate_left
         ·simp only [Act.put, List.setIfInBounds_toArray, List.set_cons_zero, List.set_cons_succ, i64_w, i32_w]
          rfl
         refine take_ (i := 4) (N := some 81) (v := ?_) (a' := ?_) #[true, true, true, true, true, true, false, false, false, false, false, false] rfl rfl (take_ofW HT_.out HW_.out (by kernel_rfl)) (fun _ _ _ h => h) (Or.inl ⟨by rfl, ?_⟩) hHeld ?_ ?_
         rotate_left
         ·rintro w' ⟨s0, s1, s2, s3, s4, s5, s6⟩
          go_simp
          with_reducible rfl
         rotate_left
         ·simp only [Act.put, List.setIfInBounds_toArray, List.set_cons_zero, List.set_cons_succ, i64_w, i32_w]
          rfl
         refine pure_ (i := 6) (N := some 83) (v := ?_) (a' := ?_) #[true, true, true, true, true, true, true, false, false, false, false, false] rfl rfl (any_of HT_.out (by kernel_rfl)) (fun _ _ _ h => h) (Or.inl ⟨by rfl, ?_⟩) ?_ ?_
         rotate_left
         ·intro w'
          go_simp
          with_reducible rfl
         rotate_left
         ·simp only [Act.put, List.setIfInBounds_toArray, List.set_cons_zero, List.set_cons_succ, i64_w, i32_w]
          rfl
         refine one_ (i := 7) (N := some 84) #[true, true, true, true, true, true, true, true, false, false, false, false] rfl rfl (one_of HT_.out (by kernel_rfl)) (by decide) (fun K hK => ?_)
         refine goes_ Try.func35 (by kernel_rfl) rfl #[.pointer (some ⟨g, 0, none⟩), .int .i64 (wrap64 ((wrap64 (1 + t332)) + x4_4))] (by rfl) rfl rfl (by (try simp only [List.map_toArray, List.map_cons, List.map_nil]); first | done | rfl | (simp only [List.length_drop, List.length_take]; rfl)) ?_
         with_reducible refine (spec_l00Src_pick.calls g s0_0 x1001_3 x1002_3 (wrap64 ((wrap64 (1 + t332)) + x4_4)) t376 t377 t378 w0 _ ?side1 ?side2 A93.out).mono ?_
         (case side1 => repeat (first | (with_reducible first | exact HI0.out | apply IsS94.alloc | apply IsS94.drewN | apply IsS94.drew | apply IsS94.set_1 | apply IsS94.set_2 | refine IsS94.far ?_ NB0_331.out _ | refine IsS94.far ?_ NB0_341.out _) | exact HI0.out))
         (case side2 => repeat (first | (with_reducible first | exact HB.out | apply below_alloc | apply pw_below_drewN | apply below_drew1 | refine below_set ?_ (IsS94.ge HI0.out) | refine below_set ?_ GE331.out | refine below_set ?_ GE341.out) | exact HB.out))
         rintro e w99 ⟨rfl, hi, hb, hk⟩
         refine ⟨_, rfl, ?_⟩
         have n0_ := Aside0.mk (Kd.S_mono (Kd.S_keep (IsS94.apartS (show IsS94 w0 _ g s0_0 x1001_3 x1002_3 from by with_reducible repeat (first | exact HI0.out | apply IsS94.alloc | apply IsS94.drewN | apply IsS94.drew | apply IsS94.set_1 | apply IsS94.set_2 | refine IsS94.far ?_ NB0_331.out _ | refine IsS94.far ?_ NB0_341.out _)) (by (with_reducible repeat (first | apply Kd.S_alloc | apply Kd.S_drewN | apply Kd.S_drew)); exact HO_342001.out) (by decide)) hk (fun _ h => h.2)) (fun _ h => h.1))
         have n1_ := Aside0.mk (Kd.R_mono (Kd.R_keep (IsS94.apart (show IsS94 w0 _ g s0_0 x1001_3 x1002_3 from by with_reducible repeat (first | exact HI0.out | apply IsS94.alloc | apply IsS94.drewN | apply IsS94.drew | apply IsS94.set_1 | apply IsS94.set_2 | refine IsS94.far ?_ NB0_331.out _ | refine IsS94.far ?_ NB0_341.out _)) (by (with_reducible repeat (first | apply Kd.R_alloc | apply Kd.R_drewN | apply Kd.R_drew)); exact HO_342002.out) (by decide)) hk (fun _ h => h.2)) (fun _ h => h.1))
         have n2_ := Aside0.mk (KeepBut.blk hk (g' := gb331) (o := .cells #[.int .i64 0, .slice none 0 0, .slice none 0 0, .int .i64 0, .int .i64 0, .int .i64 0, .int .i64 0] 45 (0, 0)) (by (with_reducible repeat (first | refine blk_drewN ?_ _ | refine blk_drew ?_ | refine blk_alloc ?_ _)); exact BK331.out) NB331_0.out (by simp))
         have n3_ := Aside0.mk (KeepBut.blk hk (g' := gb341) (o := .cells #[.int .i64 (wrap64 (1 + t332)), u342001, u342002, .int .i64 0, .int .i64 0, .int .i64 0, .int .i64 0] 45 (0, 0)) (by (with_reducible repeat (first | refine blk_drewN ?_ _ | refine blk_drew ?_ | refine blk_alloc ?_ _)); exact BK341.out) NB341_0.out (by simp))
         have n4_ := Aside0.mk (KeepBut.trans (by with_reducible repeat (first | exact HK.out | apply KeepBut.set_ | apply keep_drewN | apply keep_drew | apply keep_alloc | refine keep_far ?_ GW331.out _ | refine keep_far ?_ GW341.out _)) hk (.inl rfl))
         have n5_ := Aside0.mk (hb)
         have n6_ := Aside0.mk (hi)
         clear HO_342001
         clear HO_342002
         clear BK331
         clear BK341
         clear HK
         clear HB
         clear HI0
         have HO_342001 := n0_
         have HO_342002 := n1_
         have BK331 := n2_
         have BK341 := n3_
         have HK := n4_
         have HB := n5_
         have HI0 := n6_
         clear n0_ n1_ n2_ n3_ n4_ n5_ n6_
         (try clear hb)
         (try clear hb2)
         (try clear hk)
         (try clear hi)
         refine hK.out _ _ ⟨(blk_cell BK341.out 0).trans rfl, (blk_cell BK341.out 1).trans rfl, (blk_cell BK341.out 2).trans rfl, (blk_cell BK341.out 3).trans rfl, (blk_cell BK341.out 4).trans rfl, (blk_cell BK341.out 5).trans rfl, (blk_cell BK341.out 6).trans rfl⟩ (fun hHeld => ?_)
         clear hK K
         refine norm_ (a' := ?_) ?_ ?_
         rotate_left
         ·show Act.put _ (some 84) _ = _
          simp only [Act.put, List.setIfInBounds_toArray, List.set_cons_zero, List.set_cons_succ, i64_w, i32_w]
          rfl
         refine one_ (i := 8) (N := some 85) #[true, true, true, true, true, true, true, true, true, false, false, false] rfl rfl (one_of HT_.out (by kernel_rfl)) (by decide) (fun K hK => ?_)
         refine value_ (w1 := ?_) (v := ?_) (by rfl) rfl ?_ ?_
         rotate_left 2
         ·go_simp
          constructor
          ·rfl
          ·rfl
         refine hK.out _ _ ⟨(blk_cell (blk_alloc BK341.out _) 0).trans rfl, (blk_cell (blk_alloc BK341.out _) 1).trans rfl, (blk_cell (blk_alloc BK341.out _) 2).trans rfl, (blk_cell (blk_alloc BK341.out _) 3).trans rfl, (blk_cell (blk_alloc BK341.out _) 4).trans rfl, (blk_cell (blk_alloc BK341.out _) 5).trans rfl, (blk_cell (blk_alloc BK341.out _) 6).trans rfl⟩ (fun hHeld => ?_)
         clear hK K
         refine norm_ (a' := ?_) ?_ ?_
         rotate_left
         ·show Act.put _ (some 85) _ = _
          simp only [Act.put, List.setIfInBounds_toArray, List.set_cons_zero, List.set_cons_succ, i64_w, i32_w]
          rfl
         refine one_ (i := 9) (N := some 86) #[true, true, true, true, true, true, true, true, true, true, false, false] rfl rfl (one_of HT_.out (by kernel_rfl)) (by decide) (fun K hK => ?_)
         refine Kd.R_append_step (Kd.int .i64) w.heap.size (by rfl) (.tmp 78) (.tmp 85) 28 2 (.int .i64 0) 8 rfl Try.underlying28 info2 rfl (by decide) (by omega) u342002 x342002_3 t376 [.int .i64 t376] (fun _ => True) (fun _ => False) rfl rfl ?aP (fun _ hk => hk.elim) ?aF ?aO (Below.refl _ _) ?aS ?aL ?_
         (case aP => exact rfl)
         (case aF => exact (fun _ _ => trivial))
         (case aO => exact (by (with_reducible repeat (first | apply Kd.R_alloc | apply Kd.R_drewN | apply Kd.R_drew)); exact HO_342002.out))
         (case aS => exact (keep_size (w := w) (g := g) (row := none) (by with_reducible repeat (first | exact HK.out | apply KeepBut.set_ | apply keep_drewN | apply keep_drew | apply keep_alloc | refine keep_far ?_ GW331.out _ | refine keep_far ?_ GW341.out _))))
         (case aL => have := LMc94.out; omega)
         intro v380 w100 ho hb hg hat
         rw [← Ny379.out] at ho
         have n0_ := Aside0.mk (Kd.S_after (ok := (fun _ => True)) (by (with_reducible repeat (first | apply Kd.S_alloc | apply Kd.S_drewN | apply Kd.S_drew)); exact Kd.S_mono HO_342001.out (fun _ hk => ⟨trivial, hk⟩)) hg hat)
         have n1_ := Aside0.mk (blk_grown (g := gb331) (o := .cells #[.int .i64 0, .slice none 0 0, .slice none 0 0, .int .i64 0, .int .i64 0, .int .i64 0, .int .i64 0] 45 (0, 0)) (by (with_reducible repeat (first | refine blk_drewN ?_ _ | refine blk_drew ?_ | refine blk_alloc ?_ _)); exact BK331.out) hg (Kd.R_ne HO_342002.out BK331.out (by decide)))
         have n2_ := Aside0.mk (blk_grown (g := gb341) (o := .cells #[.int .i64 (wrap64 (1 + t332)), u342001, u342002, .int .i64 0, .int .i64 0, .int .i64 0, .int .i64 0] 45 (0, 0)) (by (with_reducible repeat (first | refine blk_drewN ?_ _ | refine blk_drew ?_ | refine blk_alloc ?_ _)); exact BK341.out) hg (Kd.R_ne HO_342002.out BK341.out (by decide)))
         have n3_ := Aside0.mk (IsS94.grown (by with_reducible repeat (first | exact HI0.out | apply IsS94.alloc | apply IsS94.drewN | apply IsS94.drew | apply IsS94.set_1 | apply IsS94.set_2 | refine IsS94.far ?_ NB0_331.out _ | refine IsS94.far ?_ NB0_341.out _)) hg (IsS94.own_ne HI0.out HO_342002.out (by decide)))
         have n4_ := Aside0.mk (below_weaken (by with_reducible repeat (first | exact HB.out | apply below_alloc | apply pw_below_drewN | apply below_drew1 | refine below_set ?_ (IsS94.ge HI0.out) | refine below_set ?_ GE331.out | refine below_set ?_ GE341.out)) HL.out hb)
         have n5_ := Aside0.mk (KeepBut.trans (by with_reducible repeat (first | exact HK.out | apply KeepBut.set_ | apply keep_drewN | apply keep_drew | apply keep_alloc | refine keep_far ?_ GW331.out _ | refine keep_far ?_ GW341.out _)) (KeepBut.of_grown hg g) (Kd.R_base2 HO_342002.out))
         have n6_ := Aside0.mk (ho)
         clear HO_342001
         clear BK331
         clear BK341
         clear HI0
         clear HB
         clear HK
         clear HO_342002
         have HO_342001 := n0_
         have BK331 := n1_
         have BK341 := n2_
         have HI0 := n3_
         have HB := n4_
         have HK := n5_
         have HO381 := n6_
         clear n0_ n1_ n2_ n3_ n4_ n5_ n6_
         clear ho hb hg hat
         obtain ⟨Ao101, co101, eo101⟩ := Kd.R_slice HO381.out
         (first | subst eo101 | (injection eo101 with f1_ f2_ f3_; have f4_ := f1_.symm; have f5_ := f3_.symm; clear f1_ f2_ f3_; subst f4_; subst f5_))
         refine hK.out _ _ ⟨(blk_cell BK341.out 0).trans rfl, (blk_cell BK341.out 1).trans rfl, (blk_cell BK341.out 2).trans rfl, (blk_cell BK341.out 3).trans rfl, (blk_cell BK341.out 4).trans rfl, (blk_cell BK341.out 5).trans rfl, (blk_cell BK341.out 6).trans rfl⟩ (fun hHeld => ?_)
         clear hK K
         refine norm_ (a' := ?_) ?_ ?_
         rotate_left
         ·show Act.put _ (some 86) _ = _
          simp only [Act.put, List.setIfInBounds_toArray, List.set_cons_zero, List.set_cons_succ, i64_w, i32_w]
          rfl
         refine pure_ (i := 10) (N := some 87) (v := ?_) (a' := ?_) #[true, true, true, true, true, true, true, true, true, true, true, false] rfl rfl (any_of HT_.out (by kernel_rfl)) (fun _ _ _ h => h) (Or.inl ⟨by rfl, ?_⟩) ?_ ?_
         rotate_left
         ·intro w'
          go_simp
          with_reducible rfl
         rotate_left
         ·simp only [Act.put, List.setIfInBounds_toArray, List.set_cons_zero, List.set_cons_succ, i64_w, i32_w]
          rfl
         refine last_ (i := 11) (N := none) #[true, true, true, true, true, true, true, true, true, true, true, true] rfl rfl (one_of HT_.out (by kernel_rfl)) (by decide) (fun K hK => ?_)
         have hs102 : w100.cell? ⟨gb341, 2, none⟩ = some (u342002) := (blk_cell BK341.out 2).trans rfl
         have hfs102 := blk_frozen BK341.out 2
         have hns102_0 := NB331_341.out
         have hms102_0 := NB341_331.out
         refine skip_ (w1 := ?_) (by rfl) rfl ?_ ?_
         rotate_left
         ·go_simp
          rfl
         refine hK.out _ _ ?_
         clear hK K
         refine done_ (done_of HT_.out (by kernel_rfl)) ?_
         try go_wp2
         go_roundg k3
         case measure => have := HJ4.out; have := HK2.out; have := HK3.out; omega
         case rel => exact ⟨(wrap64 (x8_3 + 1)), (t377), (t378), (y379), (.slice Ao101 y379.length co101), (by first | rfl | (simp; done) | (simp [*]; done)), H', ⟨by have := HJ4.out; have := HK2.out; have := HK3.out; omega⟩, ⟨by (with_reducible repeat (first | apply Kd.S_alloc | apply Kd.S_drewN | apply Kd.S_drew)); exact Kd.S_mono (Kd.S_far (p := ⟨gb341, 2, none⟩) (Kd.S_types HO_342001.out BK341.out (by decide)) (fun _ hk => hk.2) (.slice Ao101 y379.length co101)) (fun _ hk => hk.1.2)⟩, ⟨by (with_reducible repeat (first | apply Kd.R_alloc | apply Kd.R_drewN | apply Kd.R_drew)); exact Kd.R_mono (Kd.R_far (p := ⟨gb341, 2, none⟩) (Kd.R_types HO381.out BK341.out (by decide)) (fun _ hk => hk.2) (.slice Ao101 y379.length co101)) (fun _ hk => trivial)⟩, ⟨by (with_reducible repeat (first | refine blk_drewN ?_ _ | refine blk_drew ?_ | refine blk_alloc ?_ _)); refine blk_far ?_ NB331_341.out _; (with_reducible repeat (first | refine blk_drewN ?_ _ | refine blk_drew ?_ | refine blk_alloc ?_ _)); exact BK331.out⟩, ⟨by (with_reducible repeat (first | refine blk_drewN ?_ _ | refine blk_drew ?_ | refine blk_alloc ?_ _)); refine blk_put (cs := #[.int .i64 (wrap64 (1 + t332)), u342001, u342002, .int .i64 0, .int .i64 0, .int .i64 0, .int .i64 0]) ?_ 2 _ rfl; (with_reducible repeat (first | refine blk_drewN ?_ _ | refine blk_drew ?_ | refine blk_alloc ?_ _)); exact BK341.out⟩, ⟨by with_reducible repeat (first | exact HI0.out | apply IsS94.alloc | apply IsS94.drewN | apply IsS94.drew | apply IsS94.set_1 | apply IsS94.set_2 | refine IsS94.far ?_ NB0_331.out _ | refine IsS94.far ?_ NB0_341.out _)⟩, ⟨by with_reducible repeat (first | exact HK.out | apply KeepBut.set_ | apply keep_drewN | apply keep_drew | apply keep_alloc | refine keep_far ?_ GW331.out _ | refine keep_far ?_ GW341.out _)⟩, ⟨by with_reducible repeat (first | exact HB.out | apply below_alloc | apply pw_below_drewN | apply below_drew1 | refine below_set ?_ (IsS94.ge HI0.out) | refine below_set ?_ GE331.out | refine below_set ?_ GE341.out)⟩⟩
        ·rw [if_neg c92] at H
         have c92b0 : decide (x8_3 < (wrap64 (1 + t332))) = false := decide_eq_false c92
         clear c92
         replace H := Option.bind_eq_some_iff.mp H
         obtain ⟨⟨t382, t383, t384⟩, A1030, H⟩ := H
         try dsimp only at H
         have A103 := Aside0.mk A1030
         clear A1030
         replace H := Option.bind_eq_some_iff.mp H
         obtain ⟨⟨t385, t386, t387⟩, A1040, H⟩ := H
         try dsimp only at H
         have A104 := Aside0.mk A1040
         clear A1040
         replace H := Option.bind_eq_some_iff.mp H
         obtain ⟨⟨t388, t389, t390⟩, A1050, H⟩ := H
         try dsimp only at H
         have A105 := Aside0.mk A1050
         clear A1050
         replace H := Option.bind_eq_some_iff.mp H
         obtain ⟨⟨t391, t392, t393⟩, A1060, H⟩ := H
         try dsimp only at H
         have A106 := Aside0.mk A1060
         clear A1060
         simp only [Option.some.injEq, Prod.mk.injEq] at H
         obtain ⟨rfl, rfl, rfl, rfl, rfl, rfl, rfl, rfl, rfl⟩ := H
         have hnb107 := NB341_331.out
         have hnc107 := NB331_341.out
         have hnb108 := NB341_0.out
         have hnc108 := NB0_341.out
         have hcz109_0 : wr.cell? ⟨gb341, 0, none⟩ = some (.int .i64 (wrap64 (1 + t332))) := (blk_cell BK341.out 0).trans rfl
         have hcz109_1 : wr.cell? ⟨gb341, 1, none⟩ = some (u342001) := (blk_cell BK341.out 1).trans rfl
         have hcz109_2 : wr.cell? ⟨gb341, 2, none⟩ = some (u342002) := (blk_cell BK341.out 2).trans rfl
         have hcz109_3 : wr.cell? ⟨gb341, 3, none⟩ = some (.int .i64 0) := (blk_cell BK341.out 3).trans rfl
         have hcz109_4 : wr.cell? ⟨gb341, 4, none⟩ = some (.int .i64 0) := (blk_cell BK341.out 4).trans rfl
         have hcz109_5 : wr.cell? ⟨gb341, 5, none⟩ = some (.int .i64 0) := (blk_cell BK341.out 5).trans rfl
         have hcz109_6 : wr.cell? ⟨gb341, 6, none⟩ = some (.int .i64 0) := (blk_cell BK341.out 6).trans rfl
         have hfz109_0 := blk_frozen BK341.out 0
         have hfz109_1 := blk_frozen BK341.out 1
         have hfz109_2 := blk_frozen BK341.out 2
         have hfz109_3 := blk_frozen BK341.out 3
         have hfz109_4 := blk_frozen BK341.out 4
         have hfz109_5 := blk_frozen BK341.out 5
         have hfz109_6 := blk_frozen BK341.out 6
         try go_wp2_with (first | ((with_reducible refine gate_callee (f := 35) rfl ?_); refine goesL_ (some 89) rfl rfl Try.func35 (by kernel_rfl) rfl #[.pointer (some ⟨g, 0, none⟩), .int .i64 4] rfl (by (try simp only [List.map_toArray, List.map_cons, List.map_nil]); first | done | rfl | (simp only [List.length_drop, List.length_take]; rfl)) ?_; (with_reducible refine (spec_l00Src_pick.calls g s0_0 x1001_3 x1002_3 4 t382 t383 t384 w0 _ ?side1 ?side2 A103.out).mono ?_); (case side1 => repeat (first | (with_reducible first | exact HI0.out | apply IsS94.alloc | apply IsS94.drewN | apply IsS94.drew | apply IsS94.set_1 | apply IsS94.set_2 | refine IsS94.far ?_ NB0_331.out _ | refine IsS94.far ?_ NB0_341.out _) | exact HI0.out)); (case side2 => repeat (first | (with_reducible first | exact HB.out | apply below_alloc | apply pw_below_drewN | apply below_drew1 | refine below_set ?_ (IsS94.ge HI0.out) | refine below_set ?_ GE331.out | refine below_set ?_ GE341.out) | exact HB.out)); rintro e w110 ⟨rfl, hi, hb, hk⟩; refine ⟨_, rfl, ?_⟩; have n0_ := Aside0.mk (Kd.S_mono (Kd.S_keep (IsS94.apartS (show IsS94 w0 _ g s0_0 x1001_3 x1002_3 from by with_reducible repeat (first | exact HI0.out | apply IsS94.alloc | apply IsS94.drewN | apply IsS94.drew | apply IsS94.set_1 | apply IsS94.set_2 | refine IsS94.far ?_ NB0_331.out _ | refine IsS94.far ?_ NB0_341.out _)) (by (with_reducible repeat (first | apply Kd.S_alloc | apply Kd.S_drewN | apply Kd.S_drew)); exact HO_342001.out) (by decide)) hk (fun _ h => h.2)) (fun _ h => h.1)); have n1_ := Aside0.mk (Kd.R_mono (Kd.R_keep (IsS94.apart (show IsS94 w0 _ g s0_0 x1001_3 x1002_3 from by with_reducible repeat (first | exact HI0.out | apply IsS94.alloc | apply IsS94.drewN | apply IsS94.drew | apply IsS94.set_1 | apply IsS94.set_2 | refine IsS94.far ?_ NB0_331.out _ | refine IsS94.far ?_ NB0_341.out _)) (by (with_reducible repeat (first | apply Kd.R_alloc | apply Kd.R_drewN | apply Kd.R_drew)); exact HO_342002.out) (by decide)) hk (fun _ h => h.2)) (fun _ h => h.1)); have n2_ := Aside0.mk (KeepBut.blk hk (g' := gb331) (o := .cells #[.int .i64 0, .slice none 0 0, .slice none 0 0, .int .i64 0, .int .i64 0, .int .i64 0, .int .i64 0] 45 (0, 0)) (by (with_reducible repeat (first | refine blk_drewN ?_ _ | refine blk_drew ?_ | refine blk_alloc ?_ _)); exact BK331.out) NB331_0.out (by simp)); have n3_ := Aside0.mk (KeepBut.blk hk (g' := gb341) (o := .cells #[.int .i64 (wrap64 (1 + t332)), u342001, u342002, .int .i64 0, .int .i64 0, .int .i64 0, .int .i64 0] 45 (0, 0)) (by (with_reducible repeat (first | refine blk_drewN ?_ _ | refine blk_drew ?_ | refine blk_alloc ?_ _)); exact BK341.out) NB341_0.out (by simp)); have n4_ := Aside0.mk (KeepBut.trans (by with_reducible repeat (first | exact HK.out | apply KeepBut.set_ | apply keep_drewN | apply keep_drew | apply keep_alloc | refine keep_far ?_ GW331.out _ | refine keep_far ?_ GW341.out _)) hk (.inl rfl)); have n5_ := Aside0.mk (hb); have n6_ := Aside0.mk (hi); clear HO_342001; clear HO_342002; clear BK331; clear BK341; clear HK; clear HB; clear HI0; have HO_342001 := n0_; have HO_342002 := n1_; have BK331 := n2_; have BK341 := n3_; have HK := n4_; have HB := n5_; have HI0 := n6_; clear n0_ n1_ n2_ n3_ n4_ n5_ n6_; (try clear hb); (try clear hb2); (try clear hk); (try clear hi); have hcz111_0 : w110.cell? ⟨gb341, 0, none⟩ = some (.int .i64 (wrap64 (1 + t332))) := (blk_cell BK341.out 0).trans rfl; have hcz111_1 : w110.cell? ⟨gb341, 1, none⟩ = some (u342001) := (blk_cell BK341.out 1).trans rfl; have hcz111_2 : w110.cell? ⟨gb341, 2, none⟩ = some (u342002) := (blk_cell BK341.out 2).trans rfl; have hcz111_3 : w110.cell? ⟨gb341, 3, none⟩ = some (.int .i64 0) := (blk_cell BK341.out 3).trans rfl; have hcz111_4 : w110.cell? ⟨gb341, 4, none⟩ = some (.int .i64 0) := (blk_cell BK341.out 4).trans rfl; have hcz111_5 : w110.cell? ⟨gb341, 5, none⟩ = some (.int .i64 0) := (blk_cell BK341.out 5).trans rfl; have hcz111_6 : w110.cell? ⟨gb341, 6, none⟩ = some (.int .i64 0) := (blk_cell BK341.out 6).trans rfl; have hfz111_0 := blk_frozen BK341.out 0; have hfz111_1 := blk_frozen BK341.out 1; have hfz111_2 := blk_frozen BK341.out 2; have hfz111_3 := blk_frozen BK341.out 3; have hfz111_4 := blk_frozen BK341.out 4; have hfz111_5 := blk_frozen BK341.out 5; have hfz111_6 := blk_frozen BK341.out 6) | ((with_reducible refine gate_callee (f := 35) rfl ?_); refine goesL_ (some 92) rfl rfl Try.func35 (by kernel_rfl) rfl #[.pointer (some ⟨g, 0, none⟩), .int .i64 4] rfl (by (try simp only [List.map_toArray, List.map_cons, List.map_nil]); first | done | rfl | (simp only [List.length_drop, List.length_take]; rfl)) ?_; (with_reducible refine (spec_l00Src_pick.calls g s0_0 t383 t384 4 t385 t386 t387 w0 _ ?side1 ?side2 A104.out).mono ?_); (case side1 => repeat (first | (with_reducible first | exact HI0.out | apply IsS94.alloc | apply IsS94.drewN | apply IsS94.drew | apply IsS94.set_1 | apply IsS94.set_2 | refine IsS94.far ?_ NB0_331.out _ | refine IsS94.far ?_ NB0_341.out _) | exact HI0.out)); (case side2 => repeat (first | (with_reducible first | exact HB.out | apply below_alloc | apply pw_below_drewN | apply below_drew1 | refine below_set ?_ (IsS94.ge HI0.out) | refine below_set ?_ GE331.out | refine below_set ?_ GE341.out) | exact HB.out)); rintro e w112 ⟨rfl, hi, hb, hk⟩; refine ⟨_, rfl, ?_⟩; have n0_ := Aside0.mk (Kd.S_mono (Kd.S_keep (IsS94.apartS (show IsS94 w0 _ g s0_0 t383 t384 from by with_reducible repeat (first | exact HI0.out | apply IsS94.alloc | apply IsS94.drewN | apply IsS94.drew | apply IsS94.set_1 | apply IsS94.set_2 | refine IsS94.far ?_ NB0_331.out _ | refine IsS94.far ?_ NB0_341.out _)) (by (with_reducible repeat (first | apply Kd.S_alloc | apply Kd.S_drewN | apply Kd.S_drew)); exact (Kd.S_mono (Kd.S_far (p := ⟨gb341, 3, none⟩) (Kd.S_types HO_342001.out BK341.out (by decide)) (fun _ hk => hk.2) (.int .i64 t382)) (fun _ h_ => h_.1))) (by decide)) hk (fun _ h => h.2)) (fun _ h => h.1)); have n1_ := Aside0.mk (Kd.R_mono (Kd.R_keep (IsS94.apart (show IsS94 w0 _ g s0_0 t383 t384 from by with_reducible repeat (first | exact HI0.out | apply IsS94.alloc | apply IsS94.drewN | apply IsS94.drew | apply IsS94.set_1 | apply IsS94.set_2 | refine IsS94.far ?_ NB0_331.out _ | refine IsS94.far ?_ NB0_341.out _)) (by (with_reducible repeat (first | apply Kd.R_alloc | apply Kd.R_drewN | apply Kd.R_drew)); exact (Kd.R_mono (Kd.R_far (p := ⟨gb341, 3, none⟩) (Kd.R_types HO_342002.out BK341.out (by decide)) (fun _ hk => hk.2) (.int .i64 t382)) (fun _ h_ => h_.1))) (by decide)) hk (fun _ h => h.2)) (fun _ h => h.1)); have n2_ := Aside0.mk (KeepBut.blk hk (g' := gb331) (o := .cells #[.int .i64 0, .slice none 0 0, .slice none 0 0, .int .i64 0, .int .i64 0, .int .i64 0, .int .i64 0] 45 (0, 0)) (by (with_reducible repeat (first | refine blk_drewN ?_ _ | refine blk_drew ?_ | refine blk_alloc ?_ _)); refine blk_far ?_ NB331_341.out _; (with_reducible repeat (first | refine blk_drewN ?_ _ | refine blk_drew ?_ | refine blk_alloc ?_ _)); exact BK331.out) NB331_0.out (by simp)); have n3_ := Aside0.mk (KeepBut.blk hk (g' := gb341) (o := .cells #[.int .i64 (wrap64 (1 + t332)), u342001, u342002, .int .i64 t382, .int .i64 0, .int .i64 0, .int .i64 0] 45 (0, 0)) (by (with_reducible repeat (first | refine blk_drewN ?_ _ | refine blk_drew ?_ | refine blk_alloc ?_ _)); refine blk_put (cs := #[.int .i64 (wrap64 (1 + t332)), u342001, u342002, .int .i64 0, .int .i64 0, .int .i64 0, .int .i64 0]) ?_ 3 _ rfl; (with_reducible repeat (first | refine blk_drewN ?_ _ | refine blk_drew ?_ | refine blk_alloc ?_ _)); exact BK341.out) NB341_0.out (by simp)); have n4_ := Aside0.mk (KeepBut.trans (by with_reducible repeat (first | exact HK.out | apply KeepBut.set_ | apply keep_drewN | apply keep_drew | apply keep_alloc | refine keep_far ?_ GW331.out _ | refine keep_far ?_ GW341.out _)) hk (.inl rfl)); have n5_ := Aside0.mk (hb); have n6_ := Aside0.mk (hi); clear HO_342001; clear HO_342002; clear BK331; clear BK341; clear HK; clear HB; clear HI0; have HO_342001 := n0_; have HO_342002 := n1_; have BK331 := n2_; have BK341 := n3_; have HK := n4_; have HB := n5_; have HI0 := n6_; clear n0_ n1_ n2_ n3_ n4_ n5_ n6_; (try clear hb); (try clear hb2); (try clear hk); (try clear hi); have hcz113_0 : w112.cell? ⟨gb341, 0, none⟩ = some (.int .i64 (wrap64 (1 + t332))) := (blk_cell BK341.out 0).trans rfl; have hcz113_1 : w112.cell? ⟨gb341, 1, none⟩ = some (u342001) := (blk_cell BK341.out 1).trans rfl; have hcz113_2 : w112.cell? ⟨gb341, 2, none⟩ = some (u342002) := (blk_cell BK341.out 2).trans rfl; have hcz113_3 : w112.cell? ⟨gb341, 3, none⟩ = some (.int .i64 t382) := (blk_cell BK341.out 3).trans rfl; have hcz113_4 : w112.cell? ⟨gb341, 4, none⟩ = some (.int .i64 0) := (blk_cell BK341.out 4).trans rfl; have hcz113_5 : w112.cell? ⟨gb341, 5, none⟩ = some (.int .i64 0) := (blk_cell BK341.out 5).trans rfl; have hcz113_6 : w112.cell? ⟨gb341, 6, none⟩ = some (.int .i64 0) := (blk_cell BK341.out 6).trans rfl; have hfz113_0 := blk_frozen BK341.out 0; have hfz113_1 := blk_frozen BK341.out 1; have hfz113_2 := blk_frozen BK341.out 2; have hfz113_3 := blk_frozen BK341.out 3; have hfz113_4 := blk_frozen BK341.out 4; have hfz113_5 := blk_frozen BK341.out 5; have hfz113_6 := blk_frozen BK341.out 6) | ((with_reducible refine gate_callee (f := 35) rfl ?_); refine goesL_ (some 95) rfl rfl Try.func35 (by kernel_rfl) rfl #[.pointer (some ⟨g, 0, none⟩), .int .i64 4] rfl (by (try simp only [List.map_toArray, List.map_cons, List.map_nil]); first | done | rfl | (simp only [List.length_drop, List.length_take]; rfl)) ?_; (with_reducible refine (spec_l00Src_pick.calls g s0_0 t386 t387 4 t388 t389 t390 w0 _ ?side1 ?side2 A105.out).mono ?_); (case side1 => repeat (first | (with_reducible first | exact HI0.out | apply IsS94.alloc | apply IsS94.drewN | apply IsS94.drew | apply IsS94.set_1 | apply IsS94.set_2 | refine IsS94.far ?_ NB0_331.out _ | refine IsS94.far ?_ NB0_341.out _) | exact HI0.out)); (case side2 => repeat (first | (with_reducible first | exact HB.out | apply below_alloc | apply pw_below_drewN | apply below_drew1 | refine below_set ?_ (IsS94.ge HI0.out) | refine below_set ?_ GE331.out | refine below_set ?_ GE341.out) | exact HB.out)); rintro e w114 ⟨rfl, hi, hb, hk⟩; refine ⟨_, rfl, ?_⟩; have n0_ := Aside0.mk (Kd.S_mono (Kd.S_keep (IsS94.apartS (show IsS94 w0 _ g s0_0 t386 t387 from by with_reducible repeat (first | exact HI0.out | apply IsS94.alloc | apply IsS94.drewN | apply IsS94.drew | apply IsS94.set_1 | apply IsS94.set_2 | refine IsS94.far ?_ NB0_331.out _ | refine IsS94.far ?_ NB0_341.out _)) (by (with_reducible repeat (first | apply Kd.S_alloc | apply Kd.S_drewN | apply Kd.S_drew)); exact (Kd.S_mono (Kd.S_far (p := ⟨gb341, 4, none⟩) (Kd.S_types HO_342001.out BK341.out (by decide)) (fun _ hk => hk.2) (.int .i64 t385)) (fun _ h_ => h_.1))) (by decide)) hk (fun _ h => h.2)) (fun _ h => h.1)); have n1_ := Aside0.mk (Kd.R_mono (Kd.R_keep (IsS94.apart (show IsS94 w0 _ g s0_0 t386 t387 from by with_reducible repeat (first | exact HI0.out | apply IsS94.alloc | apply IsS94.drewN | apply IsS94.drew | apply IsS94.set_1 | apply IsS94.set_2 | refine IsS94.far ?_ NB0_331.out _ | refine IsS94.far ?_ NB0_341.out _)) (by (with_reducible repeat (first | apply Kd.R_alloc | apply Kd.R_drewN | apply Kd.R_drew)); exact (Kd.R_mono (Kd.R_far (p := ⟨gb341, 4, none⟩) (Kd.R_types HO_342002.out BK341.out (by decide)) (fun _ hk => hk.2) (.int .i64 t385)) (fun _ h_ => h_.1))) (by decide)) hk (fun _ h => h.2)) (fun _ h => h.1)); have n2_ := Aside0.mk (KeepBut.blk hk (g' := gb331) (o := .cells #[.int .i64 0, .slice none 0 0, .slice none 0 0, .int .i64 0, .int .i64 0, .int .i64 0, .int .i64 0] 45 (0, 0)) (by (with_reducible repeat (first | refine blk_drewN ?_ _ | refine blk_drew ?_ | refine blk_alloc ?_ _)); refine blk_far ?_ NB331_341.out _; (with_reducible repeat (first | refine blk_drewN ?_ _ | refine blk_drew ?_ | refine blk_alloc ?_ _)); exact BK331.out) NB331_0.out (by simp)); have n3_ := Aside0.mk (KeepBut.blk hk (g' := gb341) (o := .cells #[.int .i64 (wrap64 (1 + t332)), u342001, u342002, .int .i64 t382, .int .i64 t385, .int .i64 0, .int .i64 0] 45 (0, 0)) (by (with_reducible repeat (first | refine blk_drewN ?_ _ | refine blk_drew ?_ | refine blk_alloc ?_ _)); refine blk_put (cs := #[.int .i64 (wrap64 (1 + t332)), u342001, u342002, .int .i64 t382, .int .i64 0, .int .i64 0, .int .i64 0]) ?_ 4 _ rfl; (with_reducible repeat (first | refine blk_drewN ?_ _ | refine blk_drew ?_ | refine blk_alloc ?_ _)); exact BK341.out) NB341_0.out (by simp)); have n4_ := Aside0.mk (KeepBut.trans (by with_reducible repeat (first | exact HK.out | apply KeepBut.set_ | apply keep_drewN | apply keep_drew | apply keep_alloc | refine keep_far ?_ GW331.out _ | refine keep_far ?_ GW341.out _)) hk (.inl rfl)); have n5_ := Aside0.mk (hb); have n6_ := Aside0.mk (hi); clear HO_342001; clear HO_342002; clear BK331; clear BK341; clear HK; clear HB; clear HI0; have HO_342001 := n0_; have HO_342002 := n1_; have BK331 := n2_; have BK341 := n3_; have HK := n4_; have HB := n5_; have HI0 := n6_; clear n0_ n1_ n2_ n3_ n4_ n5_ n6_; (try clear hb); (try clear hb2); (try clear hk); (try clear hi); have hcz115_0 : w114.cell? ⟨gb341, 0, none⟩ = some (.int .i64 (wrap64 (1 + t332))) := (blk_cell BK341.out 0).trans rfl; have hcz115_1 : w114.cell? ⟨gb341, 1, none⟩ = some (u342001) := (blk_cell BK341.out 1).trans rfl; have hcz115_2 : w114.cell? ⟨gb341, 2, none⟩ = some (u342002) := (blk_cell BK341.out 2).trans rfl; have hcz115_3 : w114.cell? ⟨gb341, 3, none⟩ = some (.int .i64 t382) := (blk_cell BK341.out 3).trans rfl; have hcz115_4 : w114.cell? ⟨gb341, 4, none⟩ = some (.int .i64 t385) := (blk_cell BK341.out 4).trans rfl; have hcz115_5 : w114.cell? ⟨gb341, 5, none⟩ = some (.int .i64 0) := (blk_cell BK341.out 5).trans rfl; have hcz115_6 : w114.cell? ⟨gb341, 6, none⟩ = some (.int .i64 0) := (blk_cell BK341.out 6).trans rfl; have hfz115_0 := blk_frozen BK341.out 0; have hfz115_1 := blk_frozen BK341.out 1; have hfz115_2 := blk_frozen BK341.out 2; have hfz115_3 := blk_frozen BK341.out 3; have hfz115_4 := blk_frozen BK341.out 4; have hfz115_5 := blk_frozen BK341.out 5; have hfz115_6 := blk_frozen BK341.out 6))
         have n0_ : Aside0 (Kd.S k56 56 (w114.setCell ⟨gb341, 5, none⟩ (.int .i64 t388)) w.heap.size (fun k_ => some k_ ≠ (u342002 : Value).ownBlock) u342001 x342001_2) := ⟨by (with_reducible repeat (first | apply Kd.S_alloc | apply Kd.S_drewN | apply Kd.S_drew)); exact Kd.S_mono (Kd.S_far (p := ⟨gb341, 5, none⟩) (Kd.S_types HO_342001.out BK341.out (by decide)) (fun _ hk => hk.2) (.int .i64 t388)) (fun _ hk => hk.1)⟩
         have n1_ : Aside0 (Kd.R (Kd.int .i64) 2 (w114.setCell ⟨gb341, 5, none⟩ (.int .i64 t388)) w.heap.size (fun _ => True) u342002 x342002_3) := ⟨by (with_reducible repeat (first | apply Kd.R_alloc | apply Kd.R_drewN | apply Kd.R_drew)); exact Kd.R_mono (Kd.R_far (p := ⟨gb341, 5, none⟩) (Kd.R_types HO_342002.out BK341.out (by decide)) (fun _ hk => hk.2) (.int .i64 t388)) (fun _ hk => trivial)⟩
         have n2_ : Aside0 ((w114.setCell ⟨gb341, 5, none⟩ (.int .i64 t388)).heap[gb331]? = some (.cells #[.int .i64 0, .slice none 0 0, .slice none 0 0, .int .i64 0, .int .i64 0, .int .i64 0, .int .i64 0] 45 (0, 0))) := ⟨by (with_reducible repeat (first | refine blk_drewN ?_ _ | refine blk_drew ?_ | refine blk_alloc ?_ _)); refine blk_far ?_ NB331_341.out _; (with_reducible repeat (first | refine blk_drewN ?_ _ | refine blk_drew ?_ | refine blk_alloc ?_ _)); exact BK331.out⟩
         have n3_ : Aside0 ((w114.setCell ⟨gb341, 5, none⟩ (.int .i64 t388)).heap[gb341]? = some (.cells #[.int .i64 (wrap64 (1 + t332)), u342001, u342002, .int .i64 t382, .int .i64 t385, .int .i64 t388, .int .i64 0] 45 (0, 0))) := ⟨by (with_reducible repeat (first | refine blk_drewN ?_ _ | refine blk_drew ?_ | refine blk_alloc ?_ _)); refine blk_put (cs := #[.int .i64 (wrap64 (1 + t332)), u342001, u342002, .int .i64 t382, .int .i64 t385, .int .i64 0, .int .i64 0]) ?_ 5 _ rfl; (with_reducible repeat (first | refine blk_drewN ?_ _ | refine blk_drew ?_ | refine blk_alloc ?_ _)); exact BK341.out⟩
         have n4_ : Aside0 (IsS94 w0 (w114.setCell ⟨gb341, 5, none⟩ (.int .i64 t388)) g s0_0 t389 t390) := ⟨by with_reducible repeat (first | exact HI0.out | apply IsS94.alloc | apply IsS94.drewN | apply IsS94.drew | apply IsS94.set_1 | apply IsS94.set_2 | refine IsS94.far ?_ NB0_331.out _ | refine IsS94.far ?_ NB0_341.out _)⟩
         have n5_ : Aside0 (KeepBut w (w114.setCell ⟨gb341, 5, none⟩ (.int .i64 t388)) g none) := ⟨by with_reducible repeat (first | exact HK.out | apply KeepBut.set_ | apply keep_drewN | apply keep_drew | apply keep_alloc | refine keep_far ?_ GW331.out _ | refine keep_far ?_ GW341.out _)⟩
         have n6_ : Aside0 (Below w0.heap.size w0 (w114.setCell ⟨gb341, 5, none⟩ (.int .i64 t388))) := ⟨by with_reducible repeat (first | exact HB.out | apply below_alloc | apply pw_below_drewN | apply below_drew1 | refine below_set ?_ (IsS94.ge HI0.out) | refine below_set ?_ GE331.out | refine below_set ?_ GE341.out)⟩
         (try clear HO_342001)
         (try clear HO_342002)
         (try clear BK331)
         (try clear BK341)
         (try clear HI0)
         (try clear HK)
         (try clear HB)
         generalize (w114.setCell ⟨gb341, 5, none⟩ (.int .i64 t388)) = w116 at n0_ n1_ n2_ n3_ n4_ n5_ n6_ ⊢
         have HO_342001 := n0_
         have HO_342002 := n1_
         have BK331 := n2_
         have BK341 := n3_
         have HI0 := n4_
         have HK := n5_
         have HB := n6_
         clear n0_ n1_ n2_ n3_ n4_ n5_ n6_
         have n0_ := Aside0.mk (Kd.S_drew HO_342001.out)
         have n1_ := Aside0.mk (Kd.R_drew HO_342002.out)
         have n2_ := Aside0.mk (blk_drew BK331.out)
         have n3_ := Aside0.mk (blk_drew BK341.out)
         have n4_ := Aside0.mk (IsS94.drew HI0.out)
         have n5_ := Aside0.mk (keep_drew HK.out)
         have n6_ := Aside0.mk (below_drew1 HB.out)
         clear HO_342001
         clear HO_342002
         clear BK331
         clear BK341
         clear HI0
         clear HK
         clear HB
         have HO_342001 := n0_
         have HO_342002 := n1_
         have BK331 := n2_
         have BK341 := n3_
         have HI0 := n4_
         have HK := n5_
         have HB := n6_
         clear n0_ n1_ n2_ n3_ n4_ n5_ n6_
         refine start_ (n := 7) (S := fun w' => w'.cell? ⟨gb341, 0, none⟩ = some (.int .i64 (wrap64 (1 + t332))) ∧ w'.cell? ⟨gb341, 1, none⟩ = some (u342001) ∧ w'.cell? ⟨gb341, 2, none⟩ = some (u342002) ∧ w'.cell? ⟨gb341, 3, none⟩ = some (.int .i64 t382) ∧ w'.cell? ⟨gb341, 4, none⟩ = some (.int .i64 t385) ∧ w'.cell? ⟨gb341, 5, none⟩ = some (.int .i64 t388) ∧ w'.cell? ⟨gb341, 6, none⟩ = some (.int .i64 0)) (ds := [6]) #[false, false, false, false, false, false, false] (by kernel_rfl) rfl rfl ⟨(blk_cell BK341.out 0).trans rfl, (blk_cell BK341.out 1).trans rfl, (blk_cell BK341.out 2).trans rfl, (blk_cell BK341.out 3).trans rfl, (blk_cell BK341.out 4).trans rfl, (blk_cell BK341.out 5).trans rfl, (blk_cell BK341.out 6).trans rfl⟩ (fun hHeld => ?_)
         generalize w116.drew = w117 at HO_342001 HO_342002 BK331 BK341 HI0 HK HB hHeld ⊢
         refine pure_ (i := 0) (N := some 97) (v := ?_) (a' := ?_) #[true, false, false, false, false, false, false] rfl rfl (by kernel_rfl) (fun _ _ _ h => h) (Or.inl ⟨by rfl, ?_⟩) ?_ ?_
         rotate_left
         ·intro w'
          go_simp
          with_reducible rfl
         rotate_left
         ·simp only [Act.put, List.setIfInBounds_toArray, List.set_cons_zero, List.set_cons_succ, i64_w, i32_w]
          rfl
         refine pure_ (i := 2) (N := some 99) (v := ?_) (a' := ?_) #[true, false, true, false, false, false, false] rfl rfl (by kernel_rfl) (fun _ _ _ h => h) (Or.inl ⟨by rfl, ?_⟩) ?_ ?_
         rotate_left
         ·intro w'
          go_simp
          with_reducible rfl
         rotate_left
         ·simp only [Act.put, List.setIfInBounds_toArray, List.set_cons_zero, List.set_cons_succ, i64_w, i32_w]
          rfl
         refine take_ (i := 1) (N := some 98) (v := ?_) (a' := ?_) #[true, true, true, false, false, false, false] rfl rfl (by kernel_rfl) (fun _ _ _ h => h) (Or.inl ⟨by rfl, ?_⟩) hHeld ?_ ?_
         rotate_left
         ·rintro w' ⟨s0, s1, s2, s3, s4, s5, s6⟩
          go_simp
          with_reducible rfl
         rotate_left
         ·simp only [Act.put, List.setIfInBounds_toArray, List.set_cons_zero, List.set_cons_succ, i64_w, i32_w]
          rfl
         refine one_ (i := 3) (N := some 100) #[true, true, true, true, false, false, false] rfl rfl (by kernel_rfl) (by decide) (fun K hK => ?_)
         refine goes_ Try.func35 (by kernel_rfl) rfl #[.pointer (some ⟨g, 0, none⟩), .int .i64 4] (by rfl) rfl rfl (by (try simp only [List.map_toArray, List.map_cons, List.map_nil]); first | done | rfl | (simp only [List.length_drop, List.length_take]; rfl)) ?_
         with_reducible refine (spec_l00Src_pick.calls g s0_0 t389 t390 4 t391 t392 t393 w0 _ ?side1 ?side2 A106.out).mono ?_
         (case side1 => repeat (first | (with_reducible first | exact HI0.out | apply IsS94.alloc | apply IsS94.drewN | apply IsS94.drew | apply IsS94.set_1 | apply IsS94.set_2 | refine IsS94.far ?_ NB0_331.out _ | refine IsS94.far ?_ NB0_341.out _) | exact HI0.out))
         (case side2 => repeat (first | (with_reducible first | exact HB.out | apply below_alloc | apply pw_below_drewN | apply below_drew1 | refine below_set ?_ (IsS94.ge HI0.out) | refine below_set ?_ GE331.out | refine below_set ?_ GE341.out) | exact HB.out))
         rintro e w118 ⟨rfl, hi, hb, hk⟩
         refine ⟨_, rfl, ?_⟩
         have n0_ := Aside0.mk (Kd.S_mono (Kd.S_keep (IsS94.apartS (show IsS94 w0 _ g s0_0 t389 t390 from by with_reducible repeat (first | exact HI0.out | apply IsS94.alloc | apply IsS94.drewN | apply IsS94.drew | apply IsS94.set_1 | apply IsS94.set_2 | refine IsS94.far ?_ NB0_331.out _ | refine IsS94.far ?_ NB0_341.out _)) (by (with_reducible repeat (first | apply Kd.S_alloc | apply Kd.S_drewN | apply Kd.S_drew)); exact HO_342001.out) (by decide)) hk (fun _ h => h.2)) (fun _ h => h.1))
         have n1_ := Aside0.mk (Kd.R_mono (Kd.R_keep (IsS94.apart (show IsS94 w0 _ g s0_0 t389 t390 from by with_reducible repeat (first | exact HI0.out | apply IsS94.alloc | apply IsS94.drewN | apply IsS94.drew | apply IsS94.set_1 | apply IsS94.set_2 | refine IsS94.far ?_ NB0_331.out _ | refine IsS94.far ?_ NB0_341.out _)) (by (with_reducible repeat (first | apply Kd.R_alloc | apply Kd.R_drewN | apply Kd.R_drew)); exact HO_342002.out) (by decide)) hk (fun _ h => h.2)) (fun _ h => h.1))
         have n2_ := Aside0.mk (KeepBut.blk hk (g' := gb331) (o := .cells #[.int .i64 0, .slice none 0 0, .slice none 0 0, .int .i64 0, .int .i64 0, .int .i64 0, .int .i64 0] 45 (0, 0)) (by (with_reducible repeat (first | refine blk_drewN ?_ _ | refine blk_drew ?_ | refine blk_alloc ?_ _)); exact BK331.out) NB331_0.out (by simp))
         have n3_ := Aside0.mk (KeepBut.blk hk (g' := gb341) (o := .cells #[.int .i64 (wrap64 (1 + t332)), u342001, u342002, .int .i64 t382, .int .i64 t385, .int .i64 t388, .int .i64 0] 45 (0, 0)) (by (with_reducible repeat (first | refine blk_drewN ?_ _ | refine blk_drew ?_ | refine blk_alloc ?_ _)); exact BK341.out) NB341_0.out (by simp))
         have n4_ := Aside0.mk (KeepBut.trans (by with_reducible repeat (first | exact HK.out | apply KeepBut.set_ | apply keep_drewN | apply keep_drew | apply keep_alloc | refine keep_far ?_ GW331.out _ | refine keep_far ?_ GW341.out _)) hk (.inl rfl))
         have n5_ := Aside0.mk (hb)
         have n6_ := Aside0.mk (hi)
         clear HO_342001
         clear HO_342002
         clear BK331
         clear BK341
         clear HK
         clear HB
         clear HI0
         have HO_342001 := n0_
         have HO_342002 := n1_
         have BK331 := n2_
         have BK341 := n3_
         have HK := n4_
         have HB := n5_
         have HI0 := n6_
         clear n0_ n1_ n2_ n3_ n4_ n5_ n6_
         (try clear hb)
         (try clear hb2)
         (try clear hk)
         (try clear hi)
         refine hK.out _ _ ⟨(blk_cell BK341.out 0).trans rfl, (blk_cell BK341.out 1).trans rfl, (blk_cell BK341.out 2).trans rfl, (blk_cell BK341.out 3).trans rfl, (blk_cell BK341.out 4).trans rfl, (blk_cell BK341.out 5).trans rfl, (blk_cell BK341.out 6).trans rfl⟩ (fun hHeld => ?_)
         clear hK K
         refine norm_ (a' := ?_) ?_ ?_
         rotate_left
         ·show Act.put _ (some 100) _ = _
          simp only [Act.put, List.setIfInBounds_toArray, List.set_cons_zero, List.set_cons_succ, i64_w, i32_w]
          rfl
         refine pure_ (i := 4) (N := some 101) (v := ?_) (a' := ?_) #[true, true, true, true, true, false, false] rfl rfl (by kernel_rfl) (fun _ _ _ h => h) (Or.inl ⟨by rfl, ?_⟩) ?_ ?_
         rotate_left
         ·intro w'
          go_simp
          with_reducible rfl
         rotate_left
         ·simp only [Act.put, List.setIfInBounds_toArray, List.set_cons_zero, List.set_cons_succ, i64_w, i32_w]
          rfl
         refine pure_ (i := 5) (N := some 102) (v := ?_) (a' := ?_) #[true, true, true, true, true, true, false] rfl rfl (by kernel_rfl) (fun _ _ _ h => h) (Or.inl ⟨by rfl, ?_⟩) ?_ ?_
         rotate_left
         ·intro w'
          go_simp
          with_reducible rfl
         rotate_left
         ·simp only [Act.put, List.setIfInBounds_toArray, List.set_cons_zero, List.set_cons_succ, i64_w, i32_w]
          rfl
         refine last_ (i := 6) (N := none) #[true, true, true, true, true, true, true] rfl rfl (by kernel_rfl) (by decide) (fun K hK => ?_)
         have hs119 : w118.cell? ⟨gb341, 6, none⟩ = some (.int .i64 0) := (blk_cell BK341.out 6).trans rfl
         have hfs119 := blk_frozen BK341.out 6
         have hns119_0 := NB331_341.out
         have hms119_0 := NB341_331.out
         refine skip_ (w1 := ?_) (by rfl) rfl ?_ ?_
         rotate_left
         ·go_simp
          rfl
         refine hK.out _ _ ?_
         clear hK K
         refine done_ (by kernel_rfl) ?_
         have hcz120_0 : w118.cell? ⟨gb341, 0, none⟩ = some (.int .i64 (wrap64 (1 + t332))) := (blk_cell BK341.out 0).trans rfl
         have hcz120_1 : w118.cell? ⟨gb341, 1, none⟩ = some (u342001) := (blk_cell BK341.out 1).trans rfl
         have hcz120_2 : w118.cell? ⟨gb341, 2, none⟩ = some (u342002) := (blk_cell BK341.out 2).trans rfl
         have hcz120_3 : w118.cell? ⟨gb341, 3, none⟩ = some (.int .i64 t382) := (blk_cell BK341.out 3).trans rfl
         have hcz120_4 : w118.cell? ⟨gb341, 4, none⟩ = some (.int .i64 t385) := (blk_cell BK341.out 4).trans rfl
         have hcz120_5 : w118.cell? ⟨gb341, 5, none⟩ = some (.int .i64 t388) := (blk_cell BK341.out 5).trans rfl
         have hcz120_6 : w118.cell? ⟨gb341, 6, none⟩ = some (.int .i64 0) := (blk_cell BK341.out 6).trans rfl
         have hfz120_0 := blk_frozen BK341.out 0
         have hfz120_1 := blk_frozen BK341.out 1
         have hfz120_2 := blk_frozen BK341.out 2
         have hfz120_3 := blk_frozen BK341.out 3
         have hfz120_4 := blk_frozen BK341.out 4
         have hfz120_5 := blk_frozen BK341.out 5
         have hfz120_6 := blk_frozen BK341.out 6
         have hnb121 := NB331_0.out
         have hnc121 := NB0_331.out
         have hcz122_0 : w118.cell? ⟨gb331, 0, none⟩ = some (.int .i64 0) := (blk_cell BK331.out 0).trans rfl
         have hcz122_1 : w118.cell? ⟨gb331, 1, none⟩ = some (.slice none 0 0) := (blk_cell BK331.out 1).trans rfl
         have hcz122_2 : w118.cell? ⟨gb331, 2, none⟩ = some (.slice none 0 0) := (blk_cell BK331.out 2).trans rfl
         have hcz122_3 : w118.cell? ⟨gb331, 3, none⟩ = some (.int .i64 0) := (blk_cell BK331.out 3).trans rfl
         have hcz122_4 : w118.cell? ⟨gb331, 4, none⟩ = some (.int .i64 0) := (blk_cell BK331.out 4).trans rfl
         have hcz122_5 : w118.cell? ⟨gb331, 5, none⟩ = some (.int .i64 0) := (blk_cell BK331.out 5).trans rfl
         have hcz122_6 : w118.cell? ⟨gb331, 6, none⟩ = some (.int .i64 0) := (blk_cell BK331.out 6).trans rfl
         have hfz122_0 := blk_frozen BK331.out 0
         have hfz122_1 := blk_frozen BK331.out 1
         have hfz122_2 := blk_frozen BK331.out 2
         have hfz122_3 := blk_frozen BK331.out 3
         have hfz122_4 := blk_frozen BK331.out 4
         have hfz122_5 := blk_frozen BK331.out 5
         have hfz122_6 := blk_frozen BK331.out 6
         obtain ⟨Ao123, co123, eo123⟩ := Kd.S_slice HO_342001.out
         subst eo123
         obtain ⟨Ao124, co124, eo124⟩ := Kd.R_slice HO_342002.out
         subst eo124
         try go_wp2
         refine bodyPost_ret (results_cell_row rfl _ _ gb331 45 #[.int .i64 (wrap64 (1 + t332)), .slice Ao123 x342001_2.length co123, .slice Ao124 x342002_3.length co124, .int .i64 t382, .int .i64 t385, .int .i64 t388, .int .i64 (wrap64 (t388 + t391))] (0, 0) _ rfl (by (with_reducible repeat (first | refine blk_drewN ?_ _ | refine blk_drew ?_ | refine blk_alloc ?_ _)); refine blk_put (cs := #[.int .i64 (wrap64 (1 + t332)), .slice Ao123 x342001_2.length co123, .slice Ao124 x342002_3.length co124, .int .i64 t382, .int .i64 t385, .int .i64 t388, .int .i64 0]) ?_ 6 _ rfl; (with_reducible repeat (first | refine blk_drewN ?_ _ | refine blk_drew ?_ | refine blk_alloc ?_ _)); refine blk_put (cs := #[.int .i64 (wrap64 (1 + t332)), .slice Ao123 x342001_2.length co123, .slice Ao124 x342002_3.length co124, .int .i64 t382, .int .i64 t385, .int .i64 0, .int .i64 0]) ?_ 5 _ rfl; (with_reducible repeat (first | refine blk_drewN ?_ _ | refine blk_drew ?_ | refine blk_alloc ?_ _)); refine blk_put (cs := #[.int .i64 (wrap64 (1 + t332)), .slice Ao123 x342001_2.length co123, .slice Ao124 x342002_3.length co124, .int .i64 t382, .int .i64 0, .int .i64 0, .int .i64 0]) ?_ 4 _ rfl; (with_reducible repeat (first | refine blk_drewN ?_ _ | refine blk_drew ?_ | refine blk_alloc ?_ _)); refine blk_put (cs := #[.int .i64 (wrap64 (1 + t332)), .slice Ao123 x342001_2.length co123, .slice Ao124 x342002_3.length co124, .int .i64 0, .int .i64 0, .int .i64 0, .int .i64 0]) ?_ 3 _ rfl; (with_reducible repeat (first | refine blk_drewN ?_ _ | refine blk_drew ?_ | refine blk_alloc ?_ _)); refine blk_put (cs := #[.int .i64 (wrap64 (1 + t332)), .slice Ao123 x342001_2.length co123, .slice none 0 0, .int .i64 0, .int .i64 0, .int .i64 0, .int .i64 0]) ?_ 2 _ rfl; (with_reducible repeat (first | refine blk_drewN ?_ _ | refine blk_drew ?_ | refine blk_alloc ?_ _)); refine blk_put (cs := #[.int .i64 (wrap64 (1 + t332)), .slice none 0 0, .slice none 0 0, .int .i64 0, .int .i64 0, .int .i64 0, .int .i64 0]) ?_ 1 _ rfl; (with_reducible repeat (first | refine blk_drewN ?_ _ | refine blk_drew ?_ | refine blk_alloc ?_ _)); refine blk_put (cs := #[.int .i64 0, .slice none 0 0, .slice none 0 0, .int .i64 0, .int .i64 0, .int .i64 0, .int .i64 0]) ?_ 0 _ rfl; (with_reducible repeat (first | refine blk_drewN ?_ _ | refine blk_drew ?_ | refine blk_alloc ?_ _)); refine blk_far ?_ NB331_341.out _; (with_reducible repeat (first | refine blk_drewN ?_ _ | refine blk_drew ?_ | refine blk_alloc ?_ _)); exact BK331.out) Try.underlying45 rfl (by kernel_rfl)) rfl ?_
         exact ⟨_, _, by first | rfl | (simp [errW_none, errW_some] <;> rfl) | (simp [*, errW_none, errW_some] <;> rfl), by (with_reducible repeat (first | apply Kd.S_alloc | apply Kd.S_drewN | apply Kd.S_drew)); exact Kd.S_mono (Kd.S_far (p := ⟨gb331, 6, none⟩) (Kd.S_far (p := ⟨gb331, 5, none⟩) (Kd.S_far (p := ⟨gb331, 4, none⟩) (Kd.S_far (p := ⟨gb331, 3, none⟩) (Kd.S_far (p := ⟨gb331, 2, none⟩) (Kd.S_far (p := ⟨gb331, 1, none⟩) (Kd.S_far (p := ⟨gb331, 0, none⟩) (Kd.S_far (p := ⟨gb341, 6, none⟩) (Kd.S_types (Kd.S_types HO_342001.out BK341.out (by decide)) BK331.out (by decide)) (fun _ hk => hk.1.2) (.int .i64 (wrap64 (t388 + t391)))) (fun _ hk => hk.2) (.int .i64 (wrap64 (1 + t332)))) (fun _ hk => hk.2) (.slice Ao123 x342001_2.length co123)) (fun _ hk => hk.2) (.slice Ao124 x342002_3.length co124)) (fun _ hk => hk.2) (.int .i64 t382)) (fun _ hk => hk.2) (.int .i64 t385)) (fun _ hk => hk.2) (.int .i64 t388)) (fun _ hk => hk.2) (.int .i64 (wrap64 (t388 + t391)))) (fun _ hk => hk.1.1), by (with_reducible repeat (first | apply Kd.R_alloc | apply Kd.R_drewN | apply Kd.R_drew)); exact Kd.R_mono (Kd.R_far (p := ⟨gb331, 6, none⟩) (Kd.R_far (p := ⟨gb331, 5, none⟩) (Kd.R_far (p := ⟨gb331, 4, none⟩) (Kd.R_far (p := ⟨gb331, 3, none⟩) (Kd.R_far (p := ⟨gb331, 2, none⟩) (Kd.R_far (p := ⟨gb331, 1, none⟩) (Kd.R_far (p := ⟨gb331, 0, none⟩) (Kd.R_far (p := ⟨gb341, 6, none⟩) (Kd.R_types (Kd.R_types HO_342002.out BK341.out (by decide)) BK331.out (by decide)) (fun _ hk => hk.1.2) (.int .i64 (wrap64 (t388 + t391)))) (fun _ hk => hk.2) (.int .i64 (wrap64 (1 + t332)))) (fun _ hk => hk.2) (.slice Ao123 x342001_2.length co123)) (fun _ hk => hk.2) (.slice Ao124 x342002_3.length co124)) (fun _ hk => hk.2) (.int .i64 t382)) (fun _ hk => hk.2) (.int .i64 t385)) (fun _ hk => hk.2) (.int .i64 t388)) (fun _ hk => hk.2) (.int .i64 (wrap64 (t388 + t391)))) (fun _ hk => trivial), by with_reducible repeat (first | exact HI0.out | apply IsS94.alloc | apply IsS94.drewN | apply IsS94.drew | apply IsS94.set_1 | apply IsS94.set_2 | refine IsS94.far ?_ NB0_331.out _ | refine IsS94.far ?_ NB0_341.out _), by with_reducible repeat (first | exact HB.out | apply below_alloc | apply pw_below_drewN | apply below_drew1 | refine below_set ?_ (IsS94.ge HI0.out) | refine below_set ?_ GE331.out | refine below_set ?_ GE341.out), by with_reducible repeat (first | exact HK.out | apply KeepBut.set_ | apply keep_drewN | apply keep_drew | apply keep_alloc | refine keep_far ?_ GW331.out _ | refine keep_far ?_ GW341.out _)⟩

end Go.Proofs.Ytahjcmmgdcedpaa.Pa

