-- printed by this session's own driver over the kit's printer: Lean checks it
import Derived.Test.YtdcgilnmncanfaaCVecOrder0
import Derived.Test.YtdcgilnmncanfaaCVecOrder1
import Derived.Test.YtdcgilnmncanfaaCVecOrder2
import Derived.Test.YtdcgilnmncanfaaCVecOrder8
namespace Go.Proofs.Ytdcgilnmncanfaa.PVecOrder
open Go.RowKit Go.Proofs.YtdcgilnmncanfaaW.PrintWords Go.Proofs.YtdcgilnmncanfaaW.PrintLast Go.Proofs.YtdcgilnmncanfaaW.PrintMore
attribute [local go_sem] max2_int min2_int max_two min_two max_three min_three max_four min_four   -- for this text's walks alone
set_option linter.unusedVariables false
set_option linter.unusedSimpArgs false

attribute [local go_sem high] eqA23
/-! ### liverylaw01_VecOrder: function 5 -/
mutual
def liverylaw01_VecOrder.j0 : Nat → Bool → Int → Int → Int → Int → Int → Int → Int → Int → Int → Int → Option (Bool)
 | 0, _, _, _, _, _, _, _, _, _, _, _ => none
 | k + 1, x49, x300000, x300001, x301000, x301001, x302000, x302001, x307000, x307001, x308000, x308001 => if x49 = true then (none) else ((vec_LE.f x307000 x307001 x300000 x300001).bind fun t320 => (if t320 = true then ((vec_LE.f x307000 x307001 x301000 x301001).bind fun t321 => (if t321 = true then ((vec_LE.f x300000 x300001 x308000 x308001).bind fun t322 => (if t322 = true then ((vec_LE.f x301000 x301001 x308000 x308001).bind fun t323 => (if t323 = true then ((vec_Min.f x301000 x301001 x300000 x300001).bind fun bt324 => (if (!(x307000 == bt324.1) || (!(x307001 == bt324.2))) = true then (none) else ((vec_Max.f x301000 x301001 x300000 x300001).bind fun bt326 => (liverylaw01_VecOrder.j1 k (!(x308000 == bt326.1) || (!(x308001 == bt326.2))) x300000 x300001 x301000 x301001 x302000 x302001 x307000 x307001 x308000 x308001)))) else (none))) else (none))) else (none))) else (none)))
def liverylaw01_VecOrder.j1 : Nat → Bool → Int → Int → Int → Int → Int → Int → Int → Int → Int → Int → Option (Bool)
 | 0, _, _, _, _, _, _, _, _, _, _, _ => none
 | k + 1, x85, x300000, x300001, x301000, x301001, x302000, x302001, x307000, x307001, x308000, x308001 => if x85 = true then (none) else ((vec_LE.f x302000 x302001 x300000 x300001).bind fun t328 => (if t328 = true then ((vec_LE.f x302000 x302001 x301000 x301001).bind fun t329 => ((vec_LE.f x302000 x302001 x307000 x307001).bind fun t330 => (if (t329 == t330) = true then ((vec_LE.f x300000 x300001 x302000 x302001).bind fun t331 => (if t331 = true then ((vec_LE.f x301000 x301001 x302000 x302001).bind fun t332 => ((vec_LE.f x308000 x308001 x302000 x302001).bind fun t333 => (if (t332 == t333) = true then ((liverylaw01_head.f k).bind fun t334 => (some t334)) else (none)))) else ((vec_LE.f x308000 x308001 x302000 x302001).bind fun t335 => (if (false == t335) = true then ((liverylaw01_head.f k).bind fun t336 => (some t336)) else (none))))) else (none)))) else ((vec_LE.f x302000 x302001 x307000 x307001).bind fun t337 => (if (false == t337) = true then ((vec_LE.f x300000 x300001 x302000 x302001).bind fun t338 => (if t338 = true then ((vec_LE.f x301000 x301001 x302000 x302001).bind fun t339 => ((vec_LE.f x308000 x308001 x302000 x302001).bind fun t340 => (if (t339 == t340) = true then ((liverylaw01_head.f k).bind fun t341 => (some t341)) else (none)))) else ((vec_LE.f x308000 x308001 x302000 x302001).bind fun t342 => (if (false == t342) = true then ((liverylaw01_head.f k).bind fun t343 => (some t343)) else (none))))) else (none)))))
end
def liverylaw01_VecOrder.f (k : Nat) (a0_0 : Int) (a0_1 : Int) (a1_0 : Int) (a1_1 : Int) (a2_0 : Int) (a2_1 : Int) : Option (Bool) := (vec_Min.f a0_0 a0_1 a1_0 a1_1).bind fun bt302 => ((vec_Max.f a0_0 a0_1 a1_0 a1_1).bind fun bt304 => ((vec_LE.f a0_0 a0_1 a0_0 a0_1).bind fun t308 => (if t308 = true then ((vec_LE.f a0_0 a0_1 a1_0 a1_1).bind fun t309 => (if t309 = true then ((vec_LE.f a1_0 a1_1 a0_0 a0_1).bind fun t310 => (if t310 = true then (if (!(a0_0 == a1_0) || (!(a0_1 == a1_1))) = true then (none) else ((vec_LE.f a0_0 a0_1 a1_0 a1_1).bind fun t311 => (if t311 = true then ((vec_LE.f a1_0 a1_1 a2_0 a2_1).bind fun t312 => (if t312 = true then ((vec_LE.f a0_0 a0_1 a2_0 a2_1).bind fun t313 => (liverylaw01_VecOrder.j0 k (!t313) a0_0 a0_1 a1_0 a1_1 a2_0 a2_1 bt302.1 bt302.2 bt304.1 bt304.2)) else (liverylaw01_VecOrder.j0 k false a0_0 a0_1 a1_0 a1_1 a2_0 a2_1 bt302.1 bt302.2 bt304.1 bt304.2))) else (liverylaw01_VecOrder.j0 k false a0_0 a0_1 a1_0 a1_1 a2_0 a2_1 bt302.1 bt302.2 bt304.1 bt304.2)))) else ((vec_LE.f a0_0 a0_1 a1_0 a1_1).bind fun t314 => (if t314 = true then ((vec_LE.f a1_0 a1_1 a2_0 a2_1).bind fun t315 => (if t315 = true then ((vec_LE.f a0_0 a0_1 a2_0 a2_1).bind fun t316 => (liverylaw01_VecOrder.j0 k (!t316) a0_0 a0_1 a1_0 a1_1 a2_0 a2_1 bt302.1 bt302.2 bt304.1 bt304.2)) else (liverylaw01_VecOrder.j0 k false a0_0 a0_1 a1_0 a1_1 a2_0 a2_1 bt302.1 bt302.2 bt304.1 bt304.2))) else (liverylaw01_VecOrder.j0 k false a0_0 a0_1 a1_0 a1_1 a2_0 a2_1 bt302.1 bt302.2 bt304.1 bt304.2))))) else ((vec_LE.f a0_0 a0_1 a1_0 a1_1).bind fun t317 => (if t317 = true then ((vec_LE.f a1_0 a1_1 a2_0 a2_1).bind fun t318 => (if t318 = true then ((vec_LE.f a0_0 a0_1 a2_0 a2_1).bind fun t319 => (liverylaw01_VecOrder.j0 k (!t319) a0_0 a0_1 a1_0 a1_1 a2_0 a2_1 bt302.1 bt302.2 bt304.1 bt304.2)) else (liverylaw01_VecOrder.j0 k false a0_0 a0_1 a1_0 a1_1 a2_0 a2_1 bt302.1 bt302.2 bt304.1 bt304.2))) else (liverylaw01_VecOrder.j0 k false a0_0 a0_1 a1_0 a1_1 a2_0 a2_1 bt302.1 bt302.2 bt304.1 bt304.2))))) else (none))))
theorem liverylaw01_VecOrder.mono_l : ∀ k, (∀ y0 y1 y2 y3 y4 y5 y6 y7 y8 y9 y10, LeO (liverylaw01_VecOrder.j0 k y0 y1 y2 y3 y4 y5 y6 y7 y8 y9 y10) (liverylaw01_VecOrder.j0 (k + 1) y0 y1 y2 y3 y4 y5 y6 y7 y8 y9 y10)) ∧ (∀ y0 y1 y2 y3 y4 y5 y6 y7 y8 y9 y10, LeO (liverylaw01_VecOrder.j1 k y0 y1 y2 y3 y4 y5 y6 y7 y8 y9 y10) (liverylaw01_VecOrder.j1 (k + 1) y0 y1 y2 y3 y4 y5 y6 y7 y8 y9 y10))
 | 0 => ⟨fun _ _ _ _ _ _ _ _ _ _ _ r h => by simp [liverylaw01_VecOrder.j0] at h, fun _ _ _ _ _ _ _ _ _ _ _ r h => by simp [liverylaw01_VecOrder.j1] at h⟩
 | k + 1 => by
  obtain ⟨ih0, ih1⟩ := liverylaw01_VecOrder.mono_l k
  refine ⟨?_, ?_⟩
  ·intro y0 y1 y2 y3 y4 y5 y6 y7 y8 y9 y10
   unfold liverylaw01_VecOrder.j0
   repeat' first
   | (with_reducible exact ih0 _ _ _ _ _ _ _ _ _ _ _)
   | (with_reducible exact ih1 _ _ _ _ _ _ _ _ _ _ _)
   | (with_reducible exact liverylaw01_head.mono _)
   | (with_reducible exact LeO.refl _)
   | (with_reducible exact LeO.none _)
   | (with_reducible refine LeO.ite ?_ ?_)
   | (with_reducible refine LeO.bind ?_ (fun _ => ?_))
   | exact ih0 _ _ _ _ _ _ _ _ _ _ _
   | exact ih1 _ _ _ _ _ _ _ _ _ _ _
   | exact liverylaw01_head.mono _
   | exact LeO.none _
   | refine LeO.ite ?_ ?_
   | refine LeO.bind ?_ (fun _ => ?_)
  ·intro y0 y1 y2 y3 y4 y5 y6 y7 y8 y9 y10
   unfold liverylaw01_VecOrder.j1
   repeat' first
   | (with_reducible exact ih0 _ _ _ _ _ _ _ _ _ _ _)
   | (with_reducible exact ih1 _ _ _ _ _ _ _ _ _ _ _)
   | (with_reducible exact liverylaw01_head.mono _)
   | (with_reducible exact LeO.refl _)
   | (with_reducible exact LeO.none _)
   | (with_reducible refine LeO.ite ?_ ?_)
   | (with_reducible refine LeO.bind ?_ (fun _ => ?_))
   | exact ih0 _ _ _ _ _ _ _ _ _ _ _
   | exact ih1 _ _ _ _ _ _ _ _ _ _ _
   | exact liverylaw01_head.mono _
   | exact LeO.none _
   | refine LeO.ite ?_ ?_
   | refine LeO.bind ?_ (fun _ => ?_)
theorem liverylaw01_VecOrder.mono : ∀ a0 a1 a2 a3 a4 a5 k, LeO (liverylaw01_VecOrder.f k a0 a1 a2 a3 a4 a5) (liverylaw01_VecOrder.f (k + 1) a0 a1 a2 a3 a4 a5) := by
 intro a0 a1 a2 a3 a4 a5 k
 obtain ⟨ih0, ih1⟩ := liverylaw01_VecOrder.mono_l k
 unfold liverylaw01_VecOrder.f
 repeat' first
   | (with_reducible exact ih0 _ _ _ _ _ _ _ _ _ _ _)
   | (with_reducible exact ih1 _ _ _ _ _ _ _ _ _ _ _)
   | (with_reducible exact liverylaw01_head.mono _)
   | (with_reducible exact LeO.refl _)
   | (with_reducible exact LeO.none _)
   | (with_reducible refine LeO.ite ?_ ?_)
   | (with_reducible refine LeO.bind ?_ (fun _ => ?_))
   | exact ih0 _ _ _ _ _ _ _ _ _ _ _
   | exact ih1 _ _ _ _ _ _ _ _ _ _ _
   | exact liverylaw01_head.mono _
   | exact LeO.none _
   | refine LeO.ite ?_ ?_
   | refine LeO.bind ?_ (fun _ => ?_)
def liverylaw01_VecOrder.T1 : Bool × List (List Nat × List Nat) := (true, [([], []), ([], []), ([0, 1], [0, 1]), ([], []), ([], []), ([3, 4, 2], [3, 4]), ([], []), ([], []), ([6, 2, 5, 0, 1, 2, 6, 7], [2, 6]), ([7, 5, 8, 0, 1, 2, 3, 4, 5, 6, 7, 8], [5, 7])])
def liverylaw01_VecOrder.B1 : List Nat := [0, 0, 3, 0, 0, 31, 0, 0, 255, 511]
theorem liverylaw01_VecOrder.tab1 : rtab .any (opsOf Try.f5 1) = liverylaw01_VecOrder.T1 := by kernel_rfl
theorem liverylaw01_VecOrder.bits1 : waitsOk liverylaw01_VecOrder.T1.2 liverylaw01_VecOrder.B1 = true := by kernel_rfl
def liverylaw01_VecOrder.T4 : Bool × List (List Nat × List Nat) := (true, [([], []), ([], []), ([0, 1], [0, 1]), ([2], [2]), ([3, 2], [3]), ([4], [4]), ([4], [4]), ([5, 6, 4, 4], [4, 5, 6]), ([7, 4], [4, 7]), ([4, 8], [4, 8]), ([9, 7], [9]), ([10], [10]), ([10], [10]), ([11, 12, 10, 10], [10, 11, 12]), ([13, 10], [10, 13]), ([10, 14], [10, 14]), ([15, 13], [15]), ([16], [16]), ([16], [16]), ([17, 18, 16, 16], [16, 17, 18]), ([19, 16], [16, 19]), ([16, 20], [16, 20]), ([21, 19], [21]), ([22], [22]), ([22], [22]), ([22], [22]), ([24, 25, 22, 22], [22, 24, 25]), ([23, 26, 22], [22, 23, 26]), ([22, 27], [22, 27]), ([28, 26], [28]), ([29], [29]), ([29], [29]), ([29], [29]), ([31, 32, 29, 29], [29, 31, 32]), ([30, 33, 29], [29, 30, 33]), ([29, 34], [29, 34])])
def liverylaw01_VecOrder.B4 : List Nat := [0, 0, 3, 7, 15, 31, 31, 127, 255, 511, 1023, 2047, 2047, 8191, 16383, 32767, 65535, 131071, 131071, 524287, 1048575, 2097151, 4194303, 8388607, 8388607, 8388607, 58720255, 134217727, 268435455, 536870911, 1073741823, 1073741823, 1073741823, 7516192767, 17179869183, 34359738367]
theorem liverylaw01_VecOrder.tab4 : rtab .any (opsOf Try.f5 4) = liverylaw01_VecOrder.T4 := by kernel_rfl
theorem liverylaw01_VecOrder.bits4 : waitsOk liverylaw01_VecOrder.T4.2 liverylaw01_VecOrder.B4 = true := by kernel_rfl
def liverylaw01_VecOrder.T6 : Bool × List (List Nat × List Nat) := (true, [([], []), ([], []), ([0, 1], [0, 1]), ([2, 2], [2]), ([3], [3]), ([3], [3]), ([4, 5, 3, 3], [3, 4, 5]), ([3, 6], [3, 6]), ([], []), ([], []), ([8, 9, 6], [8, 9]), ([7, 10], [7, 10]), ([11, 10], [11]), ([12], [12]), ([12], [12]), ([13, 14, 12, 12], [12, 13, 14]), ([15, 15, 12], [12, 15]), ([16], [16]), ([16], [16]), ([17, 18, 16, 16], [16, 17, 18]), ([16, 19, 12], [12, 16, 19]), ([12], [12]), ([12], [12]), ([21, 22, 19, 12], [12, 21, 22]), ([20, 23, 12], [12, 20, 23]), ([12, 24], [12, 24]), ([25, 23], [25]), ([26, 26], [26]), ([26, 27], [26, 27]), ([28, 27, 0, 1, 2, 3, 4, 5, 6, 7, 8, 9, 10, 11, 12, 13, 14, 15, 16, 17, 18, 19, 20, 21, 22, 23, 24, 25, 26, 27, 28], [28])])
def liverylaw01_VecOrder.B6 : List Nat := [0, 0, 3, 7, 15, 15, 63, 127, 0, 0, 895, 2047, 4095, 8191, 8191, 32767, 65535, 131071, 131071, 524287, 1048575, 8191, 8191, 7340031, 16777215, 33554431, 67108863, 134217727, 268435455, 536870911]
theorem liverylaw01_VecOrder.tab6 : rtab .any (opsOf Try.f5 6) = liverylaw01_VecOrder.T6 := by kernel_rfl
theorem liverylaw01_VecOrder.bits6 : waitsOk liverylaw01_VecOrder.T6.2 liverylaw01_VecOrder.B6 = true := by kernel_rfl
set_option maxHeartbeats 8000000 in
set_option maxRecDepth 100000 in
theorem liverylaw01_VecOrder.calls (k : Nat) (a0_0 : Int) (a0_1 : Int) (a1_0 : Int) (a1_1 : Int) (a2_0 : Int) (a2_1 : Int) (r : Bool) (w : World) (h : liverylaw01_VecOrder.f k a0_0 a0_1 a1_0 a1_1 a2_0 a2_1 = some r) :
  Calls Try.prog 5 #[.agg #[.int .i64 a0_0, .int .i64 a0_1], .agg #[.int .i64 a1_0, .int .i64 a1_1], .agg #[.int .i64 a2_0, .int .i64 a2_1]] w fun e w' => e = .returned (.bool r) ∧ Below w.heap.size w w' := by
 have hu23 := Try.underlying23
 have HB := XPrint.A0 (Below.refl w.heap.size w)
 have H : ((vec_Min.f a0_0 a0_1 a1_0 a1_1).bind fun bt302 => ((vec_Max.f a0_0 a0_1 a1_0 a1_1).bind fun bt304 => ((vec_LE.f a0_0 a0_1 a0_0 a0_1).bind fun t308 => (if t308 = true then ((vec_LE.f a0_0 a0_1 a1_0 a1_1).bind fun t309 => (if t309 = true then ((vec_LE.f a1_0 a1_1 a0_0 a0_1).bind fun t310 => (if t310 = true then (if (!(a0_0 == a1_0) || (!(a0_1 == a1_1))) = true then (none) else ((vec_LE.f a0_0 a0_1 a1_0 a1_1).bind fun t311 => (if t311 = true then ((vec_LE.f a1_0 a1_1 a2_0 a2_1).bind fun t312 => (if t312 = true then ((vec_LE.f a0_0 a0_1 a2_0 a2_1).bind fun t313 => (liverylaw01_VecOrder.j0 k (!t313) a0_0 a0_1 a1_0 a1_1 a2_0 a2_1 bt302.1 bt302.2 bt304.1 bt304.2)) else (liverylaw01_VecOrder.j0 k false a0_0 a0_1 a1_0 a1_1 a2_0 a2_1 bt302.1 bt302.2 bt304.1 bt304.2))) else (liverylaw01_VecOrder.j0 k false a0_0 a0_1 a1_0 a1_1 a2_0 a2_1 bt302.1 bt302.2 bt304.1 bt304.2)))) else ((vec_LE.f a0_0 a0_1 a1_0 a1_1).bind fun t314 => (if t314 = true then ((vec_LE.f a1_0 a1_1 a2_0 a2_1).bind fun t315 => (if t315 = true then ((vec_LE.f a0_0 a0_1 a2_0 a2_1).bind fun t316 => (liverylaw01_VecOrder.j0 k (!t316) a0_0 a0_1 a1_0 a1_1 a2_0 a2_1 bt302.1 bt302.2 bt304.1 bt304.2)) else (liverylaw01_VecOrder.j0 k false a0_0 a0_1 a1_0 a1_1 a2_0 a2_1 bt302.1 bt302.2 bt304.1 bt304.2))) else (liverylaw01_VecOrder.j0 k false a0_0 a0_1 a1_0 a1_1 a2_0 a2_1 bt302.1 bt302.2 bt304.1 bt304.2))))) else ((vec_LE.f a0_0 a0_1 a1_0 a1_1).bind fun t317 => (if t317 = true then ((vec_LE.f a1_0 a1_1 a2_0 a2_1).bind fun t318 => (if t318 = true then ((vec_LE.f a0_0 a0_1 a2_0 a2_1).bind fun t319 => (liverylaw01_VecOrder.j0 k (!t319) a0_0 a0_1 a1_0 a1_1 a2_0 a2_1 bt302.1 bt302.2 bt304.1 bt304.2)) else (liverylaw01_VecOrder.j0 k false a0_0 a0_1 a1_0 a1_1 a2_0 a2_1 bt302.1 bt302.2 bt304.1 bt304.2))) else (liverylaw01_VecOrder.j0 k false a0_0 a0_1 a1_0 a1_1 a2_0 a2_1 bt302.1 bt302.2 bt304.1 bt304.2))))) else (none))))) = some r := h
 clear h
 replace H := Option.bind_eq_some_iff.mp H
 obtain ⟨⟨t302, t303⟩, A40, H⟩ := H
 replace H : ((vec_Max.f a0_0 a0_1 a1_0 a1_1).bind fun bt304 => ((vec_LE.f a0_0 a0_1 a0_0 a0_1).bind fun t308 => (if t308 = true then ((vec_LE.f a0_0 a0_1 a1_0 a1_1).bind fun t309 => (if t309 = true then ((vec_LE.f a1_0 a1_1 a0_0 a0_1).bind fun t310 => (if t310 = true then (if (!(a0_0 == a1_0) || (!(a0_1 == a1_1))) = true then (none) else ((vec_LE.f a0_0 a0_1 a1_0 a1_1).bind fun t311 => (if t311 = true then ((vec_LE.f a1_0 a1_1 a2_0 a2_1).bind fun t312 => (if t312 = true then ((vec_LE.f a0_0 a0_1 a2_0 a2_1).bind fun t313 => (liverylaw01_VecOrder.j0 k (!t313) a0_0 a0_1 a1_0 a1_1 a2_0 a2_1 t302 t303 bt304.1 bt304.2)) else (liverylaw01_VecOrder.j0 k false a0_0 a0_1 a1_0 a1_1 a2_0 a2_1 t302 t303 bt304.1 bt304.2))) else (liverylaw01_VecOrder.j0 k false a0_0 a0_1 a1_0 a1_1 a2_0 a2_1 t302 t303 bt304.1 bt304.2)))) else ((vec_LE.f a0_0 a0_1 a1_0 a1_1).bind fun t314 => (if t314 = true then ((vec_LE.f a1_0 a1_1 a2_0 a2_1).bind fun t315 => (if t315 = true then ((vec_LE.f a0_0 a0_1 a2_0 a2_1).bind fun t316 => (liverylaw01_VecOrder.j0 k (!t316) a0_0 a0_1 a1_0 a1_1 a2_0 a2_1 t302 t303 bt304.1 bt304.2)) else (liverylaw01_VecOrder.j0 k false a0_0 a0_1 a1_0 a1_1 a2_0 a2_1 t302 t303 bt304.1 bt304.2))) else (liverylaw01_VecOrder.j0 k false a0_0 a0_1 a1_0 a1_1 a2_0 a2_1 t302 t303 bt304.1 bt304.2))))) else ((vec_LE.f a0_0 a0_1 a1_0 a1_1).bind fun t317 => (if t317 = true then ((vec_LE.f a1_0 a1_1 a2_0 a2_1).bind fun t318 => (if t318 = true then ((vec_LE.f a0_0 a0_1 a2_0 a2_1).bind fun t319 => (liverylaw01_VecOrder.j0 k (!t319) a0_0 a0_1 a1_0 a1_1 a2_0 a2_1 t302 t303 bt304.1 bt304.2)) else (liverylaw01_VecOrder.j0 k false a0_0 a0_1 a1_0 a1_1 a2_0 a2_1 t302 t303 bt304.1 bt304.2))) else (liverylaw01_VecOrder.j0 k false a0_0 a0_1 a1_0 a1_1 a2_0 a2_1 t302 t303 bt304.1 bt304.2))))) else (none)))) = some r := H
 have A4 := XPrint.A0 A40
 clear A40
 replace H := Option.bind_eq_some_iff.mp H
 obtain ⟨⟨t304, t305⟩, A50, H⟩ := H
 replace H : ((vec_LE.f a0_0 a0_1 a0_0 a0_1).bind fun t308 => (if t308 = true then ((vec_LE.f a0_0 a0_1 a1_0 a1_1).bind fun t309 => (if t309 = true then ((vec_LE.f a1_0 a1_1 a0_0 a0_1).bind fun t310 => (if t310 = true then (if (!(a0_0 == a1_0) || (!(a0_1 == a1_1))) = true then (none) else ((vec_LE.f a0_0 a0_1 a1_0 a1_1).bind fun t311 => (if t311 = true then ((vec_LE.f a1_0 a1_1 a2_0 a2_1).bind fun t312 => (if t312 = true then ((vec_LE.f a0_0 a0_1 a2_0 a2_1).bind fun t313 => (liverylaw01_VecOrder.j0 k (!t313) a0_0 a0_1 a1_0 a1_1 a2_0 a2_1 t302 t303 t304 t305)) else (liverylaw01_VecOrder.j0 k false a0_0 a0_1 a1_0 a1_1 a2_0 a2_1 t302 t303 t304 t305))) else (liverylaw01_VecOrder.j0 k false a0_0 a0_1 a1_0 a1_1 a2_0 a2_1 t302 t303 t304 t305)))) else ((vec_LE.f a0_0 a0_1 a1_0 a1_1).bind fun t314 => (if t314 = true then ((vec_LE.f a1_0 a1_1 a2_0 a2_1).bind fun t315 => (if t315 = true then ((vec_LE.f a0_0 a0_1 a2_0 a2_1).bind fun t316 => (liverylaw01_VecOrder.j0 k (!t316) a0_0 a0_1 a1_0 a1_1 a2_0 a2_1 t302 t303 t304 t305)) else (liverylaw01_VecOrder.j0 k false a0_0 a0_1 a1_0 a1_1 a2_0 a2_1 t302 t303 t304 t305))) else (liverylaw01_VecOrder.j0 k false a0_0 a0_1 a1_0 a1_1 a2_0 a2_1 t302 t303 t304 t305))))) else ((vec_LE.f a0_0 a0_1 a1_0 a1_1).bind fun t317 => (if t317 = true then ((vec_LE.f a1_0 a1_1 a2_0 a2_1).bind fun t318 => (if t318 = true then ((vec_LE.f a0_0 a0_1 a2_0 a2_1).bind fun t319 => (liverylaw01_VecOrder.j0 k (!t319) a0_0 a0_1 a1_0 a1_1 a2_0 a2_1 t302 t303 t304 t305)) else (liverylaw01_VecOrder.j0 k false a0_0 a0_1 a1_0 a1_1 a2_0 a2_1 t302 t303 t304 t305))) else (liverylaw01_VecOrder.j0 k false a0_0 a0_1 a1_0 a1_1 a2_0 a2_1 t302 t303 t304 t305))))) else (none))) = some r := H
 have A5 := XPrint.A0 A50
 clear A50
 have HC6 := XPrint.A0 H
 clear H
 go_enter Try.func5, Try.ntmps5
 try go_wp2_with (first | ((with_reducible refine gate_dst (N := 3) rfl ?_); refine box_event ?hg (N := 3) ?hd (cs := #[.int .i64 a0_0, .int .i64 a0_1]) (t := 23) ?hr ?_; (case hd => rfl); (case hg => rfl); (case hr => first | (go_simp; done) | (go_simp; rfl)); intro gb299 hg w7 hbox hb; have BK299 := XPrint.A0 (hbox); have GW299 := XPrint.A0 (XPrint.gz HB.out hg); have GE299 := XPrint.A0 (XPrint.gz HB.out hg); replace HB := XPrint.A0 (below_step (by exact XPrint.bz HB.out) hb); clear hb hbox hg) | ((with_reducible refine gate_dst (N := 4) rfl ?_); refine box_event ?hg (N := 4) ?hd (cs := #[.int .i64 a1_0, .int .i64 a1_1]) (t := 23) ?hr ?_; (case hd => rfl); (case hg => rfl); (case hr => first | (go_simp; done) | (go_simp; rfl)); intro gb300 hg w8 hbox hb; have BK300 := XPrint.A0 (hbox); have GW300 := XPrint.A0 (XPrint.gz HB.out hg); have GE300 := XPrint.A0 (XPrint.gz HB.out hg); have NB299_300 := XPrint.A1 (by rw [hg]; exact Nat.ne_of_lt (XPrint.al BK299.out) : gb299 ≠ gb300); have NB300_299 := XPrint.A1 (by rw [hg]; exact Nat.ne_of_gt (XPrint.al BK299.out) : gb300 ≠ gb299); replace BK299 := XPrint.A0 (XPrint.ab BK299.out hb); replace HB := XPrint.A0 (below_step (by exact XPrint.bz HB.out) hb); clear hb hbox hg) | ((with_reducible refine gate_dst (N := 5) rfl ?_); refine box_event ?hg (N := 5) ?hd (cs := #[.int .i64 a2_0, .int .i64 a2_1]) (t := 23) ?hr ?_; (case hd => rfl); (case hg => rfl); (case hr => first | (go_simp; done) | (go_simp; rfl)); intro gb301 hg w9 hbox hb; have BK301 := XPrint.A0 (hbox); have GW301 := XPrint.A0 (XPrint.gz HB.out hg); have GE301 := XPrint.A0 (XPrint.gz HB.out hg); have NB299_301 := XPrint.A1 (by rw [hg]; exact Nat.ne_of_lt (XPrint.al BK299.out) : gb299 ≠ gb301); have NB301_299 := XPrint.A1 (by rw [hg]; exact Nat.ne_of_gt (XPrint.al BK299.out) : gb301 ≠ gb299); have NB300_301 := XPrint.A1 (by rw [hg]; exact Nat.ne_of_lt (XPrint.al BK300.out) : gb300 ≠ gb301); have NB301_300 := XPrint.A1 (by rw [hg]; exact Nat.ne_of_gt (XPrint.al BK300.out) : gb301 ≠ gb300); replace BK299 := XPrint.A0 (XPrint.ab BK299.out hb); replace BK300 := XPrint.A0 (XPrint.ab BK300.out hb); replace HB := XPrint.A0 (below_step (by exact XPrint.bz HB.out) hb); clear hb hbox hg))
 replace BK299 := XPrint.A0 (blk_drew BK299.out)
 replace BK300 := XPrint.A0 (blk_drew BK300.out)
 replace BK301 := XPrint.A0 (blk_drew BK301.out)
 replace HB := XPrint.A0 (below_drew1 HB.out)
 refine start_ (n := 10) (S := fun w' => w'.cell? ⟨gb299, 0, none⟩ = some (.int .i64 a0_0) ∧ w'.cell? ⟨gb299, 1, none⟩ = some (.int .i64 a0_1) ∧ w'.cell? ⟨gb300, 0, none⟩ = some (.int .i64 a1_0) ∧ w'.cell? ⟨gb300, 1, none⟩ = some (.int .i64 a1_1)) (ds := []) #[false, false, false, false, false, false, false, false, false, false] (by kernel_rfl) rfl rfl ⟨(blk_cell BK299.out 0).trans rfl, (blk_cell BK299.out 1).trans rfl, (blk_cell BK300.out 0).trans rfl, (blk_cell BK300.out 1).trans rfl⟩ (fun hHeld => ?_); refine with_tabW liverylaw01_VecOrder.tab1 liverylaw01_VecOrder.bits1 (fun HT_ HW_ => ?_)
 generalize w9.drew = w10 at BK299 BK300 BK301 HB hHeld ⊢
 refine XPrint.ta 0 9 (XPrint.L 10 1) HT_.out HW_.out (v := ?_) (a' := ?_) ?_ hHeld ?_ ?_
 rotate_left
 ·rintro w' ⟨s0, s1, s2, s3⟩
  go_simp
  with_reducible rfl
 rotate_left
 ·simp only [XPrint.pw, i64_w, i32_w]
  rfl
 refine XPrint.ta 1 10 (XPrint.L 10 3) HT_.out HW_.out (v := ?_) (a' := ?_) ?_ hHeld ?_ ?_
 rotate_left
 ·rintro w' ⟨s0, s1, s2, s3⟩
  go_simp
  with_reducible rfl
 rotate_left
 ·simp only [XPrint.pw, i64_w, i32_w]
  rfl
 refine XPrint.ta 3 12 (XPrint.L 10 11) HT_.out HW_.out (v := ?_) (a' := ?_) ?_ hHeld ?_ ?_
 rotate_left
 ·rintro w' ⟨s0, s1, s2, s3⟩
  go_simp
  with_reducible rfl
 rotate_left
 ·simp only [XPrint.pw, i64_w, i32_w]
  rfl
 refine XPrint.ta 4 13 (XPrint.L 10 27) HT_.out HW_.out (v := ?_) (a' := ?_) ?_ hHeld ?_ ?_
 rotate_left
 ·rintro w' ⟨s0, s1, s2, s3⟩
  go_simp
  with_reducible rfl
 rotate_left
 ·simp only [XPrint.pw, i64_w, i32_w]
  rfl
 refine join_ (σ := Nat × Nat) 2 (XPrint.L 10 255) (fun s_ => [(11, .agg #[.int .i64 t302, .int .i64 t303]), (14, .agg #[.int .i64 t304, .int .i64 t305]), (7, .pointer (some ⟨s_.1, 0, none⟩)), (8, .pointer (some ⟨s_.2, 0, none⟩))]) (fun s_ w' => (w'.cell? ⟨gb299, 0, none⟩ = some (.int .i64 a0_0) ∧ w'.cell? ⟨gb299, 1, none⟩ = some (.int .i64 a0_1) ∧ w'.cell? ⟨gb300, 0, none⟩ = some (.int .i64 a1_0) ∧ w'.cell? ⟨gb300, 1, none⟩ = some (.int .i64 a1_1)) ∧ (w'.heap[gb299]? = some (.cells #[.int .i64 a0_0, .int .i64 a0_1] 23 (0, 0))) ∧ (w'.heap[gb300]? = some (.cells #[.int .i64 a1_0, .int .i64 a1_1] 23 (0, 0))) ∧ (w'.heap[gb301]? = some (.cells #[.int .i64 a2_0, .int .i64 a2_1] 23 (0, 0))) ∧ (w'.heap[s_.1]? = some (.cells #[.int .i64 0, .int .i64 0] 23 (0, 0))) ∧ (w'.heap[s_.2]? = some (.cells #[.int .i64 0, .int .i64 0] 23 (0, 0))) ∧ (w.heap.size ≤ s_.1) ∧ (w.heap.size ≤ s_.1) ∧ (gb299 ≠ s_.1) ∧ (s_.1 ≠ gb299) ∧ (gb300 ≠ s_.1) ∧ (s_.1 ≠ gb300) ∧ (gb301 ≠ s_.1) ∧ (s_.1 ≠ gb301) ∧ (s_.2 ≠ s_.1) ∧ (s_.1 ≠ s_.2) ∧ (w.heap.size ≤ s_.2) ∧ (w.heap.size ≤ s_.2) ∧ (gb299 ≠ s_.2) ∧ (s_.2 ≠ gb299) ∧ (gb300 ≠ s_.2) ∧ (s_.2 ≠ gb300) ∧ (gb301 ≠ s_.2) ∧ (s_.2 ≠ gb301) ∧ (Below w.heap.size w w')) ?_ ?_
 rotate_left
 ·intro hJ2_5_6_7
  refine join_ (σ := Nat) 3 (XPrint.L 10 127) (fun s_ => [(11, .agg #[.int .i64 t302, .int .i64 t303]), (14, .agg #[.int .i64 t304, .int .i64 t305]), (7, .pointer (some ⟨s_, 0, none⟩))]) (fun s_ w' => (w'.cell? ⟨gb299, 0, none⟩ = some (.int .i64 a0_0) ∧ w'.cell? ⟨gb299, 1, none⟩ = some (.int .i64 a0_1) ∧ w'.cell? ⟨gb300, 0, none⟩ = some (.int .i64 a1_0) ∧ w'.cell? ⟨gb300, 1, none⟩ = some (.int .i64 a1_1)) ∧ (w'.heap[gb299]? = some (.cells #[.int .i64 a0_0, .int .i64 a0_1] 23 (0, 0))) ∧ (w'.heap[gb300]? = some (.cells #[.int .i64 a1_0, .int .i64 a1_1] 23 (0, 0))) ∧ (w'.heap[gb301]? = some (.cells #[.int .i64 a2_0, .int .i64 a2_1] 23 (0, 0))) ∧ (w'.heap[s_]? = some (.cells #[.int .i64 0, .int .i64 0] 23 (0, 0))) ∧ (w.heap.size ≤ s_) ∧ (w.heap.size ≤ s_) ∧ (gb299 ≠ s_) ∧ (s_ ≠ gb299) ∧ (gb300 ≠ s_) ∧ (s_ ≠ gb300) ∧ (gb301 ≠ s_) ∧ (s_ ≠ gb301) ∧ (Below w.heap.size w w')) ?_ ?_
  rotate_left
  ·intro hJ2_5_6
   refine join_ (σ := Nat) 3 (XPrint.L 10 191) (fun s_ => [(11, .agg #[.int .i64 t302, .int .i64 t303]), (14, .agg #[.int .i64 t304, .int .i64 t305]), (8, .pointer (some ⟨s_, 0, none⟩))]) (fun s_ w' => (w'.cell? ⟨gb299, 0, none⟩ = some (.int .i64 a0_0) ∧ w'.cell? ⟨gb299, 1, none⟩ = some (.int .i64 a0_1) ∧ w'.cell? ⟨gb300, 0, none⟩ = some (.int .i64 a1_0) ∧ w'.cell? ⟨gb300, 1, none⟩ = some (.int .i64 a1_1)) ∧ (w'.heap[gb299]? = some (.cells #[.int .i64 a0_0, .int .i64 a0_1] 23 (0, 0))) ∧ (w'.heap[gb300]? = some (.cells #[.int .i64 a1_0, .int .i64 a1_1] 23 (0, 0))) ∧ (w'.heap[gb301]? = some (.cells #[.int .i64 a2_0, .int .i64 a2_1] 23 (0, 0))) ∧ (w'.heap[s_]? = some (.cells #[.int .i64 0, .int .i64 0] 23 (0, 0))) ∧ (w.heap.size ≤ s_) ∧ (w.heap.size ≤ s_) ∧ (gb299 ≠ s_) ∧ (s_ ≠ gb299) ∧ (gb300 ≠ s_) ∧ (s_ ≠ gb300) ∧ (gb301 ≠ s_) ∧ (s_ ≠ gb301) ∧ (Below w.heap.size w w')) ?_ ?_
   rotate_left
   ·intro hJ2_5_7
    refine join_ (σ := Nat × Nat) 3 (XPrint.L 10 223) (fun s_ => [(11, .agg #[.int .i64 t302, .int .i64 t303]), (7, .pointer (some ⟨s_.1, 0, none⟩)), (8, .pointer (some ⟨s_.2, 0, none⟩))]) (fun s_ w' => (w'.cell? ⟨gb299, 0, none⟩ = some (.int .i64 a0_0) ∧ w'.cell? ⟨gb299, 1, none⟩ = some (.int .i64 a0_1) ∧ w'.cell? ⟨gb300, 0, none⟩ = some (.int .i64 a1_0) ∧ w'.cell? ⟨gb300, 1, none⟩ = some (.int .i64 a1_1)) ∧ (w'.heap[gb299]? = some (.cells #[.int .i64 a0_0, .int .i64 a0_1] 23 (0, 0))) ∧ (w'.heap[gb300]? = some (.cells #[.int .i64 a1_0, .int .i64 a1_1] 23 (0, 0))) ∧ (w'.heap[gb301]? = some (.cells #[.int .i64 a2_0, .int .i64 a2_1] 23 (0, 0))) ∧ (w'.heap[s_.1]? = some (.cells #[.int .i64 0, .int .i64 0] 23 (0, 0))) ∧ (w'.heap[s_.2]? = some (.cells #[.int .i64 0, .int .i64 0] 23 (0, 0))) ∧ (w.heap.size ≤ s_.1) ∧ (w.heap.size ≤ s_.1) ∧ (gb299 ≠ s_.1) ∧ (s_.1 ≠ gb299) ∧ (gb300 ≠ s_.1) ∧ (s_.1 ≠ gb300) ∧ (gb301 ≠ s_.1) ∧ (s_.1 ≠ gb301) ∧ (s_.2 ≠ s_.1) ∧ (s_.1 ≠ s_.2) ∧ (w.heap.size ≤ s_.2) ∧ (w.heap.size ≤ s_.2) ∧ (gb299 ≠ s_.2) ∧ (s_.2 ≠ gb299) ∧ (gb300 ≠ s_.2) ∧ (s_.2 ≠ gb300) ∧ (gb301 ≠ s_.2) ∧ (s_.2 ≠ gb301) ∧ (Below w.heap.size w w')) ?_ ?_
    rotate_left
    ·intro hJ2_6_7
     refine join_ (σ := Unit) 4 (XPrint.L 10 63) (fun s_ => [(11, .agg #[.int .i64 t302, .int .i64 t303]), (14, .agg #[.int .i64 t304, .int .i64 t305])]) (fun s_ w' => (w'.cell? ⟨gb299, 0, none⟩ = some (.int .i64 a0_0) ∧ w'.cell? ⟨gb299, 1, none⟩ = some (.int .i64 a0_1) ∧ w'.cell? ⟨gb300, 0, none⟩ = some (.int .i64 a1_0) ∧ w'.cell? ⟨gb300, 1, none⟩ = some (.int .i64 a1_1)) ∧ (w'.heap[gb299]? = some (.cells #[.int .i64 a0_0, .int .i64 a0_1] 23 (0, 0))) ∧ (w'.heap[gb300]? = some (.cells #[.int .i64 a1_0, .int .i64 a1_1] 23 (0, 0))) ∧ (w'.heap[gb301]? = some (.cells #[.int .i64 a2_0, .int .i64 a2_1] 23 (0, 0))) ∧ (Below w.heap.size w w')) ?_ ?_
     rotate_left
     ·intro hJ2_5
      refine join_ (σ := Nat) 4 (XPrint.L 10 95) (fun s_ => [(11, .agg #[.int .i64 t302, .int .i64 t303]), (7, .pointer (some ⟨s_, 0, none⟩))]) (fun s_ w' => (w'.cell? ⟨gb299, 0, none⟩ = some (.int .i64 a0_0) ∧ w'.cell? ⟨gb299, 1, none⟩ = some (.int .i64 a0_1) ∧ w'.cell? ⟨gb300, 0, none⟩ = some (.int .i64 a1_0) ∧ w'.cell? ⟨gb300, 1, none⟩ = some (.int .i64 a1_1)) ∧ (w'.heap[gb299]? = some (.cells #[.int .i64 a0_0, .int .i64 a0_1] 23 (0, 0))) ∧ (w'.heap[gb300]? = some (.cells #[.int .i64 a1_0, .int .i64 a1_1] 23 (0, 0))) ∧ (w'.heap[gb301]? = some (.cells #[.int .i64 a2_0, .int .i64 a2_1] 23 (0, 0))) ∧ (w'.heap[s_]? = some (.cells #[.int .i64 0, .int .i64 0] 23 (0, 0))) ∧ (w.heap.size ≤ s_) ∧ (w.heap.size ≤ s_) ∧ (gb299 ≠ s_) ∧ (s_ ≠ gb299) ∧ (gb300 ≠ s_) ∧ (s_ ≠ gb300) ∧ (gb301 ≠ s_) ∧ (s_ ≠ gb301) ∧ (Below w.heap.size w w')) ?_ ?_
      rotate_left
      ·intro hJ2_6
       refine join_ (σ := Nat) 4 (XPrint.L 10 159) (fun s_ => [(11, .agg #[.int .i64 t302, .int .i64 t303]), (8, .pointer (some ⟨s_, 0, none⟩))]) (fun s_ w' => (w'.cell? ⟨gb299, 0, none⟩ = some (.int .i64 a0_0) ∧ w'.cell? ⟨gb299, 1, none⟩ = some (.int .i64 a0_1) ∧ w'.cell? ⟨gb300, 0, none⟩ = some (.int .i64 a1_0) ∧ w'.cell? ⟨gb300, 1, none⟩ = some (.int .i64 a1_1)) ∧ (w'.heap[gb299]? = some (.cells #[.int .i64 a0_0, .int .i64 a0_1] 23 (0, 0))) ∧ (w'.heap[gb300]? = some (.cells #[.int .i64 a1_0, .int .i64 a1_1] 23 (0, 0))) ∧ (w'.heap[gb301]? = some (.cells #[.int .i64 a2_0, .int .i64 a2_1] 23 (0, 0))) ∧ (w'.heap[s_]? = some (.cells #[.int .i64 0, .int .i64 0] 23 (0, 0))) ∧ (w.heap.size ≤ s_) ∧ (w.heap.size ≤ s_) ∧ (gb299 ≠ s_) ∧ (s_ ≠ gb299) ∧ (gb300 ≠ s_) ∧ (s_ ≠ gb300) ∧ (gb301 ≠ s_) ∧ (s_ ≠ gb301) ∧ (Below w.heap.size w w')) ?_ ?_
       rotate_left
       ·intro hJ2_7
        refine join_ (σ := Nat × Nat) 4 (XPrint.L 10 219) (fun s_ => [(7, .pointer (some ⟨s_.1, 0, none⟩)), (8, .pointer (some ⟨s_.2, 0, none⟩))]) (fun s_ w' => (w'.cell? ⟨gb299, 0, none⟩ = some (.int .i64 a0_0) ∧ w'.cell? ⟨gb299, 1, none⟩ = some (.int .i64 a0_1) ∧ w'.cell? ⟨gb300, 0, none⟩ = some (.int .i64 a1_0) ∧ w'.cell? ⟨gb300, 1, none⟩ = some (.int .i64 a1_1)) ∧ (w'.heap[gb299]? = some (.cells #[.int .i64 a0_0, .int .i64 a0_1] 23 (0, 0))) ∧ (w'.heap[gb300]? = some (.cells #[.int .i64 a1_0, .int .i64 a1_1] 23 (0, 0))) ∧ (w'.heap[gb301]? = some (.cells #[.int .i64 a2_0, .int .i64 a2_1] 23 (0, 0))) ∧ (w'.heap[s_.1]? = some (.cells #[.int .i64 0, .int .i64 0] 23 (0, 0))) ∧ (w'.heap[s_.2]? = some (.cells #[.int .i64 0, .int .i64 0] 23 (0, 0))) ∧ (w.heap.size ≤ s_.1) ∧ (w.heap.size ≤ s_.1) ∧ (gb299 ≠ s_.1) ∧ (s_.1 ≠ gb299) ∧ (gb300 ≠ s_.1) ∧ (s_.1 ≠ gb300) ∧ (gb301 ≠ s_.1) ∧ (s_.1 ≠ gb301) ∧ (s_.2 ≠ s_.1) ∧ (s_.1 ≠ s_.2) ∧ (w.heap.size ≤ s_.2) ∧ (w.heap.size ≤ s_.2) ∧ (gb299 ≠ s_.2) ∧ (s_.2 ≠ gb299) ∧ (gb300 ≠ s_.2) ∧ (s_.2 ≠ gb300) ∧ (gb301 ≠ s_.2) ∧ (s_.2 ≠ gb301) ∧ (Below w.heap.size w w')) ?_ ?_
        rotate_left
        ·intro hJ6_7
         refine join_ (σ := Unit) 5 (XPrint.L 10 31) (fun s_ => [(11, .agg #[.int .i64 t302, .int .i64 t303])]) (fun s_ w' => (w'.cell? ⟨gb299, 0, none⟩ = some (.int .i64 a0_0) ∧ w'.cell? ⟨gb299, 1, none⟩ = some (.int .i64 a0_1) ∧ w'.cell? ⟨gb300, 0, none⟩ = some (.int .i64 a1_0) ∧ w'.cell? ⟨gb300, 1, none⟩ = some (.int .i64 a1_1)) ∧ (w'.heap[gb299]? = some (.cells #[.int .i64 a0_0, .int .i64 a0_1] 23 (0, 0))) ∧ (w'.heap[gb300]? = some (.cells #[.int .i64 a1_0, .int .i64 a1_1] 23 (0, 0))) ∧ (w'.heap[gb301]? = some (.cells #[.int .i64 a2_0, .int .i64 a2_1] 23 (0, 0))) ∧ (Below w.heap.size w w')) ?_ ?_
         rotate_left
         ·intro hJ2
          refine join_ (σ := Nat) 5 (XPrint.L 10 91) (fun s_ => [(7, .pointer (some ⟨s_, 0, none⟩))]) (fun s_ w' => (w'.cell? ⟨gb299, 0, none⟩ = some (.int .i64 a0_0) ∧ w'.cell? ⟨gb299, 1, none⟩ = some (.int .i64 a0_1) ∧ w'.cell? ⟨gb300, 0, none⟩ = some (.int .i64 a1_0) ∧ w'.cell? ⟨gb300, 1, none⟩ = some (.int .i64 a1_1)) ∧ (w'.heap[gb299]? = some (.cells #[.int .i64 a0_0, .int .i64 a0_1] 23 (0, 0))) ∧ (w'.heap[gb300]? = some (.cells #[.int .i64 a1_0, .int .i64 a1_1] 23 (0, 0))) ∧ (w'.heap[gb301]? = some (.cells #[.int .i64 a2_0, .int .i64 a2_1] 23 (0, 0))) ∧ (w'.heap[s_]? = some (.cells #[.int .i64 0, .int .i64 0] 23 (0, 0))) ∧ (w.heap.size ≤ s_) ∧ (w.heap.size ≤ s_) ∧ (gb299 ≠ s_) ∧ (s_ ≠ gb299) ∧ (gb300 ≠ s_) ∧ (s_ ≠ gb300) ∧ (gb301 ≠ s_) ∧ (s_ ≠ gb301) ∧ (Below w.heap.size w w')) ?_ ?_
          rotate_left
          ·intro hJ6
           refine join_ (σ := Nat) 5 (XPrint.L 10 155) (fun s_ => [(8, .pointer (some ⟨s_, 0, none⟩))]) (fun s_ w' => (w'.cell? ⟨gb299, 0, none⟩ = some (.int .i64 a0_0) ∧ w'.cell? ⟨gb299, 1, none⟩ = some (.int .i64 a0_1) ∧ w'.cell? ⟨gb300, 0, none⟩ = some (.int .i64 a1_0) ∧ w'.cell? ⟨gb300, 1, none⟩ = some (.int .i64 a1_1)) ∧ (w'.heap[gb299]? = some (.cells #[.int .i64 a0_0, .int .i64 a0_1] 23 (0, 0))) ∧ (w'.heap[gb300]? = some (.cells #[.int .i64 a1_0, .int .i64 a1_1] 23 (0, 0))) ∧ (w'.heap[gb301]? = some (.cells #[.int .i64 a2_0, .int .i64 a2_1] 23 (0, 0))) ∧ (w'.heap[s_]? = some (.cells #[.int .i64 0, .int .i64 0] 23 (0, 0))) ∧ (w.heap.size ≤ s_) ∧ (w.heap.size ≤ s_) ∧ (gb299 ≠ s_) ∧ (s_ ≠ gb299) ∧ (gb300 ≠ s_) ∧ (s_ ≠ gb300) ∧ (gb301 ≠ s_) ∧ (s_ ≠ gb301) ∧ (Below w.heap.size w w')) ?_ ?_
           rotate_left
           ·intro hJ7
            refine three_ (i := 2) (j := 6) (k := 7) (Ni := some 11) (Nj := some 7) (Nk := some 8) (XPrint.L 10 31) (XPrint.L 10 91) (XPrint.L 10 155) rfl rfl rfl rfl rfl rfl (three_of HT_.out (by kernel_rfl)) (by decide) (by decide) (by decide) (fun K hK => ?_) (fun K hK => ?_) (fun K hK => ?_)
            ·skip
             refine XPrint.gs Try.func22 #[.agg #[.int .i64 a0_0, .int .i64 a0_1], .agg #[.int .i64 a1_0, .int .i64 a1_1]] ?_
             with_reducible refine (vec_Min.calls a0_0 a0_1 a1_0 a1_1 t302 t303 _ A4.out).mono ?_
             rintro e w11 ⟨rfl, hb⟩
             refine ⟨_, rfl, ?_⟩
             replace BK299 := XPrint.A0 (XPrint.ab BK299.out hb)
             replace BK300 := XPrint.A0 (XPrint.ab BK300.out hb)
             replace BK301 := XPrint.A0 (XPrint.ab BK301.out hb)
             replace HB := XPrint.A0 (below_step (by exact XPrint.bz HB.out) hb)
             (try clear hb)
             (try clear hb2)
             (try clear hk)
             (try clear hi)
             refine hK.out _ _ ⟨(blk_cell BK299.out 0).trans rfl, (blk_cell BK299.out 1).trans rfl, (blk_cell BK300.out 0).trans rfl, (blk_cell BK300.out 1).trans rfl⟩ (fun hHeld => ?_)
             clear hK K
             refine norm_ (a' := ?_) ?_ ?_
             rotate_left
             ·show Act.put _ (some 11) _ = _
              simp only [XPrint.pw, i64_w, i32_w]
              rfl
             exact norm_ (by first | (simp only [putAll, XPrint.pw]; done) | (simp only [putAll, XPrint.pw]; rfl)) (hJ2 () _ ⟨hHeld, (XPrint.ak BK299.out), (XPrint.ak BK300.out), (XPrint.ak BK301.out), (by exact XPrint.bz HB.out)⟩)
            ·skip
             refine box_step ?hg (N := 7) ?hd (cs := #[.int .i64 0, .int .i64 0]) (t := 23) ?hr ?_; (case hd => rfl); (case hg => rfl); (case hr => first | (go_simp; done) | (go_simp; rfl))
             intro gb306 hg w11 hbox hb
             have BK306 := XPrint.A0 (hbox)
             have GW306 := XPrint.A0 (XPrint.gz HB.out hg)
             have GE306 := XPrint.A0 (XPrint.gz HB.out hg)
             have NB299_306 := XPrint.A1 (by rw [hg]; exact Nat.ne_of_lt (XPrint.al BK299.out) : gb299 ≠ gb306)
             have NB306_299 := XPrint.A1 (by rw [hg]; exact Nat.ne_of_gt (XPrint.al BK299.out) : gb306 ≠ gb299)
             have NB300_306 := XPrint.A1 (by rw [hg]; exact Nat.ne_of_lt (XPrint.al BK300.out) : gb300 ≠ gb306)
             have NB306_300 := XPrint.A1 (by rw [hg]; exact Nat.ne_of_gt (XPrint.al BK300.out) : gb306 ≠ gb300)
             have NB301_306 := XPrint.A1 (by rw [hg]; exact Nat.ne_of_lt (XPrint.al BK301.out) : gb301 ≠ gb306)
             have NB306_301 := XPrint.A1 (by rw [hg]; exact Nat.ne_of_gt (XPrint.al BK301.out) : gb306 ≠ gb301)
             replace BK299 := XPrint.A0 (XPrint.ab BK299.out hb)
             replace BK300 := XPrint.A0 (XPrint.ab BK300.out hb)
             replace BK301 := XPrint.A0 (XPrint.ab BK301.out hb)
             replace HB := XPrint.A0 (below_step (by exact XPrint.bz HB.out) hb)
             clear hb hbox hg
             refine hK.out _ _ ⟨(blk_cell BK299.out 0).trans rfl, (blk_cell BK299.out 1).trans rfl, (blk_cell BK300.out 0).trans rfl, (blk_cell BK300.out 1).trans rfl⟩ (fun hHeld => ?_)
             clear hK K
             refine norm_ (a' := ?_) ?_ ?_
             rotate_left
             ·show Act.put _ (some 7) _ = _
              simp only [XPrint.pw, i64_w, i32_w]
              rfl
             exact norm_ (by first | (simp only [putAll, XPrint.pw]; done) | (simp only [putAll, XPrint.pw]; rfl)) (hJ6 (gb306) _ ⟨hHeld, (XPrint.ak BK299.out), (XPrint.ak BK300.out), (XPrint.ak BK301.out), (XPrint.ak BK306.out), GW306.out, GE306.out, NB299_306.out, NB306_299.out, NB300_306.out, NB306_300.out, NB301_306.out, NB306_301.out, (by exact XPrint.bz HB.out)⟩)
            ·skip
             refine box_step ?hg (N := 8) ?hd (cs := #[.int .i64 0, .int .i64 0]) (t := 23) ?hr ?_; (case hd => rfl); (case hg => rfl); (case hr => first | (go_simp; done) | (go_simp; rfl))
             intro gb307 hg w11 hbox hb
             have BK307 := XPrint.A0 (hbox)
             have GW307 := XPrint.A0 (XPrint.gz HB.out hg)
             have GE307 := XPrint.A0 (XPrint.gz HB.out hg)
             have NB299_307 := XPrint.A1 (by rw [hg]; exact Nat.ne_of_lt (XPrint.al BK299.out) : gb299 ≠ gb307)
             have NB307_299 := XPrint.A1 (by rw [hg]; exact Nat.ne_of_gt (XPrint.al BK299.out) : gb307 ≠ gb299)
             have NB300_307 := XPrint.A1 (by rw [hg]; exact Nat.ne_of_lt (XPrint.al BK300.out) : gb300 ≠ gb307)
             have NB307_300 := XPrint.A1 (by rw [hg]; exact Nat.ne_of_gt (XPrint.al BK300.out) : gb307 ≠ gb300)
             have NB301_307 := XPrint.A1 (by rw [hg]; exact Nat.ne_of_lt (XPrint.al BK301.out) : gb301 ≠ gb307)
             have NB307_301 := XPrint.A1 (by rw [hg]; exact Nat.ne_of_gt (XPrint.al BK301.out) : gb307 ≠ gb301)
             replace BK299 := XPrint.A0 (XPrint.ab BK299.out hb)
             replace BK300 := XPrint.A0 (XPrint.ab BK300.out hb)
             replace BK301 := XPrint.A0 (XPrint.ab BK301.out hb)
             replace HB := XPrint.A0 (below_step (by exact XPrint.bz HB.out) hb)
             clear hb hbox hg
             refine hK.out _ _ ⟨(blk_cell BK299.out 0).trans rfl, (blk_cell BK299.out 1).trans rfl, (blk_cell BK300.out 0).trans rfl, (blk_cell BK300.out 1).trans rfl⟩ (fun hHeld => ?_)
             clear hK K
             refine norm_ (a' := ?_) ?_ ?_
             rotate_left
             ·show Act.put _ (some 8) _ = _
              simp only [XPrint.pw, i64_w, i32_w]
              rfl
             exact norm_ (by first | (simp only [putAll, XPrint.pw]; done) | (simp only [putAll, XPrint.pw]; rfl)) (hJ7 (gb307) _ ⟨hHeld, (XPrint.ak BK299.out), (XPrint.ak BK300.out), (XPrint.ak BK301.out), (XPrint.ak BK307.out), GW307.out, GE307.out, NB299_307.out, NB307_299.out, NB300_307.out, NB307_300.out, NB301_307.out, NB307_301.out, (by exact XPrint.bz HB.out)⟩)
           ·skip
            rintro gb307 w12 ⟨hS_, h0_, h1_, h2_, h3_, h4_, h5_, h6_, h7_, h8_, h9_, h10_, h11_, h12_⟩
            have BK307 := XPrint.A0 h3_
            have GW307 := XPrint.A0 h4_
            have GE307 := XPrint.A0 h5_
            have NB299_307 := XPrint.A1 h6_
            have NB307_299 := XPrint.A1 h7_
            have NB300_307 := XPrint.A1 h8_
            have NB307_300 := XPrint.A1 h9_
            have NB301_307 := XPrint.A1 h10_
            have NB307_301 := XPrint.A1 h11_
            replace BK299 := XPrint.A0 h0_
            replace BK300 := XPrint.A0 h1_
            replace BK301 := XPrint.A0 h2_
            replace HB := XPrint.A0 h12_
            clear h0_ h1_ h2_ h3_ h4_ h5_ h6_ h7_ h8_ h9_ h10_ h11_ h12_
            have hHeld : w12.cell? ⟨gb299, 0, none⟩ = some (.int .i64 a0_0) ∧ w12.cell? ⟨gb299, 1, none⟩ = some (.int .i64 a0_1) ∧ w12.cell? ⟨gb300, 0, none⟩ = some (.int .i64 a1_0) ∧ w12.cell? ⟨gb300, 1, none⟩ = some (.int .i64 a1_1) := hS_
            refine norm_ (a' := ?_) ?_ ?_
            rotate_left
            ·simp only [putAll, XPrint.pw]
             rfl
            refine two_ (i := 2) (j := 6) (Ni := some 11) (Nj := some 7) (XPrint.L 10 159) (XPrint.L 10 219) rfl rfl rfl rfl (two_of HT_.out (by kernel_rfl)) (by decide) (by decide) (fun K hK => ?_) (fun K hK => ?_)
            ·skip
             refine XPrint.gs Try.func22 #[.agg #[.int .i64 a0_0, .int .i64 a0_1], .agg #[.int .i64 a1_0, .int .i64 a1_1]] ?_
             with_reducible refine (vec_Min.calls a0_0 a0_1 a1_0 a1_1 t302 t303 _ A4.out).mono ?_
             rintro e w13 ⟨rfl, hb⟩
             refine ⟨_, rfl, ?_⟩
             replace BK299 := XPrint.A0 (XPrint.ab BK299.out hb)
             replace BK300 := XPrint.A0 (XPrint.ab BK300.out hb)
             replace BK301 := XPrint.A0 (XPrint.ab BK301.out hb)
             replace BK307 := XPrint.A0 (XPrint.ab BK307.out hb)
             replace HB := XPrint.A0 (below_step (by exact XPrint.bz HB.out) hb)
             (try clear hb)
             (try clear hb2)
             (try clear hk)
             (try clear hi)
             refine hK.out _ _ ⟨(blk_cell BK299.out 0).trans rfl, (blk_cell BK299.out 1).trans rfl, (blk_cell BK300.out 0).trans rfl, (blk_cell BK300.out 1).trans rfl⟩ (fun hHeld => ?_)
             clear hK K
             refine norm_ (a' := ?_) ?_ ?_
             rotate_left
             ·show Act.put _ (some 11) _ = _
              simp only [XPrint.pw, i64_w, i32_w]
              rfl
             exact norm_ (by first | (simp only [putAll, XPrint.pw]; done) | (simp only [putAll, XPrint.pw]; rfl)) (hJ2_7 (gb307) _ ⟨hHeld, (XPrint.ak BK299.out), (XPrint.ak BK300.out), (XPrint.ak BK301.out), (XPrint.ak BK307.out), GW307.out, GE307.out, NB299_307.out, NB307_299.out, NB300_307.out, NB307_300.out, NB301_307.out, NB307_301.out, (by exact XPrint.bz HB.out)⟩)
            ·skip
             refine box_step ?hg (N := 7) ?hd (cs := #[.int .i64 0, .int .i64 0]) (t := 23) ?hr ?_; (case hd => rfl); (case hg => rfl); (case hr => first | (go_simp; done) | (go_simp; rfl))
             intro gb306 hg w13 hbox hb
             have BK306 := XPrint.A0 (hbox)
             have GW306 := XPrint.A0 (XPrint.gz HB.out hg)
             have GE306 := XPrint.A0 (XPrint.gz HB.out hg)
             have NB299_306 := XPrint.A1 (by rw [hg]; exact Nat.ne_of_lt (XPrint.al BK299.out) : gb299 ≠ gb306)
             have NB306_299 := XPrint.A1 (by rw [hg]; exact Nat.ne_of_gt (XPrint.al BK299.out) : gb306 ≠ gb299)
             have NB300_306 := XPrint.A1 (by rw [hg]; exact Nat.ne_of_lt (XPrint.al BK300.out) : gb300 ≠ gb306)
             have NB306_300 := XPrint.A1 (by rw [hg]; exact Nat.ne_of_gt (XPrint.al BK300.out) : gb306 ≠ gb300)
             have NB301_306 := XPrint.A1 (by rw [hg]; exact Nat.ne_of_lt (XPrint.al BK301.out) : gb301 ≠ gb306)
             have NB306_301 := XPrint.A1 (by rw [hg]; exact Nat.ne_of_gt (XPrint.al BK301.out) : gb306 ≠ gb301)
             have NB307_306 := XPrint.A1 (by rw [hg]; exact Nat.ne_of_lt (XPrint.al BK307.out) : gb307 ≠ gb306)
             have NB306_307 := XPrint.A1 (by rw [hg]; exact Nat.ne_of_gt (XPrint.al BK307.out) : gb306 ≠ gb307)
             replace BK299 := XPrint.A0 (XPrint.ab BK299.out hb)
             replace BK300 := XPrint.A0 (XPrint.ab BK300.out hb)
             replace BK301 := XPrint.A0 (XPrint.ab BK301.out hb)
             replace BK307 := XPrint.A0 (XPrint.ab BK307.out hb)
             replace HB := XPrint.A0 (below_step (by exact XPrint.bz HB.out) hb)
             clear hb hbox hg
             refine hK.out _ _ ⟨(blk_cell BK299.out 0).trans rfl, (blk_cell BK299.out 1).trans rfl, (blk_cell BK300.out 0).trans rfl, (blk_cell BK300.out 1).trans rfl⟩ (fun hHeld => ?_)
             clear hK K
             refine norm_ (a' := ?_) ?_ ?_
             rotate_left
             ·show Act.put _ (some 7) _ = _
              simp only [XPrint.pw, i64_w, i32_w]
              rfl
             exact norm_ (by first | (simp only [putAll, XPrint.pw]; done) | (simp only [putAll, XPrint.pw]; rfl)) (hJ6_7 (gb306, gb307) _ ⟨hHeld, (XPrint.ak BK299.out), (XPrint.ak BK300.out), (XPrint.ak BK301.out), (XPrint.ak BK306.out), (XPrint.ak BK307.out), GW306.out, GE306.out, NB299_306.out, NB306_299.out, NB300_306.out, NB306_300.out, NB301_306.out, NB306_301.out, NB307_306.out, NB306_307.out, GW307.out, GE307.out, NB299_307.out, NB307_299.out, NB300_307.out, NB307_300.out, NB301_307.out, NB307_301.out, (by exact XPrint.bz HB.out)⟩)
          ·skip
           rintro gb306 w12 ⟨hS_, h0_, h1_, h2_, h3_, h4_, h5_, h6_, h7_, h8_, h9_, h10_, h11_, h12_⟩
           have BK306 := XPrint.A0 h3_
           have GW306 := XPrint.A0 h4_
           have GE306 := XPrint.A0 h5_
           have NB299_306 := XPrint.A1 h6_
           have NB306_299 := XPrint.A1 h7_
           have NB300_306 := XPrint.A1 h8_
           have NB306_300 := XPrint.A1 h9_
           have NB301_306 := XPrint.A1 h10_
           have NB306_301 := XPrint.A1 h11_
           replace BK299 := XPrint.A0 h0_
           replace BK300 := XPrint.A0 h1_
           replace BK301 := XPrint.A0 h2_
           replace HB := XPrint.A0 h12_
           clear h0_ h1_ h2_ h3_ h4_ h5_ h6_ h7_ h8_ h9_ h10_ h11_ h12_
           have hHeld : w12.cell? ⟨gb299, 0, none⟩ = some (.int .i64 a0_0) ∧ w12.cell? ⟨gb299, 1, none⟩ = some (.int .i64 a0_1) ∧ w12.cell? ⟨gb300, 0, none⟩ = some (.int .i64 a1_0) ∧ w12.cell? ⟨gb300, 1, none⟩ = some (.int .i64 a1_1) := hS_
           refine norm_ (a' := ?_) ?_ ?_
           rotate_left
           ·simp only [putAll, XPrint.pw]
            rfl
           refine two_ (i := 2) (j := 7) (Ni := some 11) (Nj := some 8) (XPrint.L 10 95) (XPrint.L 10 219) rfl rfl rfl rfl (two_of HT_.out (by kernel_rfl)) (by decide) (by decide) (fun K hK => ?_) (fun K hK => ?_)
           ·skip
            refine XPrint.gs Try.func22 #[.agg #[.int .i64 a0_0, .int .i64 a0_1], .agg #[.int .i64 a1_0, .int .i64 a1_1]] ?_
            with_reducible refine (vec_Min.calls a0_0 a0_1 a1_0 a1_1 t302 t303 _ A4.out).mono ?_
            rintro e w13 ⟨rfl, hb⟩
            refine ⟨_, rfl, ?_⟩
            replace BK299 := XPrint.A0 (XPrint.ab BK299.out hb)
            replace BK300 := XPrint.A0 (XPrint.ab BK300.out hb)
            replace BK301 := XPrint.A0 (XPrint.ab BK301.out hb)
            replace BK306 := XPrint.A0 (XPrint.ab BK306.out hb)
            replace HB := XPrint.A0 (below_step (by exact XPrint.bz HB.out) hb)
            (try clear hb)
            (try clear hb2)
            (try clear hk)
            (try clear hi)
            refine hK.out _ _ ⟨(blk_cell BK299.out 0).trans rfl, (blk_cell BK299.out 1).trans rfl, (blk_cell BK300.out 0).trans rfl, (blk_cell BK300.out 1).trans rfl⟩ (fun hHeld => ?_)
            clear hK K
            refine norm_ (a' := ?_) ?_ ?_
            rotate_left
            ·show Act.put _ (some 11) _ = _
             simp only [XPrint.pw, i64_w, i32_w]
             rfl
            exact norm_ (by first | (simp only [putAll, XPrint.pw]; done) | (simp only [putAll, XPrint.pw]; rfl)) (hJ2_6 (gb306) _ ⟨hHeld, (XPrint.ak BK299.out), (XPrint.ak BK300.out), (XPrint.ak BK301.out), (XPrint.ak BK306.out), GW306.out, GE306.out, NB299_306.out, NB306_299.out, NB300_306.out, NB306_300.out, NB301_306.out, NB306_301.out, (by exact XPrint.bz HB.out)⟩)
           ·skip
            refine box_step ?hg (N := 8) ?hd (cs := #[.int .i64 0, .int .i64 0]) (t := 23) ?hr ?_; (case hd => rfl); (case hg => rfl); (case hr => first | (go_simp; done) | (go_simp; rfl))
            intro gb307 hg w13 hbox hb
            have BK307 := XPrint.A0 (hbox)
            have GW307 := XPrint.A0 (XPrint.gz HB.out hg)
            have GE307 := XPrint.A0 (XPrint.gz HB.out hg)
            have NB299_307 := XPrint.A1 (by rw [hg]; exact Nat.ne_of_lt (XPrint.al BK299.out) : gb299 ≠ gb307)
            have NB307_299 := XPrint.A1 (by rw [hg]; exact Nat.ne_of_gt (XPrint.al BK299.out) : gb307 ≠ gb299)
            have NB300_307 := XPrint.A1 (by rw [hg]; exact Nat.ne_of_lt (XPrint.al BK300.out) : gb300 ≠ gb307)
            have NB307_300 := XPrint.A1 (by rw [hg]; exact Nat.ne_of_gt (XPrint.al BK300.out) : gb307 ≠ gb300)
            have NB301_307 := XPrint.A1 (by rw [hg]; exact Nat.ne_of_lt (XPrint.al BK301.out) : gb301 ≠ gb307)
            have NB307_301 := XPrint.A1 (by rw [hg]; exact Nat.ne_of_gt (XPrint.al BK301.out) : gb307 ≠ gb301)
            have NB306_307 := XPrint.A1 (by rw [hg]; exact Nat.ne_of_lt (XPrint.al BK306.out) : gb306 ≠ gb307)
            have NB307_306 := XPrint.A1 (by rw [hg]; exact Nat.ne_of_gt (XPrint.al BK306.out) : gb307 ≠ gb306)
            replace BK299 := XPrint.A0 (XPrint.ab BK299.out hb)
            replace BK300 := XPrint.A0 (XPrint.ab BK300.out hb)
            replace BK301 := XPrint.A0 (XPrint.ab BK301.out hb)
            replace BK306 := XPrint.A0 (XPrint.ab BK306.out hb)
            replace HB := XPrint.A0 (below_step (by exact XPrint.bz HB.out) hb)
            clear hb hbox hg
            refine hK.out _ _ ⟨(blk_cell BK299.out 0).trans rfl, (blk_cell BK299.out 1).trans rfl, (blk_cell BK300.out 0).trans rfl, (blk_cell BK300.out 1).trans rfl⟩ (fun hHeld => ?_)
            clear hK K
            refine norm_ (a' := ?_) ?_ ?_
            rotate_left
            ·show Act.put _ (some 8) _ = _
             simp only [XPrint.pw, i64_w, i32_w]
             rfl
            exact norm_ (by first | (simp only [putAll, XPrint.pw]; done) | (simp only [putAll, XPrint.pw]; rfl)) (hJ6_7 (gb306, gb307) _ ⟨hHeld, (XPrint.ak BK299.out), (XPrint.ak BK300.out), (XPrint.ak BK301.out), (XPrint.ak BK306.out), (XPrint.ak BK307.out), GW306.out, GE306.out, NB299_306.out, NB306_299.out, NB300_306.out, NB306_300.out, NB301_306.out, NB306_301.out, NB307_306.out, NB306_307.out, GW307.out, GE307.out, NB299_307.out, NB307_299.out, NB300_307.out, NB307_300.out, NB301_307.out, NB307_301.out, (by exact XPrint.bz HB.out)⟩)
         ·skip
          rintro _ w12 ⟨hS_, h0_, h1_, h2_, h3_⟩
          replace BK299 := XPrint.A0 h0_
          replace BK300 := XPrint.A0 h1_
          replace BK301 := XPrint.A0 h2_
          replace HB := XPrint.A0 h3_
          clear h0_ h1_ h2_ h3_
          have hHeld : w12.cell? ⟨gb299, 0, none⟩ = some (.int .i64 a0_0) ∧ w12.cell? ⟨gb299, 1, none⟩ = some (.int .i64 a0_1) ∧ w12.cell? ⟨gb300, 0, none⟩ = some (.int .i64 a1_0) ∧ w12.cell? ⟨gb300, 1, none⟩ = some (.int .i64 a1_1) := hS_
          refine norm_ (a' := ?_) ?_ ?_
          rotate_left
          ·simp only [putAll, XPrint.pw]
           rfl
          refine three_ (i := 5) (j := 6) (k := 7) (Ni := some 14) (Nj := some 7) (Nk := some 8) (XPrint.L 10 63) (XPrint.L 10 95) (XPrint.L 10 159) rfl rfl rfl rfl rfl rfl (three_of HT_.out (by kernel_rfl)) (by decide) (by decide) (by decide) (fun K hK => ?_) (fun K hK => ?_) (fun K hK => ?_)
          ·skip
           refine XPrint.gs Try.func24 #[.agg #[.int .i64 a0_0, .int .i64 a0_1], .agg #[.int .i64 a1_0, .int .i64 a1_1]] ?_
           with_reducible refine (vec_Max.calls a0_0 a0_1 a1_0 a1_1 t304 t305 _ A5.out).mono ?_
           rintro e w13 ⟨rfl, hb⟩
           refine ⟨_, rfl, ?_⟩
           replace BK299 := XPrint.A0 (XPrint.ab BK299.out hb)
           replace BK300 := XPrint.A0 (XPrint.ab BK300.out hb)
           replace BK301 := XPrint.A0 (XPrint.ab BK301.out hb)
           replace HB := XPrint.A0 (below_step (by exact XPrint.bz HB.out) hb)
           (try clear hb)
           (try clear hb2)
           (try clear hk)
           (try clear hi)
           refine hK.out _ _ ⟨(blk_cell BK299.out 0).trans rfl, (blk_cell BK299.out 1).trans rfl, (blk_cell BK300.out 0).trans rfl, (blk_cell BK300.out 1).trans rfl⟩ (fun hHeld => ?_)
           clear hK K
           refine norm_ (a' := ?_) ?_ ?_
           rotate_left
           ·show Act.put _ (some 14) _ = _
            simp only [XPrint.pw, i64_w, i32_w]
            rfl
           exact norm_ (by first | (simp only [putAll, XPrint.pw]; done) | (simp only [putAll, XPrint.pw]; rfl)) (hJ2_5 () _ ⟨hHeld, (XPrint.ak BK299.out), (XPrint.ak BK300.out), (XPrint.ak BK301.out), (by exact XPrint.bz HB.out)⟩)
          ·skip
           refine box_step ?hg (N := 7) ?hd (cs := #[.int .i64 0, .int .i64 0]) (t := 23) ?hr ?_; (case hd => rfl); (case hg => rfl); (case hr => first | (go_simp; done) | (go_simp; rfl))
           intro gb306 hg w13 hbox hb
           have BK306 := XPrint.A0 (hbox)
           have GW306 := XPrint.A0 (XPrint.gz HB.out hg)
           have GE306 := XPrint.A0 (XPrint.gz HB.out hg)
           have NB299_306 := XPrint.A1 (by rw [hg]; exact Nat.ne_of_lt (XPrint.al BK299.out) : gb299 ≠ gb306)
           have NB306_299 := XPrint.A1 (by rw [hg]; exact Nat.ne_of_gt (XPrint.al BK299.out) : gb306 ≠ gb299)
           have NB300_306 := XPrint.A1 (by rw [hg]; exact Nat.ne_of_lt (XPrint.al BK300.out) : gb300 ≠ gb306)
           have NB306_300 := XPrint.A1 (by rw [hg]; exact Nat.ne_of_gt (XPrint.al BK300.out) : gb306 ≠ gb300)
           have NB301_306 := XPrint.A1 (by rw [hg]; exact Nat.ne_of_lt (XPrint.al BK301.out) : gb301 ≠ gb306)
           have NB306_301 := XPrint.A1 (by rw [hg]; exact Nat.ne_of_gt (XPrint.al BK301.out) : gb306 ≠ gb301)
           replace BK299 := XPrint.A0 (XPrint.ab BK299.out hb)
           replace BK300 := XPrint.A0 (XPrint.ab BK300.out hb)
           replace BK301 := XPrint.A0 (XPrint.ab BK301.out hb)
           replace HB := XPrint.A0 (below_step (by exact XPrint.bz HB.out) hb)
           clear hb hbox hg
           refine hK.out _ _ ⟨(blk_cell BK299.out 0).trans rfl, (blk_cell BK299.out 1).trans rfl, (blk_cell BK300.out 0).trans rfl, (blk_cell BK300.out 1).trans rfl⟩ (fun hHeld => ?_)
           clear hK K
           refine norm_ (a' := ?_) ?_ ?_
           rotate_left
           ·show Act.put _ (some 7) _ = _
            simp only [XPrint.pw, i64_w, i32_w]
            rfl
           exact norm_ (by first | (simp only [putAll, XPrint.pw]; done) | (simp only [putAll, XPrint.pw]; rfl)) (hJ2_6 (gb306) _ ⟨hHeld, (XPrint.ak BK299.out), (XPrint.ak BK300.out), (XPrint.ak BK301.out), (XPrint.ak BK306.out), GW306.out, GE306.out, NB299_306.out, NB306_299.out, NB300_306.out, NB306_300.out, NB301_306.out, NB306_301.out, (by exact XPrint.bz HB.out)⟩)
          ·skip
           refine box_step ?hg (N := 8) ?hd (cs := #[.int .i64 0, .int .i64 0]) (t := 23) ?hr ?_; (case hd => rfl); (case hg => rfl); (case hr => first | (go_simp; done) | (go_simp; rfl))
           intro gb307 hg w13 hbox hb
           have BK307 := XPrint.A0 (hbox)
           have GW307 := XPrint.A0 (XPrint.gz HB.out hg)
           have GE307 := XPrint.A0 (XPrint.gz HB.out hg)
           have NB299_307 := XPrint.A1 (by rw [hg]; exact Nat.ne_of_lt (XPrint.al BK299.out) : gb299 ≠ gb307)
           have NB307_299 := XPrint.A1 (by rw [hg]; exact Nat.ne_of_gt (XPrint.al BK299.out) : gb307 ≠ gb299)
           have NB300_307 := XPrint.A1 (by rw [hg]; exact Nat.ne_of_lt (XPrint.al BK300.out) : gb300 ≠ gb307)
           have NB307_300 := XPrint.A1 (by rw [hg]; exact Nat.ne_of_gt (XPrint.al BK300.out) : gb307 ≠ gb300)
           have NB301_307 := XPrint.A1 (by rw [hg]; exact Nat.ne_of_lt (XPrint.al BK301.out) : gb301 ≠ gb307)
           have NB307_301 := XPrint.A1 (by rw [hg]; exact Nat.ne_of_gt (XPrint.al BK301.out) : gb307 ≠ gb301)
           replace BK299 := XPrint.A0 (XPrint.ab BK299.out hb)
           replace BK300 := XPrint.A0 (XPrint.ab BK300.out hb)
           replace BK301 := XPrint.A0 (XPrint.ab BK301.out hb)
           replace HB := XPrint.A0 (below_step (by exact XPrint.bz HB.out) hb)
           clear hb hbox hg
           refine hK.out _ _ ⟨(blk_cell BK299.out 0).trans rfl, (blk_cell BK299.out 1).trans rfl, (blk_cell BK300.out 0).trans rfl, (blk_cell BK300.out 1).trans rfl⟩ (fun hHeld => ?_)
           clear hK K
           refine norm_ (a' := ?_) ?_ ?_
           rotate_left
           ·show Act.put _ (some 8) _ = _
            simp only [XPrint.pw, i64_w, i32_w]
            rfl
           exact norm_ (by first | (simp only [putAll, XPrint.pw]; done) | (simp only [putAll, XPrint.pw]; rfl)) (hJ2_7 (gb307) _ ⟨hHeld, (XPrint.ak BK299.out), (XPrint.ak BK300.out), (XPrint.ak BK301.out), (XPrint.ak BK307.out), GW307.out, GE307.out, NB299_307.out, NB307_299.out, NB300_307.out, NB307_300.out, NB301_307.out, NB307_301.out, (by exact XPrint.bz HB.out)⟩)
        ·skip
         rintro ⟨gb306, gb307⟩ w13 ⟨hS_, h0_, h1_, h2_, h3_, h4_, h5_, h6_, h7_, h8_, h9_, h10_, h11_, h12_, h13_, h14_, h15_, h16_, h17_, h18_, h19_, h20_, h21_, h22_, h23_⟩
         have BK306 := XPrint.A0 h3_
         have BK307 := XPrint.A0 h4_
         have GW306 := XPrint.A0 h5_
         have GE306 := XPrint.A0 h6_
         have NB299_306 := XPrint.A1 h7_
         have NB306_299 := XPrint.A1 h8_
         have NB300_306 := XPrint.A1 h9_
         have NB306_300 := XPrint.A1 h10_
         have NB301_306 := XPrint.A1 h11_
         have NB306_301 := XPrint.A1 h12_
         have NB307_306 := XPrint.A1 h13_
         have NB306_307 := XPrint.A1 h14_
         have GW307 := XPrint.A0 h15_
         have GE307 := XPrint.A0 h16_
         have NB299_307 := XPrint.A1 h17_
         have NB307_299 := XPrint.A1 h18_
         have NB300_307 := XPrint.A1 h19_
         have NB307_300 := XPrint.A1 h20_
         have NB301_307 := XPrint.A1 h21_
         have NB307_301 := XPrint.A1 h22_
         replace BK299 := XPrint.A0 h0_
         replace BK300 := XPrint.A0 h1_
         replace BK301 := XPrint.A0 h2_
         replace HB := XPrint.A0 h23_
         clear h0_ h1_ h2_ h3_ h4_ h5_ h6_ h7_ h8_ h9_ h10_ h11_ h12_ h13_ h14_ h15_ h16_ h17_ h18_ h19_ h20_ h21_ h22_ h23_
         have hHeld : w13.cell? ⟨gb299, 0, none⟩ = some (.int .i64 a0_0) ∧ w13.cell? ⟨gb299, 1, none⟩ = some (.int .i64 a0_1) ∧ w13.cell? ⟨gb300, 0, none⟩ = some (.int .i64 a1_0) ∧ w13.cell? ⟨gb300, 1, none⟩ = some (.int .i64 a1_1) := hS_
         refine norm_ (a' := ?_) ?_ ?_
         rotate_left
         ·simp only [putAll, XPrint.pw]
          rfl
         refine one_ (i := 2) (N := some 11) (XPrint.L 10 223) rfl rfl (one_of HT_.out (by kernel_rfl)) (by decide) (fun K hK => ?_)
         refine XPrint.gs Try.func22 #[.agg #[.int .i64 a0_0, .int .i64 a0_1], .agg #[.int .i64 a1_0, .int .i64 a1_1]] ?_
         with_reducible refine (vec_Min.calls a0_0 a0_1 a1_0 a1_1 t302 t303 _ A4.out).mono ?_
         rintro e w14 ⟨rfl, hb⟩
         refine ⟨_, rfl, ?_⟩
         replace BK299 := XPrint.A0 (XPrint.ab BK299.out hb)
         replace BK300 := XPrint.A0 (XPrint.ab BK300.out hb)
         replace BK301 := XPrint.A0 (XPrint.ab BK301.out hb)
         replace BK306 := XPrint.A0 (XPrint.ab BK306.out hb)
         replace BK307 := XPrint.A0 (XPrint.ab BK307.out hb)
         replace HB := XPrint.A0 (below_step (by exact XPrint.bz HB.out) hb)
         (try clear hb)
         (try clear hb2)
         (try clear hk)
         (try clear hi)
         refine hK.out _ _ ⟨(blk_cell BK299.out 0).trans rfl, (blk_cell BK299.out 1).trans rfl, (blk_cell BK300.out 0).trans rfl, (blk_cell BK300.out 1).trans rfl⟩ (fun hHeld => ?_)
         clear hK K
         refine norm_ (a' := ?_) ?_ ?_
         rotate_left
         ·show Act.put _ (some 11) _ = _
          simp only [XPrint.pw, i64_w, i32_w]
          rfl
         exact norm_ (by first | (simp only [putAll, XPrint.pw]; done) | (simp only [putAll, XPrint.pw]; rfl)) (hJ2_6_7 (gb306, gb307) _ ⟨hHeld, (XPrint.ak BK299.out), (XPrint.ak BK300.out), (XPrint.ak BK301.out), (XPrint.ak BK306.out), (XPrint.ak BK307.out), GW306.out, GE306.out, NB299_306.out, NB306_299.out, NB300_306.out, NB306_300.out, NB301_306.out, NB306_301.out, NB307_306.out, NB306_307.out, GW307.out, GE307.out, NB299_307.out, NB307_299.out, NB300_307.out, NB307_300.out, NB301_307.out, NB307_301.out, (by exact XPrint.bz HB.out)⟩)
       ·skip
        rintro gb307 w13 ⟨hS_, h0_, h1_, h2_, h3_, h4_, h5_, h6_, h7_, h8_, h9_, h10_, h11_, h12_⟩
        have BK307 := XPrint.A0 h3_
        have GW307 := XPrint.A0 h4_
        have GE307 := XPrint.A0 h5_
        have NB299_307 := XPrint.A1 h6_
        have NB307_299 := XPrint.A1 h7_
        have NB300_307 := XPrint.A1 h8_
        have NB307_300 := XPrint.A1 h9_
        have NB301_307 := XPrint.A1 h10_
        have NB307_301 := XPrint.A1 h11_
        replace BK299 := XPrint.A0 h0_
        replace BK300 := XPrint.A0 h1_
        replace BK301 := XPrint.A0 h2_
        replace HB := XPrint.A0 h12_
        clear h0_ h1_ h2_ h3_ h4_ h5_ h6_ h7_ h8_ h9_ h10_ h11_ h12_
        have hHeld : w13.cell? ⟨gb299, 0, none⟩ = some (.int .i64 a0_0) ∧ w13.cell? ⟨gb299, 1, none⟩ = some (.int .i64 a0_1) ∧ w13.cell? ⟨gb300, 0, none⟩ = some (.int .i64 a1_0) ∧ w13.cell? ⟨gb300, 1, none⟩ = some (.int .i64 a1_1) := hS_
        refine norm_ (a' := ?_) ?_ ?_
        rotate_left
        ·simp only [putAll, XPrint.pw]
         rfl
        refine two_ (i := 5) (j := 6) (Ni := some 14) (Nj := some 7) (XPrint.L 10 191) (XPrint.L 10 223) rfl rfl rfl rfl (two_of HT_.out (by kernel_rfl)) (by decide) (by decide) (fun K hK => ?_) (fun K hK => ?_)
        ·skip
         refine XPrint.gs Try.func24 #[.agg #[.int .i64 a0_0, .int .i64 a0_1], .agg #[.int .i64 a1_0, .int .i64 a1_1]] ?_
         with_reducible refine (vec_Max.calls a0_0 a0_1 a1_0 a1_1 t304 t305 _ A5.out).mono ?_
         rintro e w14 ⟨rfl, hb⟩
         refine ⟨_, rfl, ?_⟩
         replace BK299 := XPrint.A0 (XPrint.ab BK299.out hb)
         replace BK300 := XPrint.A0 (XPrint.ab BK300.out hb)
         replace BK301 := XPrint.A0 (XPrint.ab BK301.out hb)
         replace BK307 := XPrint.A0 (XPrint.ab BK307.out hb)
         replace HB := XPrint.A0 (below_step (by exact XPrint.bz HB.out) hb)
         (try clear hb)
         (try clear hb2)
         (try clear hk)
         (try clear hi)
         refine hK.out _ _ ⟨(blk_cell BK299.out 0).trans rfl, (blk_cell BK299.out 1).trans rfl, (blk_cell BK300.out 0).trans rfl, (blk_cell BK300.out 1).trans rfl⟩ (fun hHeld => ?_)
         clear hK K
         refine norm_ (a' := ?_) ?_ ?_
         rotate_left
         ·show Act.put _ (some 14) _ = _
          simp only [XPrint.pw, i64_w, i32_w]
          rfl
         exact norm_ (by first | (simp only [putAll, XPrint.pw]; done) | (simp only [putAll, XPrint.pw]; rfl)) (hJ2_5_7 (gb307) _ ⟨hHeld, (XPrint.ak BK299.out), (XPrint.ak BK300.out), (XPrint.ak BK301.out), (XPrint.ak BK307.out), GW307.out, GE307.out, NB299_307.out, NB307_299.out, NB300_307.out, NB307_300.out, NB301_307.out, NB307_301.out, (by exact XPrint.bz HB.out)⟩)
        ·skip
         refine box_step ?hg (N := 7) ?hd (cs := #[.int .i64 0, .int .i64 0]) (t := 23) ?hr ?_; (case hd => rfl); (case hg => rfl); (case hr => first | (go_simp; done) | (go_simp; rfl))
         intro gb306 hg w14 hbox hb
         have BK306 := XPrint.A0 (hbox)
         have GW306 := XPrint.A0 (XPrint.gz HB.out hg)
         have GE306 := XPrint.A0 (XPrint.gz HB.out hg)
         have NB299_306 := XPrint.A1 (by rw [hg]; exact Nat.ne_of_lt (XPrint.al BK299.out) : gb299 ≠ gb306)
         have NB306_299 := XPrint.A1 (by rw [hg]; exact Nat.ne_of_gt (XPrint.al BK299.out) : gb306 ≠ gb299)
         have NB300_306 := XPrint.A1 (by rw [hg]; exact Nat.ne_of_lt (XPrint.al BK300.out) : gb300 ≠ gb306)
         have NB306_300 := XPrint.A1 (by rw [hg]; exact Nat.ne_of_gt (XPrint.al BK300.out) : gb306 ≠ gb300)
         have NB301_306 := XPrint.A1 (by rw [hg]; exact Nat.ne_of_lt (XPrint.al BK301.out) : gb301 ≠ gb306)
         have NB306_301 := XPrint.A1 (by rw [hg]; exact Nat.ne_of_gt (XPrint.al BK301.out) : gb306 ≠ gb301)
         have NB307_306 := XPrint.A1 (by rw [hg]; exact Nat.ne_of_lt (XPrint.al BK307.out) : gb307 ≠ gb306)
         have NB306_307 := XPrint.A1 (by rw [hg]; exact Nat.ne_of_gt (XPrint.al BK307.out) : gb306 ≠ gb307)
         replace BK299 := XPrint.A0 (XPrint.ab BK299.out hb)
         replace BK300 := XPrint.A0 (XPrint.ab BK300.out hb)
         replace BK301 := XPrint.A0 (XPrint.ab BK301.out hb)
         replace BK307 := XPrint.A0 (XPrint.ab BK307.out hb)
         replace HB := XPrint.A0 (below_step (by exact XPrint.bz HB.out) hb)
         clear hb hbox hg
         refine hK.out _ _ ⟨(blk_cell BK299.out 0).trans rfl, (blk_cell BK299.out 1).trans rfl, (blk_cell BK300.out 0).trans rfl, (blk_cell BK300.out 1).trans rfl⟩ (fun hHeld => ?_)
         clear hK K
         refine norm_ (a' := ?_) ?_ ?_
         rotate_left
         ·show Act.put _ (some 7) _ = _
          simp only [XPrint.pw, i64_w, i32_w]
          rfl
         exact norm_ (by first | (simp only [putAll, XPrint.pw]; done) | (simp only [putAll, XPrint.pw]; rfl)) (hJ2_6_7 (gb306, gb307) _ ⟨hHeld, (XPrint.ak BK299.out), (XPrint.ak BK300.out), (XPrint.ak BK301.out), (XPrint.ak BK306.out), (XPrint.ak BK307.out), GW306.out, GE306.out, NB299_306.out, NB306_299.out, NB300_306.out, NB306_300.out, NB301_306.out, NB306_301.out, NB307_306.out, NB306_307.out, GW307.out, GE307.out, NB299_307.out, NB307_299.out, NB300_307.out, NB307_300.out, NB301_307.out, NB307_301.out, (by exact XPrint.bz HB.out)⟩)
      ·skip
       rintro gb306 w13 ⟨hS_, h0_, h1_, h2_, h3_, h4_, h5_, h6_, h7_, h8_, h9_, h10_, h11_, h12_⟩
       have BK306 := XPrint.A0 h3_
       have GW306 := XPrint.A0 h4_
       have GE306 := XPrint.A0 h5_
       have NB299_306 := XPrint.A1 h6_
       have NB306_299 := XPrint.A1 h7_
       have NB300_306 := XPrint.A1 h8_
       have NB306_300 := XPrint.A1 h9_
       have NB301_306 := XPrint.A1 h10_
       have NB306_301 := XPrint.A1 h11_
       replace BK299 := XPrint.A0 h0_
       replace BK300 := XPrint.A0 h1_
       replace BK301 := XPrint.A0 h2_
       replace HB := XPrint.A0 h12_
       clear h0_ h1_ h2_ h3_ h4_ h5_ h6_ h7_ h8_ h9_ h10_ h11_ h12_
       have hHeld : w13.cell? ⟨gb299, 0, none⟩ = some (.int .i64 a0_0) ∧ w13.cell? ⟨gb299, 1, none⟩ = some (.int .i64 a0_1) ∧ w13.cell? ⟨gb300, 0, none⟩ = some (.int .i64 a1_0) ∧ w13.cell? ⟨gb300, 1, none⟩ = some (.int .i64 a1_1) := hS_
       refine norm_ (a' := ?_) ?_ ?_
       rotate_left
       ·simp only [putAll, XPrint.pw]
        rfl
       refine two_ (i := 5) (j := 7) (Ni := some 14) (Nj := some 8) (XPrint.L 10 127) (XPrint.L 10 223) rfl rfl rfl rfl (two_of HT_.out (by kernel_rfl)) (by decide) (by decide) (fun K hK => ?_) (fun K hK => ?_)
       ·skip
        refine XPrint.gs Try.func24 #[.agg #[.int .i64 a0_0, .int .i64 a0_1], .agg #[.int .i64 a1_0, .int .i64 a1_1]] ?_
        with_reducible refine (vec_Max.calls a0_0 a0_1 a1_0 a1_1 t304 t305 _ A5.out).mono ?_
        rintro e w14 ⟨rfl, hb⟩
        refine ⟨_, rfl, ?_⟩
        replace BK299 := XPrint.A0 (XPrint.ab BK299.out hb)
        replace BK300 := XPrint.A0 (XPrint.ab BK300.out hb)
        replace BK301 := XPrint.A0 (XPrint.ab BK301.out hb)
        replace BK306 := XPrint.A0 (XPrint.ab BK306.out hb)
        replace HB := XPrint.A0 (below_step (by exact XPrint.bz HB.out) hb)
        (try clear hb)
        (try clear hb2)
        (try clear hk)
        (try clear hi)
        refine hK.out _ _ ⟨(blk_cell BK299.out 0).trans rfl, (blk_cell BK299.out 1).trans rfl, (blk_cell BK300.out 0).trans rfl, (blk_cell BK300.out 1).trans rfl⟩ (fun hHeld => ?_)
        clear hK K
        refine norm_ (a' := ?_) ?_ ?_
        rotate_left
        ·show Act.put _ (some 14) _ = _
         simp only [XPrint.pw, i64_w, i32_w]
         rfl
        exact norm_ (by first | (simp only [putAll, XPrint.pw]; done) | (simp only [putAll, XPrint.pw]; rfl)) (hJ2_5_6 (gb306) _ ⟨hHeld, (XPrint.ak BK299.out), (XPrint.ak BK300.out), (XPrint.ak BK301.out), (XPrint.ak BK306.out), GW306.out, GE306.out, NB299_306.out, NB306_299.out, NB300_306.out, NB306_300.out, NB301_306.out, NB306_301.out, (by exact XPrint.bz HB.out)⟩)
       ·skip
        refine box_step ?hg (N := 8) ?hd (cs := #[.int .i64 0, .int .i64 0]) (t := 23) ?hr ?_; (case hd => rfl); (case hg => rfl); (case hr => first | (go_simp; done) | (go_simp; rfl))
        intro gb307 hg w14 hbox hb
        have BK307 := XPrint.A0 (hbox)
        have GW307 := XPrint.A0 (XPrint.gz HB.out hg)
        have GE307 := XPrint.A0 (XPrint.gz HB.out hg)
        have NB299_307 := XPrint.A1 (by rw [hg]; exact Nat.ne_of_lt (XPrint.al BK299.out) : gb299 ≠ gb307)
        have NB307_299 := XPrint.A1 (by rw [hg]; exact Nat.ne_of_gt (XPrint.al BK299.out) : gb307 ≠ gb299)
        have NB300_307 := XPrint.A1 (by rw [hg]; exact Nat.ne_of_lt (XPrint.al BK300.out) : gb300 ≠ gb307)
        have NB307_300 := XPrint.A1 (by rw [hg]; exact Nat.ne_of_gt (XPrint.al BK300.out) : gb307 ≠ gb300)
        have NB301_307 := XPrint.A1 (by rw [hg]; exact Nat.ne_of_lt (XPrint.al BK301.out) : gb301 ≠ gb307)
        have NB307_301 := XPrint.A1 (by rw [hg]; exact Nat.ne_of_gt (XPrint.al BK301.out) : gb307 ≠ gb301)
        have NB306_307 := XPrint.A1 (by rw [hg]; exact Nat.ne_of_lt (XPrint.al BK306.out) : gb306 ≠ gb307)
        have NB307_306 := XPrint.A1 (by rw [hg]; exact Nat.ne_of_gt (XPrint.al BK306.out) : gb307 ≠ gb306)
        replace BK299 := XPrint.A0 (XPrint.ab BK299.out hb)
        replace BK300 := XPrint.A0 (XPrint.ab BK300.out hb)
        replace BK301 := XPrint.A0 (XPrint.ab BK301.out hb)
        replace BK306 := XPrint.A0 (XPrint.ab BK306.out hb)
        replace HB := XPrint.A0 (below_step (by exact XPrint.bz HB.out) hb)
        clear hb hbox hg
        refine hK.out _ _ ⟨(blk_cell BK299.out 0).trans rfl, (blk_cell BK299.out 1).trans rfl, (blk_cell BK300.out 0).trans rfl, (blk_cell BK300.out 1).trans rfl⟩ (fun hHeld => ?_)
        clear hK K
        refine norm_ (a' := ?_) ?_ ?_
        rotate_left
        ·show Act.put _ (some 8) _ = _
         simp only [XPrint.pw, i64_w, i32_w]
         rfl
        exact norm_ (by first | (simp only [putAll, XPrint.pw]; done) | (simp only [putAll, XPrint.pw]; rfl)) (hJ2_6_7 (gb306, gb307) _ ⟨hHeld, (XPrint.ak BK299.out), (XPrint.ak BK300.out), (XPrint.ak BK301.out), (XPrint.ak BK306.out), (XPrint.ak BK307.out), GW306.out, GE306.out, NB299_306.out, NB306_299.out, NB300_306.out, NB306_300.out, NB301_306.out, NB306_301.out, NB307_306.out, NB306_307.out, GW307.out, GE307.out, NB299_307.out, NB307_299.out, NB300_307.out, NB307_300.out, NB301_307.out, NB307_301.out, (by exact XPrint.bz HB.out)⟩)
     ·skip
      rintro _ w13 ⟨hS_, h0_, h1_, h2_, h3_⟩
      replace BK299 := XPrint.A0 h0_
      replace BK300 := XPrint.A0 h1_
      replace BK301 := XPrint.A0 h2_
      replace HB := XPrint.A0 h3_
      clear h0_ h1_ h2_ h3_
      have hHeld : w13.cell? ⟨gb299, 0, none⟩ = some (.int .i64 a0_0) ∧ w13.cell? ⟨gb299, 1, none⟩ = some (.int .i64 a0_1) ∧ w13.cell? ⟨gb300, 0, none⟩ = some (.int .i64 a1_0) ∧ w13.cell? ⟨gb300, 1, none⟩ = some (.int .i64 a1_1) := hS_
      refine norm_ (a' := ?_) ?_ ?_
      rotate_left
      ·simp only [putAll, XPrint.pw]
       rfl
      refine two_ (i := 6) (j := 7) (Ni := some 7) (Nj := some 8) (XPrint.L 10 127) (XPrint.L 10 191) rfl rfl rfl rfl (two_of HT_.out (by kernel_rfl)) (by decide) (by decide) (fun K hK => ?_) (fun K hK => ?_)
      ·skip
       refine box_step ?hg (N := 7) ?hd (cs := #[.int .i64 0, .int .i64 0]) (t := 23) ?hr ?_; (case hd => rfl); (case hg => rfl); (case hr => first | (go_simp; done) | (go_simp; rfl))
       intro gb306 hg w14 hbox hb
       have BK306 := XPrint.A0 (hbox)
       have GW306 := XPrint.A0 (XPrint.gz HB.out hg)
       have GE306 := XPrint.A0 (XPrint.gz HB.out hg)
       have NB299_306 := XPrint.A1 (by rw [hg]; exact Nat.ne_of_lt (XPrint.al BK299.out) : gb299 ≠ gb306)
       have NB306_299 := XPrint.A1 (by rw [hg]; exact Nat.ne_of_gt (XPrint.al BK299.out) : gb306 ≠ gb299)
       have NB300_306 := XPrint.A1 (by rw [hg]; exact Nat.ne_of_lt (XPrint.al BK300.out) : gb300 ≠ gb306)
       have NB306_300 := XPrint.A1 (by rw [hg]; exact Nat.ne_of_gt (XPrint.al BK300.out) : gb306 ≠ gb300)
       have NB301_306 := XPrint.A1 (by rw [hg]; exact Nat.ne_of_lt (XPrint.al BK301.out) : gb301 ≠ gb306)
       have NB306_301 := XPrint.A1 (by rw [hg]; exact Nat.ne_of_gt (XPrint.al BK301.out) : gb306 ≠ gb301)
       replace BK299 := XPrint.A0 (XPrint.ab BK299.out hb)
       replace BK300 := XPrint.A0 (XPrint.ab BK300.out hb)
       replace BK301 := XPrint.A0 (XPrint.ab BK301.out hb)
       replace HB := XPrint.A0 (below_step (by exact XPrint.bz HB.out) hb)
       clear hb hbox hg
       refine hK.out _ _ ⟨(blk_cell BK299.out 0).trans rfl, (blk_cell BK299.out 1).trans rfl, (blk_cell BK300.out 0).trans rfl, (blk_cell BK300.out 1).trans rfl⟩ (fun hHeld => ?_)
       clear hK K
       refine norm_ (a' := ?_) ?_ ?_
       rotate_left
       ·show Act.put _ (some 7) _ = _
        simp only [XPrint.pw, i64_w, i32_w]
        rfl
       exact norm_ (by first | (simp only [putAll, XPrint.pw]; done) | (simp only [putAll, XPrint.pw]; rfl)) (hJ2_5_6 (gb306) _ ⟨hHeld, (XPrint.ak BK299.out), (XPrint.ak BK300.out), (XPrint.ak BK301.out), (XPrint.ak BK306.out), GW306.out, GE306.out, NB299_306.out, NB306_299.out, NB300_306.out, NB306_300.out, NB301_306.out, NB306_301.out, (by exact XPrint.bz HB.out)⟩)
      ·skip
       refine box_step ?hg (N := 8) ?hd (cs := #[.int .i64 0, .int .i64 0]) (t := 23) ?hr ?_; (case hd => rfl); (case hg => rfl); (case hr => first | (go_simp; done) | (go_simp; rfl))
       intro gb307 hg w14 hbox hb
       have BK307 := XPrint.A0 (hbox)
       have GW307 := XPrint.A0 (XPrint.gz HB.out hg)
       have GE307 := XPrint.A0 (XPrint.gz HB.out hg)
       have NB299_307 := XPrint.A1 (by rw [hg]; exact Nat.ne_of_lt (XPrint.al BK299.out) : gb299 ≠ gb307)
       have NB307_299 := XPrint.A1 (by rw [hg]; exact Nat.ne_of_gt (XPrint.al BK299.out) : gb307 ≠ gb299)
       have NB300_307 := XPrint.A1 (by rw [hg]; exact Nat.ne_of_lt (XPrint.al BK300.out) : gb300 ≠ gb307)
       have NB307_300 := XPrint.A1 (by rw [hg]; exact Nat.ne_of_gt (XPrint.al BK300.out) : gb307 ≠ gb300)
       have NB301_307 := XPrint.A1 (by rw [hg]; exact Nat.ne_of_lt (XPrint.al BK301.out) : gb301 ≠ gb307)
       have NB307_301 := XPrint.A1 (by rw [hg]; exact Nat.ne_of_gt (XPrint.al BK301.out) : gb307 ≠ gb301)
       replace BK299 := XPrint.A0 (XPrint.ab BK299.out hb)
       replace BK300 := XPrint.A0 (XPrint.ab BK300.out hb)
       replace BK301 := XPrint.A0 (XPrint.ab BK301.out hb)
       replace HB := XPrint.A0 (below_step (by exact XPrint.bz HB.out) hb)
       clear hb hbox hg
       refine hK.out _ _ ⟨(blk_cell BK299.out 0).trans rfl, (blk_cell BK299.out 1).trans rfl, (blk_cell BK300.out 0).trans rfl, (blk_cell BK300.out 1).trans rfl⟩ (fun hHeld => ?_)
       clear hK K
       refine norm_ (a' := ?_) ?_ ?_
       rotate_left
       ·show Act.put _ (some 8) _ = _
        simp only [XPrint.pw, i64_w, i32_w]
        rfl
       exact norm_ (by first | (simp only [putAll, XPrint.pw]; done) | (simp only [putAll, XPrint.pw]; rfl)) (hJ2_5_7 (gb307) _ ⟨hHeld, (XPrint.ak BK299.out), (XPrint.ak BK300.out), (XPrint.ak BK301.out), (XPrint.ak BK307.out), GW307.out, GE307.out, NB299_307.out, NB307_299.out, NB300_307.out, NB307_300.out, NB301_307.out, NB307_301.out, (by exact XPrint.bz HB.out)⟩)
    ·skip
     rintro ⟨gb306, gb307⟩ w14 ⟨hS_, h0_, h1_, h2_, h3_, h4_, h5_, h6_, h7_, h8_, h9_, h10_, h11_, h12_, h13_, h14_, h15_, h16_, h17_, h18_, h19_, h20_, h21_, h22_, h23_⟩
     have BK306 := XPrint.A0 h3_
     have BK307 := XPrint.A0 h4_
     have GW306 := XPrint.A0 h5_
     have GE306 := XPrint.A0 h6_
     have NB299_306 := XPrint.A1 h7_
     have NB306_299 := XPrint.A1 h8_
     have NB300_306 := XPrint.A1 h9_
     have NB306_300 := XPrint.A1 h10_
     have NB301_306 := XPrint.A1 h11_
     have NB306_301 := XPrint.A1 h12_
     have NB307_306 := XPrint.A1 h13_
     have NB306_307 := XPrint.A1 h14_
     have GW307 := XPrint.A0 h15_
     have GE307 := XPrint.A0 h16_
     have NB299_307 := XPrint.A1 h17_
     have NB307_299 := XPrint.A1 h18_
     have NB300_307 := XPrint.A1 h19_
     have NB307_300 := XPrint.A1 h20_
     have NB301_307 := XPrint.A1 h21_
     have NB307_301 := XPrint.A1 h22_
     replace BK299 := XPrint.A0 h0_
     replace BK300 := XPrint.A0 h1_
     replace BK301 := XPrint.A0 h2_
     replace HB := XPrint.A0 h23_
     clear h0_ h1_ h2_ h3_ h4_ h5_ h6_ h7_ h8_ h9_ h10_ h11_ h12_ h13_ h14_ h15_ h16_ h17_ h18_ h19_ h20_ h21_ h22_ h23_
     have hHeld : w14.cell? ⟨gb299, 0, none⟩ = some (.int .i64 a0_0) ∧ w14.cell? ⟨gb299, 1, none⟩ = some (.int .i64 a0_1) ∧ w14.cell? ⟨gb300, 0, none⟩ = some (.int .i64 a1_0) ∧ w14.cell? ⟨gb300, 1, none⟩ = some (.int .i64 a1_1) := hS_
     refine norm_ (a' := ?_) ?_ ?_
     rotate_left
     ·simp only [putAll, XPrint.pw]
      rfl
     refine one_ (i := 5) (N := some 14) (XPrint.L 10 255) rfl rfl (one_of HT_.out (by kernel_rfl)) (by decide) (fun K hK => ?_)
     refine XPrint.gs Try.func24 #[.agg #[.int .i64 a0_0, .int .i64 a0_1], .agg #[.int .i64 a1_0, .int .i64 a1_1]] ?_
     with_reducible refine (vec_Max.calls a0_0 a0_1 a1_0 a1_1 t304 t305 _ A5.out).mono ?_
     rintro e w15 ⟨rfl, hb⟩
     refine ⟨_, rfl, ?_⟩
     replace BK299 := XPrint.A0 (XPrint.ab BK299.out hb)
     replace BK300 := XPrint.A0 (XPrint.ab BK300.out hb)
     replace BK301 := XPrint.A0 (XPrint.ab BK301.out hb)
     replace BK306 := XPrint.A0 (XPrint.ab BK306.out hb)
     replace BK307 := XPrint.A0 (XPrint.ab BK307.out hb)
     replace HB := XPrint.A0 (below_step (by exact XPrint.bz HB.out) hb)
     (try clear hb)
     (try clear hb2)
     (try clear hk)
     (try clear hi)
     refine hK.out _ _ ⟨(blk_cell BK299.out 0).trans rfl, (blk_cell BK299.out 1).trans rfl, (blk_cell BK300.out 0).trans rfl, (blk_cell BK300.out 1).trans rfl⟩ (fun hHeld => ?_)
     clear hK K
     refine norm_ (a' := ?_) ?_ ?_
     rotate_left
     ·show Act.put _ (some 14) _ = _
      simp only [XPrint.pw, i64_w, i32_w]
      rfl
     exact norm_ (by first | (simp only [putAll, XPrint.pw]; done) | (simp only [putAll, XPrint.pw]; rfl)) (hJ2_5_6_7 (gb306, gb307) _ ⟨hHeld, (XPrint.ak BK299.out), (XPrint.ak BK300.out), (XPrint.ak BK301.out), (XPrint.ak BK306.out), (XPrint.ak BK307.out), GW306.out, GE306.out, NB299_306.out, NB306_299.out, NB300_306.out, NB306_300.out, NB301_306.out, NB306_301.out, NB307_306.out, NB306_307.out, GW307.out, GE307.out, NB299_307.out, NB307_299.out, NB300_307.out, NB307_300.out, NB301_307.out, NB307_301.out, (by exact XPrint.bz HB.out)⟩)
   ·skip
    rintro gb307 w14 ⟨hS_, h0_, h1_, h2_, h3_, h4_, h5_, h6_, h7_, h8_, h9_, h10_, h11_, h12_⟩
    have BK307 := XPrint.A0 h3_
    have GW307 := XPrint.A0 h4_
    have GE307 := XPrint.A0 h5_
    have NB299_307 := XPrint.A1 h6_
    have NB307_299 := XPrint.A1 h7_
    have NB300_307 := XPrint.A1 h8_
    have NB307_300 := XPrint.A1 h9_
    have NB301_307 := XPrint.A1 h10_
    have NB307_301 := XPrint.A1 h11_
    replace BK299 := XPrint.A0 h0_
    replace BK300 := XPrint.A0 h1_
    replace BK301 := XPrint.A0 h2_
    replace HB := XPrint.A0 h12_
    clear h0_ h1_ h2_ h3_ h4_ h5_ h6_ h7_ h8_ h9_ h10_ h11_ h12_
    have hHeld : w14.cell? ⟨gb299, 0, none⟩ = some (.int .i64 a0_0) ∧ w14.cell? ⟨gb299, 1, none⟩ = some (.int .i64 a0_1) ∧ w14.cell? ⟨gb300, 0, none⟩ = some (.int .i64 a1_0) ∧ w14.cell? ⟨gb300, 1, none⟩ = some (.int .i64 a1_1) := hS_
    refine norm_ (a' := ?_) ?_ ?_
    rotate_left
    ·simp only [putAll, XPrint.pw]
     rfl
    refine one_ (i := 6) (N := some 7) (XPrint.L 10 255) rfl rfl (one_of HT_.out (by kernel_rfl)) (by decide) (fun K hK => ?_)
    refine box_step ?hg (N := 7) ?hd (cs := #[.int .i64 0, .int .i64 0]) (t := 23) ?hr ?_; (case hd => rfl); (case hg => rfl); (case hr => first | (go_simp; done) | (go_simp; rfl))
    intro gb306 hg w15 hbox hb
    have BK306 := XPrint.A0 (hbox)
    have GW306 := XPrint.A0 (XPrint.gz HB.out hg)
    have GE306 := XPrint.A0 (XPrint.gz HB.out hg)
    have NB299_306 := XPrint.A1 (by rw [hg]; exact Nat.ne_of_lt (XPrint.al BK299.out) : gb299 ≠ gb306)
    have NB306_299 := XPrint.A1 (by rw [hg]; exact Nat.ne_of_gt (XPrint.al BK299.out) : gb306 ≠ gb299)
    have NB300_306 := XPrint.A1 (by rw [hg]; exact Nat.ne_of_lt (XPrint.al BK300.out) : gb300 ≠ gb306)
    have NB306_300 := XPrint.A1 (by rw [hg]; exact Nat.ne_of_gt (XPrint.al BK300.out) : gb306 ≠ gb300)
    have NB301_306 := XPrint.A1 (by rw [hg]; exact Nat.ne_of_lt (XPrint.al BK301.out) : gb301 ≠ gb306)
    have NB306_301 := XPrint.A1 (by rw [hg]; exact Nat.ne_of_gt (XPrint.al BK301.out) : gb306 ≠ gb301)
    have NB307_306 := XPrint.A1 (by rw [hg]; exact Nat.ne_of_lt (XPrint.al BK307.out) : gb307 ≠ gb306)
    have NB306_307 := XPrint.A1 (by rw [hg]; exact Nat.ne_of_gt (XPrint.al BK307.out) : gb306 ≠ gb307)
    replace BK299 := XPrint.A0 (XPrint.ab BK299.out hb)
    replace BK300 := XPrint.A0 (XPrint.ab BK300.out hb)
    replace BK301 := XPrint.A0 (XPrint.ab BK301.out hb)
    replace BK307 := XPrint.A0 (XPrint.ab BK307.out hb)
    replace HB := XPrint.A0 (below_step (by exact XPrint.bz HB.out) hb)
    clear hb hbox hg
    refine hK.out _ _ ⟨(blk_cell BK299.out 0).trans rfl, (blk_cell BK299.out 1).trans rfl, (blk_cell BK300.out 0).trans rfl, (blk_cell BK300.out 1).trans rfl⟩ (fun hHeld => ?_)
    clear hK K
    refine norm_ (a' := ?_) ?_ ?_
    rotate_left
    ·show Act.put _ (some 7) _ = _
     simp only [XPrint.pw, i64_w, i32_w]
     rfl
    exact norm_ (by first | (simp only [putAll, XPrint.pw]; done) | (simp only [putAll, XPrint.pw]; rfl)) (hJ2_5_6_7 (gb306, gb307) _ ⟨hHeld, (XPrint.ak BK299.out), (XPrint.ak BK300.out), (XPrint.ak BK301.out), (XPrint.ak BK306.out), (XPrint.ak BK307.out), GW306.out, GE306.out, NB299_306.out, NB306_299.out, NB300_306.out, NB306_300.out, NB301_306.out, NB306_301.out, NB307_306.out, NB306_307.out, GW307.out, GE307.out, NB299_307.out, NB307_299.out, NB300_307.out, NB307_300.out, NB301_307.out, NB307_301.out, (by exact XPrint.bz HB.out)⟩)
  ·skip
   rintro gb306 w14 ⟨hS_, h0_, h1_, h2_, h3_, h4_, h5_, h6_, h7_, h8_, h9_, h10_, h11_, h12_⟩
   have BK306 := XPrint.A0 h3_
   have GW306 := XPrint.A0 h4_
   have GE306 := XPrint.A0 h5_
   have NB299_306 := XPrint.A1 h6_
   have NB306_299 := XPrint.A1 h7_
   have NB300_306 := XPrint.A1 h8_
   have NB306_300 := XPrint.A1 h9_
   have NB301_306 := XPrint.A1 h10_
   have NB306_301 := XPrint.A1 h11_
   replace BK299 := XPrint.A0 h0_
   replace BK300 := XPrint.A0 h1_
   replace BK301 := XPrint.A0 h2_
   replace HB := XPrint.A0 h12_
   clear h0_ h1_ h2_ h3_ h4_ h5_ h6_ h7_ h8_ h9_ h10_ h11_ h12_
   have hHeld : w14.cell? ⟨gb299, 0, none⟩ = some (.int .i64 a0_0) ∧ w14.cell? ⟨gb299, 1, none⟩ = some (.int .i64 a0_1) ∧ w14.cell? ⟨gb300, 0, none⟩ = some (.int .i64 a1_0) ∧ w14.cell? ⟨gb300, 1, none⟩ = some (.int .i64 a1_1) := hS_
   refine norm_ (a' := ?_) ?_ ?_
   rotate_left
   ·simp only [putAll, XPrint.pw]
    rfl
   refine one_ (i := 7) (N := some 8) (XPrint.L 10 255) rfl rfl (one_of HT_.out (by kernel_rfl)) (by decide) (fun K hK => ?_)
   refine box_step ?hg (N := 8) ?hd (cs := #[.int .i64 0, .int .i64 0]) (t := 23) ?hr ?_; (case hd => rfl); (case hg => rfl); (case hr => first | (go_simp; done) | (go_simp; rfl))
   intro gb307 hg w15 hbox hb
   have BK307 := XPrint.A0 (hbox)
   have GW307 := XPrint.A0 (XPrint.gz HB.out hg)
   have GE307 := XPrint.A0 (XPrint.gz HB.out hg)
   have NB299_307 := XPrint.A1 (by rw [hg]; exact Nat.ne_of_lt (XPrint.al BK299.out) : gb299 ≠ gb307)
   have NB307_299 := XPrint.A1 (by rw [hg]; exact Nat.ne_of_gt (XPrint.al BK299.out) : gb307 ≠ gb299)
   have NB300_307 := XPrint.A1 (by rw [hg]; exact Nat.ne_of_lt (XPrint.al BK300.out) : gb300 ≠ gb307)
   have NB307_300 := XPrint.A1 (by rw [hg]; exact Nat.ne_of_gt (XPrint.al BK300.out) : gb307 ≠ gb300)
   have NB301_307 := XPrint.A1 (by rw [hg]; exact Nat.ne_of_lt (XPrint.al BK301.out) : gb301 ≠ gb307)
   have NB307_301 := XPrint.A1 (by rw [hg]; exact Nat.ne_of_gt (XPrint.al BK301.out) : gb307 ≠ gb301)
   have NB306_307 := XPrint.A1 (by rw [hg]; exact Nat.ne_of_lt (XPrint.al BK306.out) : gb306 ≠ gb307)
   have NB307_306 := XPrint.A1 (by rw [hg]; exact Nat.ne_of_gt (XPrint.al BK306.out) : gb307 ≠ gb306)
   replace BK299 := XPrint.A0 (XPrint.ab BK299.out hb)
   replace BK300 := XPrint.A0 (XPrint.ab BK300.out hb)
   replace BK301 := XPrint.A0 (XPrint.ab BK301.out hb)
   replace BK306 := XPrint.A0 (XPrint.ab BK306.out hb)
   replace HB := XPrint.A0 (below_step (by exact XPrint.bz HB.out) hb)
   clear hb hbox hg
   refine hK.out _ _ ⟨(blk_cell BK299.out 0).trans rfl, (blk_cell BK299.out 1).trans rfl, (blk_cell BK300.out 0).trans rfl, (blk_cell BK300.out 1).trans rfl⟩ (fun hHeld => ?_)
   clear hK K
   refine norm_ (a' := ?_) ?_ ?_
   rotate_left
   ·show Act.put _ (some 8) _ = _
    simp only [XPrint.pw, i64_w, i32_w]
    rfl
   exact norm_ (by first | (simp only [putAll, XPrint.pw]; done) | (simp only [putAll, XPrint.pw]; rfl)) (hJ2_5_6_7 (gb306, gb307) _ ⟨hHeld, (XPrint.ak BK299.out), (XPrint.ak BK300.out), (XPrint.ak BK301.out), (XPrint.ak BK306.out), (XPrint.ak BK307.out), GW306.out, GE306.out, NB299_306.out, NB306_299.out, NB300_306.out, NB306_300.out, NB301_306.out, NB306_301.out, NB307_306.out, NB306_307.out, GW307.out, GE307.out, NB299_307.out, NB307_299.out, NB300_307.out, NB307_300.out, NB301_307.out, NB307_301.out, (by exact XPrint.bz HB.out)⟩)
 rintro ⟨gb306, gb307⟩ w15 ⟨hS_, h0_, h1_, h2_, h3_, h4_, h5_, h6_, h7_, h8_, h9_, h10_, h11_, h12_, h13_, h14_, h15_, h16_, h17_, h18_, h19_, h20_, h21_, h22_, h23_⟩
 have BK306 := XPrint.A0 h3_
 have BK307 := XPrint.A0 h4_
 have GW306 := XPrint.A0 h5_
 have GE306 := XPrint.A0 h6_
 have NB299_306 := XPrint.A1 h7_
 have NB306_299 := XPrint.A1 h8_
 have NB300_306 := XPrint.A1 h9_
 have NB306_300 := XPrint.A1 h10_
 have NB301_306 := XPrint.A1 h11_
 have NB306_301 := XPrint.A1 h12_
 have NB307_306 := XPrint.A1 h13_
 have NB306_307 := XPrint.A1 h14_
 have GW307 := XPrint.A0 h15_
 have GE307 := XPrint.A0 h16_
 have NB299_307 := XPrint.A1 h17_
 have NB307_299 := XPrint.A1 h18_
 have NB300_307 := XPrint.A1 h19_
 have NB307_300 := XPrint.A1 h20_
 have NB301_307 := XPrint.A1 h21_
 have NB307_301 := XPrint.A1 h22_
 replace BK299 := XPrint.A0 h0_
 replace BK300 := XPrint.A0 h1_
 replace BK301 := XPrint.A0 h2_
 replace HB := XPrint.A0 h23_
 clear h0_ h1_ h2_ h3_ h4_ h5_ h6_ h7_ h8_ h9_ h10_ h11_ h12_ h13_ h14_ h15_ h16_ h17_ h18_ h19_ h20_ h21_ h22_ h23_
 have hHeld : w15.cell? ⟨gb299, 0, none⟩ = some (.int .i64 a0_0) ∧ w15.cell? ⟨gb299, 1, none⟩ = some (.int .i64 a0_1) ∧ w15.cell? ⟨gb300, 0, none⟩ = some (.int .i64 a1_0) ∧ w15.cell? ⟨gb300, 1, none⟩ = some (.int .i64 a1_1) := hS_
 refine norm_ (a' := ?_) ?_ ?_
 rotate_left
 ·simp only [putAll, XPrint.pw]
  rfl
 refine one_ (i := 8) (N := none) (XPrint.L 10 511) rfl rfl (one_of HT_.out (by kernel_rfl)) (by decide) (fun K hK => ?_)
 have hs16 : w15.cell? ⟨gb306, 0, none⟩ = some (.int .i64 0) := (blk_cell BK306.out 0).trans rfl
 have hfs16 := blk_frozen BK306.out 0
 have hns16_0 := NB299_306.out
 have hns16_1 := NB300_306.out
 have hns16_2 := NB301_306.out
 have hns16_4 := NB307_306.out
 have hms16_0 := NB306_299.out
 have hms16_1 := NB306_300.out
 have hms16_2 := NB306_301.out
 have hms16_4 := NB306_307.out
 have hs17 : w15.cell? ⟨gb306, 1, none⟩ = some (.int .i64 0) := (blk_cell BK306.out 1).trans rfl
 have hfs17 := blk_frozen BK306.out 1
 have hns17_0 := NB299_306.out
 have hns17_1 := NB300_306.out
 have hns17_2 := NB301_306.out
 have hns17_4 := NB307_306.out
 have hms17_0 := NB306_299.out
 have hms17_1 := NB306_300.out
 have hms17_2 := NB306_301.out
 have hms17_4 := NB306_307.out
 refine skip_ (w1 := ?_) (by rfl) rfl ?_ ?_
 rotate_left
 ·go_simp
  rfl
 refine hK.out _ _ ⟨((cell_far (p := ⟨gb306, _, none⟩) NB299_306.out _).trans (((cell_far (p := ⟨gb306, _, none⟩) NB299_306.out _).trans (hHeld.1)))), ((cell_far (p := ⟨gb306, _, none⟩) NB299_306.out _).trans (((cell_far (p := ⟨gb306, _, none⟩) NB299_306.out _).trans (hHeld.2.1)))), ((cell_far (p := ⟨gb306, _, none⟩) NB300_306.out _).trans (((cell_far (p := ⟨gb306, _, none⟩) NB300_306.out _).trans (hHeld.2.2.1)))), ((cell_far (p := ⟨gb306, _, none⟩) NB300_306.out _).trans (((cell_far (p := ⟨gb306, _, none⟩) NB300_306.out _).trans (hHeld.2.2.2))))⟩ (fun hHeld => ?_)
 clear hK K
 refine one_ (i := 9) (N := none) (XPrint.L 10 1023) rfl rfl (one_of HT_.out (by kernel_rfl)) (by decide) (fun K hK => ?_)
 have hs18 : w15.cell? ⟨gb307, 0, none⟩ = some (.int .i64 0) := (blk_cell BK307.out 0).trans rfl
 have hfs18 := blk_frozen BK307.out 0
 have hns18_0 := NB299_307.out
 have hns18_1 := NB300_307.out
 have hns18_2 := NB301_307.out
 have hns18_3 := NB306_307.out
 have hms18_0 := NB307_299.out
 have hms18_1 := NB307_300.out
 have hms18_2 := NB307_301.out
 have hms18_3 := NB307_306.out
 have hs19 : w15.cell? ⟨gb307, 1, none⟩ = some (.int .i64 0) := (blk_cell BK307.out 1).trans rfl
 have hfs19 := blk_frozen BK307.out 1
 have hns19_0 := NB299_307.out
 have hns19_1 := NB300_307.out
 have hns19_2 := NB301_307.out
 have hns19_3 := NB306_307.out
 have hms19_0 := NB307_299.out
 have hms19_1 := NB307_300.out
 have hms19_2 := NB307_301.out
 have hms19_3 := NB307_306.out
 refine skip_ (w1 := ?_) (by rfl) rfl ?_ ?_
 rotate_left
 ·go_simp
  rfl
 refine hK.out _ _ ⟨((cell_far (p := ⟨gb307, _, none⟩) NB299_307.out _).trans (((cell_far (p := ⟨gb307, _, none⟩) NB299_307.out _).trans (hHeld.1)))), ((cell_far (p := ⟨gb307, _, none⟩) NB299_307.out _).trans (((cell_far (p := ⟨gb307, _, none⟩) NB299_307.out _).trans (hHeld.2.1)))), ((cell_far (p := ⟨gb307, _, none⟩) NB300_307.out _).trans (((cell_far (p := ⟨gb307, _, none⟩) NB300_307.out _).trans (hHeld.2.2.1)))), ((cell_far (p := ⟨gb307, _, none⟩) NB300_307.out _).trans (((cell_far (p := ⟨gb307, _, none⟩) NB300_307.out _).trans (hHeld.2.2.2))))⟩ (fun hHeld => ?_)
 clear hK K
 refine done_ (done_of HT_.out (by kernel_rfl)) ?_
 go_upto_region 2 with (fail)
 go_cut [49] (fun v49 wc => ∃ (kq : Nat) (x49_5 : Bool), v49 = .bool x49_5 ∧ Aside0 (liverylaw01_VecOrder.j0 kq x49_5 a0_0 a0_1 a1_0 a1_1 a2_0 a2_1 t302 t303 t304 t305 = some r) ∧ Aside0 (kq ≤ k) ∧ Aside0 (wc.heap[gb299]? = some (.cells #[.int .i64 a0_0, .int .i64 a0_1] 23 (0, 0))) ∧ Aside0 (wc.heap[gb300]? = some (.cells #[.int .i64 a1_0, .int .i64 a1_1] 23 (0, 0))) ∧ Aside0 (wc.heap[gb301]? = some (.cells #[.int .i64 a2_0, .int .i64 a2_1] 23 (0, 0))) ∧ Aside0 (wc.heap[gb306]? = some (.cells #[.int .i64 t302, .int .i64 t303] 23 (0, 0))) ∧ Aside0 (wc.heap[gb307]? = some (.cells #[.int .i64 t304, .int .i64 t305] 23 (0, 0))) ∧ Aside0 (Below w.heap.size w wc))
 case first =>
  have H := HC6.out
  clear HC6
  replace H := Option.bind_eq_some_iff.mp H
  obtain ⟨t308, A200, H⟩ := H
  try set_option simprocs false in dsimp only at H
  have A20 := XPrint.A0 A200
  clear A200
  by_cases c21 : t308 = true
  ·subst c21
   have H1 := H; rw [if_pos rfl] at H1
   clear H
   have H := H1
   clear H1
   replace H := Option.bind_eq_some_iff.mp H
   obtain ⟨t309, A220, H⟩ := H
   try set_option simprocs false in dsimp only at H
   have A22 := XPrint.A0 A220
   clear A220
   by_cases c23 : t309 = true
   ·subst c23
    have H1 := H; rw [if_pos rfl] at H1
    clear H
    have H := H1
    clear H1
    replace H := Option.bind_eq_some_iff.mp H
    obtain ⟨t310, A240, H⟩ := H
    try set_option simprocs false in dsimp only at H
    have A24 := XPrint.A0 A240
    clear A240
    by_cases c25 : t310 = true
    ·subst c25
     have H1 := H; rw [if_pos rfl] at H1
     clear H
     have H := H1
     clear H1
     by_cases c26 : (!(a0_0 == a1_0) || (!(a0_1 == a1_1))) = true
     ·rw [if_pos c26] at H
      exact absurd H (by simp)
     ·rw [if_neg c26] at H
      have c26b0 : (!(a0_0 == a1_0) || (!(a0_1 == a1_1))) = false := by simpa using c26
      clear c26
      (first | rw [c26b0] | (simp only [i64_w, i32_w]; rw [c26b0]) | skip)
      replace H := Option.bind_eq_some_iff.mp H
      obtain ⟨t311, A270, H⟩ := H
      try set_option simprocs false in dsimp only at H
      have A27 := XPrint.A0 A270
      clear A270
      by_cases c28 : t311 = true
      ·subst c28
       have H1 := H; rw [if_pos rfl] at H1
       clear H
       have H := H1
       clear H1
       replace H := Option.bind_eq_some_iff.mp H
       obtain ⟨t312, A290, H⟩ := H
       try set_option simprocs false in dsimp only at H
       have A29 := XPrint.A0 A290
       clear A290
       by_cases c30 : t312 = true
       ·subst c30
        have H1 := H; rw [if_pos rfl] at H1
        clear H
        have H := H1
        clear H1
        replace H := Option.bind_eq_some_iff.mp H
        obtain ⟨t313, A310, H⟩ := H
        try set_option simprocs false in dsimp only at H
        have A31 := XPrint.A0 A310
        clear A310
        have H' := XPrint.A0 H
        clear H
        have hnb32 := NB299_300.out
        have hnc32 := NB300_299.out
        have hnb33 := NB299_301.out
        have hnc33 := NB301_299.out
        have hnb34 := NB299_306.out
        have hnc34 := NB306_299.out
        have hnb35 := NB299_307.out
        have hnc35 := NB307_299.out
        have hcz36_0 : w15.cell? ⟨gb299, 0, none⟩ = some (.int .i64 a0_0) := (blk_cell BK299.out 0).trans rfl
        have hcz36_1 : w15.cell? ⟨gb299, 1, none⟩ = some (.int .i64 a0_1) := (blk_cell BK299.out 1).trans rfl
        have hfz36_0 := blk_frozen BK299.out 0
        have hfz36_1 := blk_frozen BK299.out 1
        go_wp2_with (first | ((with_reducible refine gate_callee (f := 26) rfl ?_); refine XPrint.gl (some 17) Try.func26 #[.agg #[.int .i64 a0_0, .int .i64 a0_1], .agg #[.int .i64 a0_0, .int .i64 a0_1]] ?_; (with_reducible refine (vec_LE.calls a0_0 a0_1 a0_0 a0_1 true _ A20.out).mono ?_); rintro e w37 ⟨rfl, hb⟩; refine ⟨_, rfl, ?_⟩; replace BK299 := XPrint.A0 (XPrint.ab BK299.out hb); replace BK300 := XPrint.A0 (XPrint.ab BK300.out hb); replace BK301 := XPrint.A0 (XPrint.ab BK301.out hb); replace BK306 := XPrint.A0 (blk_below (g := gb306) (o := .cells #[.int .i64 t302, .int .i64 t303] 23 (0, 0)) (by (repeat with_reducible first | refine XPrint.d1 ?_ | refine XPrint.d2 ?_ _ | refine XPrint.d3 ?_ _); refine blk_far ?_ NB306_307.out _; (repeat with_reducible first | refine XPrint.d1 ?_ | refine XPrint.d2 ?_ _ | refine XPrint.d3 ?_ _); refine blk_far ?_ NB306_307.out _; (repeat with_reducible first | refine XPrint.d1 ?_ | refine XPrint.d2 ?_ _ | refine XPrint.d3 ?_ _); refine blk_put (cs := #[.int .i64 t302, .int .i64 0]) ?_ 1 _ rfl; (repeat with_reducible first | refine XPrint.d1 ?_ | refine XPrint.d2 ?_ _ | refine XPrint.d3 ?_ _); refine blk_put (cs := #[.int .i64 0, .int .i64 0]) ?_ 0 _ rfl; (repeat with_reducible first | refine XPrint.d1 ?_ | refine XPrint.d2 ?_ _ | refine XPrint.d3 ?_ _); exact BK306.out) hb); replace BK307 := XPrint.A0 (blk_below (g := gb307) (o := .cells #[.int .i64 t304, .int .i64 t305] 23 (0, 0)) (by (repeat with_reducible first | refine XPrint.d1 ?_ | refine XPrint.d2 ?_ _ | refine XPrint.d3 ?_ _); refine blk_put (cs := #[.int .i64 t304, .int .i64 0]) ?_ 1 _ rfl; (repeat with_reducible first | refine XPrint.d1 ?_ | refine XPrint.d2 ?_ _ | refine XPrint.d3 ?_ _); refine blk_put (cs := #[.int .i64 0, .int .i64 0]) ?_ 0 _ rfl; (repeat with_reducible first | refine XPrint.d1 ?_ | refine XPrint.d2 ?_ _ | refine XPrint.d3 ?_ _); refine blk_far ?_ NB307_306.out _; (repeat with_reducible first | refine XPrint.d1 ?_ | refine XPrint.d2 ?_ _ | refine XPrint.d3 ?_ _); refine blk_far ?_ NB307_306.out _; (repeat with_reducible first | refine XPrint.d1 ?_ | refine XPrint.d2 ?_ _ | refine XPrint.d3 ?_ _); exact BK307.out) hb); replace HB := XPrint.A0 (below_step (by repeat (first | (with_reducible first | exact HB.out | apply below_alloc | apply pw_below_drewN | apply below_drew1 | refine below_set ?_ GE299.out | refine below_set ?_ GE300.out | refine below_set ?_ GE301.out | refine below_set ?_ GE306.out | refine below_set ?_ GE307.out) | exact HB.out)) hb); (try clear hb); (try clear hb2); (try clear hk); (try clear hi); have hcz38_0 : w37.cell? ⟨gb299, 0, none⟩ = some (.int .i64 a0_0) := (blk_cell BK299.out 0).trans rfl; have hcz38_1 : w37.cell? ⟨gb299, 1, none⟩ = some (.int .i64 a0_1) := (blk_cell BK299.out 1).trans rfl; have hfz38_0 := blk_frozen BK299.out 0; have hfz38_1 := blk_frozen BK299.out 1; have hnb39 := NB300_301.out; have hnc39 := NB301_300.out; have hnb40 := NB300_306.out; have hnc40 := NB306_300.out; have hnb41 := NB300_307.out; have hnc41 := NB307_300.out; have hcz42_0 : w37.cell? ⟨gb300, 0, none⟩ = some (.int .i64 a1_0) := (blk_cell BK300.out 0).trans rfl; have hcz42_1 : w37.cell? ⟨gb300, 1, none⟩ = some (.int .i64 a1_1) := (blk_cell BK300.out 1).trans rfl; have hfz42_0 := blk_frozen BK300.out 0; have hfz42_1 := blk_frozen BK300.out 1) | (go_at_call 26; (with_reducible refine (vec_LE.calls a0_0 a0_1 a1_0 a1_1 true _ A22.out).mono ?_); rintro e w43 ⟨rfl, hb⟩; replace BK299 := XPrint.A0 (XPrint.ab BK299.out hb); replace BK300 := XPrint.A0 (XPrint.ab BK300.out hb); replace BK301 := XPrint.A0 (XPrint.ab BK301.out hb); replace BK306 := XPrint.A0 (XPrint.ab BK306.out hb); replace BK307 := XPrint.A0 (XPrint.ab BK307.out hb); replace HB := XPrint.A0 (below_step (by exact XPrint.bz HB.out) hb); (try clear hb); (try clear hb2); (try clear hk); (try clear hi); have hcz44_0 : w43.cell? ⟨gb300, 0, none⟩ = some (.int .i64 a1_0) := (blk_cell BK300.out 0).trans rfl; have hcz44_1 : w43.cell? ⟨gb300, 1, none⟩ = some (.int .i64 a1_1) := (blk_cell BK300.out 1).trans rfl; have hfz44_0 := blk_frozen BK300.out 0; have hfz44_1 := blk_frozen BK300.out 1; have hcz45_0 : w43.cell? ⟨gb299, 0, none⟩ = some (.int .i64 a0_0) := (blk_cell BK299.out 0).trans rfl; have hcz45_1 : w43.cell? ⟨gb299, 1, none⟩ = some (.int .i64 a0_1) := (blk_cell BK299.out 1).trans rfl; have hfz45_0 := blk_frozen BK299.out 0; have hfz45_1 := blk_frozen BK299.out 1; have hcz50_0 : w43.cell? ⟨gb300, 0, none⟩ = some (.int .i64 a1_0) := (blk_cell BK300.out 0).trans rfl; have hcz50_1 : w43.cell? ⟨gb300, 1, none⟩ = some (.int .i64 a1_1) := (blk_cell BK300.out 1).trans rfl; have hfz50_0 := blk_frozen BK300.out 0; have hfz50_1 := blk_frozen BK300.out 1; have hnb51 := NB301_306.out; have hnc51 := NB306_301.out; have hnb52 := NB301_307.out; have hnc52 := NB307_301.out; have hcz53_0 : w43.cell? ⟨gb301, 0, none⟩ = some (.int .i64 a2_0) := (blk_cell BK301.out 0).trans rfl; have hcz53_1 : w43.cell? ⟨gb301, 1, none⟩ = some (.int .i64 a2_1) := (blk_cell BK301.out 1).trans rfl; have hfz53_0 := blk_frozen BK301.out 0; have hfz53_1 := blk_frozen BK301.out 1) | (go_at_call 26; (with_reducible refine (vec_LE.calls a1_0 a1_1 a0_0 a0_1 true _ A24.out).mono ?_); rintro e w46 ⟨rfl, hb⟩; replace BK299 := XPrint.A0 (XPrint.ab BK299.out hb); replace BK300 := XPrint.A0 (XPrint.ab BK300.out hb); replace BK301 := XPrint.A0 (XPrint.ab BK301.out hb); replace BK306 := XPrint.A0 (XPrint.ab BK306.out hb); replace BK307 := XPrint.A0 (XPrint.ab BK307.out hb); replace HB := XPrint.A0 (below_step (by exact XPrint.bz HB.out) hb); (try clear hb); (try clear hb2); (try clear hk); (try clear hi); have hcz47_0 : w46.cell? ⟨gb299, 0, none⟩ = some (.int .i64 a0_0) := (blk_cell BK299.out 0).trans rfl; have hcz47_1 : w46.cell? ⟨gb299, 1, none⟩ = some (.int .i64 a0_1) := (blk_cell BK299.out 1).trans rfl; have hfz47_0 := blk_frozen BK299.out 0; have hfz47_1 := blk_frozen BK299.out 1; have hcz48_0 : w46.cell? ⟨gb300, 0, none⟩ = some (.int .i64 a1_0) := (blk_cell BK300.out 0).trans rfl; have hcz48_1 : w46.cell? ⟨gb300, 1, none⟩ = some (.int .i64 a1_1) := (blk_cell BK300.out 1).trans rfl; have hfz48_0 := blk_frozen BK300.out 0; have hfz48_1 := blk_frozen BK300.out 1) | (go_at_call 26; (with_reducible refine (vec_LE.calls a0_0 a0_1 a1_0 a1_1 true _ A27.out).mono ?_); rintro e w49 ⟨rfl, hb⟩; replace BK299 := XPrint.A0 (XPrint.ab BK299.out hb); replace BK300 := XPrint.A0 (XPrint.ab BK300.out hb); replace BK301 := XPrint.A0 (XPrint.ab BK301.out hb); replace BK306 := XPrint.A0 (XPrint.ab BK306.out hb); replace BK307 := XPrint.A0 (XPrint.ab BK307.out hb); replace HB := XPrint.A0 (below_step (by exact XPrint.bz HB.out) hb); (try clear hb); (try clear hb2); (try clear hk); (try clear hi); have hcz50_0 : w49.cell? ⟨gb300, 0, none⟩ = some (.int .i64 a1_0) := (blk_cell BK300.out 0).trans rfl; have hcz50_1 : w49.cell? ⟨gb300, 1, none⟩ = some (.int .i64 a1_1) := (blk_cell BK300.out 1).trans rfl; have hfz50_0 := blk_frozen BK300.out 0; have hfz50_1 := blk_frozen BK300.out 1; have hnb51 := NB301_306.out; have hnc51 := NB306_301.out; have hnb52 := NB301_307.out; have hnc52 := NB307_301.out; have hcz53_0 : w49.cell? ⟨gb301, 0, none⟩ = some (.int .i64 a2_0) := (blk_cell BK301.out 0).trans rfl; have hcz53_1 : w49.cell? ⟨gb301, 1, none⟩ = some (.int .i64 a2_1) := (blk_cell BK301.out 1).trans rfl; have hfz53_0 := blk_frozen BK301.out 0; have hfz53_1 := blk_frozen BK301.out 1) | (go_at_call 26; (with_reducible refine (vec_LE.calls a1_0 a1_1 a2_0 a2_1 true _ A29.out).mono ?_); rintro e w54 ⟨rfl, hb⟩; replace BK299 := XPrint.A0 (XPrint.ab BK299.out hb); replace BK300 := XPrint.A0 (XPrint.ab BK300.out hb); replace BK301 := XPrint.A0 (XPrint.ab BK301.out hb); replace BK306 := XPrint.A0 (XPrint.ab BK306.out hb); replace BK307 := XPrint.A0 (XPrint.ab BK307.out hb); replace HB := XPrint.A0 (below_step (by exact XPrint.bz HB.out) hb); (try clear hb); (try clear hb2); (try clear hk); (try clear hi); have hcz55_0 : w54.cell? ⟨gb299, 0, none⟩ = some (.int .i64 a0_0) := (blk_cell BK299.out 0).trans rfl; have hcz55_1 : w54.cell? ⟨gb299, 1, none⟩ = some (.int .i64 a0_1) := (blk_cell BK299.out 1).trans rfl; have hfz55_0 := blk_frozen BK299.out 0; have hfz55_1 := blk_frozen BK299.out 1; have hcz56_0 : w54.cell? ⟨gb301, 0, none⟩ = some (.int .i64 a2_0) := (blk_cell BK301.out 0).trans rfl; have hcz56_1 : w54.cell? ⟨gb301, 1, none⟩ = some (.int .i64 a2_1) := (blk_cell BK301.out 1).trans rfl; have hfz56_0 := blk_frozen BK301.out 0; have hfz56_1 := blk_frozen BK301.out 1) | (go_at_call 26; (with_reducible refine (vec_LE.calls a0_0 a0_1 a2_0 a2_1 t313 _ A31.out).mono ?_); rintro e w57 ⟨rfl, hb⟩; replace BK299 := XPrint.A0 (XPrint.ab BK299.out hb); replace BK300 := XPrint.A0 (XPrint.ab BK300.out hb); replace BK301 := XPrint.A0 (XPrint.ab BK301.out hb); replace BK306 := XPrint.A0 (XPrint.ab BK306.out hb); replace BK307 := XPrint.A0 (XPrint.ab BK307.out hb); replace HB := XPrint.A0 (below_step (by exact XPrint.bz HB.out) hb); (try clear hb); (try clear hb2); (try clear hk); (try clear hi)))
        go_meet
        case rel => exact ⟨_, (!t313), (by first | rfl | (simp; done) | (simp [*]; done)), H', ⟨by first | omega | exact Nat.le_refl _⟩, ⟨by (repeat with_reducible first | refine XPrint.d1 ?_ | refine XPrint.d2 ?_ _ | refine XPrint.d3 ?_ _); exact BK299.out⟩, ⟨by (repeat with_reducible first | refine XPrint.d1 ?_ | refine XPrint.d2 ?_ _ | refine XPrint.d3 ?_ _); exact BK300.out⟩, ⟨by (repeat with_reducible first | refine XPrint.d1 ?_ | refine XPrint.d2 ?_ _ | refine XPrint.d3 ?_ _); exact BK301.out⟩, ⟨by (repeat with_reducible first | refine XPrint.d1 ?_ | refine XPrint.d2 ?_ _ | refine XPrint.d3 ?_ _); exact BK306.out⟩, ⟨by (repeat with_reducible first | refine XPrint.d1 ?_ | refine XPrint.d2 ?_ _ | refine XPrint.d3 ?_ _); exact BK307.out⟩, ⟨by exact XPrint.bz HB.out⟩⟩
       ·replace c30 := Bool.eq_false_iff.mpr c30
        subst c30
        have H1 := H; rw [if_neg (show ¬ (false = true) by decide)] at H1
        clear H
        have H := H1
        clear H1
        have H' := XPrint.A0 H
        clear H
        have hnb58 := NB299_300.out
        have hnc58 := NB300_299.out
        have hnb59 := NB299_301.out
        have hnc59 := NB301_299.out
        have hnb60 := NB299_306.out
        have hnc60 := NB306_299.out
        have hnb61 := NB299_307.out
        have hnc61 := NB307_299.out
        have hcz62_0 : w15.cell? ⟨gb299, 0, none⟩ = some (.int .i64 a0_0) := (blk_cell BK299.out 0).trans rfl
        have hcz62_1 : w15.cell? ⟨gb299, 1, none⟩ = some (.int .i64 a0_1) := (blk_cell BK299.out 1).trans rfl
        have hfz62_0 := blk_frozen BK299.out 0
        have hfz62_1 := blk_frozen BK299.out 1
        go_wp2_with (first | ((with_reducible refine gate_callee (f := 26) rfl ?_); refine XPrint.gl (some 17) Try.func26 #[.agg #[.int .i64 a0_0, .int .i64 a0_1], .agg #[.int .i64 a0_0, .int .i64 a0_1]] ?_; (with_reducible refine (vec_LE.calls a0_0 a0_1 a0_0 a0_1 true _ A20.out).mono ?_); rintro e w63 ⟨rfl, hb⟩; refine ⟨_, rfl, ?_⟩; replace BK299 := XPrint.A0 (XPrint.ab BK299.out hb); replace BK300 := XPrint.A0 (XPrint.ab BK300.out hb); replace BK301 := XPrint.A0 (XPrint.ab BK301.out hb); replace BK306 := XPrint.A0 (blk_below (g := gb306) (o := .cells #[.int .i64 t302, .int .i64 t303] 23 (0, 0)) (by (repeat with_reducible first | refine XPrint.d1 ?_ | refine XPrint.d2 ?_ _ | refine XPrint.d3 ?_ _); refine blk_far ?_ NB306_307.out _; (repeat with_reducible first | refine XPrint.d1 ?_ | refine XPrint.d2 ?_ _ | refine XPrint.d3 ?_ _); refine blk_far ?_ NB306_307.out _; (repeat with_reducible first | refine XPrint.d1 ?_ | refine XPrint.d2 ?_ _ | refine XPrint.d3 ?_ _); refine blk_put (cs := #[.int .i64 t302, .int .i64 0]) ?_ 1 _ rfl; (repeat with_reducible first | refine XPrint.d1 ?_ | refine XPrint.d2 ?_ _ | refine XPrint.d3 ?_ _); refine blk_put (cs := #[.int .i64 0, .int .i64 0]) ?_ 0 _ rfl; (repeat with_reducible first | refine XPrint.d1 ?_ | refine XPrint.d2 ?_ _ | refine XPrint.d3 ?_ _); exact BK306.out) hb); replace BK307 := XPrint.A0 (blk_below (g := gb307) (o := .cells #[.int .i64 t304, .int .i64 t305] 23 (0, 0)) (by (repeat with_reducible first | refine XPrint.d1 ?_ | refine XPrint.d2 ?_ _ | refine XPrint.d3 ?_ _); refine blk_put (cs := #[.int .i64 t304, .int .i64 0]) ?_ 1 _ rfl; (repeat with_reducible first | refine XPrint.d1 ?_ | refine XPrint.d2 ?_ _ | refine XPrint.d3 ?_ _); refine blk_put (cs := #[.int .i64 0, .int .i64 0]) ?_ 0 _ rfl; (repeat with_reducible first | refine XPrint.d1 ?_ | refine XPrint.d2 ?_ _ | refine XPrint.d3 ?_ _); refine blk_far ?_ NB307_306.out _; (repeat with_reducible first | refine XPrint.d1 ?_ | refine XPrint.d2 ?_ _ | refine XPrint.d3 ?_ _); refine blk_far ?_ NB307_306.out _; (repeat with_reducible first | refine XPrint.d1 ?_ | refine XPrint.d2 ?_ _ | refine XPrint.d3 ?_ _); exact BK307.out) hb); replace HB := XPrint.A0 (below_step (by repeat (first | (with_reducible first | exact HB.out | apply below_alloc | apply pw_below_drewN | apply below_drew1 | refine below_set ?_ GE299.out | refine below_set ?_ GE300.out | refine below_set ?_ GE301.out | refine below_set ?_ GE306.out | refine below_set ?_ GE307.out) | exact HB.out)) hb); (try clear hb); (try clear hb2); (try clear hk); (try clear hi); have hcz64_0 : w63.cell? ⟨gb299, 0, none⟩ = some (.int .i64 a0_0) := (blk_cell BK299.out 0).trans rfl; have hcz64_1 : w63.cell? ⟨gb299, 1, none⟩ = some (.int .i64 a0_1) := (blk_cell BK299.out 1).trans rfl; have hfz64_0 := blk_frozen BK299.out 0; have hfz64_1 := blk_frozen BK299.out 1; have hnb65 := NB300_301.out; have hnc65 := NB301_300.out; have hnb66 := NB300_306.out; have hnc66 := NB306_300.out; have hnb67 := NB300_307.out; have hnc67 := NB307_300.out; have hcz68_0 : w63.cell? ⟨gb300, 0, none⟩ = some (.int .i64 a1_0) := (blk_cell BK300.out 0).trans rfl; have hcz68_1 : w63.cell? ⟨gb300, 1, none⟩ = some (.int .i64 a1_1) := (blk_cell BK300.out 1).trans rfl; have hfz68_0 := blk_frozen BK300.out 0; have hfz68_1 := blk_frozen BK300.out 1) | (go_at_call 26; (with_reducible refine (vec_LE.calls a0_0 a0_1 a1_0 a1_1 true _ A22.out).mono ?_); rintro e w69 ⟨rfl, hb⟩; replace BK299 := XPrint.A0 (XPrint.ab BK299.out hb); replace BK300 := XPrint.A0 (XPrint.ab BK300.out hb); replace BK301 := XPrint.A0 (XPrint.ab BK301.out hb); replace BK306 := XPrint.A0 (XPrint.ab BK306.out hb); replace BK307 := XPrint.A0 (XPrint.ab BK307.out hb); replace HB := XPrint.A0 (below_step (by exact XPrint.bz HB.out) hb); (try clear hb); (try clear hb2); (try clear hk); (try clear hi); have hcz70_0 : w69.cell? ⟨gb300, 0, none⟩ = some (.int .i64 a1_0) := (blk_cell BK300.out 0).trans rfl; have hcz70_1 : w69.cell? ⟨gb300, 1, none⟩ = some (.int .i64 a1_1) := (blk_cell BK300.out 1).trans rfl; have hfz70_0 := blk_frozen BK300.out 0; have hfz70_1 := blk_frozen BK300.out 1; have hcz71_0 : w69.cell? ⟨gb299, 0, none⟩ = some (.int .i64 a0_0) := (blk_cell BK299.out 0).trans rfl; have hcz71_1 : w69.cell? ⟨gb299, 1, none⟩ = some (.int .i64 a0_1) := (blk_cell BK299.out 1).trans rfl; have hfz71_0 := blk_frozen BK299.out 0; have hfz71_1 := blk_frozen BK299.out 1; have hcz76_0 : w69.cell? ⟨gb300, 0, none⟩ = some (.int .i64 a1_0) := (blk_cell BK300.out 0).trans rfl; have hcz76_1 : w69.cell? ⟨gb300, 1, none⟩ = some (.int .i64 a1_1) := (blk_cell BK300.out 1).trans rfl; have hfz76_0 := blk_frozen BK300.out 0; have hfz76_1 := blk_frozen BK300.out 1; have hnb77 := NB301_306.out; have hnc77 := NB306_301.out; have hnb78 := NB301_307.out; have hnc78 := NB307_301.out; have hcz79_0 : w69.cell? ⟨gb301, 0, none⟩ = some (.int .i64 a2_0) := (blk_cell BK301.out 0).trans rfl; have hcz79_1 : w69.cell? ⟨gb301, 1, none⟩ = some (.int .i64 a2_1) := (blk_cell BK301.out 1).trans rfl; have hfz79_0 := blk_frozen BK301.out 0; have hfz79_1 := blk_frozen BK301.out 1) | (go_at_call 26; (with_reducible refine (vec_LE.calls a1_0 a1_1 a0_0 a0_1 true _ A24.out).mono ?_); rintro e w72 ⟨rfl, hb⟩; replace BK299 := XPrint.A0 (XPrint.ab BK299.out hb); replace BK300 := XPrint.A0 (XPrint.ab BK300.out hb); replace BK301 := XPrint.A0 (XPrint.ab BK301.out hb); replace BK306 := XPrint.A0 (XPrint.ab BK306.out hb); replace BK307 := XPrint.A0 (XPrint.ab BK307.out hb); replace HB := XPrint.A0 (below_step (by exact XPrint.bz HB.out) hb); (try clear hb); (try clear hb2); (try clear hk); (try clear hi); have hcz73_0 : w72.cell? ⟨gb299, 0, none⟩ = some (.int .i64 a0_0) := (blk_cell BK299.out 0).trans rfl; have hcz73_1 : w72.cell? ⟨gb299, 1, none⟩ = some (.int .i64 a0_1) := (blk_cell BK299.out 1).trans rfl; have hfz73_0 := blk_frozen BK299.out 0; have hfz73_1 := blk_frozen BK299.out 1; have hcz74_0 : w72.cell? ⟨gb300, 0, none⟩ = some (.int .i64 a1_0) := (blk_cell BK300.out 0).trans rfl; have hcz74_1 : w72.cell? ⟨gb300, 1, none⟩ = some (.int .i64 a1_1) := (blk_cell BK300.out 1).trans rfl; have hfz74_0 := blk_frozen BK300.out 0; have hfz74_1 := blk_frozen BK300.out 1) | (go_at_call 26; (with_reducible refine (vec_LE.calls a0_0 a0_1 a1_0 a1_1 true _ A27.out).mono ?_); rintro e w75 ⟨rfl, hb⟩; replace BK299 := XPrint.A0 (XPrint.ab BK299.out hb); replace BK300 := XPrint.A0 (XPrint.ab BK300.out hb); replace BK301 := XPrint.A0 (XPrint.ab BK301.out hb); replace BK306 := XPrint.A0 (XPrint.ab BK306.out hb); replace BK307 := XPrint.A0 (XPrint.ab BK307.out hb); replace HB := XPrint.A0 (below_step (by exact XPrint.bz HB.out) hb); (try clear hb); (try clear hb2); (try clear hk); (try clear hi); have hcz76_0 : w75.cell? ⟨gb300, 0, none⟩ = some (.int .i64 a1_0) := (blk_cell BK300.out 0).trans rfl; have hcz76_1 : w75.cell? ⟨gb300, 1, none⟩ = some (.int .i64 a1_1) := (blk_cell BK300.out 1).trans rfl; have hfz76_0 := blk_frozen BK300.out 0; have hfz76_1 := blk_frozen BK300.out 1; have hnb77 := NB301_306.out; have hnc77 := NB306_301.out; have hnb78 := NB301_307.out; have hnc78 := NB307_301.out; have hcz79_0 : w75.cell? ⟨gb301, 0, none⟩ = some (.int .i64 a2_0) := (blk_cell BK301.out 0).trans rfl; have hcz79_1 : w75.cell? ⟨gb301, 1, none⟩ = some (.int .i64 a2_1) := (blk_cell BK301.out 1).trans rfl; have hfz79_0 := blk_frozen BK301.out 0; have hfz79_1 := blk_frozen BK301.out 1) | (go_at_call 26; (with_reducible refine (vec_LE.calls a1_0 a1_1 a2_0 a2_1 false _ A29.out).mono ?_); rintro e w80 ⟨rfl, hb⟩; replace BK299 := XPrint.A0 (XPrint.ab BK299.out hb); replace BK300 := XPrint.A0 (XPrint.ab BK300.out hb); replace BK301 := XPrint.A0 (XPrint.ab BK301.out hb); replace BK306 := XPrint.A0 (XPrint.ab BK306.out hb); replace BK307 := XPrint.A0 (XPrint.ab BK307.out hb); replace HB := XPrint.A0 (below_step (by exact XPrint.bz HB.out) hb); (try clear hb); (try clear hb2); (try clear hk); (try clear hi)))
        go_meet
        case rel => exact ⟨_, (false), (by first | rfl | (simp; done) | (simp [*]; done)), H', ⟨by first | omega | exact Nat.le_refl _⟩, ⟨by (repeat with_reducible first | refine XPrint.d1 ?_ | refine XPrint.d2 ?_ _ | refine XPrint.d3 ?_ _); exact BK299.out⟩, ⟨by (repeat with_reducible first | refine XPrint.d1 ?_ | refine XPrint.d2 ?_ _ | refine XPrint.d3 ?_ _); exact BK300.out⟩, ⟨by (repeat with_reducible first | refine XPrint.d1 ?_ | refine XPrint.d2 ?_ _ | refine XPrint.d3 ?_ _); exact BK301.out⟩, ⟨by (repeat with_reducible first | refine XPrint.d1 ?_ | refine XPrint.d2 ?_ _ | refine XPrint.d3 ?_ _); exact BK306.out⟩, ⟨by (repeat with_reducible first | refine XPrint.d1 ?_ | refine XPrint.d2 ?_ _ | refine XPrint.d3 ?_ _); exact BK307.out⟩, ⟨by exact XPrint.bz HB.out⟩⟩
      ·replace c28 := Bool.eq_false_iff.mpr c28
       subst c28
       have H1 := H; rw [if_neg (show ¬ (false = true) by decide)] at H1
       clear H
       have H := H1
       clear H1
       have H' := XPrint.A0 H
       clear H
       have hnb81 := NB299_300.out
       have hnc81 := NB300_299.out
       have hnb82 := NB299_301.out
       have hnc82 := NB301_299.out
       have hnb83 := NB299_306.out
       have hnc83 := NB306_299.out
       have hnb84 := NB299_307.out
       have hnc84 := NB307_299.out
       have hcz85_0 : w15.cell? ⟨gb299, 0, none⟩ = some (.int .i64 a0_0) := (blk_cell BK299.out 0).trans rfl
       have hcz85_1 : w15.cell? ⟨gb299, 1, none⟩ = some (.int .i64 a0_1) := (blk_cell BK299.out 1).trans rfl
       have hfz85_0 := blk_frozen BK299.out 0
       have hfz85_1 := blk_frozen BK299.out 1
       exact absurd (A22.out.symm.trans A27.out) (by simp)
    ·replace c25 := Bool.eq_false_iff.mpr c25
     subst c25
     have H1 := H; rw [if_neg (show ¬ (false = true) by decide)] at H1
     clear H
     have H := H1
     clear H1
     replace H := Option.bind_eq_some_iff.mp H
     obtain ⟨t314, A990, H⟩ := H
     try set_option simprocs false in dsimp only at H
     have A99 := XPrint.A0 A990
     clear A990
     by_cases c100 : t314 = true
     ·subst c100
      have H1 := H; rw [if_pos rfl] at H1
      clear H
      have H := H1
      clear H1
      replace H := Option.bind_eq_some_iff.mp H
      obtain ⟨t315, A1010, H⟩ := H
      try set_option simprocs false in dsimp only at H
      have A101 := XPrint.A0 A1010
      clear A1010
      by_cases c102 : t315 = true
      ·subst c102
       have H1 := H; rw [if_pos rfl] at H1
       clear H
       have H := H1
       clear H1
       replace H := Option.bind_eq_some_iff.mp H
       obtain ⟨t316, A1030, H⟩ := H
       try set_option simprocs false in dsimp only at H
       have A103 := XPrint.A0 A1030
       clear A1030
       have H' := XPrint.A0 H
       clear H
       have hnb104 := NB299_300.out
       have hnc104 := NB300_299.out
       have hnb105 := NB299_301.out
       have hnc105 := NB301_299.out
       have hnb106 := NB299_306.out
       have hnc106 := NB306_299.out
       have hnb107 := NB299_307.out
       have hnc107 := NB307_299.out
       have hcz108_0 : w15.cell? ⟨gb299, 0, none⟩ = some (.int .i64 a0_0) := (blk_cell BK299.out 0).trans rfl
       have hcz108_1 : w15.cell? ⟨gb299, 1, none⟩ = some (.int .i64 a0_1) := (blk_cell BK299.out 1).trans rfl
       have hfz108_0 := blk_frozen BK299.out 0
       have hfz108_1 := blk_frozen BK299.out 1
       go_wp2_with (first | ((with_reducible refine gate_callee (f := 26) rfl ?_); refine XPrint.gl (some 17) Try.func26 #[.agg #[.int .i64 a0_0, .int .i64 a0_1], .agg #[.int .i64 a0_0, .int .i64 a0_1]] ?_; (with_reducible refine (vec_LE.calls a0_0 a0_1 a0_0 a0_1 true _ A20.out).mono ?_); rintro e w109 ⟨rfl, hb⟩; refine ⟨_, rfl, ?_⟩; replace BK299 := XPrint.A0 (XPrint.ab BK299.out hb); replace BK300 := XPrint.A0 (XPrint.ab BK300.out hb); replace BK301 := XPrint.A0 (XPrint.ab BK301.out hb); replace BK306 := XPrint.A0 (blk_below (g := gb306) (o := .cells #[.int .i64 t302, .int .i64 t303] 23 (0, 0)) (by (repeat with_reducible first | refine XPrint.d1 ?_ | refine XPrint.d2 ?_ _ | refine XPrint.d3 ?_ _); refine blk_far ?_ NB306_307.out _; (repeat with_reducible first | refine XPrint.d1 ?_ | refine XPrint.d2 ?_ _ | refine XPrint.d3 ?_ _); refine blk_far ?_ NB306_307.out _; (repeat with_reducible first | refine XPrint.d1 ?_ | refine XPrint.d2 ?_ _ | refine XPrint.d3 ?_ _); refine blk_put (cs := #[.int .i64 t302, .int .i64 0]) ?_ 1 _ rfl; (repeat with_reducible first | refine XPrint.d1 ?_ | refine XPrint.d2 ?_ _ | refine XPrint.d3 ?_ _); refine blk_put (cs := #[.int .i64 0, .int .i64 0]) ?_ 0 _ rfl; (repeat with_reducible first | refine XPrint.d1 ?_ | refine XPrint.d2 ?_ _ | refine XPrint.d3 ?_ _); exact BK306.out) hb); replace BK307 := XPrint.A0 (blk_below (g := gb307) (o := .cells #[.int .i64 t304, .int .i64 t305] 23 (0, 0)) (by (repeat with_reducible first | refine XPrint.d1 ?_ | refine XPrint.d2 ?_ _ | refine XPrint.d3 ?_ _); refine blk_put (cs := #[.int .i64 t304, .int .i64 0]) ?_ 1 _ rfl; (repeat with_reducible first | refine XPrint.d1 ?_ | refine XPrint.d2 ?_ _ | refine XPrint.d3 ?_ _); refine blk_put (cs := #[.int .i64 0, .int .i64 0]) ?_ 0 _ rfl; (repeat with_reducible first | refine XPrint.d1 ?_ | refine XPrint.d2 ?_ _ | refine XPrint.d3 ?_ _); refine blk_far ?_ NB307_306.out _; (repeat with_reducible first | refine XPrint.d1 ?_ | refine XPrint.d2 ?_ _ | refine XPrint.d3 ?_ _); refine blk_far ?_ NB307_306.out _; (repeat with_reducible first | refine XPrint.d1 ?_ | refine XPrint.d2 ?_ _ | refine XPrint.d3 ?_ _); exact BK307.out) hb); replace HB := XPrint.A0 (below_step (by repeat (first | (with_reducible first | exact HB.out | apply below_alloc | apply pw_below_drewN | apply below_drew1 | refine below_set ?_ GE299.out | refine below_set ?_ GE300.out | refine below_set ?_ GE301.out | refine below_set ?_ GE306.out | refine below_set ?_ GE307.out) | exact HB.out)) hb); (try clear hb); (try clear hb2); (try clear hk); (try clear hi); have hcz110_0 : w109.cell? ⟨gb299, 0, none⟩ = some (.int .i64 a0_0) := (blk_cell BK299.out 0).trans rfl; have hcz110_1 : w109.cell? ⟨gb299, 1, none⟩ = some (.int .i64 a0_1) := (blk_cell BK299.out 1).trans rfl; have hfz110_0 := blk_frozen BK299.out 0; have hfz110_1 := blk_frozen BK299.out 1; have hnb111 := NB300_301.out; have hnc111 := NB301_300.out; have hnb112 := NB300_306.out; have hnc112 := NB306_300.out; have hnb113 := NB300_307.out; have hnc113 := NB307_300.out; have hcz114_0 : w109.cell? ⟨gb300, 0, none⟩ = some (.int .i64 a1_0) := (blk_cell BK300.out 0).trans rfl; have hcz114_1 : w109.cell? ⟨gb300, 1, none⟩ = some (.int .i64 a1_1) := (blk_cell BK300.out 1).trans rfl; have hfz114_0 := blk_frozen BK300.out 0; have hfz114_1 := blk_frozen BK300.out 1) | (go_at_call 26; (with_reducible refine (vec_LE.calls a0_0 a0_1 a1_0 a1_1 true _ A22.out).mono ?_); rintro e w115 ⟨rfl, hb⟩; replace BK299 := XPrint.A0 (XPrint.ab BK299.out hb); replace BK300 := XPrint.A0 (XPrint.ab BK300.out hb); replace BK301 := XPrint.A0 (XPrint.ab BK301.out hb); replace BK306 := XPrint.A0 (XPrint.ab BK306.out hb); replace BK307 := XPrint.A0 (XPrint.ab BK307.out hb); replace HB := XPrint.A0 (below_step (by exact XPrint.bz HB.out) hb); (try clear hb); (try clear hb2); (try clear hk); (try clear hi); have hcz116_0 : w115.cell? ⟨gb300, 0, none⟩ = some (.int .i64 a1_0) := (blk_cell BK300.out 0).trans rfl; have hcz116_1 : w115.cell? ⟨gb300, 1, none⟩ = some (.int .i64 a1_1) := (blk_cell BK300.out 1).trans rfl; have hfz116_0 := blk_frozen BK300.out 0; have hfz116_1 := blk_frozen BK300.out 1; have hcz117_0 : w115.cell? ⟨gb299, 0, none⟩ = some (.int .i64 a0_0) := (blk_cell BK299.out 0).trans rfl; have hcz117_1 : w115.cell? ⟨gb299, 1, none⟩ = some (.int .i64 a0_1) := (blk_cell BK299.out 1).trans rfl; have hfz117_0 := blk_frozen BK299.out 0; have hfz117_1 := blk_frozen BK299.out 1; have hcz122_0 : w115.cell? ⟨gb300, 0, none⟩ = some (.int .i64 a1_0) := (blk_cell BK300.out 0).trans rfl; have hcz122_1 : w115.cell? ⟨gb300, 1, none⟩ = some (.int .i64 a1_1) := (blk_cell BK300.out 1).trans rfl; have hfz122_0 := blk_frozen BK300.out 0; have hfz122_1 := blk_frozen BK300.out 1; have hnb123 := NB301_306.out; have hnc123 := NB306_301.out; have hnb124 := NB301_307.out; have hnc124 := NB307_301.out; have hcz125_0 : w115.cell? ⟨gb301, 0, none⟩ = some (.int .i64 a2_0) := (blk_cell BK301.out 0).trans rfl; have hcz125_1 : w115.cell? ⟨gb301, 1, none⟩ = some (.int .i64 a2_1) := (blk_cell BK301.out 1).trans rfl; have hfz125_0 := blk_frozen BK301.out 0; have hfz125_1 := blk_frozen BK301.out 1) | (go_at_call 26; (with_reducible refine (vec_LE.calls a1_0 a1_1 a0_0 a0_1 false _ A24.out).mono ?_); rintro e w118 ⟨rfl, hb⟩; replace BK299 := XPrint.A0 (XPrint.ab BK299.out hb); replace BK300 := XPrint.A0 (XPrint.ab BK300.out hb); replace BK301 := XPrint.A0 (XPrint.ab BK301.out hb); replace BK306 := XPrint.A0 (XPrint.ab BK306.out hb); replace BK307 := XPrint.A0 (XPrint.ab BK307.out hb); replace HB := XPrint.A0 (below_step (by exact XPrint.bz HB.out) hb); (try clear hb); (try clear hb2); (try clear hk); (try clear hi); have hcz119_0 : w118.cell? ⟨gb299, 0, none⟩ = some (.int .i64 a0_0) := (blk_cell BK299.out 0).trans rfl; have hcz119_1 : w118.cell? ⟨gb299, 1, none⟩ = some (.int .i64 a0_1) := (blk_cell BK299.out 1).trans rfl; have hfz119_0 := blk_frozen BK299.out 0; have hfz119_1 := blk_frozen BK299.out 1; have hcz120_0 : w118.cell? ⟨gb300, 0, none⟩ = some (.int .i64 a1_0) := (blk_cell BK300.out 0).trans rfl; have hcz120_1 : w118.cell? ⟨gb300, 1, none⟩ = some (.int .i64 a1_1) := (blk_cell BK300.out 1).trans rfl; have hfz120_0 := blk_frozen BK300.out 0; have hfz120_1 := blk_frozen BK300.out 1) | (go_at_call 26; (with_reducible refine (vec_LE.calls a0_0 a0_1 a1_0 a1_1 true _ A99.out).mono ?_); rintro e w121 ⟨rfl, hb⟩; replace BK299 := XPrint.A0 (XPrint.ab BK299.out hb); replace BK300 := XPrint.A0 (XPrint.ab BK300.out hb); replace BK301 := XPrint.A0 (XPrint.ab BK301.out hb); replace BK306 := XPrint.A0 (XPrint.ab BK306.out hb); replace BK307 := XPrint.A0 (XPrint.ab BK307.out hb); replace HB := XPrint.A0 (below_step (by exact XPrint.bz HB.out) hb); (try clear hb); (try clear hb2); (try clear hk); (try clear hi); have hcz122_0 : w121.cell? ⟨gb300, 0, none⟩ = some (.int .i64 a1_0) := (blk_cell BK300.out 0).trans rfl; have hcz122_1 : w121.cell? ⟨gb300, 1, none⟩ = some (.int .i64 a1_1) := (blk_cell BK300.out 1).trans rfl; have hfz122_0 := blk_frozen BK300.out 0; have hfz122_1 := blk_frozen BK300.out 1; have hnb123 := NB301_306.out; have hnc123 := NB306_301.out; have hnb124 := NB301_307.out; have hnc124 := NB307_301.out; have hcz125_0 : w121.cell? ⟨gb301, 0, none⟩ = some (.int .i64 a2_0) := (blk_cell BK301.out 0).trans rfl; have hcz125_1 : w121.cell? ⟨gb301, 1, none⟩ = some (.int .i64 a2_1) := (blk_cell BK301.out 1).trans rfl; have hfz125_0 := blk_frozen BK301.out 0; have hfz125_1 := blk_frozen BK301.out 1) | (go_at_call 26; (with_reducible refine (vec_LE.calls a1_0 a1_1 a2_0 a2_1 true _ A101.out).mono ?_); rintro e w126 ⟨rfl, hb⟩; replace BK299 := XPrint.A0 (XPrint.ab BK299.out hb); replace BK300 := XPrint.A0 (XPrint.ab BK300.out hb); replace BK301 := XPrint.A0 (XPrint.ab BK301.out hb); replace BK306 := XPrint.A0 (XPrint.ab BK306.out hb); replace BK307 := XPrint.A0 (XPrint.ab BK307.out hb); replace HB := XPrint.A0 (below_step (by exact XPrint.bz HB.out) hb); (try clear hb); (try clear hb2); (try clear hk); (try clear hi); have hcz127_0 : w126.cell? ⟨gb299, 0, none⟩ = some (.int .i64 a0_0) := (blk_cell BK299.out 0).trans rfl; have hcz127_1 : w126.cell? ⟨gb299, 1, none⟩ = some (.int .i64 a0_1) := (blk_cell BK299.out 1).trans rfl; have hfz127_0 := blk_frozen BK299.out 0; have hfz127_1 := blk_frozen BK299.out 1; have hcz128_0 : w126.cell? ⟨gb301, 0, none⟩ = some (.int .i64 a2_0) := (blk_cell BK301.out 0).trans rfl; have hcz128_1 : w126.cell? ⟨gb301, 1, none⟩ = some (.int .i64 a2_1) := (blk_cell BK301.out 1).trans rfl; have hfz128_0 := blk_frozen BK301.out 0; have hfz128_1 := blk_frozen BK301.out 1) | (go_at_call 26; (with_reducible refine (vec_LE.calls a0_0 a0_1 a2_0 a2_1 t316 _ A103.out).mono ?_); rintro e w129 ⟨rfl, hb⟩; replace BK299 := XPrint.A0 (XPrint.ab BK299.out hb); replace BK300 := XPrint.A0 (XPrint.ab BK300.out hb); replace BK301 := XPrint.A0 (XPrint.ab BK301.out hb); replace BK306 := XPrint.A0 (XPrint.ab BK306.out hb); replace BK307 := XPrint.A0 (XPrint.ab BK307.out hb); replace HB := XPrint.A0 (below_step (by exact XPrint.bz HB.out) hb); (try clear hb); (try clear hb2); (try clear hk); (try clear hi)))
       go_meet
       case rel => exact ⟨_, (!t316), (by first | rfl | (simp; done) | (simp [*]; done)), H', ⟨by first | omega | exact Nat.le_refl _⟩, ⟨by (repeat with_reducible first | refine XPrint.d1 ?_ | refine XPrint.d2 ?_ _ | refine XPrint.d3 ?_ _); exact BK299.out⟩, ⟨by (repeat with_reducible first | refine XPrint.d1 ?_ | refine XPrint.d2 ?_ _ | refine XPrint.d3 ?_ _); exact BK300.out⟩, ⟨by (repeat with_reducible first | refine XPrint.d1 ?_ | refine XPrint.d2 ?_ _ | refine XPrint.d3 ?_ _); exact BK301.out⟩, ⟨by (repeat with_reducible first | refine XPrint.d1 ?_ | refine XPrint.d2 ?_ _ | refine XPrint.d3 ?_ _); exact BK306.out⟩, ⟨by (repeat with_reducible first | refine XPrint.d1 ?_ | refine XPrint.d2 ?_ _ | refine XPrint.d3 ?_ _); exact BK307.out⟩, ⟨by exact XPrint.bz HB.out⟩⟩
      ·replace c102 := Bool.eq_false_iff.mpr c102
       subst c102
       have H1 := H; rw [if_neg (show ¬ (false = true) by decide)] at H1
       clear H
       have H := H1
       clear H1
       have H' := XPrint.A0 H
       clear H
       have hnb130 := NB299_300.out
       have hnc130 := NB300_299.out
       have hnb131 := NB299_301.out
       have hnc131 := NB301_299.out
       have hnb132 := NB299_306.out
       have hnc132 := NB306_299.out
       have hnb133 := NB299_307.out
       have hnc133 := NB307_299.out
       have hcz134_0 : w15.cell? ⟨gb299, 0, none⟩ = some (.int .i64 a0_0) := (blk_cell BK299.out 0).trans rfl
       have hcz134_1 : w15.cell? ⟨gb299, 1, none⟩ = some (.int .i64 a0_1) := (blk_cell BK299.out 1).trans rfl
       have hfz134_0 := blk_frozen BK299.out 0
       have hfz134_1 := blk_frozen BK299.out 1
       go_wp2_with (first | ((with_reducible refine gate_callee (f := 26) rfl ?_); refine XPrint.gl (some 17) Try.func26 #[.agg #[.int .i64 a0_0, .int .i64 a0_1], .agg #[.int .i64 a0_0, .int .i64 a0_1]] ?_; (with_reducible refine (vec_LE.calls a0_0 a0_1 a0_0 a0_1 true _ A20.out).mono ?_); rintro e w135 ⟨rfl, hb⟩; refine ⟨_, rfl, ?_⟩; replace BK299 := XPrint.A0 (XPrint.ab BK299.out hb); replace BK300 := XPrint.A0 (XPrint.ab BK300.out hb); replace BK301 := XPrint.A0 (XPrint.ab BK301.out hb); replace BK306 := XPrint.A0 (blk_below (g := gb306) (o := .cells #[.int .i64 t302, .int .i64 t303] 23 (0, 0)) (by (repeat with_reducible first | refine XPrint.d1 ?_ | refine XPrint.d2 ?_ _ | refine XPrint.d3 ?_ _); refine blk_far ?_ NB306_307.out _; (repeat with_reducible first | refine XPrint.d1 ?_ | refine XPrint.d2 ?_ _ | refine XPrint.d3 ?_ _); refine blk_far ?_ NB306_307.out _; (repeat with_reducible first | refine XPrint.d1 ?_ | refine XPrint.d2 ?_ _ | refine XPrint.d3 ?_ _); refine blk_put (cs := #[.int .i64 t302, .int .i64 0]) ?_ 1 _ rfl; (repeat with_reducible first | refine XPrint.d1 ?_ | refine XPrint.d2 ?_ _ | refine XPrint.d3 ?_ _); refine blk_put (cs := #[.int .i64 0, .int .i64 0]) ?_ 0 _ rfl; (repeat with_reducible first | refine XPrint.d1 ?_ | refine XPrint.d2 ?_ _ | refine XPrint.d3 ?_ _); exact BK306.out) hb); replace BK307 := XPrint.A0 (blk_below (g := gb307) (o := .cells #[.int .i64 t304, .int .i64 t305] 23 (0, 0)) (by (repeat with_reducible first | refine XPrint.d1 ?_ | refine XPrint.d2 ?_ _ | refine XPrint.d3 ?_ _); refine blk_put (cs := #[.int .i64 t304, .int .i64 0]) ?_ 1 _ rfl; (repeat with_reducible first | refine XPrint.d1 ?_ | refine XPrint.d2 ?_ _ | refine XPrint.d3 ?_ _); refine blk_put (cs := #[.int .i64 0, .int .i64 0]) ?_ 0 _ rfl; (repeat with_reducible first | refine XPrint.d1 ?_ | refine XPrint.d2 ?_ _ | refine XPrint.d3 ?_ _); refine blk_far ?_ NB307_306.out _; (repeat with_reducible first | refine XPrint.d1 ?_ | refine XPrint.d2 ?_ _ | refine XPrint.d3 ?_ _); refine blk_far ?_ NB307_306.out _; (repeat with_reducible first | refine XPrint.d1 ?_ | refine XPrint.d2 ?_ _ | refine XPrint.d3 ?_ _); exact BK307.out) hb); replace HB := XPrint.A0 (below_step (by repeat (first | (with_reducible first | exact HB.out | apply below_alloc | apply pw_below_drewN | apply below_drew1 | refine below_set ?_ GE299.out | refine below_set ?_ GE300.out | refine below_set ?_ GE301.out | refine below_set ?_ GE306.out | refine below_set ?_ GE307.out) | exact HB.out)) hb); (try clear hb); (try clear hb2); (try clear hk); (try clear hi); have hcz136_0 : w135.cell? ⟨gb299, 0, none⟩ = some (.int .i64 a0_0) := (blk_cell BK299.out 0).trans rfl; have hcz136_1 : w135.cell? ⟨gb299, 1, none⟩ = some (.int .i64 a0_1) := (blk_cell BK299.out 1).trans rfl; have hfz136_0 := blk_frozen BK299.out 0; have hfz136_1 := blk_frozen BK299.out 1; have hnb137 := NB300_301.out; have hnc137 := NB301_300.out; have hnb138 := NB300_306.out; have hnc138 := NB306_300.out; have hnb139 := NB300_307.out; have hnc139 := NB307_300.out; have hcz140_0 : w135.cell? ⟨gb300, 0, none⟩ = some (.int .i64 a1_0) := (blk_cell BK300.out 0).trans rfl; have hcz140_1 : w135.cell? ⟨gb300, 1, none⟩ = some (.int .i64 a1_1) := (blk_cell BK300.out 1).trans rfl; have hfz140_0 := blk_frozen BK300.out 0; have hfz140_1 := blk_frozen BK300.out 1) | (go_at_call 26; (with_reducible refine (vec_LE.calls a0_0 a0_1 a1_0 a1_1 true _ A22.out).mono ?_); rintro e w141 ⟨rfl, hb⟩; replace BK299 := XPrint.A0 (XPrint.ab BK299.out hb); replace BK300 := XPrint.A0 (XPrint.ab BK300.out hb); replace BK301 := XPrint.A0 (XPrint.ab BK301.out hb); replace BK306 := XPrint.A0 (XPrint.ab BK306.out hb); replace BK307 := XPrint.A0 (XPrint.ab BK307.out hb); replace HB := XPrint.A0 (below_step (by exact XPrint.bz HB.out) hb); (try clear hb); (try clear hb2); (try clear hk); (try clear hi); have hcz142_0 : w141.cell? ⟨gb300, 0, none⟩ = some (.int .i64 a1_0) := (blk_cell BK300.out 0).trans rfl; have hcz142_1 : w141.cell? ⟨gb300, 1, none⟩ = some (.int .i64 a1_1) := (blk_cell BK300.out 1).trans rfl; have hfz142_0 := blk_frozen BK300.out 0; have hfz142_1 := blk_frozen BK300.out 1; have hcz143_0 : w141.cell? ⟨gb299, 0, none⟩ = some (.int .i64 a0_0) := (blk_cell BK299.out 0).trans rfl; have hcz143_1 : w141.cell? ⟨gb299, 1, none⟩ = some (.int .i64 a0_1) := (blk_cell BK299.out 1).trans rfl; have hfz143_0 := blk_frozen BK299.out 0; have hfz143_1 := blk_frozen BK299.out 1; have hcz148_0 : w141.cell? ⟨gb300, 0, none⟩ = some (.int .i64 a1_0) := (blk_cell BK300.out 0).trans rfl; have hcz148_1 : w141.cell? ⟨gb300, 1, none⟩ = some (.int .i64 a1_1) := (blk_cell BK300.out 1).trans rfl; have hfz148_0 := blk_frozen BK300.out 0; have hfz148_1 := blk_frozen BK300.out 1; have hnb149 := NB301_306.out; have hnc149 := NB306_301.out; have hnb150 := NB301_307.out; have hnc150 := NB307_301.out; have hcz151_0 : w141.cell? ⟨gb301, 0, none⟩ = some (.int .i64 a2_0) := (blk_cell BK301.out 0).trans rfl; have hcz151_1 : w141.cell? ⟨gb301, 1, none⟩ = some (.int .i64 a2_1) := (blk_cell BK301.out 1).trans rfl; have hfz151_0 := blk_frozen BK301.out 0; have hfz151_1 := blk_frozen BK301.out 1) | (go_at_call 26; (with_reducible refine (vec_LE.calls a1_0 a1_1 a0_0 a0_1 false _ A24.out).mono ?_); rintro e w144 ⟨rfl, hb⟩; replace BK299 := XPrint.A0 (XPrint.ab BK299.out hb); replace BK300 := XPrint.A0 (XPrint.ab BK300.out hb); replace BK301 := XPrint.A0 (XPrint.ab BK301.out hb); replace BK306 := XPrint.A0 (XPrint.ab BK306.out hb); replace BK307 := XPrint.A0 (XPrint.ab BK307.out hb); replace HB := XPrint.A0 (below_step (by exact XPrint.bz HB.out) hb); (try clear hb); (try clear hb2); (try clear hk); (try clear hi); have hcz145_0 : w144.cell? ⟨gb299, 0, none⟩ = some (.int .i64 a0_0) := (blk_cell BK299.out 0).trans rfl; have hcz145_1 : w144.cell? ⟨gb299, 1, none⟩ = some (.int .i64 a0_1) := (blk_cell BK299.out 1).trans rfl; have hfz145_0 := blk_frozen BK299.out 0; have hfz145_1 := blk_frozen BK299.out 1; have hcz146_0 : w144.cell? ⟨gb300, 0, none⟩ = some (.int .i64 a1_0) := (blk_cell BK300.out 0).trans rfl; have hcz146_1 : w144.cell? ⟨gb300, 1, none⟩ = some (.int .i64 a1_1) := (blk_cell BK300.out 1).trans rfl; have hfz146_0 := blk_frozen BK300.out 0; have hfz146_1 := blk_frozen BK300.out 1) | (go_at_call 26; (with_reducible refine (vec_LE.calls a0_0 a0_1 a1_0 a1_1 true _ A99.out).mono ?_); rintro e w147 ⟨rfl, hb⟩; replace BK299 := XPrint.A0 (XPrint.ab BK299.out hb); replace BK300 := XPrint.A0 (XPrint.ab BK300.out hb); replace BK301 := XPrint.A0 (XPrint.ab BK301.out hb); replace BK306 := XPrint.A0 (XPrint.ab BK306.out hb); replace BK307 := XPrint.A0 (XPrint.ab BK307.out hb); replace HB := XPrint.A0 (below_step (by exact XPrint.bz HB.out) hb); (try clear hb); (try clear hb2); (try clear hk); (try clear hi); have hcz148_0 : w147.cell? ⟨gb300, 0, none⟩ = some (.int .i64 a1_0) := (blk_cell BK300.out 0).trans rfl; have hcz148_1 : w147.cell? ⟨gb300, 1, none⟩ = some (.int .i64 a1_1) := (blk_cell BK300.out 1).trans rfl; have hfz148_0 := blk_frozen BK300.out 0; have hfz148_1 := blk_frozen BK300.out 1; have hnb149 := NB301_306.out; have hnc149 := NB306_301.out; have hnb150 := NB301_307.out; have hnc150 := NB307_301.out; have hcz151_0 : w147.cell? ⟨gb301, 0, none⟩ = some (.int .i64 a2_0) := (blk_cell BK301.out 0).trans rfl; have hcz151_1 : w147.cell? ⟨gb301, 1, none⟩ = some (.int .i64 a2_1) := (blk_cell BK301.out 1).trans rfl; have hfz151_0 := blk_frozen BK301.out 0; have hfz151_1 := blk_frozen BK301.out 1) | (go_at_call 26; (with_reducible refine (vec_LE.calls a1_0 a1_1 a2_0 a2_1 false _ A101.out).mono ?_); rintro e w152 ⟨rfl, hb⟩; replace BK299 := XPrint.A0 (XPrint.ab BK299.out hb); replace BK300 := XPrint.A0 (XPrint.ab BK300.out hb); replace BK301 := XPrint.A0 (XPrint.ab BK301.out hb); replace BK306 := XPrint.A0 (XPrint.ab BK306.out hb); replace BK307 := XPrint.A0 (XPrint.ab BK307.out hb); replace HB := XPrint.A0 (below_step (by exact XPrint.bz HB.out) hb); (try clear hb); (try clear hb2); (try clear hk); (try clear hi)))
       go_meet
       case rel => exact ⟨_, (false), (by first | rfl | (simp; done) | (simp [*]; done)), H', ⟨by first | omega | exact Nat.le_refl _⟩, ⟨by (repeat with_reducible first | refine XPrint.d1 ?_ | refine XPrint.d2 ?_ _ | refine XPrint.d3 ?_ _); exact BK299.out⟩, ⟨by (repeat with_reducible first | refine XPrint.d1 ?_ | refine XPrint.d2 ?_ _ | refine XPrint.d3 ?_ _); exact BK300.out⟩, ⟨by (repeat with_reducible first | refine XPrint.d1 ?_ | refine XPrint.d2 ?_ _ | refine XPrint.d3 ?_ _); exact BK301.out⟩, ⟨by (repeat with_reducible first | refine XPrint.d1 ?_ | refine XPrint.d2 ?_ _ | refine XPrint.d3 ?_ _); exact BK306.out⟩, ⟨by (repeat with_reducible first | refine XPrint.d1 ?_ | refine XPrint.d2 ?_ _ | refine XPrint.d3 ?_ _); exact BK307.out⟩, ⟨by exact XPrint.bz HB.out⟩⟩
     ·replace c100 := Bool.eq_false_iff.mpr c100
      subst c100
      have H1 := H; rw [if_neg (show ¬ (false = true) by decide)] at H1
      clear H
      have H := H1
      clear H1
      have H' := XPrint.A0 H
      clear H
      have hnb153 := NB299_300.out
      have hnc153 := NB300_299.out
      have hnb154 := NB299_301.out
      have hnc154 := NB301_299.out
      have hnb155 := NB299_306.out
      have hnc155 := NB306_299.out
      have hnb156 := NB299_307.out
      have hnc156 := NB307_299.out
      have hcz157_0 : w15.cell? ⟨gb299, 0, none⟩ = some (.int .i64 a0_0) := (blk_cell BK299.out 0).trans rfl
      have hcz157_1 : w15.cell? ⟨gb299, 1, none⟩ = some (.int .i64 a0_1) := (blk_cell BK299.out 1).trans rfl
      have hfz157_0 := blk_frozen BK299.out 0
      have hfz157_1 := blk_frozen BK299.out 1
      exact absurd (A22.out.symm.trans A99.out) (by simp)
   ·replace c23 := Bool.eq_false_iff.mpr c23
    subst c23
    have H1 := H; rw [if_neg (show ¬ (false = true) by decide)] at H1
    clear H
    have H := H1
    clear H1
    replace H := Option.bind_eq_some_iff.mp H
    obtain ⟨t317, A1710, H⟩ := H
    try set_option simprocs false in dsimp only at H
    have A171 := XPrint.A0 A1710
    clear A1710
    by_cases c172 : t317 = true
    ·subst c172
     have H1 := H; rw [if_pos rfl] at H1
     clear H
     have H := H1
     clear H1
     replace H := Option.bind_eq_some_iff.mp H
     obtain ⟨t318, A1730, H⟩ := H
     try set_option simprocs false in dsimp only at H
     have A173 := XPrint.A0 A1730
     clear A1730
     by_cases c174 : t318 = true
     ·subst c174
      have H1 := H; rw [if_pos rfl] at H1
      clear H
      have H := H1
      clear H1
      replace H := Option.bind_eq_some_iff.mp H
      obtain ⟨t319, A1750, H⟩ := H
      try set_option simprocs false in dsimp only at H
      have A175 := XPrint.A0 A1750
      clear A1750
      have H' := XPrint.A0 H
      clear H
      have hnb176 := NB299_300.out
      have hnc176 := NB300_299.out
      have hnb177 := NB299_301.out
      have hnc177 := NB301_299.out
      have hnb178 := NB299_306.out
      have hnc178 := NB306_299.out
      have hnb179 := NB299_307.out
      have hnc179 := NB307_299.out
      have hcz180_0 : w15.cell? ⟨gb299, 0, none⟩ = some (.int .i64 a0_0) := (blk_cell BK299.out 0).trans rfl
      have hcz180_1 : w15.cell? ⟨gb299, 1, none⟩ = some (.int .i64 a0_1) := (blk_cell BK299.out 1).trans rfl
      have hfz180_0 := blk_frozen BK299.out 0
      have hfz180_1 := blk_frozen BK299.out 1
      exact absurd (A22.out.symm.trans A171.out) (by simp)
     ·replace c174 := Bool.eq_false_iff.mpr c174
      subst c174
      have H1 := H; rw [if_neg (show ¬ (false = true) by decide)] at H1
      clear H
      have H := H1
      clear H1
      have H' := XPrint.A0 H
      clear H
      have hnb199 := NB299_300.out
      have hnc199 := NB300_299.out
      have hnb200 := NB299_301.out
      have hnc200 := NB301_299.out
      have hnb201 := NB299_306.out
      have hnc201 := NB306_299.out
      have hnb202 := NB299_307.out
      have hnc202 := NB307_299.out
      have hcz203_0 : w15.cell? ⟨gb299, 0, none⟩ = some (.int .i64 a0_0) := (blk_cell BK299.out 0).trans rfl
      have hcz203_1 : w15.cell? ⟨gb299, 1, none⟩ = some (.int .i64 a0_1) := (blk_cell BK299.out 1).trans rfl
      have hfz203_0 := blk_frozen BK299.out 0
      have hfz203_1 := blk_frozen BK299.out 1
      exact absurd (A22.out.symm.trans A171.out) (by simp)
    ·replace c172 := Bool.eq_false_iff.mpr c172
     subst c172
     have H1 := H; rw [if_neg (show ¬ (false = true) by decide)] at H1
     clear H
     have H := H1
     clear H1
     have H' := XPrint.A0 H
     clear H
     have hnb219 := NB299_300.out
     have hnc219 := NB300_299.out
     have hnb220 := NB299_301.out
     have hnc220 := NB301_299.out
     have hnb221 := NB299_306.out
     have hnc221 := NB306_299.out
     have hnb222 := NB299_307.out
     have hnc222 := NB307_299.out
     have hcz223_0 : w15.cell? ⟨gb299, 0, none⟩ = some (.int .i64 a0_0) := (blk_cell BK299.out 0).trans rfl
     have hcz223_1 : w15.cell? ⟨gb299, 1, none⟩ = some (.int .i64 a0_1) := (blk_cell BK299.out 1).trans rfl
     have hfz223_0 := blk_frozen BK299.out 0
     have hfz223_1 := blk_frozen BK299.out 1
     go_wp2_with (first | ((with_reducible refine gate_callee (f := 26) rfl ?_); refine XPrint.gl (some 17) Try.func26 #[.agg #[.int .i64 a0_0, .int .i64 a0_1], .agg #[.int .i64 a0_0, .int .i64 a0_1]] ?_; (with_reducible refine (vec_LE.calls a0_0 a0_1 a0_0 a0_1 true _ A20.out).mono ?_); rintro e w224 ⟨rfl, hb⟩; refine ⟨_, rfl, ?_⟩; replace BK299 := XPrint.A0 (XPrint.ab BK299.out hb); replace BK300 := XPrint.A0 (XPrint.ab BK300.out hb); replace BK301 := XPrint.A0 (XPrint.ab BK301.out hb); replace BK306 := XPrint.A0 (blk_below (g := gb306) (o := .cells #[.int .i64 t302, .int .i64 t303] 23 (0, 0)) (by (repeat with_reducible first | refine XPrint.d1 ?_ | refine XPrint.d2 ?_ _ | refine XPrint.d3 ?_ _); refine blk_far ?_ NB306_307.out _; (repeat with_reducible first | refine XPrint.d1 ?_ | refine XPrint.d2 ?_ _ | refine XPrint.d3 ?_ _); refine blk_far ?_ NB306_307.out _; (repeat with_reducible first | refine XPrint.d1 ?_ | refine XPrint.d2 ?_ _ | refine XPrint.d3 ?_ _); refine blk_put (cs := #[.int .i64 t302, .int .i64 0]) ?_ 1 _ rfl; (repeat with_reducible first | refine XPrint.d1 ?_ | refine XPrint.d2 ?_ _ | refine XPrint.d3 ?_ _); refine blk_put (cs := #[.int .i64 0, .int .i64 0]) ?_ 0 _ rfl; (repeat with_reducible first | refine XPrint.d1 ?_ | refine XPrint.d2 ?_ _ | refine XPrint.d3 ?_ _); exact BK306.out) hb); replace BK307 := XPrint.A0 (blk_below (g := gb307) (o := .cells #[.int .i64 t304, .int .i64 t305] 23 (0, 0)) (by (repeat with_reducible first | refine XPrint.d1 ?_ | refine XPrint.d2 ?_ _ | refine XPrint.d3 ?_ _); refine blk_put (cs := #[.int .i64 t304, .int .i64 0]) ?_ 1 _ rfl; (repeat with_reducible first | refine XPrint.d1 ?_ | refine XPrint.d2 ?_ _ | refine XPrint.d3 ?_ _); refine blk_put (cs := #[.int .i64 0, .int .i64 0]) ?_ 0 _ rfl; (repeat with_reducible first | refine XPrint.d1 ?_ | refine XPrint.d2 ?_ _ | refine XPrint.d3 ?_ _); refine blk_far ?_ NB307_306.out _; (repeat with_reducible first | refine XPrint.d1 ?_ | refine XPrint.d2 ?_ _ | refine XPrint.d3 ?_ _); refine blk_far ?_ NB307_306.out _; (repeat with_reducible first | refine XPrint.d1 ?_ | refine XPrint.d2 ?_ _ | refine XPrint.d3 ?_ _); exact BK307.out) hb); replace HB := XPrint.A0 (below_step (by repeat (first | (with_reducible first | exact HB.out | apply below_alloc | apply pw_below_drewN | apply below_drew1 | refine below_set ?_ GE299.out | refine below_set ?_ GE300.out | refine below_set ?_ GE301.out | refine below_set ?_ GE306.out | refine below_set ?_ GE307.out) | exact HB.out)) hb); (try clear hb); (try clear hb2); (try clear hk); (try clear hi); have hcz225_0 : w224.cell? ⟨gb299, 0, none⟩ = some (.int .i64 a0_0) := (blk_cell BK299.out 0).trans rfl; have hcz225_1 : w224.cell? ⟨gb299, 1, none⟩ = some (.int .i64 a0_1) := (blk_cell BK299.out 1).trans rfl; have hfz225_0 := blk_frozen BK299.out 0; have hfz225_1 := blk_frozen BK299.out 1; have hnb226 := NB300_301.out; have hnc226 := NB301_300.out; have hnb227 := NB300_306.out; have hnc227 := NB306_300.out; have hnb228 := NB300_307.out; have hnc228 := NB307_300.out; have hcz229_0 : w224.cell? ⟨gb300, 0, none⟩ = some (.int .i64 a1_0) := (blk_cell BK300.out 0).trans rfl; have hcz229_1 : w224.cell? ⟨gb300, 1, none⟩ = some (.int .i64 a1_1) := (blk_cell BK300.out 1).trans rfl; have hfz229_0 := blk_frozen BK300.out 0; have hfz229_1 := blk_frozen BK300.out 1) | (go_at_call 26; (with_reducible refine (vec_LE.calls a0_0 a0_1 a1_0 a1_1 false _ A22.out).mono ?_); rintro e w230 ⟨rfl, hb⟩; replace BK299 := XPrint.A0 (XPrint.ab BK299.out hb); replace BK300 := XPrint.A0 (XPrint.ab BK300.out hb); replace BK301 := XPrint.A0 (XPrint.ab BK301.out hb); replace BK306 := XPrint.A0 (XPrint.ab BK306.out hb); replace BK307 := XPrint.A0 (XPrint.ab BK307.out hb); replace HB := XPrint.A0 (below_step (by exact XPrint.bz HB.out) hb); (try clear hb); (try clear hb2); (try clear hk); (try clear hi); have hcz231_0 : w230.cell? ⟨gb299, 0, none⟩ = some (.int .i64 a0_0) := (blk_cell BK299.out 0).trans rfl; have hcz231_1 : w230.cell? ⟨gb299, 1, none⟩ = some (.int .i64 a0_1) := (blk_cell BK299.out 1).trans rfl; have hfz231_0 := blk_frozen BK299.out 0; have hfz231_1 := blk_frozen BK299.out 1; have hcz232_0 : w230.cell? ⟨gb300, 0, none⟩ = some (.int .i64 a1_0) := (blk_cell BK300.out 0).trans rfl; have hcz232_1 : w230.cell? ⟨gb300, 1, none⟩ = some (.int .i64 a1_1) := (blk_cell BK300.out 1).trans rfl; have hfz232_0 := blk_frozen BK300.out 0; have hfz232_1 := blk_frozen BK300.out 1) | (go_at_call 26; (with_reducible refine (vec_LE.calls a0_0 a0_1 a1_0 a1_1 false _ A171.out).mono ?_); rintro e w233 ⟨rfl, hb⟩; replace BK299 := XPrint.A0 (XPrint.ab BK299.out hb); replace BK300 := XPrint.A0 (XPrint.ab BK300.out hb); replace BK301 := XPrint.A0 (XPrint.ab BK301.out hb); replace BK306 := XPrint.A0 (XPrint.ab BK306.out hb); replace BK307 := XPrint.A0 (XPrint.ab BK307.out hb); replace HB := XPrint.A0 (below_step (by exact XPrint.bz HB.out) hb); (try clear hb); (try clear hb2); (try clear hk); (try clear hi)))
     go_meet
     case rel => exact ⟨_, (false), (by first | rfl | (simp; done) | (simp [*]; done)), H', ⟨by first | omega | exact Nat.le_refl _⟩, ⟨by (repeat with_reducible first | refine XPrint.d1 ?_ | refine XPrint.d2 ?_ _ | refine XPrint.d3 ?_ _); exact BK299.out⟩, ⟨by (repeat with_reducible first | refine XPrint.d1 ?_ | refine XPrint.d2 ?_ _ | refine XPrint.d3 ?_ _); exact BK300.out⟩, ⟨by (repeat with_reducible first | refine XPrint.d1 ?_ | refine XPrint.d2 ?_ _ | refine XPrint.d3 ?_ _); exact BK301.out⟩, ⟨by (repeat with_reducible first | refine XPrint.d1 ?_ | refine XPrint.d2 ?_ _ | refine XPrint.d3 ?_ _); exact BK306.out⟩, ⟨by (repeat with_reducible first | refine XPrint.d1 ?_ | refine XPrint.d2 ?_ _ | refine XPrint.d3 ?_ _); exact BK307.out⟩, ⟨by exact XPrint.bz HB.out⟩⟩
  ·replace c21 := Bool.eq_false_iff.mpr c21
   subst c21
   have H1 := H; rw [if_neg (show ¬ (false = true) by decide)] at H1
   clear H
   have H := H1
   clear H1
   exact absurd H (by simp)
 case rest =>
  clear HC6
  try clear c1
  try clear c2
  try clear p2
  try clear c3
  try clear c4
  try clear c5
  try clear c6
  try clear c7
  try clear c8
  try clear c9
  try clear c10
  try clear c11
  try clear c12
  try clear c13
  try clear c14
  try clear c15
  try clear c16
  try clear c17
  try clear c18
  try clear c19
  try clear c20
  try clear c21
  try clear c22
  try clear c23
  try clear c25
  try clear c26
  try clear c26b0
  try clear c28
  try clear c30
  try clear c32
  try clear c33
  try clear c34
  try clear c35
  try clear c39
  try clear c40
  try clear c41
  try clear c51
  try clear c52
  try clear c58
  try clear c59
  try clear c60
  try clear c61
  try clear c65
  try clear c66
  try clear c67
  try clear c77
  try clear c78
  try clear c81
  try clear c82
  try clear c83
  try clear c84
  try clear c88
  try clear c89
  try clear c90
  try clear c100
  try clear c102
  try clear c104
  try clear c105
  try clear c106
  try clear c107
  try clear c111
  try clear c112
  try clear c113
  try clear c123
  try clear c124
  try clear c130
  try clear c131
  try clear c132
  try clear c133
  try clear c137
  try clear c138
  try clear c139
  try clear c149
  try clear c150
  try clear c153
  try clear c154
  try clear c155
  try clear c156
  try clear c160
  try clear c161
  try clear c162
  try clear c172
  try clear c174
  try clear c176
  try clear c177
  try clear c178
  try clear c179
  try clear c183
  try clear c184
  try clear c185
  try clear c192
  try clear c193
  try clear c199
  try clear c200
  try clear c201
  try clear c202
  try clear c206
  try clear c207
  try clear c208
  try clear c215
  try clear c216
  try clear c219
  try clear c220
  try clear c221
  try clear c222
  try clear c226
  try clear c227
  try clear c228
  try clear hcz108_0
  try clear hcz108_1
  try clear hcz110_0
  try clear hcz110_1
  try clear hcz114_0
  try clear hcz114_1
  try clear hcz116_0
  try clear hcz116_1
  try clear hcz117_0
  try clear hcz117_1
  try clear hcz119_0
  try clear hcz119_1
  try clear hcz120_0
  try clear hcz120_1
  try clear hcz122_0
  try clear hcz122_1
  try clear hcz125_0
  try clear hcz125_1
  try clear hcz127_0
  try clear hcz127_1
  try clear hcz128_0
  try clear hcz128_1
  try clear hcz134_0
  try clear hcz134_1
  try clear hcz136_0
  try clear hcz136_1
  try clear hcz140_0
  try clear hcz140_1
  try clear hcz142_0
  try clear hcz142_1
  try clear hcz143_0
  try clear hcz143_1
  try clear hcz145_0
  try clear hcz145_1
  try clear hcz146_0
  try clear hcz146_1
  try clear hcz148_0
  try clear hcz148_1
  try clear hcz151_0
  try clear hcz151_1
  try clear hcz157_0
  try clear hcz157_1
  try clear hcz159_0
  try clear hcz159_1
  try clear hcz163_0
  try clear hcz163_1
  try clear hcz165_0
  try clear hcz165_1
  try clear hcz166_0
  try clear hcz166_1
  try clear hcz168_0
  try clear hcz168_1
  try clear hcz169_0
  try clear hcz169_1
  try clear hcz180_0
  try clear hcz180_1
  try clear hcz182_0
  try clear hcz182_1
  try clear hcz186_0
  try clear hcz186_1
  try clear hcz188_0
  try clear hcz188_1
  try clear hcz189_0
  try clear hcz189_1
  try clear hcz191_0
  try clear hcz191_1
  try clear hcz194_0
  try clear hcz194_1
  try clear hcz196_0
  try clear hcz196_1
  try clear hcz197_0
  try clear hcz197_1
  try clear hcz203_0
  try clear hcz203_1
  try clear hcz205_0
  try clear hcz205_1
  try clear hcz209_0
  try clear hcz209_1
  try clear hcz211_0
  try clear hcz211_1
  try clear hcz212_0
  try clear hcz212_1
  try clear hcz214_0
  try clear hcz214_1
  try clear hcz217_0
  try clear hcz217_1
  try clear hcz223_0
  try clear hcz223_1
  try clear hcz225_0
  try clear hcz225_1
  try clear hcz229_0
  try clear hcz229_1
  try clear hcz231_0
  try clear hcz231_1
  try clear hcz232_0
  try clear hcz232_1
  try clear hcz36_0
  try clear hcz36_1
  try clear hcz38_0
  try clear hcz38_1
  try clear hcz42_0
  try clear hcz42_1
  try clear hcz44_0
  try clear hcz44_1
  try clear hcz45_0
  try clear hcz45_1
  try clear hcz47_0
  try clear hcz47_1
  try clear hcz48_0
  try clear hcz48_1
  try clear hcz50_0
  try clear hcz50_1
  try clear hcz53_0
  try clear hcz53_1
  try clear hcz55_0
  try clear hcz55_1
  try clear hcz56_0
  try clear hcz56_1
  try clear hcz62_0
  try clear hcz62_1
  try clear hcz64_0
  try clear hcz64_1
  try clear hcz68_0
  try clear hcz68_1
  try clear hcz70_0
  try clear hcz70_1
  try clear hcz71_0
  try clear hcz71_1
  try clear hcz73_0
  try clear hcz73_1
  try clear hcz74_0
  try clear hcz74_1
  try clear hcz76_0
  try clear hcz76_1
  try clear hcz79_0
  try clear hcz79_1
  try clear hcz85_0
  try clear hcz85_1
  try clear hcz87_0
  try clear hcz87_1
  try clear hcz91_0
  try clear hcz91_1
  try clear hcz93_0
  try clear hcz93_1
  try clear hcz94_0
  try clear hcz94_1
  try clear hcz96_0
  try clear hcz96_1
  try clear hcz97_0
  try clear hcz97_1
  try clear hfz108_0
  try clear hfz108_1
  try clear hfz110_0
  try clear hfz110_1
  try clear hfz114_0
  try clear hfz114_1
  try clear hfz116_0
  try clear hfz116_1
  try clear hfz117_0
  try clear hfz117_1
  try clear hfz119_0
  try clear hfz119_1
  try clear hfz120_0
  try clear hfz120_1
  try clear hfz122_0
  try clear hfz122_1
  try clear hfz125_0
  try clear hfz125_1
  try clear hfz127_0
  try clear hfz127_1
  try clear hfz128_0
  try clear hfz128_1
  try clear hfz134_0
  try clear hfz134_1
  try clear hfz136_0
  try clear hfz136_1
  try clear hfz140_0
  try clear hfz140_1
  try clear hfz142_0
  try clear hfz142_1
  try clear hfz143_0
  try clear hfz143_1
  try clear hfz145_0
  try clear hfz145_1
  try clear hfz146_0
  try clear hfz146_1
  try clear hfz148_0
  try clear hfz148_1
  try clear hfz151_0
  try clear hfz151_1
  try clear hfz157_0
  try clear hfz157_1
  try clear hfz159_0
  try clear hfz159_1
  try clear hfz163_0
  try clear hfz163_1
  try clear hfz165_0
  try clear hfz165_1
  try clear hfz166_0
  try clear hfz166_1
  try clear hfz168_0
  try clear hfz168_1
  try clear hfz169_0
  try clear hfz169_1
  try clear hfz180_0
  try clear hfz180_1
  try clear hfz182_0
  try clear hfz182_1
  try clear hfz186_0
  try clear hfz186_1
  try clear hfz188_0
  try clear hfz188_1
  try clear hfz189_0
  try clear hfz189_1
  try clear hfz191_0
  try clear hfz191_1
  try clear hfz194_0
  try clear hfz194_1
  try clear hfz196_0
  try clear hfz196_1
  try clear hfz197_0
  try clear hfz197_1
  try clear hfz203_0
  try clear hfz203_1
  try clear hfz205_0
  try clear hfz205_1
  try clear hfz209_0
  try clear hfz209_1
  try clear hfz211_0
  try clear hfz211_1
  try clear hfz212_0
  try clear hfz212_1
  try clear hfz214_0
  try clear hfz214_1
  try clear hfz217_0
  try clear hfz217_1
  try clear hfz223_0
  try clear hfz223_1
  try clear hfz225_0
  try clear hfz225_1
  try clear hfz229_0
  try clear hfz229_1
  try clear hfz231_0
  try clear hfz231_1
  try clear hfz232_0
  try clear hfz232_1
  try clear hfz36_0
  try clear hfz36_1
  try clear hfz38_0
  try clear hfz38_1
  try clear hfz42_0
  try clear hfz42_1
  try clear hfz44_0
  try clear hfz44_1
  try clear hfz45_0
  try clear hfz45_1
  try clear hfz47_0
  try clear hfz47_1
  try clear hfz48_0
  try clear hfz48_1
  try clear hfz50_0
  try clear hfz50_1
  try clear hfz53_0
  try clear hfz53_1
  try clear hfz55_0
  try clear hfz55_1
  try clear hfz56_0
  try clear hfz56_1
  try clear hfz62_0
  try clear hfz62_1
  try clear hfz64_0
  try clear hfz64_1
  try clear hfz68_0
  try clear hfz68_1
  try clear hfz70_0
  try clear hfz70_1
  try clear hfz71_0
  try clear hfz71_1
  try clear hfz73_0
  try clear hfz73_1
  try clear hfz74_0
  try clear hfz74_1
  try clear hfz76_0
  try clear hfz76_1
  try clear hfz79_0
  try clear hfz79_1
  try clear hfz85_0
  try clear hfz85_1
  try clear hfz87_0
  try clear hfz87_1
  try clear hfz91_0
  try clear hfz91_1
  try clear hfz93_0
  try clear hfz93_1
  try clear hfz94_0
  try clear hfz94_1
  try clear hfz96_0
  try clear hfz96_1
  try clear hfz97_0
  try clear hfz97_1
  obtain ⟨kq, x49_5, rfl, HA, HJ5, BK299, BK300, BK301, BK306, BK307, HB⟩ := hcut
  cases kq with
  | zero => exact absurd HA.out (by simp [liverylaw01_VecOrder.j0])
  | succ kj5 =>
   have H := HA.out
   clear HA
   simp only [liverylaw01_VecOrder.j0] at H
   by_cases c234 : x49_5 = true
   ·subst c234
    have H1 := H; rw [if_pos rfl] at H1
    clear H
    have H := H1
    clear H1
    exact absurd H (by simp)
   ·replace c234 := Bool.eq_false_iff.mpr c234
    subst c234
    have H1 := H; rw [if_neg (show ¬ (false = true) by decide)] at H1
    clear H
    have H := H1
    clear H1
    have HC235 := XPrint.A0 H
    clear H
    go_upto_region 4 with (fail)
    go_cut [85] (fun v85 wc => ∃ (kq : Nat) (x85_234 : Bool), v85 = .bool x85_234 ∧ Aside0 (liverylaw01_VecOrder.j1 kq x85_234 a0_0 a0_1 a1_0 a1_1 a2_0 a2_1 t302 t303 t304 t305 = some r) ∧ Aside0 (kq ≤ kj5) ∧ Aside0 (wc.heap[gb299]? = some (.cells #[.int .i64 a0_0, .int .i64 a0_1] 23 (0, 0))) ∧ Aside0 (wc.heap[gb300]? = some (.cells #[.int .i64 a1_0, .int .i64 a1_1] 23 (0, 0))) ∧ Aside0 (wc.heap[gb301]? = some (.cells #[.int .i64 a2_0, .int .i64 a2_1] 23 (0, 0))) ∧ Aside0 (wc.heap[gb306]? = some (.cells #[.int .i64 t302, .int .i64 t303] 23 (0, 0))) ∧ Aside0 (wc.heap[gb307]? = some (.cells #[.int .i64 t304, .int .i64 t305] 23 (0, 0))) ∧ Aside0 (Below w.heap.size w wc))
    case first =>
     have H := HC235.out
     clear HC235
     replace H := Option.bind_eq_some_iff.mp H
     obtain ⟨t320, A2360, H⟩ := H
     try set_option simprocs false in dsimp only at H
     have A236 := XPrint.A0 A2360
     clear A2360
     by_cases c237 : t320 = true
     ·subst c237
      have H1 := H; rw [if_pos rfl] at H1
      clear H
      have H := H1
      clear H1
      replace H := Option.bind_eq_some_iff.mp H
      obtain ⟨t321, A2380, H⟩ := H
      try set_option simprocs false in dsimp only at H
      have A238 := XPrint.A0 A2380
      clear A2380
      by_cases c239 : t321 = true
      ·subst c239
       have H1 := H; rw [if_pos rfl] at H1
       clear H
       have H := H1
       clear H1
       replace H := Option.bind_eq_some_iff.mp H
       obtain ⟨t322, A2400, H⟩ := H
       try set_option simprocs false in dsimp only at H
       have A240 := XPrint.A0 A2400
       clear A2400
       by_cases c241 : t322 = true
       ·subst c241
        have H1 := H; rw [if_pos rfl] at H1
        clear H
        have H := H1
        clear H1
        replace H := Option.bind_eq_some_iff.mp H
        obtain ⟨t323, A2420, H⟩ := H
        try set_option simprocs false in dsimp only at H
        have A242 := XPrint.A0 A2420
        clear A2420
        by_cases c243 : t323 = true
        ·subst c243
         have H1 := H; rw [if_pos rfl] at H1
         clear H
         have H := H1
         clear H1
         replace H := Option.bind_eq_some_iff.mp H
         obtain ⟨⟨t324, t325⟩, A2440, H⟩ := H
         replace H : (if (!(t302 == t324) || (!(t303 == t325))) = true then (none) else ((vec_Max.f a1_0 a1_1 a0_0 a0_1).bind fun bt326 => (liverylaw01_VecOrder.j1 kj5 (!(t304 == bt326.1) || (!(t305 == bt326.2))) a0_0 a0_1 a1_0 a1_1 a2_0 a2_1 t302 t303 t304 t305))) = some r := H
         have A244 := XPrint.A0 A2440
         clear A2440
         by_cases c245 : (!(t302 == t324) || (!(t303 == t325))) = true
         ·rw [if_pos c245] at H
          have c245b0 : (!(t302 == t324) || (!(t303 == t325))) = true := c245
          clear c245
          (first | rw [c245b0] | (simp only [i64_w, i32_w]; rw [c245b0]) | skip)
          exact absurd H (by simp)
         ·rw [if_neg c245] at H
          have c245b0 : (!(t302 == t324) || (!(t303 == t325))) = false := by simpa using c245
          clear c245
          (first | rw [c245b0] | (simp only [i64_w, i32_w]; rw [c245b0]) | skip)
          replace H := Option.bind_eq_some_iff.mp H
          obtain ⟨⟨t326, t327⟩, A2460, H⟩ := H
          replace H : (liverylaw01_VecOrder.j1 kj5 (!(t304 == t326) || (!(t305 == t327))) a0_0 a0_1 a1_0 a1_1 a2_0 a2_1 t302 t303 t304 t305) = some r := H
          have A246 := XPrint.A0 A2460
          clear A2460
          have H' := XPrint.A0 H
          clear H
          try go_wp2
          replace BK299 := XPrint.A0 (blk_drew BK299.out)
          replace BK300 := XPrint.A0 (blk_drew BK300.out)
          replace BK301 := XPrint.A0 (blk_drew BK301.out)
          replace BK306 := XPrint.A0 (blk_drew BK306.out)
          replace BK307 := XPrint.A0 (blk_drew BK307.out)
          replace HB := XPrint.A0 (below_drew1 HB.out)
          refine start_ (n := 36) (S := fun w' => w'.cell? ⟨gb306, 0, none⟩ = some (.int .i64 t302) ∧ w'.cell? ⟨gb306, 1, none⟩ = some (.int .i64 t303) ∧ w'.cell? ⟨gb299, 0, none⟩ = some (.int .i64 a0_0) ∧ w'.cell? ⟨gb299, 1, none⟩ = some (.int .i64 a0_1) ∧ w'.cell? ⟨gb300, 0, none⟩ = some (.int .i64 a1_0) ∧ w'.cell? ⟨gb300, 1, none⟩ = some (.int .i64 a1_1) ∧ w'.cell? ⟨gb307, 0, none⟩ = some (.int .i64 t304) ∧ w'.cell? ⟨gb307, 1, none⟩ = some (.int .i64 t305)) (ds := []) #[false, false, false, false, false, false, false, false, false, false, false, false, false, false, false, false, false, false, false, false, false, false, false, false, false, false, false, false, false, false, false, false, false, false, false, false] (by kernel_rfl) rfl rfl ⟨(blk_cell BK306.out 0).trans rfl, (blk_cell BK306.out 1).trans rfl, (blk_cell BK299.out 0).trans rfl, (blk_cell BK299.out 1).trans rfl, (blk_cell BK300.out 0).trans rfl, (blk_cell BK300.out 1).trans rfl, (blk_cell BK307.out 0).trans rfl, (blk_cell BK307.out 1).trans rfl⟩ (fun hHeld => ?_); refine with_tabW liverylaw01_VecOrder.tab4 liverylaw01_VecOrder.bits4 (fun HT_ HW_ => ?_)
          generalize wc.drew = w247 at BK299 BK300 BK301 BK306 BK307 HB hHeld ⊢
          refine XPrint.ta 0 50 (XPrint.L 36 1) HT_.out HW_.out (v := ?_) (a' := ?_) ?_ hHeld ?_ ?_
          rotate_left
          ·rintro w' ⟨s0, s1, s2, s3, s4, s5, s6, s7⟩
           go_simp
           with_reducible rfl
          rotate_left
          ·simp only [XPrint.pw, i64_w, i32_w]
           rfl
          refine XPrint.ta 1 51 (XPrint.L 36 3) HT_.out HW_.out (v := ?_) (a' := ?_) ?_ hHeld ?_ ?_
          rotate_left
          ·rintro w' ⟨s0, s1, s2, s3, s4, s5, s6, s7⟩
           go_simp
           with_reducible rfl
          rotate_left
          ·simp only [XPrint.pw, i64_w, i32_w]
           rfl
          refine one_ (i := 2) (N := some 52) (XPrint.L 36 7) rfl rfl (one_of HT_.out (by kernel_rfl)) (by decide) (fun K hK => ?_)
          refine XPrint.gs Try.func26 #[.agg #[.int .i64 t302, .int .i64 t303], .agg #[.int .i64 a0_0, .int .i64 a0_1]] ?_
          with_reducible refine (vec_LE.calls t302 t303 a0_0 a0_1 true _ A236.out).mono ?_
          rintro e w248 ⟨rfl, hb⟩
          refine ⟨_, rfl, ?_⟩
          replace BK299 := XPrint.A0 (XPrint.ab BK299.out hb)
          replace BK300 := XPrint.A0 (XPrint.ab BK300.out hb)
          replace BK301 := XPrint.A0 (XPrint.ab BK301.out hb)
          replace BK306 := XPrint.A0 (XPrint.ab BK306.out hb)
          replace BK307 := XPrint.A0 (XPrint.ab BK307.out hb)
          replace HB := XPrint.A0 (below_step (by exact XPrint.bz HB.out) hb)
          (try clear hb)
          (try clear hb2)
          (try clear hk)
          (try clear hi)
          refine hK.out _ _ ⟨(blk_cell BK306.out 0).trans rfl, (blk_cell BK306.out 1).trans rfl, (blk_cell BK299.out 0).trans rfl, (blk_cell BK299.out 1).trans rfl, (blk_cell BK300.out 0).trans rfl, (blk_cell BK300.out 1).trans rfl, (blk_cell BK307.out 0).trans rfl, (blk_cell BK307.out 1).trans rfl⟩ (fun hHeld => ?_)
          clear hK K
          refine norm_ (a' := ?_) ?_ ?_
          rotate_left
          ·show Act.put _ (some 52) _ = _
           simp only [XPrint.pw, i64_w, i32_w]
           rfl
          refine XPrint.pu 3 53 (XPrint.L 36 15) HT_.out (v := ?_) (a' := ?_) ?_ ?_ ?_
          rotate_left
          ·intro w'
           go_simp
           with_reducible rfl
          rotate_left
          ·simp only [XPrint.pw, i64_w, i32_w]
           rfl
          refine XPrint.pu 4 54 (XPrint.L 36 31) HT_.out (v := ?_) (a' := ?_) ?_ ?_ ?_
          rotate_left
          ·intro w'
           go_simp
           with_reducible rfl
          rotate_left
          ·simp only [XPrint.pw, i64_w, i32_w]
           rfl
          refine XPrint.ta 5 55 (XPrint.L 36 63) HT_.out HW_.out (v := ?_) (a' := ?_) ?_ hHeld ?_ ?_
          rotate_left
          ·rintro w' ⟨s0, s1, s2, s3, s4, s5, s6, s7⟩
           go_simp
           with_reducible rfl
          rotate_left
          ·simp only [XPrint.pw, i64_w, i32_w]
           rfl
          refine XPrint.ta 6 56 (XPrint.L 36 127) HT_.out HW_.out (v := ?_) (a' := ?_) ?_ hHeld ?_ ?_
          rotate_left
          ·rintro w' ⟨s0, s1, s2, s3, s4, s5, s6, s7⟩
           go_simp
           with_reducible rfl
          rotate_left
          ·simp only [XPrint.pw, i64_w, i32_w]
           rfl
          refine one_ (i := 7) (N := some 57) (XPrint.L 36 255) rfl rfl (one_of HT_.out (by kernel_rfl)) (by decide) (fun K hK => ?_)
          refine XPrint.gs Try.func26 #[.agg #[.int .i64 t302, .int .i64 t303], .agg #[.int .i64 a1_0, .int .i64 a1_1]] ?_
          with_reducible refine (vec_LE.calls t302 t303 a1_0 a1_1 true _ A238.out).mono ?_
          rintro e w249 ⟨rfl, hb⟩
          refine ⟨_, rfl, ?_⟩
          replace BK299 := XPrint.A0 (XPrint.ab BK299.out hb)
          replace BK300 := XPrint.A0 (XPrint.ab BK300.out hb)
          replace BK301 := XPrint.A0 (XPrint.ab BK301.out hb)
          replace BK306 := XPrint.A0 (XPrint.ab BK306.out hb)
          replace BK307 := XPrint.A0 (XPrint.ab BK307.out hb)
          replace HB := XPrint.A0 (below_step (by exact XPrint.bz HB.out) hb)
          (try clear hb)
          (try clear hb2)
          (try clear hk)
          (try clear hi)
          refine hK.out _ _ ⟨(blk_cell BK306.out 0).trans rfl, (blk_cell BK306.out 1).trans rfl, (blk_cell BK299.out 0).trans rfl, (blk_cell BK299.out 1).trans rfl, (blk_cell BK300.out 0).trans rfl, (blk_cell BK300.out 1).trans rfl, (blk_cell BK307.out 0).trans rfl, (blk_cell BK307.out 1).trans rfl⟩ (fun hHeld => ?_)
          clear hK K
          refine norm_ (a' := ?_) ?_ ?_
          rotate_left
          ·show Act.put _ (some 57) _ = _
           simp only [XPrint.pw, i64_w, i32_w]
           rfl
          refine XPrint.pu 8 58 (XPrint.L 36 511) HT_.out (v := ?_) (a' := ?_) ?_ ?_ ?_
          rotate_left
          ·intro w'
           go_simp
           with_reducible rfl
          rotate_left
          ·simp only [XPrint.pw, i64_w, i32_w]
           rfl
          refine XPrint.pu 9 59 (XPrint.L 36 1023) HT_.out (v := ?_) (a' := ?_) ?_ ?_ ?_
          rotate_left
          ·intro w'
           go_simp
           with_reducible rfl
          rotate_left
          ·simp only [XPrint.pw, i64_w, i32_w]
           rfl
          refine XPrint.pu 10 60 (XPrint.L 36 2047) HT_.out (v := ?_) (a' := ?_) ?_ ?_ ?_
          rotate_left
          ·intro w'
           go_simp
           with_reducible rfl
          rotate_left
          ·simp only [XPrint.pw, i64_w, i32_w]
           rfl
          refine XPrint.ta 11 61 (XPrint.L 36 4095) HT_.out HW_.out (v := ?_) (a' := ?_) ?_ hHeld ?_ ?_
          rotate_left
          ·rintro w' ⟨s0, s1, s2, s3, s4, s5, s6, s7⟩
           go_simp
           with_reducible rfl
          rotate_left
          ·simp only [XPrint.pw, i64_w, i32_w]
           rfl
          refine XPrint.ta 12 62 (XPrint.L 36 8191) HT_.out HW_.out (v := ?_) (a' := ?_) ?_ hHeld ?_ ?_
          rotate_left
          ·rintro w' ⟨s0, s1, s2, s3, s4, s5, s6, s7⟩
           go_simp
           with_reducible rfl
          rotate_left
          ·simp only [XPrint.pw, i64_w, i32_w]
           rfl
          refine one_ (i := 13) (N := some 63) (XPrint.L 36 16383) rfl rfl (one_of HT_.out (by kernel_rfl)) (by decide) (fun K hK => ?_)
          refine XPrint.gs Try.func26 #[.agg #[.int .i64 a0_0, .int .i64 a0_1], .agg #[.int .i64 t304, .int .i64 t305]] ?_
          with_reducible refine (vec_LE.calls a0_0 a0_1 t304 t305 true _ A240.out).mono ?_
          rintro e w250 ⟨rfl, hb⟩
          refine ⟨_, rfl, ?_⟩
          replace BK299 := XPrint.A0 (XPrint.ab BK299.out hb)
          replace BK300 := XPrint.A0 (XPrint.ab BK300.out hb)
          replace BK301 := XPrint.A0 (XPrint.ab BK301.out hb)
          replace BK306 := XPrint.A0 (XPrint.ab BK306.out hb)
          replace BK307 := XPrint.A0 (XPrint.ab BK307.out hb)
          replace HB := XPrint.A0 (below_step (by exact XPrint.bz HB.out) hb)
          (try clear hb)
          (try clear hb2)
          (try clear hk)
          (try clear hi)
          refine hK.out _ _ ⟨(blk_cell BK306.out 0).trans rfl, (blk_cell BK306.out 1).trans rfl, (blk_cell BK299.out 0).trans rfl, (blk_cell BK299.out 1).trans rfl, (blk_cell BK300.out 0).trans rfl, (blk_cell BK300.out 1).trans rfl, (blk_cell BK307.out 0).trans rfl, (blk_cell BK307.out 1).trans rfl⟩ (fun hHeld => ?_)
          clear hK K
          refine norm_ (a' := ?_) ?_ ?_
          rotate_left
          ·show Act.put _ (some 63) _ = _
           simp only [XPrint.pw, i64_w, i32_w]
           rfl
          refine XPrint.pu 14 64 (XPrint.L 36 32767) HT_.out (v := ?_) (a' := ?_) ?_ ?_ ?_
          rotate_left
          ·intro w'
           go_simp
           with_reducible rfl
          rotate_left
          ·simp only [XPrint.pw, i64_w, i32_w]
           rfl
          refine XPrint.pu 15 65 (XPrint.L 36 65535) HT_.out (v := ?_) (a' := ?_) ?_ ?_ ?_
          rotate_left
          ·intro w'
           go_simp
           with_reducible rfl
          rotate_left
          ·simp only [XPrint.pw, i64_w, i32_w]
           rfl
          refine XPrint.pu 16 66 (XPrint.L 36 131071) HT_.out (v := ?_) (a' := ?_) ?_ ?_ ?_
          rotate_left
          ·intro w'
           go_simp
           with_reducible rfl
          rotate_left
          ·simp only [XPrint.pw, i64_w, i32_w]
           rfl
          refine XPrint.ta 17 67 (XPrint.L 36 262143) HT_.out HW_.out (v := ?_) (a' := ?_) ?_ hHeld ?_ ?_
          rotate_left
          ·rintro w' ⟨s0, s1, s2, s3, s4, s5, s6, s7⟩
           go_simp
           with_reducible rfl
          rotate_left
          ·simp only [XPrint.pw, i64_w, i32_w]
           rfl
          refine XPrint.ta 18 68 (XPrint.L 36 524287) HT_.out HW_.out (v := ?_) (a' := ?_) ?_ hHeld ?_ ?_
          rotate_left
          ·rintro w' ⟨s0, s1, s2, s3, s4, s5, s6, s7⟩
           go_simp
           with_reducible rfl
          rotate_left
          ·simp only [XPrint.pw, i64_w, i32_w]
           rfl
          refine one_ (i := 19) (N := some 69) (XPrint.L 36 1048575) rfl rfl (one_of HT_.out (by kernel_rfl)) (by decide) (fun K hK => ?_)
          refine XPrint.gs Try.func26 #[.agg #[.int .i64 a1_0, .int .i64 a1_1], .agg #[.int .i64 t304, .int .i64 t305]] ?_
          with_reducible refine (vec_LE.calls a1_0 a1_1 t304 t305 true _ A242.out).mono ?_
          rintro e w251 ⟨rfl, hb⟩
          refine ⟨_, rfl, ?_⟩
          replace BK299 := XPrint.A0 (XPrint.ab BK299.out hb)
          replace BK300 := XPrint.A0 (XPrint.ab BK300.out hb)
          replace BK301 := XPrint.A0 (XPrint.ab BK301.out hb)
          replace BK306 := XPrint.A0 (XPrint.ab BK306.out hb)
          replace BK307 := XPrint.A0 (XPrint.ab BK307.out hb)
          replace HB := XPrint.A0 (below_step (by exact XPrint.bz HB.out) hb)
          (try clear hb)
          (try clear hb2)
          (try clear hk)
          (try clear hi)
          refine hK.out _ _ ⟨(blk_cell BK306.out 0).trans rfl, (blk_cell BK306.out 1).trans rfl, (blk_cell BK299.out 0).trans rfl, (blk_cell BK299.out 1).trans rfl, (blk_cell BK300.out 0).trans rfl, (blk_cell BK300.out 1).trans rfl, (blk_cell BK307.out 0).trans rfl, (blk_cell BK307.out 1).trans rfl⟩ (fun hHeld => ?_)
          clear hK K
          refine norm_ (a' := ?_) ?_ ?_
          rotate_left
          ·show Act.put _ (some 69) _ = _
           simp only [XPrint.pw, i64_w, i32_w]
           rfl
          refine XPrint.pu 20 70 (XPrint.L 36 2097151) HT_.out (v := ?_) (a' := ?_) ?_ ?_ ?_
          rotate_left
          ·intro w'
           go_simp
           with_reducible rfl
          rotate_left
          ·simp only [XPrint.pw, i64_w, i32_w]
           rfl
          refine XPrint.pu 21 71 (XPrint.L 36 4194303) HT_.out (v := ?_) (a' := ?_) ?_ ?_ ?_
          rotate_left
          ·intro w'
           go_simp
           with_reducible rfl
          rotate_left
          ·simp only [XPrint.pw, i64_w, i32_w]
           rfl
          refine XPrint.pu 22 72 (XPrint.L 36 8388607) HT_.out (v := ?_) (a' := ?_) ?_ ?_ ?_
          rotate_left
          ·intro w'
           go_simp
           with_reducible rfl
          rotate_left
          ·simp only [XPrint.pw, i64_w, i32_w]
           rfl
          refine XPrint.ta 23 73 (XPrint.L 36 16777215) HT_.out HW_.out (v := ?_) (a' := ?_) ?_ hHeld ?_ ?_
          rotate_left
          ·rintro w' ⟨s0, s1, s2, s3, s4, s5, s6, s7⟩
           go_simp
           with_reducible rfl
          rotate_left
          ·simp only [XPrint.pw, i64_w, i32_w]
           rfl
          refine XPrint.ta 24 74 (XPrint.L 36 33554431) HT_.out HW_.out (v := ?_) (a' := ?_) ?_ hHeld ?_ ?_
          rotate_left
          ·rintro w' ⟨s0, s1, s2, s3, s4, s5, s6, s7⟩
           go_simp
           with_reducible rfl
          rotate_left
          ·simp only [XPrint.pw, i64_w, i32_w]
           rfl
          refine XPrint.ta 25 75 (XPrint.L 36 67108863) HT_.out HW_.out (v := ?_) (a' := ?_) ?_ hHeld ?_ ?_
          rotate_left
          ·rintro w' ⟨s0, s1, s2, s3, s4, s5, s6, s7⟩
           go_simp
           with_reducible rfl
          rotate_left
          ·simp only [XPrint.pw, i64_w, i32_w]
           rfl
          refine one_ (i := 26) (N := some 76) (XPrint.L 36 134217727) rfl rfl (one_of HT_.out (by kernel_rfl)) (by decide) (fun K hK => ?_)
          refine XPrint.gs Try.func22 #[.agg #[.int .i64 a1_0, .int .i64 a1_1], .agg #[.int .i64 a0_0, .int .i64 a0_1]] ?_
          with_reducible refine (vec_Min.calls a1_0 a1_1 a0_0 a0_1 t324 t325 _ A244.out).mono ?_
          rintro e w252 ⟨rfl, hb⟩
          refine ⟨_, rfl, ?_⟩
          replace BK299 := XPrint.A0 (XPrint.ab BK299.out hb)
          replace BK300 := XPrint.A0 (XPrint.ab BK300.out hb)
          replace BK301 := XPrint.A0 (XPrint.ab BK301.out hb)
          replace BK306 := XPrint.A0 (XPrint.ab BK306.out hb)
          replace BK307 := XPrint.A0 (XPrint.ab BK307.out hb)
          replace HB := XPrint.A0 (below_step (by exact XPrint.bz HB.out) hb)
          (try clear hb)
          (try clear hb2)
          (try clear hk)
          (try clear hi)
          refine hK.out _ _ ⟨(blk_cell BK306.out 0).trans rfl, (blk_cell BK306.out 1).trans rfl, (blk_cell BK299.out 0).trans rfl, (blk_cell BK299.out 1).trans rfl, (blk_cell BK300.out 0).trans rfl, (blk_cell BK300.out 1).trans rfl, (blk_cell BK307.out 0).trans rfl, (blk_cell BK307.out 1).trans rfl⟩ (fun hHeld => ?_)
          clear hK K
          refine norm_ (a' := ?_) ?_ ?_
          rotate_left
          ·show Act.put _ (some 76) _ = _
           simp only [XPrint.pw, i64_w, i32_w]
           rfl
          refine XPrint.pu 27 77 (XPrint.L 36 268435455) HT_.out (v := ?_) (a' := ?_) ?_ ?_ ?_
          rotate_left
          ·intro w'
           go_simp
           with_reducible rfl
          rotate_left
          ·simp only [XPrint.pw, i64_w, i32_w]
           rfl
          refine XPrint.pu 28 78 (XPrint.L 36 536870911) HT_.out (v := ?_) (a' := ?_) ?_ ?_ ?_
          rotate_left
          ·intro w'
           go_simp
           with_reducible rfl
          rotate_left
          ·simp only [XPrint.pw, i64_w, i32_w]
           rfl
          refine XPrint.pu 29 79 (XPrint.L 36 1073741823) HT_.out (v := ?_) (a' := ?_) ?_ ?_ ?_
          rotate_left
          ·intro w'
           go_simp
           with_reducible rfl
          rotate_left
          ·simp only [XPrint.pw, i64_w, i32_w]
           rfl
          refine XPrint.ta 30 80 (XPrint.L 36 2147483647) HT_.out HW_.out (v := ?_) (a' := ?_) ?_ hHeld ?_ ?_
          rotate_left
          ·rintro w' ⟨s0, s1, s2, s3, s4, s5, s6, s7⟩
           go_simp
           with_reducible rfl
          rotate_left
          ·simp only [XPrint.pw, i64_w, i32_w]
           rfl
          refine XPrint.ta 31 81 (XPrint.L 36 4294967295) HT_.out HW_.out (v := ?_) (a' := ?_) ?_ hHeld ?_ ?_
          rotate_left
          ·rintro w' ⟨s0, s1, s2, s3, s4, s5, s6, s7⟩
           go_simp
           with_reducible rfl
          rotate_left
          ·simp only [XPrint.pw, i64_w, i32_w]
           rfl
          refine XPrint.ta 32 82 (XPrint.L 36 8589934591) HT_.out HW_.out (v := ?_) (a' := ?_) ?_ hHeld ?_ ?_
          rotate_left
          ·rintro w' ⟨s0, s1, s2, s3, s4, s5, s6, s7⟩
           go_simp
           with_reducible rfl
          rotate_left
          ·simp only [XPrint.pw, i64_w, i32_w]
           rfl
          refine one_ (i := 33) (N := some 83) (XPrint.L 36 17179869183) rfl rfl (one_of HT_.out (by kernel_rfl)) (by decide) (fun K hK => ?_)
          refine XPrint.gs Try.func24 #[.agg #[.int .i64 a1_0, .int .i64 a1_1], .agg #[.int .i64 a0_0, .int .i64 a0_1]] ?_
          with_reducible refine (vec_Max.calls a1_0 a1_1 a0_0 a0_1 t326 t327 _ A246.out).mono ?_
          rintro e w253 ⟨rfl, hb⟩
          refine ⟨_, rfl, ?_⟩
          replace BK299 := XPrint.A0 (XPrint.ab BK299.out hb)
          replace BK300 := XPrint.A0 (XPrint.ab BK300.out hb)
          replace BK301 := XPrint.A0 (XPrint.ab BK301.out hb)
          replace BK306 := XPrint.A0 (XPrint.ab BK306.out hb)
          replace BK307 := XPrint.A0 (XPrint.ab BK307.out hb)
          replace HB := XPrint.A0 (below_step (by exact XPrint.bz HB.out) hb)
          (try clear hb)
          (try clear hb2)
          (try clear hk)
          (try clear hi)
          refine hK.out _ _ ⟨(blk_cell BK306.out 0).trans rfl, (blk_cell BK306.out 1).trans rfl, (blk_cell BK299.out 0).trans rfl, (blk_cell BK299.out 1).trans rfl, (blk_cell BK300.out 0).trans rfl, (blk_cell BK300.out 1).trans rfl, (blk_cell BK307.out 0).trans rfl, (blk_cell BK307.out 1).trans rfl⟩ (fun hHeld => ?_)
          clear hK K
          refine norm_ (a' := ?_) ?_ ?_
          rotate_left
          ·show Act.put _ (some 83) _ = _
           simp only [XPrint.pw, i64_w, i32_w]
           rfl
          refine XPrint.pu 34 84 (XPrint.L 36 34359738367) HT_.out (v := ?_) (a' := ?_) ?_ ?_ ?_
          rotate_left
          ·intro w'
           go_simp
           with_reducible rfl
          rotate_left
          ·simp only [XPrint.pw, i64_w, i32_w]
           rfl
          refine XPrint.pu 35 85 (XPrint.L 36 68719476735) HT_.out (v := ?_) (a' := ?_) ?_ ?_ ?_
          rotate_left
          ·intro w'
           go_simp
           with_reducible rfl
          rotate_left
          ·simp only [XPrint.pw, i64_w, i32_w]
           rfl
          refine done_ (done_of HT_.out (by kernel_rfl)) ?_
          try go_wp2
          go_meet
          case rel => exact ⟨_, ((!(t304 == t326) || (!(t305 == t327)))), (by first | rfl | (simp; done) | (simp [*]; done)), H', ⟨by have := HJ5.out; first | omega | exact Nat.le_refl _⟩, ⟨by (repeat with_reducible first | refine XPrint.d1 ?_ | refine XPrint.d2 ?_ _ | refine XPrint.d3 ?_ _); exact BK299.out⟩, ⟨by (repeat with_reducible first | refine XPrint.d1 ?_ | refine XPrint.d2 ?_ _ | refine XPrint.d3 ?_ _); exact BK300.out⟩, ⟨by (repeat with_reducible first | refine XPrint.d1 ?_ | refine XPrint.d2 ?_ _ | refine XPrint.d3 ?_ _); exact BK301.out⟩, ⟨by (repeat with_reducible first | refine XPrint.d1 ?_ | refine XPrint.d2 ?_ _ | refine XPrint.d3 ?_ _); exact BK306.out⟩, ⟨by (repeat with_reducible first | refine XPrint.d1 ?_ | refine XPrint.d2 ?_ _ | refine XPrint.d3 ?_ _); exact BK307.out⟩, ⟨by exact XPrint.bz HB.out⟩⟩
        ·replace c243 := Bool.eq_false_iff.mpr c243
         subst c243
         have H1 := H; rw [if_neg (show ¬ (false = true) by decide)] at H1
         clear H
         have H := H1
         clear H1
         exact absurd H (by simp)
       ·replace c241 := Bool.eq_false_iff.mpr c241
        subst c241
        have H1 := H; rw [if_neg (show ¬ (false = true) by decide)] at H1
        clear H
        have H := H1
        clear H1
        exact absurd H (by simp)
      ·replace c239 := Bool.eq_false_iff.mpr c239
       subst c239
       have H1 := H; rw [if_neg (show ¬ (false = true) by decide)] at H1
       clear H
       have H := H1
       clear H1
       exact absurd H (by simp)
     ·replace c237 := Bool.eq_false_iff.mpr c237
      subst c237
      have H1 := H; rw [if_neg (show ¬ (false = true) by decide)] at H1
      clear H
      have H := H1
      clear H1
      exact absurd H (by simp)
    case rest =>
     clear HC235
     try clear c2
     try clear p2
     try clear c22
     try clear c23
     try clear c24
     try clear c26
     try clear c234
     try clear c237
     try clear c239
     try clear c241
     try clear c243
     try clear c245
     try clear c245b0
     try clear hfz97_1
     obtain ⟨kq, x85_234, rfl, HA, HJ234, BK299, BK300, BK301, BK306, BK307, HB⟩ := hcut
     cases kq with
     | zero => exact absurd HA.out (by simp [liverylaw01_VecOrder.j1])
     | succ kj234 =>
      have H := HA.out
      clear HA
      simp only [liverylaw01_VecOrder.j1] at H
      by_cases c254 : x85_234 = true
      ·subst c254
       have H1 := H; rw [if_pos rfl] at H1
       clear H
       have H := H1
       clear H1
       exact absurd H (by simp)
      ·replace c254 := Bool.eq_false_iff.mpr c254
       subst c254
       have H1 := H; rw [if_neg (show ¬ (false = true) by decide)] at H1
       clear H
       have H := H1
       clear H1
       replace H := Option.bind_eq_some_iff.mp H
       obtain ⟨t328, A2550, H⟩ := H
       try set_option simprocs false in dsimp only at H
       have A255 := XPrint.A0 A2550
       clear A2550
       by_cases c256 : t328 = true
       ·subst c256
        have H1 := H; rw [if_pos rfl] at H1
        clear H
        have H := H1
        clear H1
        replace H := Option.bind_eq_some_iff.mp H
        obtain ⟨t329, A2570, H⟩ := H
        try set_option simprocs false in dsimp only at H
        have A257 := XPrint.A0 A2570
        clear A2570
        replace H := Option.bind_eq_some_iff.mp H
        obtain ⟨t330, A2580, H⟩ := H
        try set_option simprocs false in dsimp only at H
        have A258 := XPrint.A0 A2580
        clear A2580
        by_cases c259 : (t329 == t330) = true
        ·rw [if_pos c259] at H
         have c259b0 : (t329 == t330) = true := c259
         (try (have c259b1 : decide (t329 = t330) = true := by simpa using c259))
         (try (have c259b2 : (t329 == t330) = true := by simpa using c259))
         clear c259
         replace H := Option.bind_eq_some_iff.mp H
         obtain ⟨t331, A2600, H⟩ := H
         try set_option simprocs false in dsimp only at H
         have A260 := XPrint.A0 A2600
         clear A2600
         by_cases c261 : t331 = true
         ·subst c261
          have H1 := H; rw [if_pos rfl] at H1
          clear H
          have H := H1
          clear H1
          replace H := Option.bind_eq_some_iff.mp H
          obtain ⟨t332, A2620, H⟩ := H
          try set_option simprocs false in dsimp only at H
          have A262 := XPrint.A0 A2620
          clear A2620
          replace H := Option.bind_eq_some_iff.mp H
          obtain ⟨t333, A2630, H⟩ := H
          try set_option simprocs false in dsimp only at H
          have A263 := XPrint.A0 A2630
          clear A2630
          by_cases c264 : (t332 == t333) = true
          ·rw [if_pos c264] at H
           have c264b0 : (t332 == t333) = true := c264
           (try (have c264b1 : decide (t332 = t333) = true := by simpa using c264))
           (try (have c264b2 : (t332 == t333) = true := by simpa using c264))
           clear c264
           replace H := Option.bind_eq_some_iff.mp H
           obtain ⟨t334, A2650, H⟩ := H
           try set_option simprocs false in dsimp only at H
           have A265 := XPrint.A0 A2650
           clear A2650
           obtain rfl := Option.some.inj H
           try go_wp2
           replace BK299 := XPrint.A0 (blk_drew BK299.out)
           replace BK300 := XPrint.A0 (blk_drew BK300.out)
           replace BK301 := XPrint.A0 (blk_drew BK301.out)
           replace BK306 := XPrint.A0 (blk_drew BK306.out)
           replace BK307 := XPrint.A0 (blk_drew BK307.out)
           replace HB := XPrint.A0 (below_drew1 HB.out)
           refine start_ (n := 30) (S := fun w' => w'.cell? ⟨gb301, 0, none⟩ = some (.int .i64 a2_0) ∧ w'.cell? ⟨gb301, 1, none⟩ = some (.int .i64 a2_1) ∧ w'.cell? ⟨gb299, 0, none⟩ = some (.int .i64 a0_0) ∧ w'.cell? ⟨gb299, 1, none⟩ = some (.int .i64 a0_1) ∧ w'.cell? ⟨gb306, 0, none⟩ = some (.int .i64 t302) ∧ w'.cell? ⟨gb306, 1, none⟩ = some (.int .i64 t303) ∧ w'.cell? ⟨gb300, 0, none⟩ = some (.int .i64 a1_0) ∧ w'.cell? ⟨gb300, 1, none⟩ = some (.int .i64 a1_1) ∧ w'.cell? ⟨gb307, 0, none⟩ = some (.int .i64 t304) ∧ w'.cell? ⟨gb307, 1, none⟩ = some (.int .i64 t305)) (ds := []) #[false, false, false, false, false, false, false, false, false, false, false, false, false, false, false, false, false, false, false, false, false, false, false, false, false, false, false, false, false, false] (by kernel_rfl) rfl rfl ⟨(blk_cell BK301.out 0).trans rfl, (blk_cell BK301.out 1).trans rfl, (blk_cell BK299.out 0).trans rfl, (blk_cell BK299.out 1).trans rfl, (blk_cell BK306.out 0).trans rfl, (blk_cell BK306.out 1).trans rfl, (blk_cell BK300.out 0).trans rfl, (blk_cell BK300.out 1).trans rfl, (blk_cell BK307.out 0).trans rfl, (blk_cell BK307.out 1).trans rfl⟩ (fun hHeld => ?_); refine with_tabW liverylaw01_VecOrder.tab6 liverylaw01_VecOrder.bits6 (fun HT_ HW_ => ?_)
           generalize wc.drew = w266 at BK299 BK300 BK301 BK306 BK307 HB hHeld ⊢
           refine XPrint.ta 0 86 (XPrint.L 30 1) HT_.out HW_.out (v := ?_) (a' := ?_) ?_ hHeld ?_ ?_
           rotate_left
           ·rintro w' ⟨s0, s1, s2, s3, s4, s5, s6, s7, s8, s9⟩
            go_simp
            with_reducible rfl
           rotate_left
           ·simp only [XPrint.pw, i64_w, i32_w]
            rfl
           refine XPrint.ta 1 87 (XPrint.L 30 3) HT_.out HW_.out (v := ?_) (a' := ?_) ?_ hHeld ?_ ?_
           rotate_left
           ·rintro w' ⟨s0, s1, s2, s3, s4, s5, s6, s7, s8, s9⟩
            go_simp
            with_reducible rfl
           rotate_left
           ·simp only [XPrint.pw, i64_w, i32_w]
            rfl
           refine XPrint.ta 8 94 (XPrint.L 30 259) HT_.out HW_.out (v := ?_) (a' := ?_) ?_ hHeld ?_ ?_
           rotate_left
           ·rintro w' ⟨s0, s1, s2, s3, s4, s5, s6, s7, s8, s9⟩
            go_simp
            with_reducible rfl
           rotate_left
           ·simp only [XPrint.pw, i64_w, i32_w]
            rfl
           refine XPrint.ta 9 95 (XPrint.L 30 771) HT_.out HW_.out (v := ?_) (a' := ?_) ?_ hHeld ?_ ?_
           rotate_left
           ·rintro w' ⟨s0, s1, s2, s3, s4, s5, s6, s7, s8, s9⟩
            go_simp
            with_reducible rfl
           rotate_left
           ·simp only [XPrint.pw, i64_w, i32_w]
            rfl
           refine one_ (i := 2) (N := some 88) (XPrint.L 30 775) rfl rfl (one_of HT_.out (by kernel_rfl)) (by decide) (fun K hK => ?_)
           refine XPrint.gs Try.func26 #[.agg #[.int .i64 a2_0, .int .i64 a2_1], .agg #[.int .i64 a0_0, .int .i64 a0_1]] ?_
           with_reducible refine (vec_LE.calls a2_0 a2_1 a0_0 a0_1 true _ A255.out).mono ?_
           rintro e w267 ⟨rfl, hb⟩
           refine ⟨_, rfl, ?_⟩
           replace BK299 := XPrint.A0 (XPrint.ab BK299.out hb)
           replace BK300 := XPrint.A0 (XPrint.ab BK300.out hb)
           replace BK301 := XPrint.A0 (XPrint.ab BK301.out hb)
           replace BK306 := XPrint.A0 (XPrint.ab BK306.out hb)
           replace BK307 := XPrint.A0 (XPrint.ab BK307.out hb)
           replace HB := XPrint.A0 (below_step (by exact XPrint.bz HB.out) hb)
           (try clear hb)
           (try clear hb2)
           (try clear hk)
           (try clear hi)
           refine hK.out _ _ ⟨(blk_cell BK301.out 0).trans rfl, (blk_cell BK301.out 1).trans rfl, (blk_cell BK299.out 0).trans rfl, (blk_cell BK299.out 1).trans rfl, (blk_cell BK306.out 0).trans rfl, (blk_cell BK306.out 1).trans rfl, (blk_cell BK300.out 0).trans rfl, (blk_cell BK300.out 1).trans rfl, (blk_cell BK307.out 0).trans rfl, (blk_cell BK307.out 1).trans rfl⟩ (fun hHeld => ?_)
           clear hK K
           refine norm_ (a' := ?_) ?_ ?_
           rotate_left
           ·show Act.put _ (some 88) _ = _
            simp only [XPrint.pw, i64_w, i32_w]
            rfl
           refine XPrint.pu 3 89 (XPrint.L 30 783) HT_.out (v := ?_) (a' := ?_) ?_ ?_ ?_
           rotate_left
           ·intro w'
            go_simp
            with_reducible rfl
           rotate_left
           ·simp only [XPrint.pw, i64_w, i32_w]
            rfl
           refine XPrint.ta 4 90 (XPrint.L 30 799) HT_.out HW_.out (v := ?_) (a' := ?_) ?_ hHeld ?_ ?_
           rotate_left
           ·rintro w' ⟨s0, s1, s2, s3, s4, s5, s6, s7, s8, s9⟩
            go_simp
            with_reducible rfl
           rotate_left
           ·simp only [XPrint.pw, i64_w, i32_w]
            rfl
           refine XPrint.ta 5 91 (XPrint.L 30 831) HT_.out HW_.out (v := ?_) (a' := ?_) ?_ hHeld ?_ ?_
           rotate_left
           ·rintro w' ⟨s0, s1, s2, s3, s4, s5, s6, s7, s8, s9⟩
            go_simp
            with_reducible rfl
           rotate_left
           ·simp only [XPrint.pw, i64_w, i32_w]
            rfl
           refine one_ (i := 6) (N := some 92) (XPrint.L 30 895) rfl rfl (one_of HT_.out (by kernel_rfl)) (by decide) (fun K hK => ?_)
           refine XPrint.gs Try.func26 #[.agg #[.int .i64 a2_0, .int .i64 a2_1], .agg #[.int .i64 a1_0, .int .i64 a1_1]] ?_
           with_reducible refine (vec_LE.calls a2_0 a2_1 a1_0 a1_1 t329 _ A257.out).mono ?_
           rintro e w268 ⟨rfl, hb⟩
           refine ⟨_, rfl, ?_⟩
           replace BK299 := XPrint.A0 (XPrint.ab BK299.out hb)
           replace BK300 := XPrint.A0 (XPrint.ab BK300.out hb)
           replace BK301 := XPrint.A0 (XPrint.ab BK301.out hb)
           replace BK306 := XPrint.A0 (XPrint.ab BK306.out hb)
           replace BK307 := XPrint.A0 (XPrint.ab BK307.out hb)
           replace HB := XPrint.A0 (below_step (by exact XPrint.bz HB.out) hb)
           (try clear hb)
           (try clear hb2)
           (try clear hk)
           (try clear hi)
           refine hK.out _ _ ⟨(blk_cell BK301.out 0).trans rfl, (blk_cell BK301.out 1).trans rfl, (blk_cell BK299.out 0).trans rfl, (blk_cell BK299.out 1).trans rfl, (blk_cell BK306.out 0).trans rfl, (blk_cell BK306.out 1).trans rfl, (blk_cell BK300.out 0).trans rfl, (blk_cell BK300.out 1).trans rfl, (blk_cell BK307.out 0).trans rfl, (blk_cell BK307.out 1).trans rfl⟩ (fun hHeld => ?_)
           clear hK K
           refine norm_ (a' := ?_) ?_ ?_
           rotate_left
           ·show Act.put _ (some 92) _ = _
            simp only [XPrint.pw, i64_w, i32_w]
            rfl
           refine XPrint.pu 7 93 (XPrint.L 30 1023) HT_.out (v := ?_) (a' := ?_) ?_ ?_ ?_
           rotate_left
           ·intro w'
            go_simp
            with_reducible rfl
           rotate_left
           ·simp only [XPrint.pw, i64_w, i32_w]
            rfl
           refine one_ (i := 10) (N := some 96) (XPrint.L 30 2047) rfl rfl (one_of HT_.out (by kernel_rfl)) (by decide) (fun K hK => ?_)
           refine XPrint.gs Try.func26 #[.agg #[.int .i64 a2_0, .int .i64 a2_1], .agg #[.int .i64 t302, .int .i64 t303]] ?_
           with_reducible refine (vec_LE.calls a2_0 a2_1 t302 t303 t330 _ A258.out).mono ?_
           rintro e w269 ⟨rfl, hb⟩
           refine ⟨_, rfl, ?_⟩
           replace BK299 := XPrint.A0 (XPrint.ab BK299.out hb)
           replace BK300 := XPrint.A0 (XPrint.ab BK300.out hb)
           replace BK301 := XPrint.A0 (XPrint.ab BK301.out hb)
           replace BK306 := XPrint.A0 (XPrint.ab BK306.out hb)
           replace BK307 := XPrint.A0 (XPrint.ab BK307.out hb)
           replace HB := XPrint.A0 (below_step (by exact XPrint.bz HB.out) hb)
           (try clear hb)
           (try clear hb2)
           (try clear hk)
           (try clear hi)
           refine hK.out _ _ ⟨(blk_cell BK301.out 0).trans rfl, (blk_cell BK301.out 1).trans rfl, (blk_cell BK299.out 0).trans rfl, (blk_cell BK299.out 1).trans rfl, (blk_cell BK306.out 0).trans rfl, (blk_cell BK306.out 1).trans rfl, (blk_cell BK300.out 0).trans rfl, (blk_cell BK300.out 1).trans rfl, (blk_cell BK307.out 0).trans rfl, (blk_cell BK307.out 1).trans rfl⟩ (fun hHeld => ?_)
           clear hK K
           refine norm_ (a' := ?_) ?_ ?_
           rotate_left
           ·show Act.put _ (some 96) _ = _
            simp only [XPrint.pw, i64_w, i32_w]
            rfl
           refine XPrint.pu 11 97 (XPrint.L 30 4095) HT_.out (v := ?_) (a' := ?_) ?_ ?_ ?_
           rotate_left
           ·intro w'
            go_simp
            with_reducible rfl
           rotate_left
           ·simp only [XPrint.pw, i64_w, i32_w]
            rfl
           refine XPrint.pu 12 98 (XPrint.L 30 8191) HT_.out (v := ?_) (a' := ?_) ?_ ?_ ?_
           rotate_left
           ·intro w'
            go_simp
            with_reducible rfl
           rotate_left
           ·simp only [XPrint.pw, i64_w, i32_w]
            rfl
           refine XPrint.ta 13 99 (XPrint.L 30 16383) HT_.out HW_.out (v := ?_) (a' := ?_) ?_ hHeld ?_ ?_
           rotate_left
           ·rintro w' ⟨s0, s1, s2, s3, s4, s5, s6, s7, s8, s9⟩
            go_simp
            with_reducible rfl
           rotate_left
           ·simp only [XPrint.pw, i64_w, i32_w]
            rfl
           refine XPrint.ta 14 100 (XPrint.L 30 32767) HT_.out HW_.out (v := ?_) (a' := ?_) ?_ hHeld ?_ ?_
           rotate_left
           ·rintro w' ⟨s0, s1, s2, s3, s4, s5, s6, s7, s8, s9⟩
            go_simp
            with_reducible rfl
           rotate_left
           ·simp only [XPrint.pw, i64_w, i32_w]
            rfl
           refine XPrint.ta 21 107 (XPrint.L 30 2129919) HT_.out HW_.out (v := ?_) (a' := ?_) ?_ hHeld ?_ ?_
           rotate_left
           ·rintro w' ⟨s0, s1, s2, s3, s4, s5, s6, s7, s8, s9⟩
            go_simp
            with_reducible rfl
           rotate_left
           ·simp only [XPrint.pw, i64_w, i32_w]
            rfl
           refine XPrint.ta 22 108 (XPrint.L 30 6324223) HT_.out HW_.out (v := ?_) (a' := ?_) ?_ hHeld ?_ ?_
           rotate_left
           ·rintro w' ⟨s0, s1, s2, s3, s4, s5, s6, s7, s8, s9⟩
            go_simp
            with_reducible rfl
           rotate_left
           ·simp only [XPrint.pw, i64_w, i32_w]
            rfl
           refine one_ (i := 15) (N := some 101) (XPrint.L 30 6356991) rfl rfl (one_of HT_.out (by kernel_rfl)) (by decide) (fun K hK => ?_)
           refine XPrint.gs Try.func26 #[.agg #[.int .i64 a0_0, .int .i64 a0_1], .agg #[.int .i64 a2_0, .int .i64 a2_1]] ?_
           with_reducible refine (vec_LE.calls a0_0 a0_1 a2_0 a2_1 true _ A260.out).mono ?_
           rintro e w270 ⟨rfl, hb⟩
           refine ⟨_, rfl, ?_⟩
           replace BK299 := XPrint.A0 (XPrint.ab BK299.out hb)
           replace BK300 := XPrint.A0 (XPrint.ab BK300.out hb)
           replace BK301 := XPrint.A0 (XPrint.ab BK301.out hb)
           replace BK306 := XPrint.A0 (XPrint.ab BK306.out hb)
           replace BK307 := XPrint.A0 (XPrint.ab BK307.out hb)
           replace HB := XPrint.A0 (below_step (by exact XPrint.bz HB.out) hb)
           (try clear hb)
           (try clear hb2)
           (try clear hk)
           (try clear hi)
           refine hK.out _ _ ⟨(blk_cell BK301.out 0).trans rfl, (blk_cell BK301.out 1).trans rfl, (blk_cell BK299.out 0).trans rfl, (blk_cell BK299.out 1).trans rfl, (blk_cell BK306.out 0).trans rfl, (blk_cell BK306.out 1).trans rfl, (blk_cell BK300.out 0).trans rfl, (blk_cell BK300.out 1).trans rfl, (blk_cell BK307.out 0).trans rfl, (blk_cell BK307.out 1).trans rfl⟩ (fun hHeld => ?_)
           clear hK K
           refine norm_ (a' := ?_) ?_ ?_
           rotate_left
           ·show Act.put _ (some 101) _ = _
            simp only [XPrint.pw, i64_w, i32_w]
            rfl
           refine XPrint.pu 16 102 (XPrint.L 30 6422527) HT_.out (v := ?_) (a' := ?_) ?_ ?_ ?_
           rotate_left
           ·intro w'
            go_simp
            with_reducible rfl
           rotate_left
           ·simp only [XPrint.pw, i64_w, i32_w]
            rfl
           refine XPrint.ta 17 103 (XPrint.L 30 6553599) HT_.out HW_.out (v := ?_) (a' := ?_) ?_ hHeld ?_ ?_
           rotate_left
           ·rintro w' ⟨s0, s1, s2, s3, s4, s5, s6, s7, s8, s9⟩
            go_simp
            with_reducible rfl
           rotate_left
           ·simp only [XPrint.pw, i64_w, i32_w]
            rfl
           refine XPrint.ta 18 104 (XPrint.L 30 6815743) HT_.out HW_.out (v := ?_) (a' := ?_) ?_ hHeld ?_ ?_
           rotate_left
           ·rintro w' ⟨s0, s1, s2, s3, s4, s5, s6, s7, s8, s9⟩
            go_simp
            with_reducible rfl
           rotate_left
           ·simp only [XPrint.pw, i64_w, i32_w]
            rfl
           refine one_ (i := 19) (N := some 105) (XPrint.L 30 7340031) rfl rfl (one_of HT_.out (by kernel_rfl)) (by decide) (fun K hK => ?_)
           refine XPrint.gs Try.func26 #[.agg #[.int .i64 a1_0, .int .i64 a1_1], .agg #[.int .i64 a2_0, .int .i64 a2_1]] ?_
           with_reducible refine (vec_LE.calls a1_0 a1_1 a2_0 a2_1 t332 _ A262.out).mono ?_
           rintro e w271 ⟨rfl, hb⟩
           refine ⟨_, rfl, ?_⟩
           replace BK299 := XPrint.A0 (XPrint.ab BK299.out hb)
           replace BK300 := XPrint.A0 (XPrint.ab BK300.out hb)
           replace BK301 := XPrint.A0 (XPrint.ab BK301.out hb)
           replace BK306 := XPrint.A0 (XPrint.ab BK306.out hb)
           replace BK307 := XPrint.A0 (XPrint.ab BK307.out hb)
           replace HB := XPrint.A0 (below_step (by exact XPrint.bz HB.out) hb)
           (try clear hb)
           (try clear hb2)
           (try clear hk)
           (try clear hi)
           refine hK.out _ _ ⟨(blk_cell BK301.out 0).trans rfl, (blk_cell BK301.out 1).trans rfl, (blk_cell BK299.out 0).trans rfl, (blk_cell BK299.out 1).trans rfl, (blk_cell BK306.out 0).trans rfl, (blk_cell BK306.out 1).trans rfl, (blk_cell BK300.out 0).trans rfl, (blk_cell BK300.out 1).trans rfl, (blk_cell BK307.out 0).trans rfl, (blk_cell BK307.out 1).trans rfl⟩ (fun hHeld => ?_)
           clear hK K
           refine norm_ (a' := ?_) ?_ ?_
           rotate_left
           ·show Act.put _ (some 105) _ = _
            simp only [XPrint.pw, i64_w, i32_w]
            rfl
           refine XPrint.pu 20 106 (XPrint.L 30 8388607) HT_.out (v := ?_) (a' := ?_) ?_ ?_ ?_
           rotate_left
           ·intro w'
            go_simp
            with_reducible rfl
           rotate_left
           ·simp only [XPrint.pw, i64_w, i32_w]
            rfl
           refine one_ (i := 23) (N := some 109) (XPrint.L 30 16777215) rfl rfl (one_of HT_.out (by kernel_rfl)) (by decide) (fun K hK => ?_)
           refine XPrint.gs Try.func26 #[.agg #[.int .i64 t304, .int .i64 t305], .agg #[.int .i64 a2_0, .int .i64 a2_1]] ?_
           with_reducible refine (vec_LE.calls t304 t305 a2_0 a2_1 t333 _ A263.out).mono ?_
           rintro e w272 ⟨rfl, hb⟩
           refine ⟨_, rfl, ?_⟩
           replace BK299 := XPrint.A0 (XPrint.ab BK299.out hb)
           replace BK300 := XPrint.A0 (XPrint.ab BK300.out hb)
           replace BK301 := XPrint.A0 (XPrint.ab BK301.out hb)
           replace BK306 := XPrint.A0 (XPrint.ab BK306.out hb)
           replace BK307 := XPrint.A0 (XPrint.ab BK307.out hb)
           replace HB := XPrint.A0 (below_step (by exact XPrint.bz HB.out) hb)
           (try clear hb)
           (try clear hb2)
           (try clear hk)
           (try clear hi)
           refine hK.out _ _ ⟨(blk_cell BK301.out 0).trans rfl, (blk_cell BK301.out 1).trans rfl, (blk_cell BK299.out 0).trans rfl, (blk_cell BK299.out 1).trans rfl, (blk_cell BK306.out 0).trans rfl, (blk_cell BK306.out 1).trans rfl, (blk_cell BK300.out 0).trans rfl, (blk_cell BK300.out 1).trans rfl, (blk_cell BK307.out 0).trans rfl, (blk_cell BK307.out 1).trans rfl⟩ (fun hHeld => ?_)
           clear hK K
           refine norm_ (a' := ?_) ?_ ?_
           rotate_left
           ·show Act.put _ (some 109) _ = _
            simp only [XPrint.pw, i64_w, i32_w]
            rfl
           refine XPrint.pu 24 110 (XPrint.L 30 33554431) HT_.out (v := ?_) (a' := ?_) ?_ ?_ ?_
           rotate_left
           ·intro w'
            go_simp
            with_reducible rfl
           rotate_left
           ·simp only [XPrint.pw, i64_w, i32_w]
            rfl
           refine XPrint.pu 25 111 (XPrint.L 30 67108863) HT_.out (v := ?_) (a' := ?_) ?_ ?_ ?_
           rotate_left
           ·intro w'
            go_simp
            with_reducible rfl
           rotate_left
           ·simp only [XPrint.pw, i64_w, i32_w]
            rfl
           refine XPrint.pu 26 112 (XPrint.L 30 134217727) HT_.out (v := ?_) (a' := ?_) ?_ ?_ ?_
           rotate_left
           ·intro w'
            go_simp
            with_reducible rfl
           rotate_left
           ·simp only [XPrint.pw, i64_w, i32_w]
            rfl
           refine one_ (i := 27) (N := some 113) (XPrint.L 30 268435455) rfl rfl (one_of HT_.out (by kernel_rfl)) (by decide) (fun K hK => ?_)
           refine XPrint.gs Try.func28 #[] ?_
           with_reducible refine (liverylaw01_head.calls kj234  t334 _ A265.out).mono ?_
           rintro e w273 ⟨rfl, hb⟩
           refine ⟨_, rfl, ?_⟩
           replace BK299 := XPrint.A0 (XPrint.ab BK299.out hb)
           replace BK300 := XPrint.A0 (XPrint.ab BK300.out hb)
           replace BK301 := XPrint.A0 (XPrint.ab BK301.out hb)
           replace BK306 := XPrint.A0 (XPrint.ab BK306.out hb)
           replace BK307 := XPrint.A0 (XPrint.ab BK307.out hb)
           replace HB := XPrint.A0 (below_step (by exact XPrint.bz HB.out) hb)
           (try clear hb)
           (try clear hb2)
           (try clear hk)
           (try clear hi)
           refine hK.out _ _ ⟨(blk_cell BK301.out 0).trans rfl, (blk_cell BK301.out 1).trans rfl, (blk_cell BK299.out 0).trans rfl, (blk_cell BK299.out 1).trans rfl, (blk_cell BK306.out 0).trans rfl, (blk_cell BK306.out 1).trans rfl, (blk_cell BK300.out 0).trans rfl, (blk_cell BK300.out 1).trans rfl, (blk_cell BK307.out 0).trans rfl, (blk_cell BK307.out 1).trans rfl⟩ (fun hHeld => ?_)
           clear hK K
           refine norm_ (a' := ?_) ?_ ?_
           rotate_left
           ·show Act.put _ (some 113) _ = _
            simp only [XPrint.pw, i64_w, i32_w]
            rfl
           refine XPrint.pu 28 114 (XPrint.L 30 536870911) HT_.out (v := ?_) (a' := ?_) ?_ ?_ ?_
           rotate_left
           ·intro w'
            go_simp
            with_reducible rfl
           rotate_left
           ·simp only [XPrint.pw, i64_w, i32_w]
            rfl
           refine XPrint.pu 29 6 (XPrint.L 30 1073741823) HT_.out (v := ?_) (a' := ?_) ?_ ?_ ?_
           rotate_left
           ·intro w'
            go_simp
            with_reducible rfl
           rotate_left
           ·simp only [XPrint.pw, i64_w, i32_w]
            rfl
           refine done_ (done_of HT_.out (by kernel_rfl)) ?_
           try go_wp2
           go_ret
           exact ⟨by first | rfl | (simp [errW_none, errW_some] <;> rfl) | (simp [*, errW_none, errW_some] <;> rfl), by exact XPrint.bz HB.out⟩
          ·rw [if_neg c264] at H
           have c264b0 : (t332 == t333) = false := by simpa using c264
           (try (have c264b1 : decide (t332 = t333) = false := by simpa using c264))
           (try (have c264b2 : (t332 == t333) = false := by simpa using c264))
           (try (have c264b3 : ¬ (t332 = t333) := by simpa using c264))
           clear c264
           exact absurd H (by simp)
         ·replace c261 := Bool.eq_false_iff.mpr c261
          subst c261
          have H1 := H; rw [if_neg (show ¬ (false = true) by decide)] at H1
          clear H
          have H := H1
          clear H1
          replace H := Option.bind_eq_some_iff.mp H
          obtain ⟨t335, A2740, H⟩ := H
          try set_option simprocs false in dsimp only at H
          have A274 := XPrint.A0 A2740
          clear A2740
          by_cases c275 : (false == t335) = true
          ·rw [if_pos c275] at H
           have c275b0 : (false == t335) = true := c275
           (try (have c275b1 : decide (false = t335) = true := by simpa using c275))
           (try (have c275b2 : (false == t335) = true := by simpa using c275))
           clear c275
           replace H := Option.bind_eq_some_iff.mp H
           obtain ⟨t336, A2760, H⟩ := H
           try set_option simprocs false in dsimp only at H
           have A276 := XPrint.A0 A2760
           clear A2760
           obtain rfl := Option.some.inj H
           try go_wp2
           replace BK299 := XPrint.A0 (blk_drew BK299.out)
           replace BK300 := XPrint.A0 (blk_drew BK300.out)
           replace BK301 := XPrint.A0 (blk_drew BK301.out)
           replace BK306 := XPrint.A0 (blk_drew BK306.out)
           replace BK307 := XPrint.A0 (blk_drew BK307.out)
           replace HB := XPrint.A0 (below_drew1 HB.out)
           refine start_ (n := 30) (S := fun w' => w'.cell? ⟨gb301, 0, none⟩ = some (.int .i64 a2_0) ∧ w'.cell? ⟨gb301, 1, none⟩ = some (.int .i64 a2_1) ∧ w'.cell? ⟨gb299, 0, none⟩ = some (.int .i64 a0_0) ∧ w'.cell? ⟨gb299, 1, none⟩ = some (.int .i64 a0_1) ∧ w'.cell? ⟨gb306, 0, none⟩ = some (.int .i64 t302) ∧ w'.cell? ⟨gb306, 1, none⟩ = some (.int .i64 t303) ∧ w'.cell? ⟨gb300, 0, none⟩ = some (.int .i64 a1_0) ∧ w'.cell? ⟨gb300, 1, none⟩ = some (.int .i64 a1_1) ∧ w'.cell? ⟨gb307, 0, none⟩ = some (.int .i64 t304) ∧ w'.cell? ⟨gb307, 1, none⟩ = some (.int .i64 t305)) (ds := []) #[false, false, false, false, false, false, false, false, false, false, false, false, false, false, false, false, false, false, false, false, false, false, false, false, false, false, false, false, false, false] (by kernel_rfl) rfl rfl ⟨(blk_cell BK301.out 0).trans rfl, (blk_cell BK301.out 1).trans rfl, (blk_cell BK299.out 0).trans rfl, (blk_cell BK299.out 1).trans rfl, (blk_cell BK306.out 0).trans rfl, (blk_cell BK306.out 1).trans rfl, (blk_cell BK300.out 0).trans rfl, (blk_cell BK300.out 1).trans rfl, (blk_cell BK307.out 0).trans rfl, (blk_cell BK307.out 1).trans rfl⟩ (fun hHeld => ?_); refine with_tabW liverylaw01_VecOrder.tab6 liverylaw01_VecOrder.bits6 (fun HT_ HW_ => ?_)
           generalize wc.drew = w277 at BK299 BK300 BK301 BK306 BK307 HB hHeld ⊢
           refine XPrint.ta 0 86 (XPrint.L 30 1) HT_.out HW_.out (v := ?_) (a' := ?_) ?_ hHeld ?_ ?_
           rotate_left
           ·rintro w' ⟨s0, s1, s2, s3, s4, s5, s6, s7, s8, s9⟩
            go_simp
            with_reducible rfl
           rotate_left
           ·simp only [XPrint.pw, i64_w, i32_w]
            rfl
           refine XPrint.ta 1 87 (XPrint.L 30 3) HT_.out HW_.out (v := ?_) (a' := ?_) ?_ hHeld ?_ ?_
           rotate_left
           ·rintro w' ⟨s0, s1, s2, s3, s4, s5, s6, s7, s8, s9⟩
            go_simp
            with_reducible rfl
           rotate_left
           ·simp only [XPrint.pw, i64_w, i32_w]
            rfl
           refine XPrint.ta 8 94 (XPrint.L 30 259) HT_.out HW_.out (v := ?_) (a' := ?_) ?_ hHeld ?_ ?_
           rotate_left
           ·rintro w' ⟨s0, s1, s2, s3, s4, s5, s6, s7, s8, s9⟩
            go_simp
            with_reducible rfl
           rotate_left
           ·simp only [XPrint.pw, i64_w, i32_w]
            rfl
           refine XPrint.ta 9 95 (XPrint.L 30 771) HT_.out HW_.out (v := ?_) (a' := ?_) ?_ hHeld ?_ ?_
           rotate_left
           ·rintro w' ⟨s0, s1, s2, s3, s4, s5, s6, s7, s8, s9⟩
            go_simp
            with_reducible rfl
           rotate_left
           ·simp only [XPrint.pw, i64_w, i32_w]
            rfl
           refine one_ (i := 2) (N := some 88) (XPrint.L 30 775) rfl rfl (one_of HT_.out (by kernel_rfl)) (by decide) (fun K hK => ?_)
           refine XPrint.gs Try.func26 #[.agg #[.int .i64 a2_0, .int .i64 a2_1], .agg #[.int .i64 a0_0, .int .i64 a0_1]] ?_
           with_reducible refine (vec_LE.calls a2_0 a2_1 a0_0 a0_1 true _ A255.out).mono ?_
           rintro e w278 ⟨rfl, hb⟩
           refine ⟨_, rfl, ?_⟩
           replace BK299 := XPrint.A0 (XPrint.ab BK299.out hb)
           replace BK300 := XPrint.A0 (XPrint.ab BK300.out hb)
           replace BK301 := XPrint.A0 (XPrint.ab BK301.out hb)
           replace BK306 := XPrint.A0 (XPrint.ab BK306.out hb)
           replace BK307 := XPrint.A0 (XPrint.ab BK307.out hb)
           replace HB := XPrint.A0 (below_step (by exact XPrint.bz HB.out) hb)
           (try clear hb)
           (try clear hb2)
           (try clear hk)
           (try clear hi)
           refine hK.out _ _ ⟨(blk_cell BK301.out 0).trans rfl, (blk_cell BK301.out 1).trans rfl, (blk_cell BK299.out 0).trans rfl, (blk_cell BK299.out 1).trans rfl, (blk_cell BK306.out 0).trans rfl, (blk_cell BK306.out 1).trans rfl, (blk_cell BK300.out 0).trans rfl, (blk_cell BK300.out 1).trans rfl, (blk_cell BK307.out 0).trans rfl, (blk_cell BK307.out 1).trans rfl⟩ (fun hHeld => ?_)
           clear hK K
           refine norm_ (a' := ?_) ?_ ?_
           rotate_left
           ·show Act.put _ (some 88) _ = _
            simp only [XPrint.pw, i64_w, i32_w]
            rfl
           refine XPrint.pu 3 89 (XPrint.L 30 783) HT_.out (v := ?_) (a' := ?_) ?_ ?_ ?_
           rotate_left
           ·intro w'
            go_simp
            with_reducible rfl
           rotate_left
           ·simp only [XPrint.pw, i64_w, i32_w]
            rfl
           refine XPrint.ta 4 90 (XPrint.L 30 799) HT_.out HW_.out (v := ?_) (a' := ?_) ?_ hHeld ?_ ?_
           rotate_left
           ·rintro w' ⟨s0, s1, s2, s3, s4, s5, s6, s7, s8, s9⟩
            go_simp
            with_reducible rfl
           rotate_left
           ·simp only [XPrint.pw, i64_w, i32_w]
            rfl
           refine XPrint.ta 5 91 (XPrint.L 30 831) HT_.out HW_.out (v := ?_) (a' := ?_) ?_ hHeld ?_ ?_
           rotate_left
           ·rintro w' ⟨s0, s1, s2, s3, s4, s5, s6, s7, s8, s9⟩
            go_simp
            with_reducible rfl
           rotate_left
           ·simp only [XPrint.pw, i64_w, i32_w]
            rfl
           refine one_ (i := 6) (N := some 92) (XPrint.L 30 895) rfl rfl (one_of HT_.out (by kernel_rfl)) (by decide) (fun K hK => ?_)
           refine XPrint.gs Try.func26 #[.agg #[.int .i64 a2_0, .int .i64 a2_1], .agg #[.int .i64 a1_0, .int .i64 a1_1]] ?_
           with_reducible refine (vec_LE.calls a2_0 a2_1 a1_0 a1_1 t329 _ A257.out).mono ?_
           rintro e w279 ⟨rfl, hb⟩
           refine ⟨_, rfl, ?_⟩
           replace BK299 := XPrint.A0 (XPrint.ab BK299.out hb)
           replace BK300 := XPrint.A0 (XPrint.ab BK300.out hb)
           replace BK301 := XPrint.A0 (XPrint.ab BK301.out hb)
           replace BK306 := XPrint.A0 (XPrint.ab BK306.out hb)
           replace BK307 := XPrint.A0 (XPrint.ab BK307.out hb)
           replace HB := XPrint.A0 (below_step (by exact XPrint.bz HB.out) hb)
           (try clear hb)
           (try clear hb2)
           (try clear hk)
           (try clear hi)
           refine hK.out _ _ ⟨(blk_cell BK301.out 0).trans rfl, (blk_cell BK301.out 1).trans rfl, (blk_cell BK299.out 0).trans rfl, (blk_cell BK299.out 1).trans rfl, (blk_cell BK306.out 0).trans rfl, (blk_cell BK306.out 1).trans rfl, (blk_cell BK300.out 0).trans rfl, (blk_cell BK300.out 1).trans rfl, (blk_cell BK307.out 0).trans rfl, (blk_cell BK307.out 1).trans rfl⟩ (fun hHeld => ?_)
           clear hK K
           refine norm_ (a' := ?_) ?_ ?_
           rotate_left
           ·show Act.put _ (some 92) _ = _
            simp only [XPrint.pw, i64_w, i32_w]
            rfl
           refine XPrint.pu 7 93 (XPrint.L 30 1023) HT_.out (v := ?_) (a' := ?_) ?_ ?_ ?_
           rotate_left
           ·intro w'
            go_simp
            with_reducible rfl
           rotate_left
           ·simp only [XPrint.pw, i64_w, i32_w]
            rfl
           refine one_ (i := 10) (N := some 96) (XPrint.L 30 2047) rfl rfl (one_of HT_.out (by kernel_rfl)) (by decide) (fun K hK => ?_)
           refine XPrint.gs Try.func26 #[.agg #[.int .i64 a2_0, .int .i64 a2_1], .agg #[.int .i64 t302, .int .i64 t303]] ?_
           with_reducible refine (vec_LE.calls a2_0 a2_1 t302 t303 t330 _ A258.out).mono ?_
           rintro e w280 ⟨rfl, hb⟩
           refine ⟨_, rfl, ?_⟩
           replace BK299 := XPrint.A0 (XPrint.ab BK299.out hb)
           replace BK300 := XPrint.A0 (XPrint.ab BK300.out hb)
           replace BK301 := XPrint.A0 (XPrint.ab BK301.out hb)
           replace BK306 := XPrint.A0 (XPrint.ab BK306.out hb)
           replace BK307 := XPrint.A0 (XPrint.ab BK307.out hb)
           replace HB := XPrint.A0 (below_step (by exact XPrint.bz HB.out) hb)
           (try clear hb)
           (try clear hb2)
           (try clear hk)
           (try clear hi)
           refine hK.out _ _ ⟨(blk_cell BK301.out 0).trans rfl, (blk_cell BK301.out 1).trans rfl, (blk_cell BK299.out 0).trans rfl, (blk_cell BK299.out 1).trans rfl, (blk_cell BK306.out 0).trans rfl, (blk_cell BK306.out 1).trans rfl, (blk_cell BK300.out 0).trans rfl, (blk_cell BK300.out 1).trans rfl, (blk_cell BK307.out 0).trans rfl, (blk_cell BK307.out 1).trans rfl⟩ (fun hHeld => ?_)
           clear hK K
           refine norm_ (a' := ?_) ?_ ?_
           rotate_left
           ·show Act.put _ (some 96) _ = _
            simp only [XPrint.pw, i64_w, i32_w]
            rfl
           refine XPrint.pu 11 97 (XPrint.L 30 4095) HT_.out (v := ?_) (a' := ?_) ?_ ?_ ?_
           rotate_left
           ·intro w'
            go_simp
            with_reducible rfl
           rotate_left
           ·simp only [XPrint.pw, i64_w, i32_w]
            rfl
           refine XPrint.pu 12 98 (XPrint.L 30 8191) HT_.out (v := ?_) (a' := ?_) ?_ ?_ ?_
           rotate_left
           ·intro w'
            go_simp
            with_reducible rfl
           rotate_left
           ·simp only [XPrint.pw, i64_w, i32_w]
            rfl
           refine XPrint.ta 13 99 (XPrint.L 30 16383) HT_.out HW_.out (v := ?_) (a' := ?_) ?_ hHeld ?_ ?_
           rotate_left
           ·rintro w' ⟨s0, s1, s2, s3, s4, s5, s6, s7, s8, s9⟩
            go_simp
            with_reducible rfl
           rotate_left
           ·simp only [XPrint.pw, i64_w, i32_w]
            rfl
           refine XPrint.ta 14 100 (XPrint.L 30 32767) HT_.out HW_.out (v := ?_) (a' := ?_) ?_ hHeld ?_ ?_
           rotate_left
           ·rintro w' ⟨s0, s1, s2, s3, s4, s5, s6, s7, s8, s9⟩
            go_simp
            with_reducible rfl
           rotate_left
           ·simp only [XPrint.pw, i64_w, i32_w]
            rfl
           refine XPrint.ta 21 107 (XPrint.L 30 2129919) HT_.out HW_.out (v := ?_) (a' := ?_) ?_ hHeld ?_ ?_
           rotate_left
           ·rintro w' ⟨s0, s1, s2, s3, s4, s5, s6, s7, s8, s9⟩
            go_simp
            with_reducible rfl
           rotate_left
           ·simp only [XPrint.pw, i64_w, i32_w]
            rfl
           refine XPrint.ta 22 108 (XPrint.L 30 6324223) HT_.out HW_.out (v := ?_) (a' := ?_) ?_ hHeld ?_ ?_
           rotate_left
           ·rintro w' ⟨s0, s1, s2, s3, s4, s5, s6, s7, s8, s9⟩
            go_simp
            with_reducible rfl
           rotate_left
           ·simp only [XPrint.pw, i64_w, i32_w]
            rfl
           refine one_ (i := 15) (N := some 101) (XPrint.L 30 6356991) rfl rfl (one_of HT_.out (by kernel_rfl)) (by decide) (fun K hK => ?_)
           refine XPrint.gs Try.func26 #[.agg #[.int .i64 a0_0, .int .i64 a0_1], .agg #[.int .i64 a2_0, .int .i64 a2_1]] ?_
           with_reducible refine (vec_LE.calls a0_0 a0_1 a2_0 a2_1 false _ A260.out).mono ?_
           rintro e w281 ⟨rfl, hb⟩
           refine ⟨_, rfl, ?_⟩
           replace BK299 := XPrint.A0 (XPrint.ab BK299.out hb)
           replace BK300 := XPrint.A0 (XPrint.ab BK300.out hb)
           replace BK301 := XPrint.A0 (XPrint.ab BK301.out hb)
           replace BK306 := XPrint.A0 (XPrint.ab BK306.out hb)
           replace BK307 := XPrint.A0 (XPrint.ab BK307.out hb)
           replace HB := XPrint.A0 (below_step (by exact XPrint.bz HB.out) hb)
           (try clear hb)
           (try clear hb2)
           (try clear hk)
           (try clear hi)
           refine hK.out _ _ ⟨(blk_cell BK301.out 0).trans rfl, (blk_cell BK301.out 1).trans rfl, (blk_cell BK299.out 0).trans rfl, (blk_cell BK299.out 1).trans rfl, (blk_cell BK306.out 0).trans rfl, (blk_cell BK306.out 1).trans rfl, (blk_cell BK300.out 0).trans rfl, (blk_cell BK300.out 1).trans rfl, (blk_cell BK307.out 0).trans rfl, (blk_cell BK307.out 1).trans rfl⟩ (fun hHeld => ?_)
           clear hK K
           refine norm_ (a' := ?_) ?_ ?_
           rotate_left
           ·show Act.put _ (some 101) _ = _
            simp only [XPrint.pw, i64_w, i32_w]
            rfl
           refine XPrint.pu 16 102 (XPrint.L 30 6422527) HT_.out (v := ?_) (a' := ?_) ?_ ?_ ?_
           rotate_left
           ·intro w'
            go_simp
            with_reducible rfl
           rotate_left
           ·simp only [XPrint.pw, i64_w, i32_w]
            rfl
           refine pure_ (i := 17) (N := some 103) (v := undef) (a' := ?_) (XPrint.L 30 6553599) rfl rfl (any_of HT_.out (by kernel_rfl)) (fun _ _ _ h => h) (Or.inr ⟨by rfl, rfl⟩) ?_ ?_
           rotate_left
           ·simp only [XPrint.pw, i64_w, i32_w]
            rfl
           refine pure_ (i := 18) (N := some 104) (v := undef) (a' := ?_) (XPrint.L 30 6815743) rfl rfl (any_of HT_.out (by kernel_rfl)) (fun _ _ _ h => h) (Or.inr ⟨by rfl, rfl⟩) ?_ ?_
           rotate_left
           ·simp only [XPrint.pw, i64_w, i32_w]
            rfl
           refine pure_ (i := 19) (N := some 105) (v := undef) (a' := ?_) (XPrint.L 30 7340031) rfl rfl (any_of HT_.out (by kernel_rfl)) (fun _ _ _ h => h) (Or.inr ⟨by rfl, rfl⟩) ?_ ?_
           rotate_left
           ·simp only [XPrint.pw, i64_w, i32_w]
            rfl
           refine XPrint.pu 20 106 (XPrint.L 30 8388607) HT_.out (v := ?_) (a' := ?_) ?_ ?_ ?_
           rotate_left
           ·intro w'
            go_simp
            with_reducible rfl
           rotate_left
           ·simp only [XPrint.pw, i64_w, i32_w]
            rfl
           refine one_ (i := 23) (N := some 109) (XPrint.L 30 16777215) rfl rfl (one_of HT_.out (by kernel_rfl)) (by decide) (fun K hK => ?_)
           refine XPrint.gs Try.func26 #[.agg #[.int .i64 t304, .int .i64 t305], .agg #[.int .i64 a2_0, .int .i64 a2_1]] ?_
           with_reducible refine (vec_LE.calls t304 t305 a2_0 a2_1 t335 _ A274.out).mono ?_
           rintro e w282 ⟨rfl, hb⟩
           refine ⟨_, rfl, ?_⟩
           replace BK299 := XPrint.A0 (XPrint.ab BK299.out hb)
           replace BK300 := XPrint.A0 (XPrint.ab BK300.out hb)
           replace BK301 := XPrint.A0 (XPrint.ab BK301.out hb)
           replace BK306 := XPrint.A0 (XPrint.ab BK306.out hb)
           replace BK307 := XPrint.A0 (XPrint.ab BK307.out hb)
           replace HB := XPrint.A0 (below_step (by exact XPrint.bz HB.out) hb)
           (try clear hb)
           (try clear hb2)
           (try clear hk)
           (try clear hi)
           refine hK.out _ _ ⟨(blk_cell BK301.out 0).trans rfl, (blk_cell BK301.out 1).trans rfl, (blk_cell BK299.out 0).trans rfl, (blk_cell BK299.out 1).trans rfl, (blk_cell BK306.out 0).trans rfl, (blk_cell BK306.out 1).trans rfl, (blk_cell BK300.out 0).trans rfl, (blk_cell BK300.out 1).trans rfl, (blk_cell BK307.out 0).trans rfl, (blk_cell BK307.out 1).trans rfl⟩ (fun hHeld => ?_)
           clear hK K
           refine norm_ (a' := ?_) ?_ ?_
           rotate_left
           ·show Act.put _ (some 109) _ = _
            simp only [XPrint.pw, i64_w, i32_w]
            rfl
           refine XPrint.pu 24 110 (XPrint.L 30 33554431) HT_.out (v := ?_) (a' := ?_) ?_ ?_ ?_
           rotate_left
           ·intro w'
            go_simp
            with_reducible rfl
           rotate_left
           ·simp only [XPrint.pw, i64_w, i32_w]
            rfl
           refine XPrint.pu 25 111 (XPrint.L 30 67108863) HT_.out (v := ?_) (a' := ?_) ?_ ?_ ?_
           rotate_left
           ·intro w'
            go_simp
            with_reducible rfl
           rotate_left
           ·simp only [XPrint.pw, i64_w, i32_w]
            rfl
           refine XPrint.pu 26 112 (XPrint.L 30 134217727) HT_.out (v := ?_) (a' := ?_) ?_ ?_ ?_
           rotate_left
           ·intro w'
            go_simp
            with_reducible rfl
           rotate_left
           ·simp only [XPrint.pw, i64_w, i32_w]
            rfl
           refine one_ (i := 27) (N := some 113) (XPrint.L 30 268435455) rfl rfl (one_of HT_.out (by kernel_rfl)) (by decide) (fun K hK => ?_)
           refine XPrint.gs Try.func28 #[] ?_
           with_reducible refine (liverylaw01_head.calls kj234  t336 _ A276.out).mono ?_
           rintro e w283 ⟨rfl, hb⟩
           refine ⟨_, rfl, ?_⟩
           replace BK299 := XPrint.A0 (XPrint.ab BK299.out hb)
           replace BK300 := XPrint.A0 (XPrint.ab BK300.out hb)
           replace BK301 := XPrint.A0 (XPrint.ab BK301.out hb)
           replace BK306 := XPrint.A0 (XPrint.ab BK306.out hb)
           replace BK307 := XPrint.A0 (XPrint.ab BK307.out hb)
           replace HB := XPrint.A0 (below_step (by exact XPrint.bz HB.out) hb)
           (try clear hb)
           (try clear hb2)
           (try clear hk)
           (try clear hi)
           refine hK.out _ _ ⟨(blk_cell BK301.out 0).trans rfl, (blk_cell BK301.out 1).trans rfl, (blk_cell BK299.out 0).trans rfl, (blk_cell BK299.out 1).trans rfl, (blk_cell BK306.out 0).trans rfl, (blk_cell BK306.out 1).trans rfl, (blk_cell BK300.out 0).trans rfl, (blk_cell BK300.out 1).trans rfl, (blk_cell BK307.out 0).trans rfl, (blk_cell BK307.out 1).trans rfl⟩ (fun hHeld => ?_)
           clear hK K
           refine norm_ (a' := ?_) ?_ ?_
           rotate_left
           ·show Act.put _ (some 113) _ = _
            simp only [XPrint.pw, i64_w, i32_w]
            rfl
           refine XPrint.pu 28 114 (XPrint.L 30 536870911) HT_.out (v := ?_) (a' := ?_) ?_ ?_ ?_
           rotate_left
           ·intro w'
            go_simp
            with_reducible rfl
           rotate_left
           ·simp only [XPrint.pw, i64_w, i32_w]
            rfl
           refine XPrint.pu 29 6 (XPrint.L 30 1073741823) HT_.out (v := ?_) (a' := ?_) ?_ ?_ ?_
           rotate_left
           ·intro w'
            go_simp
            with_reducible rfl
           rotate_left
           ·simp only [XPrint.pw, i64_w, i32_w]
            rfl
           refine done_ (done_of HT_.out (by kernel_rfl)) ?_
           try go_wp2
           go_ret
           exact ⟨by first | rfl | (simp [errW_none, errW_some] <;> rfl) | (simp [*, errW_none, errW_some] <;> rfl), by exact XPrint.bz HB.out⟩
          ·rw [if_neg c275] at H
           have c275b0 : (false == t335) = false := by simpa using c275
           (try (have c275b1 : decide (false = t335) = false := by simpa using c275))
           (try (have c275b2 : (false == t335) = false := by simpa using c275))
           (try (have c275b3 : ¬ (false = t335) := by simpa using c275))
           clear c275
           exact absurd H (by simp)
        ·rw [if_neg c259] at H
         have c259b0 : (t329 == t330) = false := by simpa using c259
         (try (have c259b1 : decide (t329 = t330) = false := by simpa using c259))
         (try (have c259b2 : (t329 == t330) = false := by simpa using c259))
         (try (have c259b3 : ¬ (t329 = t330) := by simpa using c259))
         clear c259
         exact absurd H (by simp)
       ·replace c256 := Bool.eq_false_iff.mpr c256
        subst c256
        have H1 := H; rw [if_neg (show ¬ (false = true) by decide)] at H1
        clear H
        have H := H1
        clear H1
        replace H := Option.bind_eq_some_iff.mp H
        obtain ⟨t337, A2840, H⟩ := H
        try set_option simprocs false in dsimp only at H
        have A284 := XPrint.A0 A2840
        clear A2840
        by_cases c285 : (false == t337) = true
        ·rw [if_pos c285] at H
         have c285b0 : (false == t337) = true := c285
         (try (have c285b1 : decide (false = t337) = true := by simpa using c285))
         (try (have c285b2 : (false == t337) = true := by simpa using c285))
         clear c285
         replace H := Option.bind_eq_some_iff.mp H
         obtain ⟨t338, A2860, H⟩ := H
         try set_option simprocs false in dsimp only at H
         have A286 := XPrint.A0 A2860
         clear A2860
         by_cases c287 : t338 = true
         ·subst c287
          have H1 := H; rw [if_pos rfl] at H1
          clear H
          have H := H1
          clear H1
          replace H := Option.bind_eq_some_iff.mp H
          obtain ⟨t339, A2880, H⟩ := H
          try set_option simprocs false in dsimp only at H
          have A288 := XPrint.A0 A2880
          clear A2880
          replace H := Option.bind_eq_some_iff.mp H
          obtain ⟨t340, A2890, H⟩ := H
          try set_option simprocs false in dsimp only at H
          have A289 := XPrint.A0 A2890
          clear A2890
          by_cases c290 : (t339 == t340) = true
          ·rw [if_pos c290] at H
           have c290b0 : (t339 == t340) = true := c290
           (try (have c290b1 : decide (t339 = t340) = true := by simpa using c290))
           (try (have c290b2 : (t339 == t340) = true := by simpa using c290))
           clear c290
           replace H := Option.bind_eq_some_iff.mp H
           obtain ⟨t341, A2910, H⟩ := H
           try set_option simprocs false in dsimp only at H
           have A291 := XPrint.A0 A2910
           clear A2910
           obtain rfl := Option.some.inj H
           try go_wp2
           replace BK299 := XPrint.A0 (blk_drew BK299.out)
           replace BK300 := XPrint.A0 (blk_drew BK300.out)
           replace BK301 := XPrint.A0 (blk_drew BK301.out)
           replace BK306 := XPrint.A0 (blk_drew BK306.out)
           replace BK307 := XPrint.A0 (blk_drew BK307.out)
           replace HB := XPrint.A0 (below_drew1 HB.out)
           refine start_ (n := 30) (S := fun w' => w'.cell? ⟨gb301, 0, none⟩ = some (.int .i64 a2_0) ∧ w'.cell? ⟨gb301, 1, none⟩ = some (.int .i64 a2_1) ∧ w'.cell? ⟨gb299, 0, none⟩ = some (.int .i64 a0_0) ∧ w'.cell? ⟨gb299, 1, none⟩ = some (.int .i64 a0_1) ∧ w'.cell? ⟨gb306, 0, none⟩ = some (.int .i64 t302) ∧ w'.cell? ⟨gb306, 1, none⟩ = some (.int .i64 t303) ∧ w'.cell? ⟨gb300, 0, none⟩ = some (.int .i64 a1_0) ∧ w'.cell? ⟨gb300, 1, none⟩ = some (.int .i64 a1_1) ∧ w'.cell? ⟨gb307, 0, none⟩ = some (.int .i64 t304) ∧ w'.cell? ⟨gb307, 1, none⟩ = some (.int .i64 t305)) (ds := []) #[false, false, false, false, false, false, false, false, false, false, false, false, false, false, false, false, false, false, false, false, false, false, false, false, false, false, false, false, false, false] (by kernel_rfl) rfl rfl ⟨(blk_cell BK301.out 0).trans rfl, (blk_cell BK301.out 1).trans rfl, (blk_cell BK299.out 0).trans rfl, (blk_cell BK299.out 1).trans rfl, (blk_cell BK306.out 0).trans rfl, (blk_cell BK306.out 1).trans rfl, (blk_cell BK300.out 0).trans rfl, (blk_cell BK300.out 1).trans rfl, (blk_cell BK307.out 0).trans rfl, (blk_cell BK307.out 1).trans rfl⟩ (fun hHeld => ?_); refine with_tabW liverylaw01_VecOrder.tab6 liverylaw01_VecOrder.bits6 (fun HT_ HW_ => ?_)
           generalize wc.drew = w292 at BK299 BK300 BK301 BK306 BK307 HB hHeld ⊢
           refine XPrint.ta 0 86 (XPrint.L 30 1) HT_.out HW_.out (v := ?_) (a' := ?_) ?_ hHeld ?_ ?_
           rotate_left
           ·rintro w' ⟨s0, s1, s2, s3, s4, s5, s6, s7, s8, s9⟩
            go_simp
            with_reducible rfl
           rotate_left
           ·simp only [XPrint.pw, i64_w, i32_w]
            rfl
           refine XPrint.ta 1 87 (XPrint.L 30 3) HT_.out HW_.out (v := ?_) (a' := ?_) ?_ hHeld ?_ ?_
           rotate_left
           ·rintro w' ⟨s0, s1, s2, s3, s4, s5, s6, s7, s8, s9⟩
            go_simp
            with_reducible rfl
           rotate_left
           ·simp only [XPrint.pw, i64_w, i32_w]
            rfl
           refine XPrint.ta 8 94 (XPrint.L 30 259) HT_.out HW_.out (v := ?_) (a' := ?_) ?_ hHeld ?_ ?_
           rotate_left
           ·rintro w' ⟨s0, s1, s2, s3, s4, s5, s6, s7, s8, s9⟩
            go_simp
            with_reducible rfl
           rotate_left
           ·simp only [XPrint.pw, i64_w, i32_w]
            rfl
           refine XPrint.ta 9 95 (XPrint.L 30 771) HT_.out HW_.out (v := ?_) (a' := ?_) ?_ hHeld ?_ ?_
           rotate_left
           ·rintro w' ⟨s0, s1, s2, s3, s4, s5, s6, s7, s8, s9⟩
            go_simp
            with_reducible rfl
           rotate_left
           ·simp only [XPrint.pw, i64_w, i32_w]
            rfl
           refine one_ (i := 2) (N := some 88) (XPrint.L 30 775) rfl rfl (one_of HT_.out (by kernel_rfl)) (by decide) (fun K hK => ?_)
           refine XPrint.gs Try.func26 #[.agg #[.int .i64 a2_0, .int .i64 a2_1], .agg #[.int .i64 a0_0, .int .i64 a0_1]] ?_
           with_reducible refine (vec_LE.calls a2_0 a2_1 a0_0 a0_1 false _ A255.out).mono ?_
           rintro e w293 ⟨rfl, hb⟩
           refine ⟨_, rfl, ?_⟩
           replace BK299 := XPrint.A0 (XPrint.ab BK299.out hb)
           replace BK300 := XPrint.A0 (XPrint.ab BK300.out hb)
           replace BK301 := XPrint.A0 (XPrint.ab BK301.out hb)
           replace BK306 := XPrint.A0 (XPrint.ab BK306.out hb)
           replace BK307 := XPrint.A0 (XPrint.ab BK307.out hb)
           replace HB := XPrint.A0 (below_step (by exact XPrint.bz HB.out) hb)
           (try clear hb)
           (try clear hb2)
           (try clear hk)
           (try clear hi)
           refine hK.out _ _ ⟨(blk_cell BK301.out 0).trans rfl, (blk_cell BK301.out 1).trans rfl, (blk_cell BK299.out 0).trans rfl, (blk_cell BK299.out 1).trans rfl, (blk_cell BK306.out 0).trans rfl, (blk_cell BK306.out 1).trans rfl, (blk_cell BK300.out 0).trans rfl, (blk_cell BK300.out 1).trans rfl, (blk_cell BK307.out 0).trans rfl, (blk_cell BK307.out 1).trans rfl⟩ (fun hHeld => ?_)
           clear hK K
           refine norm_ (a' := ?_) ?_ ?_
           rotate_left
           ·show Act.put _ (some 88) _ = _
            simp only [XPrint.pw, i64_w, i32_w]
            rfl
           refine XPrint.pu 3 89 (XPrint.L 30 783) HT_.out (v := ?_) (a' := ?_) ?_ ?_ ?_
           rotate_left
           ·intro w'
            go_simp
            with_reducible rfl
           rotate_left
           ·simp only [XPrint.pw, i64_w, i32_w]
            rfl
           refine pure_ (i := 4) (N := some 90) (v := undef) (a' := ?_) (XPrint.L 30 799) rfl rfl (any_of HT_.out (by kernel_rfl)) (fun _ _ _ h => h) (Or.inr ⟨by rfl, rfl⟩) ?_ ?_
           rotate_left
           ·simp only [XPrint.pw, i64_w, i32_w]
            rfl
           refine pure_ (i := 5) (N := some 91) (v := undef) (a' := ?_) (XPrint.L 30 831) rfl rfl (any_of HT_.out (by kernel_rfl)) (fun _ _ _ h => h) (Or.inr ⟨by rfl, rfl⟩) ?_ ?_
           rotate_left
           ·simp only [XPrint.pw, i64_w, i32_w]
            rfl
           refine pure_ (i := 6) (N := some 92) (v := undef) (a' := ?_) (XPrint.L 30 895) rfl rfl (any_of HT_.out (by kernel_rfl)) (fun _ _ _ h => h) (Or.inr ⟨by rfl, rfl⟩) ?_ ?_
           rotate_left
           ·simp only [XPrint.pw, i64_w, i32_w]
            rfl
           refine XPrint.pu 7 93 (XPrint.L 30 1023) HT_.out (v := ?_) (a' := ?_) ?_ ?_ ?_
           rotate_left
           ·intro w'
            go_simp
            with_reducible rfl
           rotate_left
           ·simp only [XPrint.pw, i64_w, i32_w]
            rfl
           refine one_ (i := 10) (N := some 96) (XPrint.L 30 2047) rfl rfl (one_of HT_.out (by kernel_rfl)) (by decide) (fun K hK => ?_)
           refine XPrint.gs Try.func26 #[.agg #[.int .i64 a2_0, .int .i64 a2_1], .agg #[.int .i64 t302, .int .i64 t303]] ?_
           with_reducible refine (vec_LE.calls a2_0 a2_1 t302 t303 t337 _ A284.out).mono ?_
           rintro e w294 ⟨rfl, hb⟩
           refine ⟨_, rfl, ?_⟩
           replace BK299 := XPrint.A0 (XPrint.ab BK299.out hb)
           replace BK300 := XPrint.A0 (XPrint.ab BK300.out hb)
           replace BK301 := XPrint.A0 (XPrint.ab BK301.out hb)
           replace BK306 := XPrint.A0 (XPrint.ab BK306.out hb)
           replace BK307 := XPrint.A0 (XPrint.ab BK307.out hb)
           replace HB := XPrint.A0 (below_step (by exact XPrint.bz HB.out) hb)
           (try clear hb)
           (try clear hb2)
           (try clear hk)
           (try clear hi)
           refine hK.out _ _ ⟨(blk_cell BK301.out 0).trans rfl, (blk_cell BK301.out 1).trans rfl, (blk_cell BK299.out 0).trans rfl, (blk_cell BK299.out 1).trans rfl, (blk_cell BK306.out 0).trans rfl, (blk_cell BK306.out 1).trans rfl, (blk_cell BK300.out 0).trans rfl, (blk_cell BK300.out 1).trans rfl, (blk_cell BK307.out 0).trans rfl, (blk_cell BK307.out 1).trans rfl⟩ (fun hHeld => ?_)
           clear hK K
           refine norm_ (a' := ?_) ?_ ?_
           rotate_left
           ·show Act.put _ (some 96) _ = _
            simp only [XPrint.pw, i64_w, i32_w]
            rfl
           refine XPrint.pu 11 97 (XPrint.L 30 4095) HT_.out (v := ?_) (a' := ?_) ?_ ?_ ?_
           rotate_left
           ·intro w'
            go_simp
            with_reducible rfl
           rotate_left
           ·simp only [XPrint.pw, i64_w, i32_w]
            rfl
           refine XPrint.pu 12 98 (XPrint.L 30 8191) HT_.out (v := ?_) (a' := ?_) ?_ ?_ ?_
           rotate_left
           ·intro w'
            go_simp
            with_reducible rfl
           rotate_left
           ·simp only [XPrint.pw, i64_w, i32_w]
            rfl
           refine XPrint.ta 13 99 (XPrint.L 30 16383) HT_.out HW_.out (v := ?_) (a' := ?_) ?_ hHeld ?_ ?_
           rotate_left
           ·rintro w' ⟨s0, s1, s2, s3, s4, s5, s6, s7, s8, s9⟩
            go_simp
            with_reducible rfl
           rotate_left
           ·simp only [XPrint.pw, i64_w, i32_w]
            rfl
           refine XPrint.ta 14 100 (XPrint.L 30 32767) HT_.out HW_.out (v := ?_) (a' := ?_) ?_ hHeld ?_ ?_
           rotate_left
           ·rintro w' ⟨s0, s1, s2, s3, s4, s5, s6, s7, s8, s9⟩
            go_simp
            with_reducible rfl
           rotate_left
           ·simp only [XPrint.pw, i64_w, i32_w]
            rfl
           refine XPrint.ta 21 107 (XPrint.L 30 2129919) HT_.out HW_.out (v := ?_) (a' := ?_) ?_ hHeld ?_ ?_
           rotate_left
           ·rintro w' ⟨s0, s1, s2, s3, s4, s5, s6, s7, s8, s9⟩
            go_simp
            with_reducible rfl
           rotate_left
           ·simp only [XPrint.pw, i64_w, i32_w]
            rfl
           refine XPrint.ta 22 108 (XPrint.L 30 6324223) HT_.out HW_.out (v := ?_) (a' := ?_) ?_ hHeld ?_ ?_
           rotate_left
           ·rintro w' ⟨s0, s1, s2, s3, s4, s5, s6, s7, s8, s9⟩
            go_simp
            with_reducible rfl
           rotate_left
           ·simp only [XPrint.pw, i64_w, i32_w]
            rfl
           refine one_ (i := 15) (N := some 101) (XPrint.L 30 6356991) rfl rfl (one_of HT_.out (by kernel_rfl)) (by decide) (fun K hK => ?_)
           refine XPrint.gs Try.func26 #[.agg #[.int .i64 a0_0, .int .i64 a0_1], .agg #[.int .i64 a2_0, .int .i64 a2_1]] ?_
           with_reducible refine (vec_LE.calls a0_0 a0_1 a2_0 a2_1 true _ A286.out).mono ?_
           rintro e w295 ⟨rfl, hb⟩
           refine ⟨_, rfl, ?_⟩
           replace BK299 := XPrint.A0 (XPrint.ab BK299.out hb)
           replace BK300 := XPrint.A0 (XPrint.ab BK300.out hb)
           replace BK301 := XPrint.A0 (XPrint.ab BK301.out hb)
           replace BK306 := XPrint.A0 (XPrint.ab BK306.out hb)
           replace BK307 := XPrint.A0 (XPrint.ab BK307.out hb)
           replace HB := XPrint.A0 (below_step (by exact XPrint.bz HB.out) hb)
           (try clear hb)
           (try clear hb2)
           (try clear hk)
           (try clear hi)
           refine hK.out _ _ ⟨(blk_cell BK301.out 0).trans rfl, (blk_cell BK301.out 1).trans rfl, (blk_cell BK299.out 0).trans rfl, (blk_cell BK299.out 1).trans rfl, (blk_cell BK306.out 0).trans rfl, (blk_cell BK306.out 1).trans rfl, (blk_cell BK300.out 0).trans rfl, (blk_cell BK300.out 1).trans rfl, (blk_cell BK307.out 0).trans rfl, (blk_cell BK307.out 1).trans rfl⟩ (fun hHeld => ?_)
           clear hK K
           refine norm_ (a' := ?_) ?_ ?_
           rotate_left
           ·show Act.put _ (some 101) _ = _
            simp only [XPrint.pw, i64_w, i32_w]
            rfl
           refine XPrint.pu 16 102 (XPrint.L 30 6422527) HT_.out (v := ?_) (a' := ?_) ?_ ?_ ?_
           rotate_left
           ·intro w'
            go_simp
            with_reducible rfl
           rotate_left
           ·simp only [XPrint.pw, i64_w, i32_w]
            rfl
           refine XPrint.ta 17 103 (XPrint.L 30 6553599) HT_.out HW_.out (v := ?_) (a' := ?_) ?_ hHeld ?_ ?_
           rotate_left
           ·rintro w' ⟨s0, s1, s2, s3, s4, s5, s6, s7, s8, s9⟩
            go_simp
            with_reducible rfl
           rotate_left
           ·simp only [XPrint.pw, i64_w, i32_w]
            rfl
           refine XPrint.ta 18 104 (XPrint.L 30 6815743) HT_.out HW_.out (v := ?_) (a' := ?_) ?_ hHeld ?_ ?_
           rotate_left
           ·rintro w' ⟨s0, s1, s2, s3, s4, s5, s6, s7, s8, s9⟩
            go_simp
            with_reducible rfl
           rotate_left
           ·simp only [XPrint.pw, i64_w, i32_w]
            rfl
           refine one_ (i := 19) (N := some 105) (XPrint.L 30 7340031) rfl rfl (one_of HT_.out (by kernel_rfl)) (by decide) (fun K hK => ?_)
           refine XPrint.gs Try.func26 #[.agg #[.int .i64 a1_0, .int .i64 a1_1], .agg #[.int .i64 a2_0, .int .i64 a2_1]] ?_
           with_reducible refine (vec_LE.calls a1_0 a1_1 a2_0 a2_1 t339 _ A288.out).mono ?_
           rintro e w296 ⟨rfl, hb⟩
           refine ⟨_, rfl, ?_⟩
           replace BK299 := XPrint.A0 (XPrint.ab BK299.out hb)
           replace BK300 := XPrint.A0 (XPrint.ab BK300.out hb)
           replace BK301 := XPrint.A0 (XPrint.ab BK301.out hb)
           replace BK306 := XPrint.A0 (XPrint.ab BK306.out hb)
           replace BK307 := XPrint.A0 (XPrint.ab BK307.out hb)
           replace HB := XPrint.A0 (below_step (by exact XPrint.bz HB.out) hb)
           (try clear hb)
           (try clear hb2)
           (try clear hk)
           (try clear hi)
           refine hK.out _ _ ⟨(blk_cell BK301.out 0).trans rfl, (blk_cell BK301.out 1).trans rfl, (blk_cell BK299.out 0).trans rfl, (blk_cell BK299.out 1).trans rfl, (blk_cell BK306.out 0).trans rfl, (blk_cell BK306.out 1).trans rfl, (blk_cell BK300.out 0).trans rfl, (blk_cell BK300.out 1).trans rfl, (blk_cell BK307.out 0).trans rfl, (blk_cell BK307.out 1).trans rfl⟩ (fun hHeld => ?_)
           clear hK K
           refine norm_ (a' := ?_) ?_ ?_
           rotate_left
           ·show Act.put _ (some 105) _ = _
            simp only [XPrint.pw, i64_w, i32_w]
            rfl
           refine XPrint.pu 20 106 (XPrint.L 30 8388607) HT_.out (v := ?_) (a' := ?_) ?_ ?_ ?_
           rotate_left
           ·intro w'
            go_simp
            with_reducible rfl
           rotate_left
           ·simp only [XPrint.pw, i64_w, i32_w]
            rfl
           refine one_ (i := 23) (N := some 109) (XPrint.L 30 16777215) rfl rfl (one_of HT_.out (by kernel_rfl)) (by decide) (fun K hK => ?_)
           refine XPrint.gs Try.func26 #[.agg #[.int .i64 t304, .int .i64 t305], .agg #[.int .i64 a2_0, .int .i64 a2_1]] ?_
           with_reducible refine (vec_LE.calls t304 t305 a2_0 a2_1 t340 _ A289.out).mono ?_
           rintro e w297 ⟨rfl, hb⟩
           refine ⟨_, rfl, ?_⟩
           replace BK299 := XPrint.A0 (XPrint.ab BK299.out hb)
           replace BK300 := XPrint.A0 (XPrint.ab BK300.out hb)
           replace BK301 := XPrint.A0 (XPrint.ab BK301.out hb)
           replace BK306 := XPrint.A0 (XPrint.ab BK306.out hb)
           replace BK307 := XPrint.A0 (XPrint.ab BK307.out hb)
           replace HB := XPrint.A0 (below_step (by exact XPrint.bz HB.out) hb)
           (try clear hb)
           (try clear hb2)
           (try clear hk)
           (try clear hi)
           refine hK.out _ _ ⟨(blk_cell BK301.out 0).trans rfl, (blk_cell BK301.out 1).trans rfl, (blk_cell BK299.out 0).trans rfl, (blk_cell BK299.out 1).trans rfl, (blk_cell BK306.out 0).trans rfl, (blk_cell BK306.out 1).trans rfl, (blk_cell BK300.out 0).trans rfl, (blk_cell BK300.out 1).trans rfl, (blk_cell BK307.out 0).trans rfl, (blk_cell BK307.out 1).trans rfl⟩ (fun hHeld => ?_)
           clear hK K
           refine norm_ (a' := ?_) ?_ ?_
           rotate_left
           ·show Act.put _ (some 109) _ = _
            simp only [XPrint.pw, i64_w, i32_w]
            rfl
           refine XPrint.pu 24 110 (XPrint.L 30 33554431) HT_.out (v := ?_) (a' := ?_) ?_ ?_ ?_
           rotate_left
           ·intro w'
            go_simp
            with_reducible rfl
           rotate_left
           ·simp only [XPrint.pw, i64_w, i32_w]
            rfl
           refine XPrint.pu 25 111 (XPrint.L 30 67108863) HT_.out (v := ?_) (a' := ?_) ?_ ?_ ?_
           rotate_left
           ·intro w'
            go_simp
            with_reducible rfl
           rotate_left
           ·simp only [XPrint.pw, i64_w, i32_w]
            rfl
           refine XPrint.pu 26 112 (XPrint.L 30 134217727) HT_.out (v := ?_) (a' := ?_) ?_ ?_ ?_
           rotate_left
           ·intro w'
            go_simp
            with_reducible rfl
           rotate_left
           ·simp only [XPrint.pw, i64_w, i32_w]
            rfl
           refine one_ (i := 27) (N := some 113) (XPrint.L 30 268435455) rfl rfl (one_of HT_.out (by kernel_rfl)) (by decide) (fun K hK => ?_)
           refine XPrint.gs Try.func28 #[] ?_
           with_reducible refine (liverylaw01_head.calls kj234  t341 _ A291.out).mono ?_
           rintro e w298 ⟨rfl, hb⟩
           refine ⟨_, rfl, ?_⟩
           replace BK299 := XPrint.A0 (XPrint.ab BK299.out hb)
           replace BK300 := XPrint.A0 (XPrint.ab BK300.out hb)
           replace BK301 := XPrint.A0 (XPrint.ab BK301.out hb)
           replace BK306 := XPrint.A0 (XPrint.ab BK306.out hb)
           replace BK307 := XPrint.A0 (XPrint.ab BK307.out hb)
           replace HB := XPrint.A0 (below_step (by exact XPrint.bz HB.out) hb)
           (try clear hb)
           (try clear hb2)
           (try clear hk)
           (try clear hi)
           refine hK.out _ _ ⟨(blk_cell BK301.out 0).trans rfl, (blk_cell BK301.out 1).trans rfl, (blk_cell BK299.out 0).trans rfl, (blk_cell BK299.out 1).trans rfl, (blk_cell BK306.out 0).trans rfl, (blk_cell BK306.out 1).trans rfl, (blk_cell BK300.out 0).trans rfl, (blk_cell BK300.out 1).trans rfl, (blk_cell BK307.out 0).trans rfl, (blk_cell BK307.out 1).trans rfl⟩ (fun hHeld => ?_)
           clear hK K
           refine norm_ (a' := ?_) ?_ ?_
           rotate_left
           ·show Act.put _ (some 113) _ = _
            simp only [XPrint.pw, i64_w, i32_w]
            rfl
           refine XPrint.pu 28 114 (XPrint.L 30 536870911) HT_.out (v := ?_) (a' := ?_) ?_ ?_ ?_
           rotate_left
           ·intro w'
            go_simp
            with_reducible rfl
           rotate_left
           ·simp only [XPrint.pw, i64_w, i32_w]
            rfl
           refine XPrint.pu 29 6 (XPrint.L 30 1073741823) HT_.out (v := ?_) (a' := ?_) ?_ ?_ ?_
           rotate_left
           ·intro w'
            go_simp
            with_reducible rfl
           rotate_left
           ·simp only [XPrint.pw, i64_w, i32_w]
            rfl
           refine done_ (done_of HT_.out (by kernel_rfl)) ?_
           try go_wp2
           go_ret
           exact ⟨by first | rfl | (simp [errW_none, errW_some] <;> rfl) | (simp [*, errW_none, errW_some] <;> rfl), by exact XPrint.bz HB.out⟩
          ·rw [if_neg c290] at H
           have c290b0 : (t339 == t340) = false := by simpa using c290
           (try (have c290b1 : decide (t339 = t340) = false := by simpa using c290))
           (try (have c290b2 : (t339 == t340) = false := by simpa using c290))
           (try (have c290b3 : ¬ (t339 = t340) := by simpa using c290))
           clear c290
           exact absurd H (by simp)
         ·replace c287 := Bool.eq_false_iff.mpr c287
          subst c287
          have H1 := H; rw [if_neg (show ¬ (false = true) by decide)] at H1
          clear H
          have H := H1
          clear H1
          replace H := Option.bind_eq_some_iff.mp H
          obtain ⟨t342, A2990, H⟩ := H
          try set_option simprocs false in dsimp only at H
          have A299 := XPrint.A0 A2990
          clear A2990
          by_cases c300 : (false == t342) = true
          ·rw [if_pos c300] at H
           have c300b0 : (false == t342) = true := c300
           (try (have c300b1 : decide (false = t342) = true := by simpa using c300))
           (try (have c300b2 : (false == t342) = true := by simpa using c300))
           clear c300
           replace H := Option.bind_eq_some_iff.mp H
           obtain ⟨t343, A3010, H⟩ := H
           try set_option simprocs false in dsimp only at H
           have A301 := XPrint.A0 A3010
           clear A3010
           obtain rfl := Option.some.inj H
           try go_wp2
           replace BK299 := XPrint.A0 (blk_drew BK299.out)
           replace BK300 := XPrint.A0 (blk_drew BK300.out)
           replace BK301 := XPrint.A0 (blk_drew BK301.out)
           replace BK306 := XPrint.A0 (blk_drew BK306.out)
           replace BK307 := XPrint.A0 (blk_drew BK307.out)
           replace HB := XPrint.A0 (below_drew1 HB.out)
           refine start_ (n := 30) (S := fun w' => w'.cell? ⟨gb301, 0, none⟩ = some (.int .i64 a2_0) ∧ w'.cell? ⟨gb301, 1, none⟩ = some (.int .i64 a2_1) ∧ w'.cell? ⟨gb299, 0, none⟩ = some (.int .i64 a0_0) ∧ w'.cell? ⟨gb299, 1, none⟩ = some (.int .i64 a0_1) ∧ w'.cell? ⟨gb306, 0, none⟩ = some (.int .i64 t302) ∧ w'.cell? ⟨gb306, 1, none⟩ = some (.int .i64 t303) ∧ w'.cell? ⟨gb307, 0, none⟩ = some (.int .i64 t304) ∧ w'.cell? ⟨gb307, 1, none⟩ = some (.int .i64 t305)) (ds := []) #[false, false, false, false, false, false, false, false, false, false, false, false, false, false, false, false, false, false, false, false, false, false, false, false, false, false, false, false, false, false] (by kernel_rfl) rfl rfl ⟨(blk_cell BK301.out 0).trans rfl, (blk_cell BK301.out 1).trans rfl, (blk_cell BK299.out 0).trans rfl, (blk_cell BK299.out 1).trans rfl, (blk_cell BK306.out 0).trans rfl, (blk_cell BK306.out 1).trans rfl, (blk_cell BK307.out 0).trans rfl, (blk_cell BK307.out 1).trans rfl⟩ (fun hHeld => ?_); refine with_tabW liverylaw01_VecOrder.tab6 liverylaw01_VecOrder.bits6 (fun HT_ HW_ => ?_)
           generalize wc.drew = w302 at BK299 BK300 BK301 BK306 BK307 HB hHeld ⊢
           refine XPrint.ta 0 86 (XPrint.L 30 1) HT_.out HW_.out (v := ?_) (a' := ?_) ?_ hHeld ?_ ?_
           rotate_left
           ·rintro w' ⟨s0, s1, s2, s3, s4, s5, s6, s7⟩
            go_simp
            with_reducible rfl
           rotate_left
           ·simp only [XPrint.pw, i64_w, i32_w]
            rfl
           refine XPrint.ta 1 87 (XPrint.L 30 3) HT_.out HW_.out (v := ?_) (a' := ?_) ?_ hHeld ?_ ?_
           rotate_left
           ·rintro w' ⟨s0, s1, s2, s3, s4, s5, s6, s7⟩
            go_simp
            with_reducible rfl
           rotate_left
           ·simp only [XPrint.pw, i64_w, i32_w]
            rfl
           refine XPrint.ta 8 94 (XPrint.L 30 259) HT_.out HW_.out (v := ?_) (a' := ?_) ?_ hHeld ?_ ?_
           rotate_left
           ·rintro w' ⟨s0, s1, s2, s3, s4, s5, s6, s7⟩
            go_simp
            with_reducible rfl
           rotate_left
           ·simp only [XPrint.pw, i64_w, i32_w]
            rfl
           refine XPrint.ta 9 95 (XPrint.L 30 771) HT_.out HW_.out (v := ?_) (a' := ?_) ?_ hHeld ?_ ?_
           rotate_left
           ·rintro w' ⟨s0, s1, s2, s3, s4, s5, s6, s7⟩
            go_simp
            with_reducible rfl
           rotate_left
           ·simp only [XPrint.pw, i64_w, i32_w]
            rfl
           refine one_ (i := 2) (N := some 88) (XPrint.L 30 775) rfl rfl (one_of HT_.out (by kernel_rfl)) (by decide) (fun K hK => ?_)
           refine XPrint.gs Try.func26 #[.agg #[.int .i64 a2_0, .int .i64 a2_1], .agg #[.int .i64 a0_0, .int .i64 a0_1]] ?_
           with_reducible refine (vec_LE.calls a2_0 a2_1 a0_0 a0_1 false _ A255.out).mono ?_
           rintro e w303 ⟨rfl, hb⟩
           refine ⟨_, rfl, ?_⟩
           replace BK299 := XPrint.A0 (XPrint.ab BK299.out hb)
           replace BK300 := XPrint.A0 (XPrint.ab BK300.out hb)
           replace BK301 := XPrint.A0 (XPrint.ab BK301.out hb)
           replace BK306 := XPrint.A0 (XPrint.ab BK306.out hb)
           replace BK307 := XPrint.A0 (XPrint.ab BK307.out hb)
           replace HB := XPrint.A0 (below_step (by exact XPrint.bz HB.out) hb)
           (try clear hb)
           (try clear hb2)
           (try clear hk)
           (try clear hi)
           refine hK.out _ _ ⟨(blk_cell BK301.out 0).trans rfl, (blk_cell BK301.out 1).trans rfl, (blk_cell BK299.out 0).trans rfl, (blk_cell BK299.out 1).trans rfl, (blk_cell BK306.out 0).trans rfl, (blk_cell BK306.out 1).trans rfl, (blk_cell BK307.out 0).trans rfl, (blk_cell BK307.out 1).trans rfl⟩ (fun hHeld => ?_)
           clear hK K
           refine norm_ (a' := ?_) ?_ ?_
           rotate_left
           ·show Act.put _ (some 88) _ = _
            simp only [XPrint.pw, i64_w, i32_w]
            rfl
           refine XPrint.pu 3 89 (XPrint.L 30 783) HT_.out (v := ?_) (a' := ?_) ?_ ?_ ?_
           rotate_left
           ·intro w'
            go_simp
            with_reducible rfl
           rotate_left
           ·simp only [XPrint.pw, i64_w, i32_w]
            rfl
           refine pure_ (i := 4) (N := some 90) (v := undef) (a' := ?_) (XPrint.L 30 799) rfl rfl (any_of HT_.out (by kernel_rfl)) (fun _ _ _ h => h) (Or.inr ⟨by rfl, rfl⟩) ?_ ?_
           rotate_left
           ·simp only [XPrint.pw, i64_w, i32_w]
            rfl
           refine pure_ (i := 5) (N := some 91) (v := undef) (a' := ?_) (XPrint.L 30 831) rfl rfl (any_of HT_.out (by kernel_rfl)) (fun _ _ _ h => h) (Or.inr ⟨by rfl, rfl⟩) ?_ ?_
           rotate_left
           ·simp only [XPrint.pw, i64_w, i32_w]
            rfl
           refine pure_ (i := 6) (N := some 92) (v := undef) (a' := ?_) (XPrint.L 30 895) rfl rfl (any_of HT_.out (by kernel_rfl)) (fun _ _ _ h => h) (Or.inr ⟨by rfl, rfl⟩) ?_ ?_
           rotate_left
           ·simp only [XPrint.pw, i64_w, i32_w]
            rfl
           refine XPrint.pu 7 93 (XPrint.L 30 1023) HT_.out (v := ?_) (a' := ?_) ?_ ?_ ?_
           rotate_left
           ·intro w'
            go_simp
            with_reducible rfl
           rotate_left
           ·simp only [XPrint.pw, i64_w, i32_w]
            rfl
           refine one_ (i := 10) (N := some 96) (XPrint.L 30 2047) rfl rfl (one_of HT_.out (by kernel_rfl)) (by decide) (fun K hK => ?_)
           refine XPrint.gs Try.func26 #[.agg #[.int .i64 a2_0, .int .i64 a2_1], .agg #[.int .i64 t302, .int .i64 t303]] ?_
           with_reducible refine (vec_LE.calls a2_0 a2_1 t302 t303 t337 _ A284.out).mono ?_
           rintro e w304 ⟨rfl, hb⟩
           refine ⟨_, rfl, ?_⟩
           replace BK299 := XPrint.A0 (XPrint.ab BK299.out hb)
           replace BK300 := XPrint.A0 (XPrint.ab BK300.out hb)
           replace BK301 := XPrint.A0 (XPrint.ab BK301.out hb)
           replace BK306 := XPrint.A0 (XPrint.ab BK306.out hb)
           replace BK307 := XPrint.A0 (XPrint.ab BK307.out hb)
           replace HB := XPrint.A0 (below_step (by exact XPrint.bz HB.out) hb)
           (try clear hb)
           (try clear hb2)
           (try clear hk)
           (try clear hi)
           refine hK.out _ _ ⟨(blk_cell BK301.out 0).trans rfl, (blk_cell BK301.out 1).trans rfl, (blk_cell BK299.out 0).trans rfl, (blk_cell BK299.out 1).trans rfl, (blk_cell BK306.out 0).trans rfl, (blk_cell BK306.out 1).trans rfl, (blk_cell BK307.out 0).trans rfl, (blk_cell BK307.out 1).trans rfl⟩ (fun hHeld => ?_)
           clear hK K
           refine norm_ (a' := ?_) ?_ ?_
           rotate_left
           ·show Act.put _ (some 96) _ = _
            simp only [XPrint.pw, i64_w, i32_w]
            rfl
           refine XPrint.pu 11 97 (XPrint.L 30 4095) HT_.out (v := ?_) (a' := ?_) ?_ ?_ ?_
           rotate_left
           ·intro w'
            go_simp
            with_reducible rfl
           rotate_left
           ·simp only [XPrint.pw, i64_w, i32_w]
            rfl
           refine XPrint.pu 12 98 (XPrint.L 30 8191) HT_.out (v := ?_) (a' := ?_) ?_ ?_ ?_
           rotate_left
           ·intro w'
            go_simp
            with_reducible rfl
           rotate_left
           ·simp only [XPrint.pw, i64_w, i32_w]
            rfl
           refine XPrint.ta 13 99 (XPrint.L 30 16383) HT_.out HW_.out (v := ?_) (a' := ?_) ?_ hHeld ?_ ?_
           rotate_left
           ·rintro w' ⟨s0, s1, s2, s3, s4, s5, s6, s7⟩
            go_simp
            with_reducible rfl
           rotate_left
           ·simp only [XPrint.pw, i64_w, i32_w]
            rfl
           refine XPrint.ta 14 100 (XPrint.L 30 32767) HT_.out HW_.out (v := ?_) (a' := ?_) ?_ hHeld ?_ ?_
           rotate_left
           ·rintro w' ⟨s0, s1, s2, s3, s4, s5, s6, s7⟩
            go_simp
            with_reducible rfl
           rotate_left
           ·simp only [XPrint.pw, i64_w, i32_w]
            rfl
           refine XPrint.ta 21 107 (XPrint.L 30 2129919) HT_.out HW_.out (v := ?_) (a' := ?_) ?_ hHeld ?_ ?_
           rotate_left
           ·rintro w' ⟨s0, s1, s2, s3, s4, s5, s6, s7⟩
            go_simp
            with_reducible rfl
           rotate_left
           ·simp only [XPrint.pw, i64_w, i32_w]
            rfl
           refine XPrint.ta 22 108 (XPrint.L 30 6324223) HT_.out HW_.out (v := ?_) (a' := ?_) ?_ hHeld ?_ ?_
           rotate_left
           ·rintro w' ⟨s0, s1, s2, s3, s4, s5, s6, s7⟩
            go_simp
            with_reducible rfl
           rotate_left
           ·simp only [XPrint.pw, i64_w, i32_w]
            rfl
           refine one_ (i := 15) (N := some 101) (XPrint.L 30 6356991) rfl rfl (one_of HT_.out (by kernel_rfl)) (by decide) (fun K hK => ?_)
           refine XPrint.gs Try.func26 #[.agg #[.int .i64 a0_0, .int .i64 a0_1], .agg #[.int .i64 a2_0, .int .i64 a2_1]] ?_
           with_reducible refine (vec_LE.calls a0_0 a0_1 a2_0 a2_1 false _ A286.out).mono ?_
           rintro e w305 ⟨rfl, hb⟩
           refine ⟨_, rfl, ?_⟩
           replace BK299 := XPrint.A0 (XPrint.ab BK299.out hb)
           replace BK300 := XPrint.A0 (XPrint.ab BK300.out hb)
           replace BK301 := XPrint.A0 (XPrint.ab BK301.out hb)
           replace BK306 := XPrint.A0 (XPrint.ab BK306.out hb)
           replace BK307 := XPrint.A0 (XPrint.ab BK307.out hb)
           replace HB := XPrint.A0 (below_step (by exact XPrint.bz HB.out) hb)
           (try clear hb)
           (try clear hb2)
           (try clear hk)
           (try clear hi)
           refine hK.out _ _ ⟨(blk_cell BK301.out 0).trans rfl, (blk_cell BK301.out 1).trans rfl, (blk_cell BK299.out 0).trans rfl, (blk_cell BK299.out 1).trans rfl, (blk_cell BK306.out 0).trans rfl, (blk_cell BK306.out 1).trans rfl, (blk_cell BK307.out 0).trans rfl, (blk_cell BK307.out 1).trans rfl⟩ (fun hHeld => ?_)
           clear hK K
           refine norm_ (a' := ?_) ?_ ?_
           rotate_left
           ·show Act.put _ (some 101) _ = _
            simp only [XPrint.pw, i64_w, i32_w]
            rfl
           refine XPrint.pu 16 102 (XPrint.L 30 6422527) HT_.out (v := ?_) (a' := ?_) ?_ ?_ ?_
           rotate_left
           ·intro w'
            go_simp
            with_reducible rfl
           rotate_left
           ·simp only [XPrint.pw, i64_w, i32_w]
            rfl
           refine pure_ (i := 17) (N := some 103) (v := undef) (a' := ?_) (XPrint.L 30 6553599) rfl rfl (any_of HT_.out (by kernel_rfl)) (fun _ _ _ h => h) (Or.inr ⟨by rfl, rfl⟩) ?_ ?_
           rotate_left
           ·simp only [XPrint.pw, i64_w, i32_w]
            rfl
           refine pure_ (i := 18) (N := some 104) (v := undef) (a' := ?_) (XPrint.L 30 6815743) rfl rfl (any_of HT_.out (by kernel_rfl)) (fun _ _ _ h => h) (Or.inr ⟨by rfl, rfl⟩) ?_ ?_
           rotate_left
           ·simp only [XPrint.pw, i64_w, i32_w]
            rfl
           refine pure_ (i := 19) (N := some 105) (v := undef) (a' := ?_) (XPrint.L 30 7340031) rfl rfl (any_of HT_.out (by kernel_rfl)) (fun _ _ _ h => h) (Or.inr ⟨by rfl, rfl⟩) ?_ ?_
           rotate_left
           ·simp only [XPrint.pw, i64_w, i32_w]
            rfl
           refine XPrint.pu 20 106 (XPrint.L 30 8388607) HT_.out (v := ?_) (a' := ?_) ?_ ?_ ?_
           rotate_left
           ·intro w'
            go_simp
            with_reducible rfl
           rotate_left
           ·simp only [XPrint.pw, i64_w, i32_w]
            rfl
           refine one_ (i := 23) (N := some 109) (XPrint.L 30 16777215) rfl rfl (one_of HT_.out (by kernel_rfl)) (by decide) (fun K hK => ?_)
           refine XPrint.gs Try.func26 #[.agg #[.int .i64 t304, .int .i64 t305], .agg #[.int .i64 a2_0, .int .i64 a2_1]] ?_
           with_reducible refine (vec_LE.calls t304 t305 a2_0 a2_1 t342 _ A299.out).mono ?_
           rintro e w306 ⟨rfl, hb⟩
           refine ⟨_, rfl, ?_⟩
           replace BK299 := XPrint.A0 (XPrint.ab BK299.out hb)
           replace BK300 := XPrint.A0 (XPrint.ab BK300.out hb)
           replace BK301 := XPrint.A0 (XPrint.ab BK301.out hb)
           replace BK306 := XPrint.A0 (XPrint.ab BK306.out hb)
           replace BK307 := XPrint.A0 (XPrint.ab BK307.out hb)
           replace HB := XPrint.A0 (below_step (by exact XPrint.bz HB.out) hb)
           (try clear hb)
           (try clear hb2)
           (try clear hk)
           (try clear hi)
           refine hK.out _ _ ⟨(blk_cell BK301.out 0).trans rfl, (blk_cell BK301.out 1).trans rfl, (blk_cell BK299.out 0).trans rfl, (blk_cell BK299.out 1).trans rfl, (blk_cell BK306.out 0).trans rfl, (blk_cell BK306.out 1).trans rfl, (blk_cell BK307.out 0).trans rfl, (blk_cell BK307.out 1).trans rfl⟩ (fun hHeld => ?_)
           clear hK K
           refine norm_ (a' := ?_) ?_ ?_
           rotate_left
           ·show Act.put _ (some 109) _ = _
            simp only [XPrint.pw, i64_w, i32_w]
            rfl
           refine XPrint.pu 24 110 (XPrint.L 30 33554431) HT_.out (v := ?_) (a' := ?_) ?_ ?_ ?_
           rotate_left
           ·intro w'
            go_simp
            with_reducible rfl
           rotate_left
           ·simp only [XPrint.pw, i64_w, i32_w]
            rfl
           refine XPrint.pu 25 111 (XPrint.L 30 67108863) HT_.out (v := ?_) (a' := ?_) ?_ ?_ ?_
           rotate_left
           ·intro w'
            go_simp
            with_reducible rfl
           rotate_left
           ·simp only [XPrint.pw, i64_w, i32_w]
            rfl
           refine XPrint.pu 26 112 (XPrint.L 30 134217727) HT_.out (v := ?_) (a' := ?_) ?_ ?_ ?_
           rotate_left
           ·intro w'
            go_simp
            with_reducible rfl
           rotate_left
           ·simp only [XPrint.pw, i64_w, i32_w]
            rfl
           refine one_ (i := 27) (N := some 113) (XPrint.L 30 268435455) rfl rfl (one_of HT_.out (by kernel_rfl)) (by decide) (fun K hK => ?_)
           refine XPrint.gs Try.func28 #[] ?_
           with_reducible refine (liverylaw01_head.calls kj234  t343 _ A301.out).mono ?_
           rintro e w307 ⟨rfl, hb⟩
           refine ⟨_, rfl, ?_⟩
           replace BK299 := XPrint.A0 (XPrint.ab BK299.out hb)
           replace BK300 := XPrint.A0 (XPrint.ab BK300.out hb)
           replace BK301 := XPrint.A0 (XPrint.ab BK301.out hb)
           replace BK306 := XPrint.A0 (XPrint.ab BK306.out hb)
           replace BK307 := XPrint.A0 (XPrint.ab BK307.out hb)
           replace HB := XPrint.A0 (below_step (by exact XPrint.bz HB.out) hb)
           (try clear hb)
           (try clear hb2)
           (try clear hk)
           (try clear hi)
           refine hK.out _ _ ⟨(blk_cell BK301.out 0).trans rfl, (blk_cell BK301.out 1).trans rfl, (blk_cell BK299.out 0).trans rfl, (blk_cell BK299.out 1).trans rfl, (blk_cell BK306.out 0).trans rfl, (blk_cell BK306.out 1).trans rfl, (blk_cell BK307.out 0).trans rfl, (blk_cell BK307.out 1).trans rfl⟩ (fun hHeld => ?_)
           clear hK K
           refine norm_ (a' := ?_) ?_ ?_
           rotate_left
           ·show Act.put _ (some 113) _ = _
            simp only [XPrint.pw, i64_w, i32_w]
            rfl
           refine XPrint.pu 28 114 (XPrint.L 30 536870911) HT_.out (v := ?_) (a' := ?_) ?_ ?_ ?_
           rotate_left
           ·intro w'
            go_simp
            with_reducible rfl
           rotate_left
           ·simp only [XPrint.pw, i64_w, i32_w]
            rfl
           refine XPrint.pu 29 6 (XPrint.L 30 1073741823) HT_.out (v := ?_) (a' := ?_) ?_ ?_ ?_
           rotate_left
           ·intro w'
            go_simp
            with_reducible rfl
           rotate_left
           ·simp only [XPrint.pw, i64_w, i32_w]
            rfl
           refine done_ (done_of HT_.out (by kernel_rfl)) ?_
           try go_wp2
           go_ret
           exact ⟨by first | rfl | (simp [errW_none, errW_some] <;> rfl) | (simp [*, errW_none, errW_some] <;> rfl), by exact XPrint.bz HB.out⟩
          ·rw [if_neg c300] at H
           have c300b0 : (false == t342) = false := by simpa using c300
           (try (have c300b1 : decide (false = t342) = false := by simpa using c300))
           (try (have c300b2 : (false == t342) = false := by simpa using c300))
           (try (have c300b3 : ¬ (false = t342) := by simpa using c300))
           clear c300
           exact absurd H (by simp)
        ·rw [if_neg c285] at H
         have c285b0 : (false == t337) = false := by simpa using c285
         (try (have c285b1 : decide (false = t337) = false := by simpa using c285))
         (try (have c285b2 : (false == t337) = false := by simpa using c285))
         (try (have c285b3 : ¬ (false = t337) := by simpa using c285))
         clear c285
         exact absurd H (by simp)

end Go.Proofs.Ytdcgilnmncanfaa.PVecOrder
