-- printed by this session's own driver over the kit's printer: Lean checks it
import Derived.Test.YtkaokiiooakleaaCShapeHangs0
import Derived.Test.YtkaokiiooakleaaCShapeHangs2
import Derived.Test.YtkaokiiooakleaaCShapeHangs3
import Derived.Test.YtkaokiiooakleaaCShapeHangs4
import Derived.Test.YtkaokiiooakleaaCShapeHangs5
import Derived.Test.YtkaokiiooakleaaCShapeHangs6
import Derived.Test.YtkaokiiooakleaaCShapeHangs7
namespace Go.Proofs.Ytkaokiiooakleaa.PShapeHangs
open Go.RowKit Go.Proofs.YtkaokiiooakleaaW.PrintWords Go.Proofs.YtkaokiiooakleaaW.PrintLast Go.Proofs.YtkaokiiooakleaaW.PrintMore
attribute [local go_sem] max2_int min2_int max_two min_two max_three min_three max_four min_four   -- for this text's walks alone
set_option linter.unusedVariables false
set_option linter.unusedSimpArgs false

/-! ### liverylaw08_ShapeHangs: function 8 -/
mutual
def liverylaw08_ShapeHangs.j0 : Nat → Bool → Int → Int → List (S65) → Option (Bool)
 | 0, _, _, _, _ => none
 | k + 1, x32, x191000, x191001, x191002 => if x32 = true then ((liverylaw08_head.f k).bind fun t193 => (some t193)) else (if 0 ≤ (x191002.length : Int) then (if ((x191002.length : Int) : Int).toNat ≤ 35184372088832 then (liverylaw08_ShapeHangs.l0 k (List.replicate ((x191002.length : Int) : Int).toNat 0) 0 x191000 x191001 x191002) else (none)) else (none))
def liverylaw08_ShapeHangs.l0 : Nat → List Int → Int → Int → Int → List (S65) → Option (Bool)
 | 0, _, _, _, _, _ => none
 | k + 1, x5, x6, x191000, x191001, x191002 => if x6 < (x191002.length : Int) then ((shape_Kids.f x191002 x6).bind fun bt197 => ((shape_End.f k x191002 x6).bind fun bt201 => ((shape_Depth.f x191002 x6).bind fun bt203 => (if bt197.2 = 0 then (if bt201.2 = 0 then (if bt203.2 = 0 then (if 0 ≤ x6 then (if (bt197.1.length : Int) = ((rd_T65 x191002 x6).f4) then (if bt201.1 ≤ x6 then (none) else (if bt201.1 > (x191002.length : Int) then (none) else (if bt203.1 < 1 then (none) else (liverylaw08_ShapeHangs.j2 k x5 x6 bt197.1 bt201.1 bt203.1 (decide (bt203.1 > 8)) x191000 x191001 x191002)))) else (none)) else (none)) else (none)) else (none)) else (none))))) else (liverylaw08_ShapeHangs.l2 k x5 0)
def liverylaw08_ShapeHangs.j2 : Nat → List Int → Int → List Int → Int → Int → Bool → Int → Int → List (S65) → Option (Bool)
 | 0, _, _, _, _, _, _, _, _, _ => none
 | k + 1, x5, x6, x7, x9, x11, x106, x191000, x191001, x191002 => if x106 = true then (none) else (liverylaw08_ShapeHangs.l1 k x5 x6 x7 x9 x11 (wrap64 (x6 + 1)) 0 x191000 x191001 x191002)
def liverylaw08_ShapeHangs.l1 : Nat → List Int → Int → List Int → Int → Int → Int → Int → Int → Int → List (S65) → Option (Bool)
 | 0, _, _, _, _, _, _, _, _, _, _ => none
 | k + 1, x5, x6, x7, x9, x11, x13, x14, x191000, x191001, x191002 => if x14 < (x7.length : Int) then (if 0 ≤ x14 then (if (rd x7 x14) = x13 then (liverylaw08_ShapeHangs.j4 k x5 x6 x7 x9 x11 x14 (decide ((rd x7 x14) ≥ (x191002.length : Int))) x191000 x191001 x191002) else (none)) else (none)) else (if x13 = x9 then (liverylaw08_ShapeHangs.l0 k x5 (wrap64 (x6 + 1)) x191000 x191001 x191002) else (none))
def liverylaw08_ShapeHangs.j4 : Nat → List Int → Int → List Int → Int → Int → Int → Bool → Int → Int → List (S65) → Option (Bool)
 | 0, _, _, _, _, _, _, _, _, _, _ => none
 | k + 1, x5, x6, x7, x9, x11, x14, x130, x191000, x191001, x191002 => if x130 = true then (none) else (if 0 ≤ x14 then (if x14 < (x7.length : Int) then (if 0 ≤ (rd x7 x14) then (if (rd x7 x14) < (x5.length : Int) then ((shape_End.f k x191002 (rd x7 x14)).bind fun bt212 => ((shape_Depth.f x191002 (rd x7 x14)).bind fun bt215 => (if bt212.2 = 0 then (if bt215.2 = 0 then (if bt215.1 = (wrap64 (x11 + 1)) then (liverylaw08_ShapeHangs.l1 k (x5.set ((rd x7 x14) : Int).toNat (wrap64 ((rd x5 (rd x7 x14)) + 1))) x6 x7 x9 x11 bt212.1 (wrap64 (x14 + 1)) x191000 x191001 x191002) else (none)) else (none)) else (none)))) else (none)) else (none)) else (none)) else (none))
def liverylaw08_ShapeHangs.l2 : Nat → List Int → Int → Option (Bool)
 | 0, _, _ => none
 | k + 1, x5, x19 => if x19 < (x5.length : Int) then (if 0 ≤ x19 then (if (rd x5 x19) = (mn x19 1) then (liverylaw08_ShapeHangs.l2 k x5 (wrap64 (x19 + 1))) else (none)) else (none)) else ((liverylaw08_head.f k).bind fun t218 => (some t218))
end
def liverylaw08_ShapeHangs.f (k : Nat) (a0_0 : Int) (a0_1 : Int) (l0_2 : List (S65)) : Option (Bool) := (shape_Check.f a0_0 a0_1 l0_2).bind fun bt191 => (if bt191.2 = 0 then (liverylaw08_ShapeHangs.j0 k (decide ((l0_2.length : Int) > 200)) a0_0 a0_1 l0_2) else (liverylaw08_ShapeHangs.j0 k true a0_0 a0_1 l0_2))
theorem liverylaw08_ShapeHangs.mono_l : ∀ k, (∀ y0 y1 y2 y3, LeO (liverylaw08_ShapeHangs.j0 k y0 y1 y2 y3) (liverylaw08_ShapeHangs.j0 (k + 1) y0 y1 y2 y3)) ∧ (∀ y0 y1 y2 y3 y4, LeO (liverylaw08_ShapeHangs.l0 k y0 y1 y2 y3 y4) (liverylaw08_ShapeHangs.l0 (k + 1) y0 y1 y2 y3 y4)) ∧ (∀ y0 y1 y2 y3 y4 y5 y6 y7 y8, LeO (liverylaw08_ShapeHangs.j2 k y0 y1 y2 y3 y4 y5 y6 y7 y8) (liverylaw08_ShapeHangs.j2 (k + 1) y0 y1 y2 y3 y4 y5 y6 y7 y8)) ∧ (∀ y0 y1 y2 y3 y4 y5 y6 y7 y8 y9, LeO (liverylaw08_ShapeHangs.l1 k y0 y1 y2 y3 y4 y5 y6 y7 y8 y9) (liverylaw08_ShapeHangs.l1 (k + 1) y0 y1 y2 y3 y4 y5 y6 y7 y8 y9)) ∧ (∀ y0 y1 y2 y3 y4 y5 y6 y7 y8 y9, LeO (liverylaw08_ShapeHangs.j4 k y0 y1 y2 y3 y4 y5 y6 y7 y8 y9) (liverylaw08_ShapeHangs.j4 (k + 1) y0 y1 y2 y3 y4 y5 y6 y7 y8 y9)) ∧ (∀ y0 y1, LeO (liverylaw08_ShapeHangs.l2 k y0 y1) (liverylaw08_ShapeHangs.l2 (k + 1) y0 y1))
 | 0 => ⟨fun _ _ _ _ r h => by simp [liverylaw08_ShapeHangs.j0] at h, fun _ _ _ _ _ r h => by simp [liverylaw08_ShapeHangs.l0] at h, fun _ _ _ _ _ _ _ _ _ r h => by simp [liverylaw08_ShapeHangs.j2] at h, fun _ _ _ _ _ _ _ _ _ _ r h => by simp [liverylaw08_ShapeHangs.l1] at h, fun _ _ _ _ _ _ _ _ _ _ r h => by simp [liverylaw08_ShapeHangs.j4] at h, fun _ _ r h => by simp [liverylaw08_ShapeHangs.l2] at h⟩
 | k + 1 => by
  obtain ⟨ih0, ih1, ih2, ih3, ih4, ih5⟩ := liverylaw08_ShapeHangs.mono_l k
  refine ⟨?_, ?_, ?_, ?_, ?_, ?_⟩
  ·intro y0 y1 y2 y3
   unfold liverylaw08_ShapeHangs.j0
   repeat' first
   | (with_reducible exact ih0 _ _ _ _)
   | (with_reducible exact ih1 _ _ _ _ _)
   | (with_reducible exact ih2 _ _ _ _ _ _ _ _ _)
   | (with_reducible exact ih3 _ _ _ _ _ _ _ _ _ _)
   | (with_reducible exact ih4 _ _ _ _ _ _ _ _ _ _)
   | (with_reducible exact ih5 _ _)
   | (with_reducible exact liverylaw08_head.mono _)
   | (with_reducible exact shape_End.mono _ _ _)
   | (with_reducible exact LeO.refl _)
   | (with_reducible exact LeO.none _)
   | (with_reducible refine LeO.ite ?_ ?_)
   | (with_reducible refine LeO.bind ?_ (fun _ => ?_))
   | exact ih0 _ _ _ _
   | exact ih1 _ _ _ _ _
   | exact ih2 _ _ _ _ _ _ _ _ _
   | exact ih3 _ _ _ _ _ _ _ _ _ _
   | exact ih4 _ _ _ _ _ _ _ _ _ _
   | exact ih5 _ _
   | exact liverylaw08_head.mono _
   | exact shape_End.mono _ _ _
   | exact LeO.none _
   | refine LeO.ite ?_ ?_
   | refine LeO.bind ?_ (fun _ => ?_)
  ·intro y0 y1 y2 y3 y4
   unfold liverylaw08_ShapeHangs.l0
   repeat' first
   | (with_reducible exact ih0 _ _ _ _)
   | (with_reducible exact ih1 _ _ _ _ _)
   | (with_reducible exact ih2 _ _ _ _ _ _ _ _ _)
   | (with_reducible exact ih3 _ _ _ _ _ _ _ _ _ _)
   | (with_reducible exact ih4 _ _ _ _ _ _ _ _ _ _)
   | (with_reducible exact ih5 _ _)
   | (with_reducible exact liverylaw08_head.mono _)
   | (with_reducible exact shape_End.mono _ _ _)
   | (with_reducible exact LeO.refl _)
   | (with_reducible exact LeO.none _)
   | (with_reducible refine LeO.ite ?_ ?_)
   | (with_reducible refine LeO.bind ?_ (fun _ => ?_))
   | exact ih0 _ _ _ _
   | exact ih1 _ _ _ _ _
   | exact ih2 _ _ _ _ _ _ _ _ _
   | exact ih3 _ _ _ _ _ _ _ _ _ _
   | exact ih4 _ _ _ _ _ _ _ _ _ _
   | exact ih5 _ _
   | exact liverylaw08_head.mono _
   | exact shape_End.mono _ _ _
   | exact LeO.none _
   | refine LeO.ite ?_ ?_
   | refine LeO.bind ?_ (fun _ => ?_)
  ·intro y0 y1 y2 y3 y4 y5 y6 y7 y8
   unfold liverylaw08_ShapeHangs.j2
   repeat' first
   | (with_reducible exact ih0 _ _ _ _)
   | (with_reducible exact ih1 _ _ _ _ _)
   | (with_reducible exact ih2 _ _ _ _ _ _ _ _ _)
   | (with_reducible exact ih3 _ _ _ _ _ _ _ _ _ _)
   | (with_reducible exact ih4 _ _ _ _ _ _ _ _ _ _)
   | (with_reducible exact ih5 _ _)
   | (with_reducible exact liverylaw08_head.mono _)
   | (with_reducible exact shape_End.mono _ _ _)
   | (with_reducible exact LeO.refl _)
   | (with_reducible exact LeO.none _)
   | (with_reducible refine LeO.ite ?_ ?_)
   | (with_reducible refine LeO.bind ?_ (fun _ => ?_))
   | exact ih0 _ _ _ _
   | exact ih1 _ _ _ _ _
   | exact ih2 _ _ _ _ _ _ _ _ _
   | exact ih3 _ _ _ _ _ _ _ _ _ _
   | exact ih4 _ _ _ _ _ _ _ _ _ _
   | exact ih5 _ _
   | exact liverylaw08_head.mono _
   | exact shape_End.mono _ _ _
   | exact LeO.none _
   | refine LeO.ite ?_ ?_
   | refine LeO.bind ?_ (fun _ => ?_)
  ·intro y0 y1 y2 y3 y4 y5 y6 y7 y8 y9
   unfold liverylaw08_ShapeHangs.l1
   repeat' first
   | (with_reducible exact ih0 _ _ _ _)
   | (with_reducible exact ih1 _ _ _ _ _)
   | (with_reducible exact ih2 _ _ _ _ _ _ _ _ _)
   | (with_reducible exact ih3 _ _ _ _ _ _ _ _ _ _)
   | (with_reducible exact ih4 _ _ _ _ _ _ _ _ _ _)
   | (with_reducible exact ih5 _ _)
   | (with_reducible exact liverylaw08_head.mono _)
   | (with_reducible exact shape_End.mono _ _ _)
   | (with_reducible exact LeO.refl _)
   | (with_reducible exact LeO.none _)
   | (with_reducible refine LeO.ite ?_ ?_)
   | (with_reducible refine LeO.bind ?_ (fun _ => ?_))
   | exact ih0 _ _ _ _
   | exact ih1 _ _ _ _ _
   | exact ih2 _ _ _ _ _ _ _ _ _
   | exact ih3 _ _ _ _ _ _ _ _ _ _
   | exact ih4 _ _ _ _ _ _ _ _ _ _
   | exact ih5 _ _
   | exact liverylaw08_head.mono _
   | exact shape_End.mono _ _ _
   | exact LeO.none _
   | refine LeO.ite ?_ ?_
   | refine LeO.bind ?_ (fun _ => ?_)
  ·intro y0 y1 y2 y3 y4 y5 y6 y7 y8 y9
   unfold liverylaw08_ShapeHangs.j4
   repeat' first
   | (with_reducible exact ih0 _ _ _ _)
   | (with_reducible exact ih1 _ _ _ _ _)
   | (with_reducible exact ih2 _ _ _ _ _ _ _ _ _)
   | (with_reducible exact ih3 _ _ _ _ _ _ _ _ _ _)
   | (with_reducible exact ih4 _ _ _ _ _ _ _ _ _ _)
   | (with_reducible exact ih5 _ _)
   | (with_reducible exact liverylaw08_head.mono _)
   | (with_reducible exact shape_End.mono _ _ _)
   | (with_reducible exact LeO.refl _)
   | (with_reducible exact LeO.none _)
   | (with_reducible refine LeO.ite ?_ ?_)
   | (with_reducible refine LeO.bind ?_ (fun _ => ?_))
   | exact ih0 _ _ _ _
   | exact ih1 _ _ _ _ _
   | exact ih2 _ _ _ _ _ _ _ _ _
   | exact ih3 _ _ _ _ _ _ _ _ _ _
   | exact ih4 _ _ _ _ _ _ _ _ _ _
   | exact ih5 _ _
   | exact liverylaw08_head.mono _
   | exact shape_End.mono _ _ _
   | exact LeO.none _
   | refine LeO.ite ?_ ?_
   | refine LeO.bind ?_ (fun _ => ?_)
  ·intro y0 y1
   unfold liverylaw08_ShapeHangs.l2
   repeat' first
   | (with_reducible exact ih0 _ _ _ _)
   | (with_reducible exact ih1 _ _ _ _ _)
   | (with_reducible exact ih2 _ _ _ _ _ _ _ _ _)
   | (with_reducible exact ih3 _ _ _ _ _ _ _ _ _ _)
   | (with_reducible exact ih4 _ _ _ _ _ _ _ _ _ _)
   | (with_reducible exact ih5 _ _)
   | (with_reducible exact liverylaw08_head.mono _)
   | (with_reducible exact shape_End.mono _ _ _)
   | (with_reducible exact LeO.refl _)
   | (with_reducible exact LeO.none _)
   | (with_reducible refine LeO.ite ?_ ?_)
   | (with_reducible refine LeO.bind ?_ (fun _ => ?_))
   | exact ih0 _ _ _ _
   | exact ih1 _ _ _ _ _
   | exact ih2 _ _ _ _ _ _ _ _ _
   | exact ih3 _ _ _ _ _ _ _ _ _ _
   | exact ih4 _ _ _ _ _ _ _ _ _ _
   | exact ih5 _ _
   | exact liverylaw08_head.mono _
   | exact shape_End.mono _ _ _
   | exact LeO.none _
   | refine LeO.ite ?_ ?_
   | refine LeO.bind ?_ (fun _ => ?_)
theorem liverylaw08_ShapeHangs.mono : ∀ a0 a1 a2 k, LeO (liverylaw08_ShapeHangs.f k a0 a1 a2) (liverylaw08_ShapeHangs.f (k + 1) a0 a1 a2) := by
 intro a0 a1 a2 k
 obtain ⟨ih0, ih1, ih2, ih3, ih4, ih5⟩ := liverylaw08_ShapeHangs.mono_l k
 unfold liverylaw08_ShapeHangs.f
 repeat' first
   | (with_reducible exact ih0 _ _ _ _)
   | (with_reducible exact ih1 _ _ _ _ _)
   | (with_reducible exact ih2 _ _ _ _ _ _ _ _ _)
   | (with_reducible exact ih3 _ _ _ _ _ _ _ _ _ _)
   | (with_reducible exact ih4 _ _ _ _ _ _ _ _ _ _)
   | (with_reducible exact ih5 _ _)
   | (with_reducible exact liverylaw08_head.mono _)
   | (with_reducible exact shape_End.mono _ _ _)
   | (with_reducible exact LeO.refl _)
   | (with_reducible exact LeO.none _)
   | (with_reducible refine LeO.ite ?_ ?_)
   | (with_reducible refine LeO.bind ?_ (fun _ => ?_))
   | exact ih0 _ _ _ _
   | exact ih1 _ _ _ _ _
   | exact ih2 _ _ _ _ _ _ _ _ _
   | exact ih3 _ _ _ _ _ _ _ _ _ _
   | exact ih4 _ _ _ _ _ _ _ _ _ _
   | exact ih5 _ _
   | exact liverylaw08_head.mono _
   | exact shape_End.mono _ _ _
   | exact LeO.none _
   | refine LeO.ite ?_ ?_
   | refine LeO.bind ?_ (fun _ => ?_)
def liverylaw08_ShapeHangs.T17 : Bool × List (List Nat × List Nat) := (true, [([], []), ([], []), ([0, 1], [0, 1]), ([2], [2]), ([], []), ([3, 4], [3, 4]), ([5], [5]), ([6], [6]), ([6], [6]), ([7, 8, 6], [6, 7, 8]), ([9, 6], [6, 9]), ([6], [6]), ([11, 6], [6, 11]), ([12, 6], [6, 12]), ([10, 13, 6], [6, 10, 13]), ([6, 14], [6, 14])])
def liverylaw08_ShapeHangs.B17 : List Nat := [0, 0, 3, 7, 0, 31, 63, 127, 127, 511, 1023, 127, 2175, 6271, 16383, 32767]
theorem liverylaw08_ShapeHangs.tab17 : rtab .any (opsOf Try.f8 17) = liverylaw08_ShapeHangs.T17 := by kernel_rfl
theorem liverylaw08_ShapeHangs.bits17 : waitsOk liverylaw08_ShapeHangs.T17.2 liverylaw08_ShapeHangs.B17 = true := by kernel_rfl
def liverylaw08_ShapeHangs.T20 : Bool × List (List Nat × List Nat) := (true, [([], []), ([0], [0]), ([], []), ([], []), ([2, 3], [2, 3]), ([4], [4]), ([1, 5], [1, 5]), ([6], [6]), ([7], [7]), ([7], [7]), ([8, 6, 0, 1, 2, 3, 4, 5, 6, 7, 8], [8]), ([9, 10, 0, 1, 2, 3, 4, 5, 6, 7, 8, 9, 10], [9])])
def liverylaw08_ShapeHangs.B20 : List Nat := [0, 1, 0, 0, 12, 28, 63, 127, 255, 255, 511, 2047]
theorem liverylaw08_ShapeHangs.tab20 : rtab .any (opsOf Try.f8 20) = liverylaw08_ShapeHangs.T20 := by kernel_rfl
theorem liverylaw08_ShapeHangs.bits20 : waitsOk liverylaw08_ShapeHangs.T20.2 liverylaw08_ShapeHangs.B20 = true := by kernel_rfl
def liverylaw08_ShapeHangs.T21 : Bool × List (List Nat × List Nat) := (true, [([], []), ([0], [0]), ([], []), ([], []), ([2, 3], [2, 3]), ([4], [4]), ([1, 5], [1, 5]), ([6], [6]), ([7], [7]), ([7], [7]), ([8, 6, 0, 1, 2, 3, 4, 5, 6, 7, 8], [8]), ([9, 10, 0, 1, 2, 3, 4, 5, 6, 7, 8, 9, 10], [9])])
def liverylaw08_ShapeHangs.B21 : List Nat := [0, 1, 0, 0, 12, 28, 63, 127, 255, 255, 511, 2047]
theorem liverylaw08_ShapeHangs.tab21 : rtab .any (opsOf Try.f8 21) = liverylaw08_ShapeHangs.T21 := by kernel_rfl
theorem liverylaw08_ShapeHangs.bits21 : waitsOk liverylaw08_ShapeHangs.T21.2 liverylaw08_ShapeHangs.B21 = true := by kernel_rfl
set_option maxHeartbeats 8000000 in
set_option maxRecDepth 100000 in
theorem liverylaw08_ShapeHangs.calls (k : Nat) (a0_0 : Int) (a0_1 : Int) (A0_2 : Option Addr) (c0_2 : Nat) (l0_2 : List (S65)) (r : Bool) (w : World) (hr0_2 : Kd.C k65 w A0_2 l0_2.length l0_2) (hc0_2 : l0_2.length ≤ c0_2) (h : liverylaw08_ShapeHangs.f k a0_0 a0_1 l0_2 = some r) :
  Calls Try.prog 8 #[.agg #[.int .i64 a0_0, .int .i64 a0_1, .slice A0_2 l0_2.length c0_2]] w fun e w' => e = .returned (.bool r) ∧ Below w.heap.size w w' := by
 have hu50 := Try.underlying50
 have HR0_2 := XPrint.A0 hr0_2
 have HC0_2 := XPrint.A0 hc0_2
 clear hr0_2 hc0_2
 have HB := XPrint.A0 (Below.refl w.heap.size w)
 have H : ((shape_Check.f a0_0 a0_1 l0_2).bind fun bt191 => (if bt191.2 = 0 then (liverylaw08_ShapeHangs.j0 k (decide ((l0_2.length : Int) > 200)) a0_0 a0_1 l0_2) else (liverylaw08_ShapeHangs.j0 k true a0_0 a0_1 l0_2))) = some r := h
 clear h
 replace H := Option.bind_eq_some_iff.mp H
 obtain ⟨⟨t191, t192⟩, A20, H⟩ := H
 replace H : (if t192 = 0 then (liverylaw08_ShapeHangs.j0 k (decide ((l0_2.length : Int) > 200)) a0_0 a0_1 l0_2) else (liverylaw08_ShapeHangs.j0 k true a0_0 a0_1 l0_2)) = some r := H
 have A2 := XPrint.A0 A20
 clear A20
 have HC3 := XPrint.A0 H
 clear H
 go_enter Try.func8, Try.ntmps8
 go_upto_region 2 with (first | ((with_reducible refine gate_dst (N := 1) rfl ?_); (try (refine gate_guard (by rfl) ?_; dsimp only)); refine box_event ?hg (N := 1) ?hd (cs := #[.int .i64 a0_0, .int .i64 a0_1, .slice A0_2 l0_2.length c0_2]) (t := 50) ?hr ?_; (case hd => rfl); (case hg => rfl); (case hr => first | (go_simp; done) | (go_simp; rfl)); intro gb190 hg w4 hbox hb; have n0_ := XPrint.A0 (below_step (by exact XPrint.bz HB.out) hb); have n1_ := XPrint.A0 (hbox); have n2_ := XPrint.A0 (XPrint.gz HB.out hg); have n3_ := XPrint.A0 (XPrint.gz HB.out hg); clear HB; have HB := n0_; have BK190 := n1_; have GW190 := n2_; have GE190 := n3_; clear n0_ n1_ n2_ n3_; clear hb hbox hg; have hcz5_0 : w4.cell? ⟨gb190, 0, none⟩ = some (.int .i64 a0_0) := (blk_cell BK190.out 0).trans rfl; have hcz5_1 : w4.cell? ⟨gb190, 1, none⟩ = some (.int .i64 a0_1) := (blk_cell BK190.out 1).trans rfl; have hcz5_2 : w4.cell? ⟨gb190, 2, none⟩ = some (.slice A0_2 l0_2.length c0_2) := (blk_cell BK190.out 2).trans rfl; have hfz5_0 := blk_frozen BK190.out 0; have hfz5_1 := blk_frozen BK190.out 1; have hfz5_2 := blk_frozen BK190.out 2) | ((with_reducible refine gate_callee (f := 33) rfl ?_); refine XPrint.gl (some 22) Try.func33 #[.agg #[.int .i64 a0_0, .int .i64 a0_1, .slice A0_2 l0_2.length c0_2]] ?_; (with_reducible refine (shape_Check.calls a0_0 a0_1 _ _ l0_2 t191 t192 _ ?side1 ?side2 A2.out).mono ?_); (case side1 => repeat (first | exact (Kd.C_below HR0_2.out HB.out) | (with_reducible refine Kd.C_alloc ?_ _) | (with_reducible refine Kd.C_drewN ?_ _) | (with_reducible refine Kd.C_drew ?_))); (case side2 => exact HC0_2.out); rintro e w6 ⟨rfl, hb⟩; refine ⟨_, rfl, ?_⟩; have n0_ := XPrint.A0 (XPrint.ab BK190.out hb); have n1_ := XPrint.A0 (below_step (by exact XPrint.bz HB.out) hb); clear BK190; clear HB; have BK190 := n0_; have HB := n1_; clear n0_ n1_; (try clear hb); (try clear hb2); (try clear hk); (try clear hi)))
 (try simp only [XPrint.pw])
 go_cut [32] (fun v32 wc => ∃ (kq : Nat) (x32_2 : Bool), v32 = .bool x32_2 ∧ Aside0 (liverylaw08_ShapeHangs.j0 kq x32_2 a0_0 a0_1 l0_2 = some r) ∧ Aside0 (kq ≤ k) ∧ Aside0 (wc.heap[gb190]? = some (.cells #[.int .i64 a0_0, .int .i64 a0_1, (.slice A0_2 l0_2.length c0_2)] 50 (0, 0))) ∧ Aside0 (Below w.heap.size w wc))
 case first =>
  have H := HC3.out
  clear HC3
  by_cases c7 : t192 = 0
  ·rw [if_pos c7] at H
   have c7b0 : (t192 == 0) = true := beq_iff_eq.mpr c7
   have c7b1 : (t192 != 0) = false := bne_eq_false_iff_eq.mpr c7
   clear c7
   (first | rw [c7b0] | (simp only [i64_w, i32_w]; rw [c7b0]) | skip)
   have H' := XPrint.A0 H
   clear H
   have hcz8_0 : w6.cell? ⟨gb190, 0, none⟩ = some (.int .i64 a0_0) := (blk_cell BK190.out 0).trans rfl
   have hcz8_1 : w6.cell? ⟨gb190, 1, none⟩ = some (.int .i64 a0_1) := (blk_cell BK190.out 1).trans rfl
   have hcz8_2 : w6.cell? ⟨gb190, 2, none⟩ = some (.slice A0_2 l0_2.length c0_2) := (blk_cell BK190.out 2).trans rfl
   have hfz8_0 := blk_frozen BK190.out 0
   have hfz8_1 := blk_frozen BK190.out 1
   have hfz8_2 := blk_frozen BK190.out 2
   go_wp2
   go_meet
   case rel => exact ⟨_, (decide ((l0_2.length : Int) > 200)), (by first | rfl | (simp; done) | (simp [*]; done)), H', ⟨by first | omega | exact Nat.le_refl _⟩, ⟨by (repeat with_reducible first | refine XPrint.d1 ?_ | refine XPrint.d2 ?_ _ | refine XPrint.d3 ?_ _); exact BK190.out⟩, ⟨by exact XPrint.bz HB.out⟩⟩
  ·rw [if_neg c7] at H
   have c7b0 : (t192 == 0) = false := beq_eq_false_iff_ne.mpr c7
   have c7b1 : (t192 != 0) = true := bne_iff_ne.mpr c7
   (first | rw [c7b0] | (simp only [i64_w, i32_w]; rw [c7b0]) | skip)
   have H' := XPrint.A0 H
   clear H
   go_wp2
   go_meet
   case rel => exact ⟨_, (true), (by first | rfl | (simp; done) | (simp [*]; done)), H', ⟨by first | omega | exact Nat.le_refl _⟩, ⟨by (repeat with_reducible first | refine XPrint.d1 ?_ | refine XPrint.d2 ?_ _ | refine XPrint.d3 ?_ _); exact BK190.out⟩, ⟨by exact XPrint.bz HB.out⟩⟩
 case rest =>
  clear HC3
  try clear p2
  try clear c3
  try clear c7
  try clear c7b0
  try clear c7b1
  try clear c8
  try clear hcz5_0
  try clear hcz5_1
  try clear hcz5_2
  try clear hcz8_0
  try clear hcz8_1
  try clear hcz8_2
  try clear hfz5_0
  try clear hfz5_1
  try clear hfz5_2
  try clear hfz8_0
  try clear hfz8_1
  try clear hfz8_2
  obtain ⟨kq, x32_2, rfl, HA, HJ2, BK190, HB⟩ := hcut
  cases kq with
  | zero => exact absurd HA.out (by simp [liverylaw08_ShapeHangs.j0])
  | succ kj2 =>
   have H := HA.out
   clear HA
   simp only [liverylaw08_ShapeHangs.j0] at H
   by_cases c9 : x32_2 = true
   ·subst c9
    have H1 := H; rw [if_pos rfl] at H1
    clear H
    have H := H1
    clear H1
    replace H := Option.bind_eq_some_iff.mp H
    obtain ⟨t193, A100, H⟩ := H
    try set_option simprocs false in dsimp only at H
    have A10 := XPrint.A0 A100
    clear A100
    obtain rfl := Option.some.inj H
    go_wp2_with (first | ((with_reducible refine gate_callee (f := 32) rfl ?_); refine XPrint.gl (some 33) Try.func32 #[] ?_; (with_reducible refine (liverylaw08_head.calls kj2  t193 _ A10.out).mono ?_); rintro e w11 ⟨rfl, hb⟩; refine ⟨_, rfl, ?_⟩; replace BK190 := XPrint.A0 (XPrint.ab BK190.out hb); replace HB := XPrint.A0 (below_step (by exact XPrint.bz HB.out) hb); (try clear hb); (try clear hb2); (try clear hk); (try clear hi)))
    go_ret
    exact ⟨by first | rfl | (simp [errW_none, errW_some] <;> rfl) | (simp [*, errW_none, errW_some] <;> rfl), by exact XPrint.bz HB.out⟩
   ·replace c9 := Bool.eq_false_iff.mpr c9
    subst c9
    have H1 := H; rw [if_neg (show ¬ (false = true) by decide)] at H1
    clear H
    have H := H1
    clear H1
    by_cases c12 : 0 ≤ (l0_2.length : Int)
    ·rw [if_pos c12] at H
     have c12b0 := eq_true c12
     have c12b1 : decide (0 ≤ (l0_2.length : Int)) = true := decide_eq_true c12
     clear c12
     by_cases c13 : ((l0_2.length : Int) : Int).toNat ≤ 35184372088832
     ·rw [if_pos c13] at H
      have c13b0 := eq_true c13
      have c13b1 : decide (((l0_2.length : Int) : Int).toNat ≤ 35184372088832) = true := decide_eq_true c13
      clear c13
      obtain ⟨y194, hy194⟩ : ∃ y_ : List Int, y_ = (List.replicate ((l0_2.length : Int) : Int).toNat 0) := ⟨_, rfl⟩
      replace H : (liverylaw08_ShapeHangs.l0 kj2 y194 0 a0_0 a0_1 l0_2) = some r := by first | (rw [hy194]; with_reducible exact H) | (have H2_ := (Option.bind_some _ _).symm.trans H; rw [hy194]; with_reducible exact H2_) | (have H2_ := (Option.bind_some _ _).symm.trans H; with_reducible exact H2_) | with_reducible exact H | (rw [hy194]; exact H) | exact H
      have Ny194 := XPrint.A0 hy194
      clear hy194
      have H' := XPrint.A0 H
      clear H
      have hcz14_0 : wc.cell? ⟨gb190, 0, none⟩ = some (.int .i64 a0_0) := (blk_cell BK190.out 0).trans rfl
      have hcz14_1 : wc.cell? ⟨gb190, 1, none⟩ = some (.int .i64 a0_1) := (blk_cell BK190.out 1).trans rfl
      have hcz14_2 : wc.cell? ⟨gb190, 2, none⟩ = some (.slice A0_2 l0_2.length c0_2) := (blk_cell BK190.out 2).trans rfl
      have hfz14_0 := blk_frozen BK190.out 0
      have hfz14_1 := blk_frozen BK190.out 1
      have hfz14_2 := blk_frozen BK190.out 2
      go_wp2_with (first | ((with_reducible refine gate_dst (N := 37) rfl ?_); (try (refine gate_guard (by rfl) ?_; dsimp only)); refine Kd.R_make (Kd.int .i64) _ 3 rfl (N := 37) rfl 56 _ _ rfl (l0_2.length : Int) rfl rfl Try.underlying56 (.int .i64 0) 8 info3 rfl (by decide) (by omega) 0 (ok := fun _ => True) (okp := fun _ => True) rfl (fun _ hk => hk) trivial (of_decide_eq_true (by first | (with_reducible assumption) | assumption)) (Nat.le_trans (Nat.mul_le_mul_right _ (of_decide_eq_true (by first | (with_reducible assumption) | assumption) : (l0_2.length : Int).toNat ≤ 35184372088832)) (by omega)) (Below.refl _ _) (Nat.le_refl _) ?_; intro v195 w15 ho16 hb hg_ hnew_; clear hg_ hnew_; (first | rw [← Ny194.out] at ho16 | (simp only [Int.reduceToNat] at ho16; rw [← Ny194.out] at ho16)); have HO196 := XPrint.A0 (Kd.R_lower ho16 (below_size (by exact XPrint.bz HB.out))); replace BK190 := XPrint.A0 (XPrint.ab BK190.out hb); replace HB := XPrint.A0 (below_step (by exact XPrint.bz HB.out) hb); clear hb ho16))
      go_loopg [6] kj2 (fun kq v6 w' => ∃ (x5_2 : List Int) (x6_2 : Int), v6 = .int .i64 x6_2 ∧ Aside0 (liverylaw08_ShapeHangs.l0 kq x5_2 x6_2 a0_0 a0_1 l0_2 = some r) ∧ Aside0 (kq ≤ kj2) ∧ Aside0 (Kd.R (Kd.int .i64) 3 w' w.heap.size (fun _ => True) v195 x5_2) ∧ Aside0 (w'.heap[gb190]? = some (.cells #[.int .i64 a0_0, .int .i64 a0_1, (.slice A0_2 l0_2.length c0_2)] 50 (0, 0))) ∧ Aside0 (Below w.heap.size w w'))
      case atStart => exact ⟨(y194), (0), (by first | rfl | (simp; done) | (simp [*]; done)), H', ⟨Nat.le_refl _⟩, ⟨by (with_reducible repeat (first | apply Kd.R_alloc | apply Kd.R_drewN | apply Kd.R_drew)); exact HO196.out⟩, ⟨by (repeat with_reducible first | refine XPrint.d1 ?_ | refine XPrint.d2 ?_ _ | refine XPrint.d3 ?_ _); exact BK190.out⟩, ⟨by exact XPrint.bz HB.out⟩⟩
      case round =>
       clear H'
       try clear c1
       try clear p2
       try clear c3
       try clear c7
       try clear c7b0
       try clear c7b1
       try clear c8
       try clear c9
       try clear c12
       try clear c12b0
       try clear c12b1
       try clear c13
       try clear c13b0
       try clear c13b1
       try clear hcz14_0
       try clear hcz14_1
       try clear hcz14_2
       try clear hcz5_0
       try clear hcz5_1
       try clear hcz5_2
       try clear hcz8_0
       try clear hcz8_1
       try clear hcz8_2
       try clear hfz14_0
       try clear hfz14_1
       try clear hfz14_2
       try clear hfz5_0
       try clear hfz5_1
       try clear hfz5_2
       try clear hfz8_0
       try clear hfz8_1
       try clear hfz8_2
       try clear p2
       obtain ⟨x5_2, x6_2, rfl, HA, HK2, HO_5, BK190, HB⟩ := hrel
       cases gk with
       | zero => exact absurd HA.out (by simp [liverylaw08_ShapeHangs.l0])
       | succ k2 =>
        have H := HA.out
        clear HA
        simp only [liverylaw08_ShapeHangs.l0] at H
        by_cases c17 : x6_2 < (l0_2.length : Int)
        ·rw [if_pos c17] at H
         have c17b0 : decide (x6_2 < (l0_2.length : Int)) = true := decide_eq_true c17
         clear c17
         replace H := Option.bind_eq_some_iff.mp H
         obtain ⟨⟨t197, t198⟩, A180, H⟩ := H
         replace H : ((shape_End.f k2 l0_2 x6_2).bind fun bt201 => ((shape_Depth.f l0_2 x6_2).bind fun bt203 => (if t198 = 0 then (if bt201.2 = 0 then (if bt203.2 = 0 then (if 0 ≤ x6_2 then (if (t197.length : Int) = ((rd_T65 l0_2 x6_2).f4) then (if bt201.1 ≤ x6_2 then (none) else (if bt201.1 > (l0_2.length : Int) then (none) else (if bt203.1 < 1 then (none) else (liverylaw08_ShapeHangs.j2 k2 x5_2 x6_2 t197 bt201.1 bt203.1 (decide (bt203.1 > 8)) a0_0 a0_1 l0_2)))) else (none)) else (none)) else (none)) else (none)) else (none)))) = some r := H
         have A18 := XPrint.A0 A180
         clear A180
         replace H := Option.bind_eq_some_iff.mp H
         obtain ⟨⟨t201, t202⟩, A190, H⟩ := H
         replace H : ((shape_Depth.f l0_2 x6_2).bind fun bt203 => (if t198 = 0 then (if t202 = 0 then (if bt203.2 = 0 then (if 0 ≤ x6_2 then (if (t197.length : Int) = ((rd_T65 l0_2 x6_2).f4) then (if t201 ≤ x6_2 then (none) else (if t201 > (l0_2.length : Int) then (none) else (if bt203.1 < 1 then (none) else (liverylaw08_ShapeHangs.j2 k2 x5_2 x6_2 t197 t201 bt203.1 (decide (bt203.1 > 8)) a0_0 a0_1 l0_2)))) else (none)) else (none)) else (none)) else (none)) else (none))) = some r := H
         have A19 := XPrint.A0 A190
         clear A190
         replace H := Option.bind_eq_some_iff.mp H
         obtain ⟨⟨t203, t204⟩, A200, H⟩ := H
         replace H : (if t198 = 0 then (if t202 = 0 then (if t204 = 0 then (if 0 ≤ x6_2 then (if (t197.length : Int) = ((rd_T65 l0_2 x6_2).f4) then (if t201 ≤ x6_2 then (none) else (if t201 > (l0_2.length : Int) then (none) else (if t203 < 1 then (none) else (liverylaw08_ShapeHangs.j2 k2 x5_2 x6_2 t197 t201 t203 (decide (t203 > 8)) a0_0 a0_1 l0_2)))) else (none)) else (none)) else (none)) else (none)) else (none)) = some r := H
         have A20 := XPrint.A0 A200
         clear A200
         have HC21 := XPrint.A0 H
         clear H
         have hcz22_0 : wr.cell? ⟨gb190, 0, none⟩ = some (.int .i64 a0_0) := (blk_cell BK190.out 0).trans rfl
         have hcz22_1 : wr.cell? ⟨gb190, 1, none⟩ = some (.int .i64 a0_1) := (blk_cell BK190.out 1).trans rfl
         have hcz22_2 : wr.cell? ⟨gb190, 2, none⟩ = some (.slice A0_2 l0_2.length c0_2) := (blk_cell BK190.out 2).trans rfl
         have hfz22_0 := blk_frozen BK190.out 0
         have hfz22_1 := blk_frozen BK190.out 1
         have hfz22_2 := blk_frozen BK190.out 2
         go_upto_region 11 with (first | ((with_reducible refine gate_callee (f := 38) rfl ?_); refine XPrint.gl (some 49) Try.func38 #[.slice A0_2 l0_2.length c0_2, .int .i64 x6_2] ?_; (with_reducible refine (shape_Kids.calls _ _ l0_2 x6_2 t197 t198 _ ?side1 ?side2 A18.out).mono ?_); (case side1 => repeat (first | exact (Kd.C_below HR0_2.out HB.out) | (with_reducible refine Kd.C_alloc ?_ _) | (with_reducible refine Kd.C_drewN ?_ _) | (with_reducible refine Kd.C_drew ?_))); (case side2 => exact HC0_2.out); rintro e w23 ⟨v199, rfl, ho0, hb⟩; refine ⟨_, rfl, ?_⟩; have n0_ := XPrint.A0 (Kd.R_elder' (by (with_reducible repeat (first | apply Kd.R_alloc | apply Kd.R_drewN | apply Kd.R_drew)); exact HO_5.out) (Kd.R_base ho0) hb); have n1_ := XPrint.A0 (Kd.R_lower (Kd.R_new' ho0 (Kd.R_lt (by (with_reducible repeat (first | apply Kd.R_alloc | apply Kd.R_drewN | apply Kd.R_drew)); exact HO_5.out))) (below_size (by exact XPrint.bz HB.out))); have n2_ := XPrint.A0 (XPrint.ab BK190.out hb); have n3_ := XPrint.A0 (below_step (by exact XPrint.bz HB.out) hb); clear HO_5; clear BK190; clear HB; have HO_5 := n0_; have HO200 := n1_; have BK190 := n2_; have HB := n3_; clear n0_ n1_ n2_ n3_; (try clear hb); (try clear hb2); (try clear hk); (try clear hi); (try clear ho0); have hcz24_0 : w23.cell? ⟨gb190, 0, none⟩ = some (.int .i64 a0_0) := (blk_cell BK190.out 0).trans rfl; have hcz24_1 : w23.cell? ⟨gb190, 1, none⟩ = some (.int .i64 a0_1) := (blk_cell BK190.out 1).trans rfl; have hcz24_2 : w23.cell? ⟨gb190, 2, none⟩ = some (.slice A0_2 l0_2.length c0_2) := (blk_cell BK190.out 2).trans rfl; have hfz24_0 := blk_frozen BK190.out 0; have hfz24_1 := blk_frozen BK190.out 1; have hfz24_2 := blk_frozen BK190.out 2) | ((with_reducible refine gate_callee (f := 39) rfl ?_); refine XPrint.gl (some 56) Try.func39 #[.slice A0_2 l0_2.length c0_2, .int .i64 x6_2] ?_; (with_reducible refine (shape_End.calls k2 _ _ l0_2 x6_2 t201 t202 _ ?side1 ?side2 A19.out).mono ?_); (case side1 => repeat (first | exact (Kd.C_below HR0_2.out HB.out) | (with_reducible refine Kd.C_alloc ?_ _) | (with_reducible refine Kd.C_drewN ?_ _) | (with_reducible refine Kd.C_drew ?_))); (case side2 => exact HC0_2.out); rintro e w25 ⟨rfl, hb⟩; refine ⟨_, rfl, ?_⟩; have n0_ := XPrint.A0 (Kd.R_below (by (with_reducible repeat (first | apply Kd.R_alloc | apply Kd.R_drewN | apply Kd.R_drew)); exact HO_5.out) hb); have n1_ := XPrint.A0 (XPrint.rb HO200.out hb); have n2_ := XPrint.A0 (XPrint.ab BK190.out hb); have n3_ := XPrint.A0 (below_step (by exact XPrint.bz HB.out) hb); clear HO_5; clear HO200; clear BK190; clear HB; have HO_5 := n0_; have HO200 := n1_; have BK190 := n2_; have HB := n3_; clear n0_ n1_ n2_ n3_; (try clear hb); (try clear hb2); (try clear hk); (try clear hi); have hcz26_0 : w25.cell? ⟨gb190, 0, none⟩ = some (.int .i64 a0_0) := (blk_cell BK190.out 0).trans rfl; have hcz26_1 : w25.cell? ⟨gb190, 1, none⟩ = some (.int .i64 a0_1) := (blk_cell BK190.out 1).trans rfl; have hcz26_2 : w25.cell? ⟨gb190, 2, none⟩ = some (.slice A0_2 l0_2.length c0_2) := (blk_cell BK190.out 2).trans rfl; have hfz26_0 := blk_frozen BK190.out 0; have hfz26_1 := blk_frozen BK190.out 1; have hfz26_2 := blk_frozen BK190.out 2) | ((with_reducible refine gate_callee (f := 40) rfl ?_); refine XPrint.gl (some 63) Try.func40 #[.slice A0_2 l0_2.length c0_2, .int .i64 x6_2] ?_; (with_reducible refine (shape_Depth.calls _ _ l0_2 x6_2 t203 t204 _ ?side1 ?side2 A20.out).mono ?_); (case side1 => repeat (first | exact (Kd.C_below HR0_2.out HB.out) | (with_reducible refine Kd.C_alloc ?_ _) | (with_reducible refine Kd.C_drewN ?_ _) | (with_reducible refine Kd.C_drew ?_))); (case side2 => exact HC0_2.out); rintro e w27 ⟨rfl, hb⟩; refine ⟨_, rfl, ?_⟩; have n0_ := XPrint.A0 (Kd.R_below (by (with_reducible repeat (first | apply Kd.R_alloc | apply Kd.R_drewN | apply Kd.R_drew)); exact HO_5.out) hb); have n1_ := XPrint.A0 (XPrint.rb HO200.out hb); have n2_ := XPrint.A0 (XPrint.ab BK190.out hb); have n3_ := XPrint.A0 (below_step (by exact XPrint.bz HB.out) hb); clear HO_5; clear HO200; clear BK190; clear HB; have HO_5 := n0_; have HO200 := n1_; have BK190 := n2_; have HB := n3_; clear n0_ n1_ n2_ n3_; (try clear hb); (try clear hb2); (try clear hk); (try clear hi)))
         (try simp only [XPrint.pw])
         go_cut [106] (fun v106 wc => ∃ (kq : Nat) (x106_20 : Bool), v106 = .bool x106_20 ∧ Aside0 (liverylaw08_ShapeHangs.j2 kq x5_2 x6_2 t197 t201 t203 x106_20 a0_0 a0_1 l0_2 = some r) ∧ Aside0 (kq ≤ k2) ∧ Aside0 (Kd.R (Kd.int .i64) 3 wc w.heap.size (fun k_ => some k_ ≠ (v199 : Value).ownBlock) v195 x5_2) ∧ Aside0 (Kd.R (Kd.int .i64) 3 wc w.heap.size (fun k_ => some k_ ≠ (v195 : Value).ownBlock) v199 t197) ∧ Aside0 (wc.heap[gb190]? = some (.cells #[.int .i64 a0_0, .int .i64 a0_1, (.slice A0_2 l0_2.length c0_2)] 50 (0, 0))) ∧ Aside0 (Below w.heap.size w wc))
         case first =>
          have H := HC21.out
          clear HC21
          by_cases c28 : t198 = 0
          ·rw [if_pos c28] at H
           have c28b0 : (t198 == 0) = true := beq_iff_eq.mpr c28
           have c28b1 : (t198 != 0) = false := bne_eq_false_iff_eq.mpr c28
           clear c28
           (first | rw [c28b0] | (simp only [i64_w, i32_w]; rw [c28b0]) | skip)
           by_cases c29 : t202 = 0
           ·rw [if_pos c29] at H
            have c29b0 : (t202 == 0) = true := beq_iff_eq.mpr c29
            have c29b1 : (t202 != 0) = false := bne_eq_false_iff_eq.mpr c29
            clear c29
            by_cases c30 : t204 = 0
            ·rw [if_pos c30] at H
             have c30b0 : (t204 == 0) = true := beq_iff_eq.mpr c30
             have c30b1 : (t204 != 0) = false := bne_eq_false_iff_eq.mpr c30
             clear c30
             by_cases c31 : 0 ≤ x6_2
             ·rw [if_pos c31] at H
              have c31b0 : decide (0 ≤ x6_2) = true := decide_eq_true c31
              clear c31
              by_cases c32 : (t197.length : Int) = ((rd_T65 l0_2 x6_2).f4)
              ·rw [if_pos c32] at H
               have c32b0 : ((t197.length : Int) == ((rd_T65 l0_2 x6_2).f4)) = true := beq_iff_eq.mpr c32
               have c32b1 : ((t197.length : Int) != ((rd_T65 l0_2 x6_2).f4)) = false := bne_eq_false_iff_eq.mpr c32
               clear c32
               by_cases c33 : t201 ≤ x6_2
               ·rw [if_pos c33] at H
                exact absurd H (by simp)
               ·rw [if_neg c33] at H
                have c33b0 : decide (t201 ≤ x6_2) = false := decide_eq_false c33
                clear c33
                by_cases c34 : t201 > (l0_2.length : Int)
                ·rw [if_pos c34] at H
                 exact absurd H (by simp)
                ·rw [if_neg c34] at H
                 have c34b0 : decide ((l0_2.length : Int) < t201) = false := decide_eq_false c34
                 clear c34
                 by_cases c35 : t203 < 1
                 ·rw [if_pos c35] at H
                  exact absurd H (by simp)
                 ·rw [if_neg c35] at H
                  have c35b0 : decide (t203 < 1) = false := decide_eq_false c35
                  clear c35
                  have H' := XPrint.A0 H
                  clear H
                  obtain ⟨Ao36, co36, eo36⟩ := Kd.R_slice HO200.out
                  subst eo36
                  have hcz37_0 : w27.cell? ⟨gb190, 0, none⟩ = some (.int .i64 a0_0) := (blk_cell BK190.out 0).trans rfl
                  have hcz37_1 : w27.cell? ⟨gb190, 1, none⟩ = some (.int .i64 a0_1) := (blk_cell BK190.out 1).trans rfl
                  have hcz37_2 : w27.cell? ⟨gb190, 2, none⟩ = some (.slice A0_2 l0_2.length c0_2) := (blk_cell BK190.out 2).trans rfl
                  have hfz37_0 := blk_frozen BK190.out 0
                  have hfz37_1 := blk_frozen BK190.out 1
                  have hfz37_2 := blk_frozen BK190.out 2
                  have p205 : 0 ≤ (x6_2 : Int) := of_decide_eq_true (by first | (with_reducible assumption) | assumption)
                  have q205 : x6_2 < (l0_2.length : Int) := of_decide_eq_true (by first | (with_reducible assumption) | assumption)
                  obtain ⟨ad205, e205, hx205_0, hx205_1, hx205_2, hx205_3, hx205_4⟩ := at_T65 HR0_2.out x6_2 p205 q205
                  cases e205
                  replace hx205_0 := (HB.out.cell (World.block_lt_of_cell? w _ hx205_0)).trans hx205_0
                  replace hx205_1 := (HB.out.cell (World.block_lt_of_cell? w _ hx205_1)).trans hx205_1
                  replace hx205_2 := (HB.out.cell (World.block_lt_of_cell? w _ hx205_2)).trans hx205_2
                  replace hx205_3 := (HB.out.cell (World.block_lt_of_cell? w _ hx205_3)).trans hx205_3
                  replace hx205_4 := (HB.out.cell (World.block_lt_of_cell? w _ hx205_4)).trans hx205_4
                  replace p205 := eq_true p205
                  replace q205 := eq_true q205
                  go_wp2
                  go_meet
                  case rel => exact ⟨_, (decide (t203 > 8)), (by first | rfl | (simp; done) | (simp [*]; done)), H', ⟨by have := HJ2.out; have := HK2.out; first | omega | exact Nat.le_refl _⟩, ⟨by (with_reducible repeat (first | apply Kd.R_alloc | apply Kd.R_drewN | apply Kd.R_drew)); exact Kd.R_mono HO_5.out (fun _ hk => hk.2)⟩, ⟨by (with_reducible repeat (first | apply Kd.R_alloc | apply Kd.R_drewN | apply Kd.R_drew)); exact Kd.R_mono HO200.out (fun _ hk => hk.2)⟩, ⟨by (repeat with_reducible first | refine XPrint.d1 ?_ | refine XPrint.d2 ?_ _ | refine XPrint.d3 ?_ _); exact BK190.out⟩, ⟨by exact XPrint.bz HB.out⟩⟩
              ·rw [if_neg c32] at H
               exact absurd H (by simp)
             ·rw [if_neg c31] at H
              exact absurd H (by simp)
            ·rw [if_neg c30] at H
             exact absurd H (by simp)
           ·rw [if_neg c29] at H
            exact absurd H (by simp)
          ·rw [if_neg c28] at H
           exact absurd H (by simp)
         case rest =>
          clear HC21
          try clear c1
          try clear c2
          try clear p2
          try clear q2
          try clear hx2
          try clear c3
          try clear c4
          try clear c7
          try clear c7b0
          try clear c7b1
          try clear c8
          try clear c9
          try clear c12
          try clear c12b0
          try clear c12b1
          try clear c13
          try clear c13b0
          try clear c13b1
          try clear c17
          try clear c17b0
          try clear p20
          try clear q20
          try clear hx20
          try clear c28
          try clear c28b0
          try clear c28b1
          try clear c29
          try clear c29b0
          try clear c29b1
          try clear c30
          try clear c30b0
          try clear c30b1
          try clear c31
          try clear c31b0
          try clear c32
          try clear c32b0
          try clear c32b1
          try clear c33
          try clear c33b0
          try clear c34
          try clear c34b0
          try clear c35
          try clear c35b0
          try clear hcz14_0
          try clear hcz14_1
          try clear hcz14_2
          try clear hcz22_0
          try clear hcz22_1
          try clear hcz22_2
          try clear hcz24_0
          try clear hcz24_1
          try clear hcz24_2
          try clear hcz26_0
          try clear hcz26_1
          try clear hcz26_2
          try clear hcz37_0
          try clear hcz37_1
          try clear hcz37_2
          try clear hcz5_0
          try clear hcz5_1
          try clear hcz5_2
          try clear hcz8_0
          try clear hcz8_1
          try clear hcz8_2
          try clear hfz14_0
          try clear hfz14_1
          try clear hfz14_2
          try clear hfz22_0
          try clear hfz22_1
          try clear hfz22_2
          try clear hfz24_0
          try clear hfz24_1
          try clear hfz24_2
          try clear hfz26_0
          try clear hfz26_1
          try clear hfz26_2
          try clear hfz37_0
          try clear hfz37_1
          try clear hfz37_2
          try clear hfz5_0
          try clear hfz5_1
          try clear hfz5_2
          try clear hfz8_0
          try clear hfz8_1
          try clear hfz8_2
          try clear hx205_0
          try clear hx205_1
          try clear hx205_2
          try clear hx205_3
          try clear hx205_4
          try clear p2
          try clear p205
          try clear q205
          obtain ⟨kq, x106_20, rfl, HA, HJ20, HO_5, HO_7, BK190, HB⟩ := hcut
          cases kq with
          | zero => exact absurd HA.out (by simp [liverylaw08_ShapeHangs.j2])
          | succ kj20 =>
           have H := HA.out
           clear HA
           simp only [liverylaw08_ShapeHangs.j2] at H
           by_cases c38 : x106_20 = true
           ·subst c38
            have H1 := H; rw [if_pos rfl] at H1
            clear H
            have H := H1
            clear H1
            exact absurd H (by simp)
           ·replace c38 := Bool.eq_false_iff.mpr c38
            subst c38
            have H1 := H; rw [if_neg (show ¬ (false = true) by decide)] at H1
            clear H
            have H := H1
            clear H1
            have H' := XPrint.A0 H
            clear H
            go_wp2
            go_loopg [13, 14] kj20 (fun kq v13 v14 w' => ∃ (x5_4 : List Int) (x13_4 : Int) (x14_4 : Int), v13 = .int .i64 x13_4 ∧ v14 = .int .i64 x14_4 ∧ Aside0 (liverylaw08_ShapeHangs.l1 kq x5_4 x6_2 t197 t201 t203 x13_4 x14_4 a0_0 a0_1 l0_2 = some r) ∧ Aside0 (kq ≤ kj20) ∧ Aside0 (Kd.R (Kd.int .i64) 3 w' w.heap.size (fun k_ => some k_ ≠ (v199 : Value).ownBlock) v195 x5_4) ∧ Aside0 (Kd.R (Kd.int .i64) 3 w' w.heap.size (fun k_ => some k_ ≠ (v195 : Value).ownBlock) v199 t197) ∧ Aside0 (w'.heap[gb190]? = some (.cells #[.int .i64 a0_0, .int .i64 a0_1, (.slice A0_2 l0_2.length c0_2)] 50 (0, 0))) ∧ Aside0 (Below w.heap.size w w'))
            case atStart => exact ⟨(x5_2), (wrap64 (x6_2 + 1)), (0), (by first | rfl | (simp; done) | (simp [*]; done)), (by first | rfl | (simp; done) | (simp [*]; done)), H', ⟨Nat.le_refl _⟩, ⟨by (with_reducible repeat (first | apply Kd.R_alloc | apply Kd.R_drewN | apply Kd.R_drew)); exact HO_5.out⟩, ⟨by (with_reducible repeat (first | apply Kd.R_alloc | apply Kd.R_drewN | apply Kd.R_drew)); exact HO_7.out⟩, ⟨by (repeat with_reducible first | refine XPrint.d1 ?_ | refine XPrint.d2 ?_ _ | refine XPrint.d3 ?_ _); exact BK190.out⟩, ⟨by exact XPrint.bz HB.out⟩⟩
            case round =>
             clear H'
             try clear c1
             try clear c2
             try clear p2
             try clear q2
             try clear hx2
             try clear c3
             try clear c4
             try clear p6
             try clear c7
             try clear c7b0
             try clear c7b1
             try clear c8
             try clear c9
             try clear c12
             try clear c12b0
             try clear c12b1
             try clear c13
             try clear c13b0
             try clear c13b1
             try clear c17
             try clear c17b0
             try clear p20
             try clear q20
             try clear hx20
             try clear c28
             try clear c28b0
             try clear c28b1
             try clear c29
             try clear c29b0
             try clear c29b1
             try clear c30
             try clear c30b0
             try clear c30b1
             try clear c31
             try clear c31b0
             try clear c32
             try clear c32b0
             try clear c32b1
             try clear c33
             try clear c33b0
             try clear c34
             try clear c34b0
             try clear c35
             try clear c35b0
             try clear c38
             try clear hcz14_0
             try clear hcz14_1
             try clear hcz14_2
             try clear hcz22_0
             try clear hcz22_1
             try clear hcz22_2
             try clear hcz24_0
             try clear hcz24_1
             try clear hcz24_2
             try clear hcz26_0
             try clear hcz26_1
             try clear hcz26_2
             try clear hcz37_0
             try clear hcz37_1
             try clear hcz37_2
             try clear hcz5_0
             try clear hcz5_1
             try clear hcz5_2
             try clear hcz8_0
             try clear hcz8_1
             try clear hcz8_2
             try clear hfz14_0
             try clear hfz14_1
             try clear hfz14_2
             try clear hfz22_0
             try clear hfz22_1
             try clear hfz22_2
             try clear hfz24_0
             try clear hfz24_1
             try clear hfz24_2
             try clear hfz26_0
             try clear hfz26_1
             try clear hfz26_2
             try clear hfz37_0
             try clear hfz37_1
             try clear hfz37_2
             try clear hfz5_0
             try clear hfz5_1
             try clear hfz5_2
             try clear hfz8_0
             try clear hfz8_1
             try clear hfz8_2
             try clear hx205_0
             try clear hx205_1
             try clear hx205_2
             try clear hx205_3
             try clear hx205_4
             try clear p2
             try clear p20
             try clear p205
             try clear q2
             try clear q20
             try clear q205
             obtain ⟨x5_4, x13_4, x14_4, rfl, rfl, HA, HK4, HO_5, HO_7, BK190, HB⟩ := hrel
             cases gk with
             | zero => exact absurd HA.out (by simp [liverylaw08_ShapeHangs.l1])
             | succ k4 =>
              have H := HA.out
              clear HA
              simp only [liverylaw08_ShapeHangs.l1] at H
              by_cases c39 : x14_4 < (t197.length : Int)
              ·rw [if_pos c39] at H
               have c39b0 : decide (x14_4 < (t197.length : Int)) = true := decide_eq_true c39
               clear c39
               have HC40 := XPrint.A0 H
               clear H
               obtain ⟨Ao41, co41, eo41⟩ := Kd.R_slice HO_7.out
               subst eo41
               go_upto_region 17 with (fail)
               go_cut [130] (fun v130 wc => ∃ (kq : Nat) (x130_39 : Bool), v130 = .bool x130_39 ∧ Aside0 (liverylaw08_ShapeHangs.j4 kq x5_4 x6_2 t197 t201 t203 x14_4 x130_39 a0_0 a0_1 l0_2 = some r) ∧ Aside0 (kq ≤ k4) ∧ Aside0 (Kd.R (Kd.int .i64) 3 wc w.heap.size (fun k_ => some k_ ≠ ((.slice Ao41 t197.length co41) : Value).ownBlock) v195 x5_4) ∧ Aside0 (Kd.R (Kd.int .i64) 3 wc w.heap.size (fun k_ => some k_ ≠ (v195 : Value).ownBlock) (.slice Ao41 t197.length co41) t197) ∧ Aside0 (wc.heap[gb190]? = some (.cells #[.int .i64 a0_0, .int .i64 a0_1, (.slice A0_2 l0_2.length c0_2)] 50 (0, 0))) ∧ Aside0 (Below w.heap.size w wc))
               case first =>
                have H := HC40.out
                clear HC40
                by_cases c42 : 0 ≤ x14_4
                ·rw [if_pos c42] at H
                 have c42b0 : decide (0 ≤ x14_4) = true := decide_eq_true c42
                 clear c42
                 (first | rw [c42b0] | (simp only [i64_w, i32_w]; rw [c42b0]) | skip)
                 by_cases c43 : (rd t197 x14_4) = x13_4
                 ·rw [if_pos c43] at H
                  have c43b0 : ((rd t197 x14_4) == x13_4) = true := beq_iff_eq.mpr c43
                  have c43b1 : ((rd t197 x14_4) != x13_4) = false := bne_eq_false_iff_eq.mpr c43
                  clear c43
                  have H' := XPrint.A0 H
                  clear H
                  try go_wp2
                  replace HO_5 := XPrint.A0 (Kd.R_drew HO_5.out)
                  replace HO_7 := XPrint.A0 (Kd.R_drew HO_7.out)
                  replace BK190 := XPrint.A0 (blk_drew BK190.out)
                  replace HB := XPrint.A0 (below_drew1 HB.out)
                  have p206 : 0 ≤ (x14_4 : Int) := of_decide_eq_true (by first | (with_reducible assumption) | assumption)
                  have q206 : x14_4 < (t197.length : Int) := of_decide_eq_true (by first | (with_reducible assumption) | assumption)
                  obtain ⟨ad206, e206, hx206_0⟩ := Kd.at_int (Kd.R_reads' HO_7.out).2.2 x14_4 p206 q206
                  cases e206
                  replace p206 := eq_true p206
                  replace q206 := eq_true q206
                  have p207 : 0 ≤ (x14_4 : Int) := of_decide_eq_true (by first | (with_reducible assumption) | assumption)
                  have q207 : x14_4 < (t197.length : Int) := of_decide_eq_true (by first | (with_reducible assumption) | assumption)
                  obtain ⟨ad207, e207, hx207_0⟩ := Kd.at_int (Kd.R_reads' HO_7.out).2.2 x14_4 p207 q207
                  obtain rfl : ad206 = ad207 := (by injection e207)
                  replace p207 := eq_true p207
                  replace q207 := eq_true q207
                  refine start_ (n := 16) (S := fun w' => w'.cell? ⟨gb190, 0, none⟩ = some (.int .i64 a0_0) ∧ w'.cell? ⟨gb190, 1, none⟩ = some (.int .i64 a0_1) ∧ w'.cell? ⟨gb190, 2, none⟩ = some (.slice A0_2 l0_2.length c0_2) ∧ w'.cell? (ad206.add (x14_4).toNat) = some (.int .i64 (rd t197 x14_4)) ∧ w'.cell? (ad206.add (x14_4).toNat) = some (.int .i64 (rd t197 x14_4))) (ds := []) #[false, false, false, false, false, false, false, false, false, false, false, false, false, false, false, false] (by kernel_rfl) rfl rfl ⟨(blk_cell BK190.out 0).trans rfl, (blk_cell BK190.out 1).trans rfl, (blk_cell BK190.out 2).trans rfl, hx206_0, hx207_0⟩ (fun hHeld => ?_); refine with_tabW liverylaw08_ShapeHangs.tab17 liverylaw08_ShapeHangs.bits17 (fun HT_ HW_ => ?_)
                  generalize wr.drew = w44 at HO_5 HO_7 BK190 HB hx206_0 hx207_0 hHeld ⊢
                  refine XPrint.pu 0 115 (XPrint.L 16 1) HT_.out (v := ?_) (a' := ?_) ?_ ?_ ?_
                  rotate_left
                  ·intro w'
                   go_simp
                   with_reducible rfl
                  rotate_left
                  ·simp only [XPrint.pw, i64_w, i32_w]
                   rfl
                  refine XPrint.pu 1 116 (XPrint.L 16 3) HT_.out (v := ?_) (a' := ?_) ?_ ?_ ?_
                  rotate_left
                  ·intro w'
                   go_simp
                   with_reducible rfl
                  rotate_left
                  ·simp only [XPrint.pw, i64_w, i32_w]
                   rfl
                  refine XPrint.pu 2 117 (XPrint.L 16 7) HT_.out (v := ?_) (a' := ?_) ?_ ?_ ?_
                  rotate_left
                  ·intro w'
                   go_simp
                   with_reducible rfl
                  rotate_left
                  ·simp only [XPrint.pw, i64_w, i32_w]
                   rfl
                  refine XPrint.pu 4 119 (XPrint.L 16 23) HT_.out (v := ?_) (a' := ?_) ?_ ?_ ?_
                  rotate_left
                  ·intro w'
                   go_simp
                   with_reducible rfl
                  rotate_left
                  ·simp only [XPrint.pw, i64_w, i32_w]
                   rfl
                  refine XPrint.ta 3 118 (XPrint.L 16 31) HT_.out HW_.out (v := ?_) (a' := ?_) ?_ hHeld ?_ ?_
                  rotate_left
                  ·rintro w' ⟨s0, s1, s2, s3, s4⟩
                   go_simp
                   with_reducible rfl
                  rotate_left
                  ·simp only [XPrint.pw, i64_w, i32_w]
                   rfl
                  refine XPrint.pu 5 120 (XPrint.L 16 63) HT_.out (v := ?_) (a' := ?_) ?_ ?_ ?_
                  rotate_left
                  ·intro w'
                   go_simp
                   with_reducible rfl
                  rotate_left
                  ·simp only [XPrint.pw, i64_w, i32_w]
                   rfl
                  refine XPrint.pu 6 121 (XPrint.L 16 127) HT_.out (v := ?_) (a' := ?_) ?_ ?_ ?_
                  rotate_left
                  ·intro w'
                   go_simp
                   with_reducible rfl
                  rotate_left
                  ·simp only [XPrint.pw, i64_w, i32_w]
                   rfl
                  refine XPrint.pu 7 122 (XPrint.L 16 255) HT_.out (v := ?_) (a' := ?_) ?_ ?_ ?_
                  rotate_left
                  ·intro w'
                   go_simp
                   with_reducible rfl
                  rotate_left
                  ·simp only [XPrint.pw, i64_w, i32_w]
                   rfl
                  refine XPrint.pu 8 123 (XPrint.L 16 511) HT_.out (v := ?_) (a' := ?_) ?_ ?_ ?_
                  rotate_left
                  ·intro w'
                   go_simp
                   with_reducible rfl
                  rotate_left
                  ·simp only [XPrint.pw, i64_w, i32_w]
                   rfl
                  refine XPrint.pu 9 124 (XPrint.L 16 1023) HT_.out (v := ?_) (a' := ?_) ?_ ?_ ?_
                  rotate_left
                  ·intro w'
                   go_simp
                   with_reducible rfl
                  rotate_left
                  ·simp only [XPrint.pw, i64_w, i32_w]
                   rfl
                  refine XPrint.pu 11 126 (XPrint.L 16 3071) HT_.out (v := ?_) (a' := ?_) ?_ ?_ ?_
                  rotate_left
                  ·intro w'
                   go_simp
                   with_reducible rfl
                  rotate_left
                  ·simp only [XPrint.pw, i64_w, i32_w]
                   rfl
                  refine XPrint.ta 10 125 (XPrint.L 16 4095) HT_.out HW_.out (v := ?_) (a' := ?_) ?_ hHeld ?_ ?_
                  rotate_left
                  ·rintro w' ⟨s0, s1, s2, s3, s4⟩
                   go_simp
                   with_reducible rfl
                  rotate_left
                  ·simp only [XPrint.pw, i64_w, i32_w]
                   rfl
                  refine XPrint.ta 12 127 (XPrint.L 16 8191) HT_.out HW_.out (v := ?_) (a' := ?_) ?_ hHeld ?_ ?_
                  rotate_left
                  ·rintro w' ⟨s0, s1, s2, s3, s4⟩
                   go_simp
                   with_reducible rfl
                  rotate_left
                  ·simp only [XPrint.pw, i64_w, i32_w]
                   rfl
                  refine XPrint.pu 13 128 (XPrint.L 16 16383) HT_.out (v := ?_) (a' := ?_) ?_ ?_ ?_
                  rotate_left
                  ·intro w'
                   go_simp
                   with_reducible rfl
                  rotate_left
                  ·simp only [XPrint.pw, i64_w, i32_w]
                   rfl
                  refine XPrint.pu 14 129 (XPrint.L 16 32767) HT_.out (v := ?_) (a' := ?_) ?_ ?_ ?_
                  rotate_left
                  ·intro w'
                   go_simp
                   with_reducible rfl
                  rotate_left
                  ·simp only [XPrint.pw, i64_w, i32_w]
                   rfl
                  refine XPrint.pu 15 130 (XPrint.L 16 65535) HT_.out (v := ?_) (a' := ?_) ?_ ?_ ?_
                  rotate_left
                  ·intro w'
                   go_simp
                   with_reducible rfl
                  rotate_left
                  ·simp only [XPrint.pw, i64_w, i32_w]
                   rfl
                  refine done_ (done_of HT_.out (by kernel_rfl)) ?_
                  try go_wp2
                  go_meet
                  case rel => exact ⟨_, (decide ((rd t197 x14_4) ≥ (l0_2.length : Int))), (by first | rfl | (simp; done) | (simp [*]; done)), H', ⟨by have := HJ2.out; have := HK2.out; have := HJ20.out; have := HK4.out; first | omega | exact Nat.le_refl _⟩, ⟨by (with_reducible repeat (first | apply Kd.R_alloc | apply Kd.R_drewN | apply Kd.R_drew)); exact HO_5.out⟩, ⟨by (with_reducible repeat (first | apply Kd.R_alloc | apply Kd.R_drewN | apply Kd.R_drew)); exact HO_7.out⟩, ⟨by (repeat with_reducible first | refine XPrint.d1 ?_ | refine XPrint.d2 ?_ _ | refine XPrint.d3 ?_ _); exact BK190.out⟩, ⟨by exact XPrint.bz HB.out⟩⟩
                 ·rw [if_neg c43] at H
                  have c43b0 : ((rd t197 x14_4) == x13_4) = false := beq_eq_false_iff_ne.mpr c43
                  have c43b1 : ((rd t197 x14_4) != x13_4) = true := bne_iff_ne.mpr c43
                  exact absurd H (by simp)
                ·rw [if_neg c42] at H
                 exact absurd H (by simp)
               case rest =>
                clear HC40
                try clear c1
                try clear c2
                try clear p2
                try clear q2
                try clear hx2
                try clear c3
                try clear c4
                try clear p6
                try clear c7
                try clear c7b0
                try clear c7b1
                try clear c8
                try clear c9
                try clear c12
                try clear c12b0
                try clear c12b1
                try clear c13
                try clear c13b0
                try clear c13b1
                try clear c17
                try clear c17b0
                try clear p20
                try clear q20
                try clear hx20
                try clear c28
                try clear c28b0
                try clear c28b1
                try clear c29
                try clear c29b0
                try clear c29b1
                try clear c30
                try clear c30b0
                try clear c30b1
                try clear c31
                try clear c31b0
                try clear c32
                try clear c32b0
                try clear c32b1
                try clear c33
                try clear c33b0
                try clear c34
                try clear c34b0
                try clear c35
                try clear c35b0
                try clear c38
                try clear c39
                try clear c39b0
                try clear c40
                try clear c42
                try clear c42b0
                try clear c43
                try clear c43b0
                try clear c43b1
                try clear hcz14_0
                try clear hcz14_1
                try clear hcz14_2
                try clear hcz22_0
                try clear hcz22_1
                try clear hcz22_2
                try clear hcz24_0
                try clear hcz24_1
                try clear hcz24_2
                try clear hcz26_0
                try clear hcz26_1
                try clear hcz26_2
                try clear hcz37_0
                try clear hcz37_1
                try clear hcz37_2
                try clear hcz5_0
                try clear hcz5_1
                try clear hcz5_2
                try clear hcz8_0
                try clear hcz8_1
                try clear hcz8_2
                try clear hfz14_0
                try clear hfz14_1
                try clear hfz14_2
                try clear hfz22_0
                try clear hfz22_1
                try clear hfz22_2
                try clear hfz24_0
                try clear hfz24_1
                try clear hfz24_2
                try clear hfz26_0
                try clear hfz26_1
                try clear hfz26_2
                try clear hfz37_0
                try clear hfz37_1
                try clear hfz37_2
                try clear hfz5_0
                try clear hfz5_1
                try clear hfz5_2
                try clear hfz8_0
                try clear hfz8_1
                try clear hfz8_2
                try clear hx205_0
                try clear hx205_1
                try clear hx205_2
                try clear hx205_3
                try clear hx205_4
                try clear hx206_0
                try clear hx207_0
                try clear p2
                try clear p20
                try clear p205
                try clear p206
                try clear p207
                try clear p6
                try clear q2
                try clear q20
                try clear q205
                try clear q206
                try clear q207
                obtain ⟨kq, x130_39, rfl, HA, HJ39, HO_5, HO_7, BK190, HB⟩ := hcut
                cases kq with
                | zero => exact absurd HA.out (by simp [liverylaw08_ShapeHangs.j4])
                | succ kj39 =>
                 have H := HA.out
                 clear HA
                 simp only [liverylaw08_ShapeHangs.j4] at H
                 by_cases c45 : x130_39 = true
                 ·subst c45
                  have H1 := H; rw [if_pos rfl] at H1
                  clear H
                  have H := H1
                  clear H1
                  exact absurd H (by simp)
                 ·replace c45 := Bool.eq_false_iff.mpr c45
                  subst c45
                  have H1 := H; rw [if_neg (show ¬ (false = true) by decide)] at H1
                  clear H
                  have H := H1
                  clear H1
                  by_cases c46 : 0 ≤ x14_4
                  ·rw [if_pos c46] at H
                   have c46b0 : decide (0 ≤ x14_4) = true := decide_eq_true c46
                   clear c46
                   by_cases c47 : x14_4 < (t197.length : Int)
                   ·rw [if_pos c47] at H
                    have c47b0 : decide (x14_4 < (t197.length : Int)) = true := decide_eq_true c47
                    clear c47
                    by_cases c48 : 0 ≤ (rd t197 x14_4)
                    ·rw [if_pos c48] at H
                     have c48b0 : decide (0 ≤ (rd t197 x14_4)) = true := decide_eq_true c48
                     clear c48
                     by_cases c49 : (rd t197 x14_4) < (x5_4.length : Int)
                     ·rw [if_pos c49] at H
                      have c49b0 : decide ((rd t197 x14_4) < (x5_4.length : Int)) = true := decide_eq_true c49
                      clear c49
                      obtain ⟨y210, hy210⟩ : ∃ y_ : List Int, y_ = (x5_4.set ((rd t197 x14_4) : Int).toNat (wrap64 ((rd x5_4 (rd t197 x14_4)) + 1))) := ⟨_, rfl⟩
                      replace H : ((shape_End.f kj39 l0_2 (rd t197 x14_4)).bind fun bt212 => ((shape_Depth.f l0_2 (rd t197 x14_4)).bind fun bt215 => (if bt212.2 = 0 then (if bt215.2 = 0 then (if bt215.1 = (wrap64 (t203 + 1)) then (liverylaw08_ShapeHangs.l1 kj39 y210 x6_2 t197 t201 t203 bt212.1 (wrap64 (x14_4 + 1)) a0_0 a0_1 l0_2) else (none)) else (none)) else (none)))) = some r := by first | (rw [hy210]; with_reducible exact H) | (have H2_ := (Option.bind_some _ _).symm.trans H; rw [hy210]; with_reducible exact H2_) | (have H2_ := (Option.bind_some _ _).symm.trans H; with_reducible exact H2_) | with_reducible exact H | (rw [hy210]; exact H) | exact H
                      have Ny210 := XPrint.A0 hy210
                      clear hy210
                      replace H := Option.bind_eq_some_iff.mp H
                      obtain ⟨⟨t212, t213⟩, A510, H⟩ := H
                      replace H : ((shape_Depth.f l0_2 (rd t197 x14_4)).bind fun bt215 => (if t213 = 0 then (if bt215.2 = 0 then (if bt215.1 = (wrap64 (t203 + 1)) then (liverylaw08_ShapeHangs.l1 kj39 y210 x6_2 t197 t201 t203 t212 (wrap64 (x14_4 + 1)) a0_0 a0_1 l0_2) else (none)) else (none)) else (none))) = some r := H
                      have A51 := XPrint.A0 A510
                      clear A510
                      replace H := Option.bind_eq_some_iff.mp H
                      obtain ⟨⟨t215, t216⟩, A520, H⟩ := H
                      replace H : (if t213 = 0 then (if t216 = 0 then (if t215 = (wrap64 (t203 + 1)) then (liverylaw08_ShapeHangs.l1 kj39 y210 x6_2 t197 t201 t203 t212 (wrap64 (x14_4 + 1)) a0_0 a0_1 l0_2) else (none)) else (none)) else (none)) = some r := H
                      have A52 := XPrint.A0 A520
                      clear A520
                      by_cases c53 : t213 = 0
                      ·rw [if_pos c53] at H
                       have c53b0 : (t213 == 0) = true := beq_iff_eq.mpr c53
                       have c53b1 : (t213 != 0) = false := bne_eq_false_iff_eq.mpr c53
                       clear c53
                       by_cases c54 : t216 = 0
                       ·rw [if_pos c54] at H
                        have c54b0 : (t216 == 0) = true := beq_iff_eq.mpr c54
                        have c54b1 : (t216 != 0) = false := bne_eq_false_iff_eq.mpr c54
                        clear c54
                        by_cases c55 : t215 = (wrap64 (t203 + 1))
                        ·rw [if_pos c55] at H
                         have c55b0 : (t215 == (wrap64 (t203 + 1))) = true := beq_iff_eq.mpr c55
                         have c55b1 : (t215 != (wrap64 (t203 + 1))) = false := bne_eq_false_iff_eq.mpr c55
                         clear c55
                         have H' := XPrint.A0 H
                         clear H
                         have p208 : 0 ≤ (x14_4 : Int) := of_decide_eq_true (by first | (with_reducible assumption) | assumption)
                         have q208 : x14_4 < (t197.length : Int) := of_decide_eq_true (by first | (with_reducible assumption) | assumption)
                         obtain ⟨ad208, e208, hx208_0⟩ := Kd.at_int (Kd.R_reads' HO_7.out).2.2 x14_4 p208 q208
                         cases e208
                         replace p208 := eq_true p208
                         replace q208 := eq_true q208
                         obtain ⟨Ao56, co56, eo56⟩ := Kd.R_slice HO_5.out
                         subst eo56
                         have p209 : 0 ≤ ((rd t197 x14_4) : Int) := of_decide_eq_true (by first | (with_reducible assumption) | assumption)
                         have q209 : (rd t197 x14_4) < (x5_4.length : Int) := of_decide_eq_true (by first | (with_reducible assumption) | assumption)
                         obtain ⟨ad209, e209, hx209_0⟩ := Kd.at_int (Kd.R_reads' HO_5.out).2.2 (rd t197 x14_4) p209 q209
                         cases e209
                         replace p209 := eq_true p209
                         replace q209 := eq_true q209
                         have p50 : 0 ≤ ((rd t197 x14_4) : Int) := of_decide_eq_true (by first | (with_reducible assumption) | assumption)
                         have q50 : ((rd t197 x14_4) : Int) < ((x5_4.length : Int) : Int) := of_decide_eq_true (by first | (with_reducible assumption) | assumption)
                         obtain ⟨go50, co50, eo50, gb50, gl50, cl50, HG50⟩ := Kd.R_form HO_5.out (by omega)
                         (first | cases eo50 | (injection eo50 with ea_ en_ ec_; (first | subst ea_ | (injection ea_ with ea_; subst ea_)); subst ec_; clear en_))
                         have GB50 := XPrint.A0 gb50
                         have GG50 := XPrint.A0 HG50
                         clear gb50 gl50 HG50
                         (first | simp only [add_plain] at hx209_0 | skip)
                         obtain ⟨hx50_0, hf50_0⟩ := Kd.R_celln 0 HO_5.out ((rd t197 x14_4) : Int) p50 q50
                         replace p50 := eq_true p50
                         replace q50 := eq_true q50
                         have HP57 := Kd.R_putg HO_5.out ((rd t197 x14_4) : Int) (wrap64 ((rd x5_4 (rd t197 x14_4)) + 1))
                         try go_wp2_with (first | ((with_reducible refine gate_store (t := 3) (p := 139) rfl ?_); refine store_event (t := 3) (p := 139) (v := ?vo_w58) (w1 := (wc.setCell ⟨go50, ((rd t197 x14_4) : Int).toNat, none⟩ (.int .i64 (wrap64 ((rd x5_4 (rd t197 x14_4)) + 1))))) ?hg ?ho ?hn ?hr ?_; (case ho => rfl); (case hg => rfl); (case hn => rfl); (case hr => first | (go_simp; done) | (go_simp; rfl)); intro w58 hw; have hg : wc.grownBy w58 (some go50) := (by rw [hw]; exact HP57.2); have hp_ : Kd.R (Kd.int .i64) 3 w58 w.heap.size (fun k_ => some k_ ≠ (.slice (some ad208) t197.length co41 : Value).ownBlock) (.slice (some ⟨go50, 0, none⟩) x5_4.length co56) y210 := (by rw [hw, Ny210.out]; exact HP57.1); clear HP57; replace HO_7 := XPrint.A0 (Kd.R_after (v := (.slice (some ⟨go50, 0, none⟩) x5_4.length co56)) (v1 := (.slice (some ⟨go50, 0, none⟩) x5_4.length co56)) (ok := (fun _ => True)) (by (with_reducible repeat (first | apply Kd.R_alloc | apply Kd.R_drewN | apply Kd.R_drew)); exact Kd.R_mono HO_7.out (fun _ hk => ⟨trivial, hk⟩)) hg (.inl rfl)); replace BK190 := XPrint.A0 (blk_grown (g := gb190) (o := .cells #[.int .i64 a0_0, .int .i64 a0_1, .slice A0_2 l0_2.length c0_2] 50 (0, 0)) (XPrint.ak BK190.out) hg (Kd.R_ne HO_5.out BK190.out (by decide))); replace HO_5 := XPrint.A0 (hp_); replace HB := XPrint.A0 ((by rw [hw]; exact below_set (HB.out) GB50.out : Below w.heap.size w w58)); clear hg hw hp_))
                         replace HO_5 := XPrint.A0 (Kd.R_drew HO_5.out)
                         replace HO_7 := XPrint.A0 (Kd.R_drew HO_7.out)
                         replace BK190 := XPrint.A0 (blk_drew BK190.out)
                         replace HB := XPrint.A0 (below_drew1 HB.out)
                         have p211 : 0 ≤ (x14_4 : Int) := of_decide_eq_true (by first | (with_reducible assumption) | assumption)
                         have q211 : x14_4 < (t197.length : Int) := of_decide_eq_true (by first | (with_reducible assumption) | assumption)
                         obtain ⟨ad211, e211, hx211_0⟩ := Kd.at_int (Kd.R_reads' HO_7.out).2.2 x14_4 p211 q211
                         obtain rfl : ad208 = ad211 := (by injection e211)
                         replace p211 := eq_true p211
                         replace q211 := eq_true q211
                         refine start_ (n := 12) (S := fun w' => w'.cell? ⟨gb190, 0, none⟩ = some (.int .i64 a0_0) ∧ w'.cell? ⟨gb190, 1, none⟩ = some (.int .i64 a0_1) ∧ w'.cell? ⟨gb190, 2, none⟩ = some (.slice A0_2 l0_2.length c0_2) ∧ w'.cell? (ad208.add (x14_4).toNat) = some (.int .i64 (rd t197 x14_4))) (ds := []) #[false, false, false, false, false, false, false, false, false, false, false, false] (by kernel_rfl) rfl rfl ⟨(blk_cell BK190.out 0).trans rfl, (blk_cell BK190.out 1).trans rfl, (blk_cell BK190.out 2).trans rfl, hx211_0⟩ (fun hHeld => ?_); refine with_tabW liverylaw08_ShapeHangs.tab20 liverylaw08_ShapeHangs.bits20 (fun HT_ HW_ => ?_)
                         generalize w58.drew = w59 at HO_5 HO_7 BK190 HB hx211_0 hHeld ⊢
                         refine XPrint.pu 0 141 (XPrint.L 12 1) HT_.out (v := ?_) (a' := ?_) ?_ ?_ ?_
                         rotate_left
                         ·intro w'
                          go_simp
                          with_reducible rfl
                         rotate_left
                         ·simp only [XPrint.pw, i64_w, i32_w]
                          rfl
                         refine XPrint.pu 2 143 (XPrint.L 12 5) HT_.out (v := ?_) (a' := ?_) ?_ ?_ ?_
                         rotate_left
                         ·intro w'
                          go_simp
                          with_reducible rfl
                         rotate_left
                         ·simp only [XPrint.pw, i64_w, i32_w]
                          rfl
                         refine XPrint.pu 3 144 (XPrint.L 12 13) HT_.out (v := ?_) (a' := ?_) ?_ ?_ ?_
                         rotate_left
                         ·intro w'
                          go_simp
                          with_reducible rfl
                         rotate_left
                         ·simp only [XPrint.pw, i64_w, i32_w]
                          rfl
                         refine XPrint.pu 4 145 (XPrint.L 12 29) HT_.out (v := ?_) (a' := ?_) ?_ ?_ ?_
                         rotate_left
                         ·intro w'
                          go_simp
                          with_reducible rfl
                         rotate_left
                         ·simp only [XPrint.pw, i64_w, i32_w]
                          rfl
                         refine XPrint.ta 1 142 (XPrint.L 12 31) HT_.out HW_.out (v := ?_) (a' := ?_) ?_ hHeld ?_ ?_
                         rotate_left
                         ·rintro w' ⟨s0, s1, s2, s3⟩
                          go_simp
                          with_reducible rfl
                         rotate_left
                         ·simp only [XPrint.pw, i64_w, i32_w]
                          rfl
                         refine XPrint.ta 5 146 (XPrint.L 12 63) HT_.out HW_.out (v := ?_) (a' := ?_) ?_ hHeld ?_ ?_
                         rotate_left
                         ·rintro w' ⟨s0, s1, s2, s3⟩
                          go_simp
                          with_reducible rfl
                         rotate_left
                         ·simp only [XPrint.pw, i64_w, i32_w]
                          rfl
                         refine one_ (i := 6) (N := some 147) (XPrint.L 12 127) rfl rfl (one_of HT_.out (by kernel_rfl)) (by decide) (fun K hK => ?_)
                         refine XPrint.gs Try.func39 #[.slice A0_2 l0_2.length c0_2, .int .i64 (rd t197 x14_4)] ?_
                         with_reducible refine (shape_End.calls kj39 _ _ l0_2 (rd t197 x14_4) t212 t213 _ ?side1 ?side2 A51.out).mono ?_
                         (case side1 => repeat (first | exact (Kd.C_below HR0_2.out HB.out) | (with_reducible refine Kd.C_alloc ?_ _) | (with_reducible refine Kd.C_drewN ?_ _) | (with_reducible refine Kd.C_drew ?_)))
                         (case side2 => exact HC0_2.out)
                         rintro e w60 ⟨rfl, hb⟩
                         have HS3_ := (hb.cell (World.block_lt_of_cell? _ _ (hHeld.2.2.2))).trans (hHeld.2.2.2)
                         refine ⟨_, rfl, ?_⟩
                         replace HO_5 := XPrint.A0 (Kd.R_below (by (with_reducible repeat (first | apply Kd.R_alloc | apply Kd.R_drewN | apply Kd.R_drew)); exact HO_5.out) hb)
                         replace HO_7 := XPrint.A0 (Kd.R_below (by (with_reducible repeat (first | apply Kd.R_alloc | apply Kd.R_drewN | apply Kd.R_drew)); exact HO_7.out) hb)
                         replace BK190 := XPrint.A0 (XPrint.ab BK190.out hb)
                         replace HB := XPrint.A0 (below_step (by exact XPrint.bz HB.out) hb)
                         (try clear hb)
                         (try clear hb2)
                         (try clear hk)
                         (try clear hi)
                         refine hK.out _ _ ⟨(blk_cell BK190.out 0).trans rfl, (blk_cell BK190.out 1).trans rfl, (blk_cell BK190.out 2).trans rfl, HS3_⟩ (fun hHeld => ?_)
                         clear hK K
                         refine norm_ (a' := ?_) ?_ ?_
                         rotate_left
                         ·show Act.put _ (some 147) _ = _
                          simp only [XPrint.pw, i64_w, i32_w]
                          rfl
                         refine XPrint.pu 7 140 (XPrint.L 12 255) HT_.out (v := ?_) (a' := ?_) ?_ ?_ ?_
                         rotate_left
                         ·intro w'
                          go_simp
                          with_reducible rfl
                         rotate_left
                         ·simp only [XPrint.pw, i64_w, i32_w]
                          rfl
                         refine XPrint.pu 8 148 (XPrint.L 12 511) HT_.out (v := ?_) (a' := ?_) ?_ ?_ ?_
                         rotate_left
                         ·intro w'
                          go_simp
                          with_reducible rfl
                         rotate_left
                         ·simp only [XPrint.pw, i64_w, i32_w]
                          rfl
                         refine XPrint.pu 9 149 (XPrint.L 12 1023) HT_.out (v := ?_) (a' := ?_) ?_ ?_ ?_
                         rotate_left
                         ·intro w'
                          go_simp
                          with_reducible rfl
                         rotate_left
                         ·simp only [XPrint.pw, i64_w, i32_w]
                          rfl
                         refine XPrint.pu 10 15 (XPrint.L 12 2047) HT_.out (v := ?_) (a' := ?_) ?_ ?_ ?_
                         rotate_left
                         ·intro w'
                          go_simp
                          with_reducible rfl
                         rotate_left
                         ·simp only [XPrint.pw, i64_w, i32_w]
                          rfl
                         refine XPrint.pu 11 16 (XPrint.L 12 4095) HT_.out (v := ?_) (a' := ?_) ?_ ?_ ?_
                         rotate_left
                         ·intro w'
                          go_simp
                          with_reducible rfl
                         rotate_left
                         ·simp only [XPrint.pw, i64_w, i32_w]
                          rfl
                         refine done_ (done_of HT_.out (by kernel_rfl)) ?_
                         try go_wp2
                         replace HO_5 := XPrint.A0 (Kd.R_drew HO_5.out)
                         replace HO_7 := XPrint.A0 (Kd.R_drew HO_7.out)
                         replace BK190 := XPrint.A0 (blk_drew BK190.out)
                         replace HB := XPrint.A0 (below_drew1 HB.out)
                         have p214 : 0 ≤ (x14_4 : Int) := of_decide_eq_true (by first | (with_reducible assumption) | assumption)
                         have q214 : x14_4 < (t197.length : Int) := of_decide_eq_true (by first | (with_reducible assumption) | assumption)
                         obtain ⟨ad214, e214, hx214_0⟩ := Kd.at_int (Kd.R_reads' HO_7.out).2.2 x14_4 p214 q214
                         obtain rfl : ad208 = ad214 := (by injection e214)
                         replace p214 := eq_true p214
                         replace q214 := eq_true q214
                         refine start_ (n := 12) (S := fun w' => w'.cell? ⟨gb190, 0, none⟩ = some (.int .i64 a0_0) ∧ w'.cell? ⟨gb190, 1, none⟩ = some (.int .i64 a0_1) ∧ w'.cell? ⟨gb190, 2, none⟩ = some (.slice A0_2 l0_2.length c0_2) ∧ w'.cell? (ad208.add (x14_4).toNat) = some (.int .i64 (rd t197 x14_4))) (ds := []) #[false, false, false, false, false, false, false, false, false, false, false, false] (by kernel_rfl) rfl rfl ⟨(blk_cell BK190.out 0).trans rfl, (blk_cell BK190.out 1).trans rfl, (blk_cell BK190.out 2).trans rfl, hx214_0⟩ (fun hHeld => ?_); refine with_tabW liverylaw08_ShapeHangs.tab21 liverylaw08_ShapeHangs.bits21 (fun HT_ HW_ => ?_)
                         generalize w60.drew = w61 at HO_5 HO_7 BK190 HB hx214_0 hHeld ⊢
                         refine XPrint.pu 0 151 (XPrint.L 12 1) HT_.out (v := ?_) (a' := ?_) ?_ ?_ ?_
                         rotate_left
                         ·intro w'
                          go_simp
                          with_reducible rfl
                         rotate_left
                         ·simp only [XPrint.pw, i64_w, i32_w]
                          rfl
                         refine XPrint.pu 2 153 (XPrint.L 12 5) HT_.out (v := ?_) (a' := ?_) ?_ ?_ ?_
                         rotate_left
                         ·intro w'
                          go_simp
                          with_reducible rfl
                         rotate_left
                         ·simp only [XPrint.pw, i64_w, i32_w]
                          rfl
                         refine XPrint.pu 3 154 (XPrint.L 12 13) HT_.out (v := ?_) (a' := ?_) ?_ ?_ ?_
                         rotate_left
                         ·intro w'
                          go_simp
                          with_reducible rfl
                         rotate_left
                         ·simp only [XPrint.pw, i64_w, i32_w]
                          rfl
                         refine XPrint.pu 4 155 (XPrint.L 12 29) HT_.out (v := ?_) (a' := ?_) ?_ ?_ ?_
                         rotate_left
                         ·intro w'
                          go_simp
                          with_reducible rfl
                         rotate_left
                         ·simp only [XPrint.pw, i64_w, i32_w]
                          rfl
                         refine XPrint.ta 1 152 (XPrint.L 12 31) HT_.out HW_.out (v := ?_) (a' := ?_) ?_ hHeld ?_ ?_
                         rotate_left
                         ·rintro w' ⟨s0, s1, s2, s3⟩
                          go_simp
                          with_reducible rfl
                         rotate_left
                         ·simp only [XPrint.pw, i64_w, i32_w]
                          rfl
                         refine XPrint.ta 5 156 (XPrint.L 12 63) HT_.out HW_.out (v := ?_) (a' := ?_) ?_ hHeld ?_ ?_
                         rotate_left
                         ·rintro w' ⟨s0, s1, s2, s3⟩
                          go_simp
                          with_reducible rfl
                         rotate_left
                         ·simp only [XPrint.pw, i64_w, i32_w]
                          rfl
                         refine one_ (i := 6) (N := some 157) (XPrint.L 12 127) rfl rfl (one_of HT_.out (by kernel_rfl)) (by decide) (fun K hK => ?_)
                         refine XPrint.gs Try.func40 #[.slice A0_2 l0_2.length c0_2, .int .i64 (rd t197 x14_4)] ?_
                         with_reducible refine (shape_Depth.calls _ _ l0_2 (rd t197 x14_4) t215 t216 _ ?side1 ?side2 A52.out).mono ?_
                         (case side1 => repeat (first | exact (Kd.C_below HR0_2.out HB.out) | (with_reducible refine Kd.C_alloc ?_ _) | (with_reducible refine Kd.C_drewN ?_ _) | (with_reducible refine Kd.C_drew ?_)))
                         (case side2 => exact HC0_2.out)
                         rintro e w62 ⟨rfl, hb⟩
                         have HS3_ := (hb.cell (World.block_lt_of_cell? _ _ (hHeld.2.2.2))).trans (hHeld.2.2.2)
                         refine ⟨_, rfl, ?_⟩
                         replace HO_5 := XPrint.A0 (Kd.R_below (by (with_reducible repeat (first | apply Kd.R_alloc | apply Kd.R_drewN | apply Kd.R_drew)); exact HO_5.out) hb)
                         replace HO_7 := XPrint.A0 (Kd.R_below (by (with_reducible repeat (first | apply Kd.R_alloc | apply Kd.R_drewN | apply Kd.R_drew)); exact HO_7.out) hb)
                         replace BK190 := XPrint.A0 (XPrint.ab BK190.out hb)
                         replace HB := XPrint.A0 (below_step (by exact XPrint.bz HB.out) hb)
                         (try clear hb)
                         (try clear hb2)
                         (try clear hk)
                         (try clear hi)
                         refine hK.out _ _ ⟨(blk_cell BK190.out 0).trans rfl, (blk_cell BK190.out 1).trans rfl, (blk_cell BK190.out 2).trans rfl, HS3_⟩ (fun hHeld => ?_)
                         clear hK K
                         refine norm_ (a' := ?_) ?_ ?_
                         rotate_left
                         ·show Act.put _ (some 157) _ = _
                          simp only [XPrint.pw, i64_w, i32_w]
                          rfl
                         refine XPrint.pu 7 150 (XPrint.L 12 255) HT_.out (v := ?_) (a' := ?_) ?_ ?_ ?_
                         rotate_left
                         ·intro w'
                          go_simp
                          with_reducible rfl
                         rotate_left
                         ·simp only [XPrint.pw, i64_w, i32_w]
                          rfl
                         refine XPrint.pu 8 158 (XPrint.L 12 511) HT_.out (v := ?_) (a' := ?_) ?_ ?_ ?_
                         rotate_left
                         ·intro w'
                          go_simp
                          with_reducible rfl
                         rotate_left
                         ·simp only [XPrint.pw, i64_w, i32_w]
                          rfl
                         refine XPrint.pu 9 159 (XPrint.L 12 1023) HT_.out (v := ?_) (a' := ?_) ?_ ?_ ?_
                         rotate_left
                         ·intro w'
                          go_simp
                          with_reducible rfl
                         rotate_left
                         ·simp only [XPrint.pw, i64_w, i32_w]
                          rfl
                         refine XPrint.pu 10 17 (XPrint.L 12 2047) HT_.out (v := ?_) (a' := ?_) ?_ ?_ ?_
                         rotate_left
                         ·intro w'
                          go_simp
                          with_reducible rfl
                         rotate_left
                         ·simp only [XPrint.pw, i64_w, i32_w]
                          rfl
                         refine XPrint.pu 11 18 (XPrint.L 12 4095) HT_.out (v := ?_) (a' := ?_) ?_ ?_ ?_
                         rotate_left
                         ·intro w'
                          go_simp
                          with_reducible rfl
                         rotate_left
                         ·simp only [XPrint.pw, i64_w, i32_w]
                          rfl
                         refine done_ (done_of HT_.out (by kernel_rfl)) ?_
                         try go_wp2
                         go_roundg kj39
                         case measure => have := HJ2.out; have := HK2.out; have := HJ20.out; have := HK4.out; have := HJ39.out; omega
                         case rel => exact ⟨(y210), (t212), (wrap64 (x14_4 + 1)), (by first | rfl | (simp; done) | (simp [*]; done)), (by first | rfl | (simp; done) | (simp [*]; done)), H', ⟨by have := HJ2.out; have := HK2.out; have := HJ20.out; have := HK4.out; have := HJ39.out; omega⟩, ⟨by (with_reducible repeat (first | apply Kd.R_alloc | apply Kd.R_drewN | apply Kd.R_drew)); exact HO_5.out⟩, ⟨by (with_reducible repeat (first | apply Kd.R_alloc | apply Kd.R_drewN | apply Kd.R_drew)); exact Kd.R_mono HO_7.out (fun _ hk => hk.2)⟩, ⟨by (repeat with_reducible first | refine XPrint.d1 ?_ | refine XPrint.d2 ?_ _ | refine XPrint.d3 ?_ _); exact BK190.out⟩, ⟨by exact XPrint.bz HB.out⟩⟩
                        ·rw [if_neg c55] at H
                         exact absurd H (by simp)
                       ·rw [if_neg c54] at H
                        exact absurd H (by simp)
                      ·rw [if_neg c53] at H
                       exact absurd H (by simp)
                     ·rw [if_neg c49] at H
                      exact absurd H (by simp)
                    ·rw [if_neg c48] at H
                     exact absurd H (by simp)
                   ·rw [if_neg c47] at H
                    exact absurd H (by simp)
                  ·rw [if_neg c46] at H
                   exact absurd H (by simp)
              ·rw [if_neg c39] at H
               have c39b0 : decide (x14_4 < (t197.length : Int)) = false := decide_eq_false c39
               clear c39
               by_cases c63 : x13_4 = t201
               ·rw [if_pos c63] at H
                have c63b0 : (x13_4 == t201) = true := beq_iff_eq.mpr c63
                have c63b1 : (x13_4 != t201) = false := bne_eq_false_iff_eq.mpr c63
                clear c63
                have H' := XPrint.A0 H
                clear H
                obtain ⟨Ao64, co64, eo64⟩ := Kd.R_slice HO_7.out
                subst eo64
                go_wp2
                go_roundg k4
                case measure => have := HJ2.out; have := HK2.out; have := HJ20.out; have := HK4.out; omega
                case rel => exact ⟨(x5_4), (wrap64 (x6_2 + 1)), (by first | rfl | (simp; done) | (simp [*]; done)), H', ⟨by have := HJ2.out; have := HK2.out; have := HJ20.out; have := HK4.out; omega⟩, ⟨by (with_reducible repeat (first | apply Kd.R_alloc | apply Kd.R_drewN | apply Kd.R_drew)); exact Kd.R_mono HO_5.out (fun _ hk => trivial)⟩, ⟨by (repeat with_reducible first | refine XPrint.d1 ?_ | refine XPrint.d2 ?_ _ | refine XPrint.d3 ?_ _); exact BK190.out⟩, ⟨by exact XPrint.bz HB.out⟩⟩
               ·rw [if_neg c63] at H
                exact absurd H (by simp)
        ·rw [if_neg c17] at H
         have c17b0 : decide (x6_2 < (l0_2.length : Int)) = false := decide_eq_false c17
         clear c17
         have H' := XPrint.A0 H
         clear H
         have hcz65_0 : wr.cell? ⟨gb190, 0, none⟩ = some (.int .i64 a0_0) := (blk_cell BK190.out 0).trans rfl
         have hcz65_1 : wr.cell? ⟨gb190, 1, none⟩ = some (.int .i64 a0_1) := (blk_cell BK190.out 1).trans rfl
         have hcz65_2 : wr.cell? ⟨gb190, 2, none⟩ = some (.slice A0_2 l0_2.length c0_2) := (blk_cell BK190.out 2).trans rfl
         have hfz65_0 := blk_frozen BK190.out 0
         have hfz65_1 := blk_frozen BK190.out 1
         have hfz65_2 := blk_frozen BK190.out 2
         go_wp2
         go_loopg [19] k2 (fun kq v19 w' => ∃ (x19_3 : Int), v19 = .int .i64 x19_3 ∧ Aside0 (liverylaw08_ShapeHangs.l2 kq x5_2 x19_3 = some r) ∧ Aside0 (kq ≤ k2) ∧ Aside0 (Kd.R (Kd.int .i64) 3 w' w.heap.size (fun _ => True) v195 x5_2) ∧ Aside0 (w'.heap[gb190]? = some (.cells #[.int .i64 a0_0, .int .i64 a0_1, (.slice A0_2 l0_2.length c0_2)] 50 (0, 0))) ∧ Aside0 (Below w.heap.size w w'))
         case atStart => exact ⟨(0), (by first | rfl | (simp; done) | (simp [*]; done)), H', ⟨Nat.le_refl _⟩, ⟨by (with_reducible repeat (first | apply Kd.R_alloc | apply Kd.R_drewN | apply Kd.R_drew)); exact HO_5.out⟩, ⟨by (repeat with_reducible first | refine XPrint.d1 ?_ | refine XPrint.d2 ?_ _ | refine XPrint.d3 ?_ _); exact BK190.out⟩, ⟨by exact XPrint.bz HB.out⟩⟩
         case round =>
          clear H'
          try clear c1
          try clear c2
          try clear p2
          try clear q2
          try clear hx2
          try clear c3
          try clear c4
          try clear c5
          try clear p5
          try clear q5
          try clear hx5
          try clear hf5
          try clear c6
          try clear p6
          try clear c7
          try clear c7b0
          try clear c7b1
          try clear c8
          try clear c9
          try clear c12
          try clear c12b0
          try clear c12b1
          try clear c13
          try clear c13b0
          try clear c13b1
          try clear c17
          try clear c17b0
          try clear p20
          try clear q20
          try clear hx20
          try clear p21
          try clear q21
          try clear hx21
          try clear c28
          try clear c28b0
          try clear c28b1
          try clear c29
          try clear c29b0
          try clear c29b1
          try clear c30
          try clear c30b0
          try clear c30b1
          try clear c31
          try clear c31b0
          try clear c32
          try clear c32b0
          try clear c32b1
          try clear c33
          try clear c33b0
          try clear c34
          try clear c34b0
          try clear c35
          try clear c35b0
          try clear c38
          try clear c39
          try clear c39b0
          try clear c40
          try clear c42
          try clear c42b0
          try clear c43
          try clear c43b0
          try clear c43b1
          try clear c45
          try clear c46
          try clear c46b0
          try clear c47
          try clear c47b0
          try clear c48
          try clear c48b0
          try clear c49
          try clear c49b0
          try clear p50
          try clear q50
          try clear hx50
          try clear hf50
          try clear c53
          try clear c53b0
          try clear c53b1
          try clear c54
          try clear c54b0
          try clear c54b1
          try clear c55
          try clear c55b0
          try clear c55b1
          try clear c63
          try clear c63b0
          try clear c63b1
          try clear p64
          try clear hcz14_0
          try clear hcz14_1
          try clear hcz14_2
          try clear hcz22_0
          try clear hcz22_1
          try clear hcz22_2
          try clear hcz24_0
          try clear hcz24_1
          try clear hcz24_2
          try clear hcz26_0
          try clear hcz26_1
          try clear hcz26_2
          try clear hcz37_0
          try clear hcz37_1
          try clear hcz37_2
          try clear hcz5_0
          try clear hcz5_1
          try clear hcz5_2
          try clear hcz65_0
          try clear hcz65_1
          try clear hcz65_2
          try clear hcz8_0
          try clear hcz8_1
          try clear hcz8_2
          try clear hfz14_0
          try clear hfz14_1
          try clear hfz14_2
          try clear hfz22_0
          try clear hfz22_1
          try clear hfz22_2
          try clear hfz24_0
          try clear hfz24_1
          try clear hfz24_2
          try clear hfz26_0
          try clear hfz26_1
          try clear hfz26_2
          try clear hfz37_0
          try clear hfz37_1
          try clear hfz37_2
          try clear hfz5_0
          try clear hfz5_1
          try clear hfz5_2
          try clear hfz65_0
          try clear hfz65_1
          try clear hfz65_2
          try clear hfz8_0
          try clear hfz8_1
          try clear hfz8_2
          try clear hx205_0
          try clear hx205_1
          try clear hx205_2
          try clear hx205_3
          try clear hx205_4
          try clear hx206_0
          try clear hx207_0
          try clear hx208_0
          try clear hx209_0
          try clear hx211_0
          try clear hx214_0
          try clear hx50_0
          try clear p2
          try clear p20
          try clear p205
          try clear p206
          try clear p207
          try clear p208
          try clear p209
          try clear p211
          try clear p214
          try clear p50
          try clear p6
          try clear q2
          try clear q20
          try clear q205
          try clear q206
          try clear q207
          try clear q208
          try clear q209
          try clear q211
          try clear q214
          try clear q50
          obtain ⟨x19_3, rfl, HA, HK3, HO_5, BK190, HB⟩ := hrel
          cases gk with
          | zero => exact absurd HA.out (by simp [liverylaw08_ShapeHangs.l2])
          | succ k3 =>
           have H := HA.out
           clear HA
           simp only [liverylaw08_ShapeHangs.l2] at H
           by_cases c66 : x19_3 < (x5_2.length : Int)
           ·rw [if_pos c66] at H
            have c66b0 : decide (x19_3 < (x5_2.length : Int)) = true := decide_eq_true c66
            clear c66
            by_cases c67 : 0 ≤ x19_3
            ·rw [if_pos c67] at H
             have c67b0 : decide (0 ≤ x19_3) = true := decide_eq_true c67
             clear c67
             obtain ⟨ji68, hji68⟩ : ∃ j_ : Int, (mn x19_3 1) = j_ := ⟨_, rfl⟩
             have hjl68 : ji68 ≤ 1 := by rw [← hji68]; unfold mn; split <;> omega
             replace H : (if (rd x5_2 x19_3) = (ji68) then (liverylaw08_ShapeHangs.l2 k3 x5_2 (wrap64 (x19_3 + 1))) else (none)) = some r := by first | (rw [hji68] at H; exact H) | (simp only [hji68] at H ⊢; exact H)
             have hji68_ : (if 1 < x19_3 then 1 else x19_3) = ji68 := hji68
             by_cases c69 : (rd x5_2 x19_3) = (ji68)
             ·rw [if_pos c69] at H
              have c69b0 : ((rd x5_2 x19_3) == (ji68)) = true := beq_iff_eq.mpr c69
              have c69b1 : ((rd x5_2 x19_3) != (ji68)) = false := bne_eq_false_iff_eq.mpr c69
              clear c69
              have H' := XPrint.A0 H
              clear H
              obtain ⟨Ao70, co70, eo70⟩ := Kd.R_slice HO_5.out
              subst eo70
              have p217 : 0 ≤ (x19_3 : Int) := of_decide_eq_true (by first | (with_reducible assumption) | assumption)
              have q217 : x19_3 < (x5_2.length : Int) := of_decide_eq_true (by first | (with_reducible assumption) | assumption)
              obtain ⟨ad217, e217, hx217_0⟩ := Kd.at_int (Kd.R_reads' HO_5.out).2.2 x19_3 p217 q217
              cases e217
              replace p217 := eq_true p217
              replace q217 := eq_true q217
              go_wp2
              go_roundg k3
              case measure => have := HJ2.out; have := HK2.out; have := HK3.out; omega
              case rel => exact ⟨(wrap64 (x19_3 + 1)), (by first | rfl | (simp; done) | (simp [*]; done)), H', ⟨by have := HJ2.out; have := HK2.out; have := HK3.out; omega⟩, ⟨by (with_reducible repeat (first | apply Kd.R_alloc | apply Kd.R_drewN | apply Kd.R_drew)); exact HO_5.out⟩, ⟨by (repeat with_reducible first | refine XPrint.d1 ?_ | refine XPrint.d2 ?_ _ | refine XPrint.d3 ?_ _); exact BK190.out⟩, ⟨by exact XPrint.bz HB.out⟩⟩
             ·rw [if_neg c69] at H
              exact absurd H (by simp)
            ·rw [if_neg c67] at H
             exact absurd H (by simp)
           ·rw [if_neg c66] at H
            have c66b0 : decide (x19_3 < (x5_2.length : Int)) = false := decide_eq_false c66
            clear c66
            replace H := Option.bind_eq_some_iff.mp H
            obtain ⟨t218, A710, H⟩ := H
            try set_option simprocs false in dsimp only at H
            have A71 := XPrint.A0 A710
            clear A710
            obtain rfl := Option.some.inj H
            obtain ⟨Ao72, co72, eo72⟩ := Kd.R_slice HO_5.out
            subst eo72
            go_wp2_with (first | ((with_reducible refine gate_callee (f := 32) rfl ?_); refine XPrint.gl (some 189) Try.func32 #[] ?_; (with_reducible refine (liverylaw08_head.calls k3  t218 _ A71.out).mono ?_); rintro e w73 ⟨rfl, hb⟩; refine ⟨_, rfl, ?_⟩; replace HO_5 := XPrint.A0 (Kd.R_below (by (with_reducible repeat (first | apply Kd.R_alloc | apply Kd.R_drewN | apply Kd.R_drew)); exact HO_5.out) hb); replace BK190 := XPrint.A0 (XPrint.ab BK190.out hb); replace HB := XPrint.A0 (below_step (by exact XPrint.bz HB.out) hb); (try clear hb); (try clear hb2); (try clear hk); (try clear hi)))
            go_ret
            exact ⟨by first | rfl | (simp [errW_none, errW_some] <;> rfl) | (simp [*, errW_none, errW_some] <;> rfl), by exact XPrint.bz HB.out⟩
     ·rw [if_neg c13] at H
      exact absurd H (by simp)
    ·rw [if_neg c12] at H
     exact absurd H (by simp)

end Go.Proofs.Ytkaokiiooakleaa.PShapeHangs
