-- printed by this session's own driver over the kit's printer: Lean checks it
import Derived.Test.YtkaokiiooakleaaCShapeTells0
import Derived.Test.YtkaokiiooakleaaCShapeTells2
import Derived.Test.YtkaokiiooakleaaCShapeTells3
import Derived.Test.YtkaokiiooakleaaCShapeTells4
import Derived.Test.YtkaokiiooakleaaCShapeTells5
import Derived.Test.YtkaokiiooakleaaCShapeTells6
import Derived.Test.YtkaokiiooakleaaCShapeTells7
import Derived.Test.YtkaokiiooakleaaCShapeTells8
import Derived.Test.YtkaokiiooakleaaCShapeTells9
namespace Go.Proofs.Ytkaokiiooakleaa.PShapeTells
open Go.RowKit Go.Proofs.YtkaokiiooakleaaW.PrintWords Go.Proofs.YtkaokiiooakleaaW.PrintLast Go.Proofs.YtkaokiiooakleaaW.PrintMore
attribute [local go_sem] max2_int min2_int max_two min_two max_three min_three max_four min_four   -- for this text's walks alone
set_option linter.unusedVariables false
set_option linter.unusedSimpArgs false

/-! ### liverylaw08_ShapeTells: function 7 -/
mutual
def liverylaw08_ShapeTells.j0 : Nat → Int → Bool → Int → Int → List (S65) → Option (Bool)
 | 0, _, _, _, _, _ => none
 | k + 1, x1, x48, x221000, x221001, x221002 => if x48 = true then (none) else ((shape_Kids.f x221002 x1).bind fun bt233 => ((shape_End.f k x221002 x1).bind fun bt237 => ((shape_Depth.f x221002 x1).bind fun bt239 => ((liveryref08_May.f k x221002 x1).bind fun t241 => (if bt233.2 = t241 then (if bt237.2 = t241 then (liverylaw08_ShapeTells.j1 k x1 bt233.1 bt237.1 bt239.1 t241 (bt239.2 != t241) x221000 x221001 x221002) else (none)) else (none))))))
def liverylaw08_ShapeTells.j1 : Nat → Int → List Int → Int → Int → Int → Bool → Int → Int → List (S65) → Option (Bool)
 | 0, _, _, _, _, _, _, _, _, _ => none
 | k + 1, x1, x9, x11, x13, x15, x86, x221000, x221001, x221002 => if x86 = true then (none) else (if x15 = 0 then ((liveryref08_Kids.f k x221002 x1).bind fun t243 => ((liveryref08_Same.f k x9 t243).bind fun t246 => (if t246 = true then ((liveryref08_End.f k x221002 x1).bind fun t247 => (if x11 = t247 then ((liveryref08_Depth.f k x221002 x1).bind fun t248 => (if x13 = t248 then ((liverylaw08_head.f k).bind fun t249 => (some t249)) else (none))) else (none))) else (none)))) else (if (x9.length : Int) = 0 then (if x11 = 0 then (if x13 = 0 then ((liverylaw08_head.f k).bind fun t242 => (some t242)) else (none)) else (none)) else (none)))
end
def liverylaw08_ShapeTells.f (k : Nat) (a0_0 : Int) (a0_1 : Int) (l0_2 : List (S65)) (a1 : Int) : Option (Bool) := if (l0_2.length : Int) > 200 then ((liverylaw08_head.f k).bind fun t221 => (some t221)) else ((shape_Check.f a0_0 a0_1 l0_2).bind fun bt222 => ((liveryref08_Check.f k a0_0 a0_1 l0_2).bind fun bt224 => (if bt222.1 = bt224.1 then (if bt222.2 = bt224.2 then ((shape_Atoms.f k l0_2).bind fun t226 => ((liveryref08_Atoms.f k l0_2).bind fun t229 => ((liveryref08_Same.f k t226 t229).bind fun t232 => (liverylaw08_ShapeTells.j0 k a1 (!t232) a0_0 a0_1 l0_2)))) else (none)) else (none))))
theorem liverylaw08_ShapeTells.mono_l : ∀ k, (∀ y0 y1 y2 y3 y4, LeO (liverylaw08_ShapeTells.j0 k y0 y1 y2 y3 y4) (liverylaw08_ShapeTells.j0 (k + 1) y0 y1 y2 y3 y4)) ∧ (∀ y0 y1 y2 y3 y4 y5 y6 y7 y8, LeO (liverylaw08_ShapeTells.j1 k y0 y1 y2 y3 y4 y5 y6 y7 y8) (liverylaw08_ShapeTells.j1 (k + 1) y0 y1 y2 y3 y4 y5 y6 y7 y8))
 | 0 => ⟨fun _ _ _ _ _ r h => by simp [liverylaw08_ShapeTells.j0] at h, fun _ _ _ _ _ _ _ _ _ r h => by simp [liverylaw08_ShapeTells.j1] at h⟩
 | k + 1 => by
  obtain ⟨ih0, ih1⟩ := liverylaw08_ShapeTells.mono_l k
  refine ⟨?_, ?_⟩
  ·intro y0 y1 y2 y3 y4
   unfold liverylaw08_ShapeTells.j0
   repeat' first
   | (with_reducible exact ih0 _ _ _ _ _)
   | (with_reducible exact ih1 _ _ _ _ _ _ _ _ _)
   | (with_reducible exact liverylaw08_head.mono _)
   | (with_reducible exact liveryref08_Atoms.mono _ _)
   | (with_reducible exact liveryref08_Check.mono _ _ _ _)
   | (with_reducible exact liveryref08_Depth.mono _ _ _)
   | (with_reducible exact liveryref08_End.mono _ _ _)
   | (with_reducible exact liveryref08_Kids.mono _ _ _)
   | (with_reducible exact liveryref08_May.mono _ _ _)
   | (with_reducible exact liveryref08_Same.mono _ _ _)
   | (with_reducible exact shape_Atoms.mono _ _)
   | (with_reducible exact shape_End.mono _ _ _)
   | (with_reducible exact LeO.refl _)
   | (with_reducible exact LeO.none _)
   | (with_reducible refine LeO.ite ?_ ?_)
   | (with_reducible refine LeO.bind ?_ (fun _ => ?_))
   | exact ih0 _ _ _ _ _
   | exact ih1 _ _ _ _ _ _ _ _ _
   | exact liverylaw08_head.mono _
   | exact liveryref08_Atoms.mono _ _
   | exact liveryref08_Check.mono _ _ _ _
   | exact liveryref08_Depth.mono _ _ _
   | exact liveryref08_End.mono _ _ _
   | exact liveryref08_Kids.mono _ _ _
   | exact liveryref08_May.mono _ _ _
   | exact liveryref08_Same.mono _ _ _
   | exact shape_Atoms.mono _ _
   | exact shape_End.mono _ _ _
   | exact LeO.none _
   | refine LeO.ite ?_ ?_
   | refine LeO.bind ?_ (fun _ => ?_)
  ·intro y0 y1 y2 y3 y4 y5 y6 y7 y8
   unfold liverylaw08_ShapeTells.j1
   repeat' first
   | (with_reducible exact ih0 _ _ _ _ _)
   | (with_reducible exact ih1 _ _ _ _ _ _ _ _ _)
   | (with_reducible exact liverylaw08_head.mono _)
   | (with_reducible exact liveryref08_Atoms.mono _ _)
   | (with_reducible exact liveryref08_Check.mono _ _ _ _)
   | (with_reducible exact liveryref08_Depth.mono _ _ _)
   | (with_reducible exact liveryref08_End.mono _ _ _)
   | (with_reducible exact liveryref08_Kids.mono _ _ _)
   | (with_reducible exact liveryref08_May.mono _ _ _)
   | (with_reducible exact liveryref08_Same.mono _ _ _)
   | (with_reducible exact shape_Atoms.mono _ _)
   | (with_reducible exact shape_End.mono _ _ _)
   | (with_reducible exact LeO.refl _)
   | (with_reducible exact LeO.none _)
   | (with_reducible refine LeO.ite ?_ ?_)
   | (with_reducible refine LeO.bind ?_ (fun _ => ?_))
   | exact ih0 _ _ _ _ _
   | exact ih1 _ _ _ _ _ _ _ _ _
   | exact liverylaw08_head.mono _
   | exact liveryref08_Atoms.mono _ _
   | exact liveryref08_Check.mono _ _ _ _
   | exact liveryref08_Depth.mono _ _ _
   | exact liveryref08_End.mono _ _ _
   | exact liveryref08_Kids.mono _ _ _
   | exact liveryref08_May.mono _ _ _
   | exact liveryref08_Same.mono _ _ _
   | exact shape_Atoms.mono _ _
   | exact shape_End.mono _ _ _
   | exact LeO.none _
   | refine LeO.ite ?_ ?_
   | refine LeO.bind ?_ (fun _ => ?_)
theorem liverylaw08_ShapeTells.mono : ∀ a0 a1 a2 a3 k, LeO (liverylaw08_ShapeTells.f k a0 a1 a2 a3) (liverylaw08_ShapeTells.f (k + 1) a0 a1 a2 a3) := by
 intro a0 a1 a2 a3 k
 obtain ⟨ih0, ih1⟩ := liverylaw08_ShapeTells.mono_l k
 unfold liverylaw08_ShapeTells.f
 repeat' first
   | (with_reducible exact ih0 _ _ _ _ _)
   | (with_reducible exact ih1 _ _ _ _ _ _ _ _ _)
   | (with_reducible exact liverylaw08_head.mono _)
   | (with_reducible exact liveryref08_Atoms.mono _ _)
   | (with_reducible exact liveryref08_Check.mono _ _ _ _)
   | (with_reducible exact liveryref08_Depth.mono _ _ _)
   | (with_reducible exact liveryref08_End.mono _ _ _)
   | (with_reducible exact liveryref08_Kids.mono _ _ _)
   | (with_reducible exact liveryref08_May.mono _ _ _)
   | (with_reducible exact liveryref08_Same.mono _ _ _)
   | (with_reducible exact shape_Atoms.mono _ _)
   | (with_reducible exact shape_End.mono _ _ _)
   | (with_reducible exact LeO.refl _)
   | (with_reducible exact LeO.none _)
   | (with_reducible refine LeO.ite ?_ ?_)
   | (with_reducible refine LeO.bind ?_ (fun _ => ?_))
   | exact ih0 _ _ _ _ _
   | exact ih1 _ _ _ _ _ _ _ _ _
   | exact liverylaw08_head.mono _
   | exact liveryref08_Atoms.mono _ _
   | exact liveryref08_Check.mono _ _ _ _
   | exact liveryref08_Depth.mono _ _ _
   | exact liveryref08_End.mono _ _ _
   | exact liveryref08_Kids.mono _ _ _
   | exact liveryref08_May.mono _ _ _
   | exact liveryref08_Same.mono _ _ _
   | exact shape_Atoms.mono _ _
   | exact shape_End.mono _ _ _
   | exact LeO.none _
   | refine LeO.ite ?_ ?_
   | refine LeO.bind ?_ (fun _ => ?_)
def liverylaw08_ShapeTells.T5 : Bool × List (List Nat × List Nat) := (true, [([], []), ([], []), ([0, 1], [0, 1]), ([2], [2]), ([3], [3]), ([3], [3]), ([4, 5, 3], [3, 4, 5]), ([3, 6], [3, 6]), ([7, 3], [7]), ([8], [8]), ([9, 8], [8, 9]), ([10, 8, 8], [8, 10]), ([8], [8]), ([12, 8], [8, 12]), ([13, 11, 8], [8, 13]), ([11, 14, 14, 8], [8, 11, 14]), ([15, 8], [8, 15]), ([8, 16], [8, 16])])
def liverylaw08_ShapeTells.B5 : List Nat := [0, 0, 3, 7, 15, 15, 63, 127, 255, 511, 1023, 2047, 511, 4607, 16383, 32767, 65535, 131071]
theorem liverylaw08_ShapeTells.tab5 : rtab .any (opsOf Try.f7 5) = liverylaw08_ShapeTells.T5 := by kernel_rfl
theorem liverylaw08_ShapeTells.bits5 : waitsOk liverylaw08_ShapeTells.T5.2 liverylaw08_ShapeTells.B5 = true := by kernel_rfl
set_option maxHeartbeats 8000000 in
set_option maxRecDepth 100000 in
theorem liverylaw08_ShapeTells.calls (k : Nat) (a0_0 : Int) (a0_1 : Int) (A0_2 : Option Addr) (c0_2 : Nat) (l0_2 : List (S65)) (a1 : Int) (r : Bool) (w : World) (hr0_2 : Kd.C k65 w A0_2 l0_2.length l0_2) (hc0_2 : l0_2.length ≤ c0_2) (h : liverylaw08_ShapeTells.f k a0_0 a0_1 l0_2 a1 = some r) :
  Calls Try.prog 7 #[.agg #[.int .i64 a0_0, .int .i64 a0_1, .slice A0_2 l0_2.length c0_2], .int .i64 a1] w fun e w' => e = .returned (.bool r) ∧ Below w.heap.size w w' := by
 have hu50 := Try.underlying50
 have HR0_2 := XPrint.A0 hr0_2
 have HC0_2 := XPrint.A0 hc0_2
 clear hr0_2 hc0_2
 have HB := XPrint.A0 (Below.refl w.heap.size w)
 have H : (if (l0_2.length : Int) > 200 then ((liverylaw08_head.f k).bind fun t221 => (some t221)) else ((shape_Check.f a0_0 a0_1 l0_2).bind fun bt222 => ((liveryref08_Check.f k a0_0 a0_1 l0_2).bind fun bt224 => (if bt222.1 = bt224.1 then (if bt222.2 = bt224.2 then ((shape_Atoms.f k l0_2).bind fun t226 => ((liveryref08_Atoms.f k l0_2).bind fun t229 => ((liveryref08_Same.f k t226 t229).bind fun t232 => (liverylaw08_ShapeTells.j0 k a1 (!t232) a0_0 a0_1 l0_2)))) else (none)) else (none))))) = some r := h
 clear h
 by_cases c3 : (l0_2.length : Int) > 200
 ·rw [if_pos c3] at H
  have c3b0 : decide (200 < (l0_2.length : Int)) = true := decide_eq_true c3
  have c3b1 : decide (200 < l0_2.length) = true := decide_eq_true (by omega)
  clear c3
  replace H := Option.bind_eq_some_iff.mp H
  obtain ⟨t221, A40, H⟩ := H
  try set_option simprocs false in dsimp only at H
  have A4 := XPrint.A0 A40
  clear A40
  obtain rfl := Option.some.inj H
  go_enter Try.func7, Try.ntmps7
  go_wp2_with (first | ((with_reducible refine gate_dst (N := 2) rfl ?_); refine box_event ?hg (N := 2) ?hd (cs := #[.int .i64 a0_0, .int .i64 a0_1, .slice A0_2 l0_2.length c0_2]) (t := 50) ?hr ?_; (case hd => rfl); (case hg => rfl); (case hr => first | (go_simp; done) | (go_simp; rfl)); intro gb220 hg w5 hbox hb; have BK220 := XPrint.A0 (hbox); have GW220 := XPrint.A0 (XPrint.gz HB.out hg); have GE220 := XPrint.A0 (XPrint.gz HB.out hg); replace HB := XPrint.A0 (below_step (by exact XPrint.bz HB.out) hb); clear hb hbox hg; have hcz6_0 : w5.cell? ⟨gb220, 0, none⟩ = some (.int .i64 a0_0) := (blk_cell BK220.out 0).trans rfl; have hcz6_1 : w5.cell? ⟨gb220, 1, none⟩ = some (.int .i64 a0_1) := (blk_cell BK220.out 1).trans rfl; have hcz6_2 : w5.cell? ⟨gb220, 2, none⟩ = some (.slice A0_2 l0_2.length c0_2) := (blk_cell BK220.out 2).trans rfl; have hfz6_0 := blk_frozen BK220.out 0; have hfz6_1 := blk_frozen BK220.out 1; have hfz6_2 := blk_frozen BK220.out 2) | ((with_reducible refine gate_callee (f := 32) rfl ?_); refine XPrint.gl (some 20) Try.func32 #[] ?_; (with_reducible refine (liverylaw08_head.calls k  t221 _ A4.out).mono ?_); rintro e w7 ⟨rfl, hb⟩; refine ⟨_, rfl, ?_⟩; replace BK220 := XPrint.A0 (XPrint.ab BK220.out hb); replace HB := XPrint.A0 (below_step (by exact XPrint.bz HB.out) hb); (try clear hb); (try clear hb2); (try clear hk); (try clear hi)))
  go_ret
  exact ⟨by first | rfl | (simp [errW_none, errW_some] <;> rfl) | (simp [*, errW_none, errW_some] <;> rfl), by exact XPrint.bz HB.out⟩
 ·rw [if_neg c3] at H
  have c3b0 : decide (200 < (l0_2.length : Int)) = false := decide_eq_false c3
  have c3b1 : decide (200 < l0_2.length) = false := decide_eq_false (by omega)
  clear c3
  replace H := Option.bind_eq_some_iff.mp H
  obtain ⟨⟨t222, t223⟩, A80, H⟩ := H
  replace H : ((liveryref08_Check.f k a0_0 a0_1 l0_2).bind fun bt224 => (if t222 = bt224.1 then (if t223 = bt224.2 then ((shape_Atoms.f k l0_2).bind fun t226 => ((liveryref08_Atoms.f k l0_2).bind fun t229 => ((liveryref08_Same.f k t226 t229).bind fun t232 => (liverylaw08_ShapeTells.j0 k a1 (!t232) a0_0 a0_1 l0_2)))) else (none)) else (none))) = some r := H
  have A8 := XPrint.A0 A80
  clear A80
  replace H := Option.bind_eq_some_iff.mp H
  obtain ⟨⟨t224, t225⟩, A90, H⟩ := H
  replace H : (if t222 = t224 then (if t223 = t225 then ((shape_Atoms.f k l0_2).bind fun t226 => ((liveryref08_Atoms.f k l0_2).bind fun t229 => ((liveryref08_Same.f k t226 t229).bind fun t232 => (liverylaw08_ShapeTells.j0 k a1 (!t232) a0_0 a0_1 l0_2)))) else (none)) else (none)) = some r := H
  have A9 := XPrint.A0 A90
  clear A90
  have HC10 := XPrint.A0 H
  clear H
  go_enter Try.func7, Try.ntmps7
  go_upto_region 5 with (first | ((with_reducible refine gate_dst (N := 2) rfl ?_); refine box_event ?hg (N := 2) ?hd (cs := #[.int .i64 a0_0, .int .i64 a0_1, .slice A0_2 l0_2.length c0_2]) (t := 50) ?hr ?_; (case hd => rfl); (case hg => rfl); (case hr => first | (go_simp; done) | (go_simp; rfl)); intro gb220 hg w11 hbox hb; have n0_ := XPrint.A0 (below_step (by exact XPrint.bz HB.out) hb); have n1_ := XPrint.A0 (hbox); have n2_ := XPrint.A0 (XPrint.gz HB.out hg); have n3_ := XPrint.A0 (XPrint.gz HB.out hg); clear HB; have HB := n0_; have BK220 := n1_; have GW220 := n2_; have GE220 := n3_; clear n0_ n1_ n2_ n3_; clear hb hbox hg; have hcz12_0 : w11.cell? ⟨gb220, 0, none⟩ = some (.int .i64 a0_0) := (blk_cell BK220.out 0).trans rfl; have hcz12_1 : w11.cell? ⟨gb220, 1, none⟩ = some (.int .i64 a0_1) := (blk_cell BK220.out 1).trans rfl; have hcz12_2 : w11.cell? ⟨gb220, 2, none⟩ = some (.slice A0_2 l0_2.length c0_2) := (blk_cell BK220.out 2).trans rfl; have hfz12_0 := blk_frozen BK220.out 0; have hfz12_1 := blk_frozen BK220.out 1; have hfz12_2 := blk_frozen BK220.out 2) | ((with_reducible refine gate_callee (f := 33) rfl ?_); refine XPrint.gl (some 23) Try.func33 #[.agg #[.int .i64 a0_0, .int .i64 a0_1, .slice A0_2 l0_2.length c0_2]] ?_; (with_reducible refine (shape_Check.calls a0_0 a0_1 _ _ l0_2 t222 t223 _ ?side1 ?side2 A8.out).mono ?_); (case side1 => repeat (first | exact (Kd.C_below HR0_2.out HB.out) | (with_reducible refine Kd.C_alloc ?_ _) | (with_reducible refine Kd.C_drewN ?_ _) | (with_reducible refine Kd.C_drew ?_))); (case side2 => exact HC0_2.out); rintro e w13 ⟨rfl, hb⟩; refine ⟨_, rfl, ?_⟩; have n0_ := XPrint.A0 (XPrint.ab BK220.out hb); have n1_ := XPrint.A0 (below_step (by exact XPrint.bz HB.out) hb); clear BK220; clear HB; have BK220 := n0_; have HB := n1_; clear n0_ n1_; (try clear hb); (try clear hb2); (try clear hk); (try clear hi); have hcz14_0 : w13.cell? ⟨gb220, 0, none⟩ = some (.int .i64 a0_0) := (blk_cell BK220.out 0).trans rfl; have hcz14_1 : w13.cell? ⟨gb220, 1, none⟩ = some (.int .i64 a0_1) := (blk_cell BK220.out 1).trans rfl; have hcz14_2 : w13.cell? ⟨gb220, 2, none⟩ = some (.slice A0_2 l0_2.length c0_2) := (blk_cell BK220.out 2).trans rfl; have hfz14_0 := blk_frozen BK220.out 0; have hfz14_1 := blk_frozen BK220.out 1; have hfz14_2 := blk_frozen BK220.out 2) | ((with_reducible refine gate_callee (f := 34) rfl ?_); refine XPrint.gl (some 28) Try.func34 #[.agg #[.int .i64 a0_0, .int .i64 a0_1, .slice A0_2 l0_2.length c0_2]] ?_; (with_reducible refine (liveryref08_Check.calls k a0_0 a0_1 _ _ l0_2 t224 t225 _ ?side1 ?side2 A9.out).mono ?_); (case side1 => repeat (first | exact (Kd.C_below HR0_2.out HB.out) | (with_reducible refine Kd.C_alloc ?_ _) | (with_reducible refine Kd.C_drewN ?_ _) | (with_reducible refine Kd.C_drew ?_))); (case side2 => exact HC0_2.out); rintro e w15 ⟨rfl, hb⟩; refine ⟨_, rfl, ?_⟩; have n0_ := XPrint.A0 (XPrint.ab BK220.out hb); have n1_ := XPrint.A0 (below_step (by exact XPrint.bz HB.out) hb); clear BK220; clear HB; have BK220 := n0_; have HB := n1_; clear n0_ n1_; (try clear hb); (try clear hb2); (try clear hk); (try clear hi)))
  (try simp only [XPrint.pw])
  go_cut [48] (fun v48 wc => ∃ (kq : Nat) (x48_9 : Bool), v48 = .bool x48_9 ∧ Aside0 (liverylaw08_ShapeTells.j0 kq a1 x48_9 a0_0 a0_1 l0_2 = some r) ∧ Aside0 (kq ≤ k) ∧ Aside0 (wc.heap[gb220]? = some (.cells #[.int .i64 a0_0, .int .i64 a0_1, (.slice A0_2 l0_2.length c0_2)] 50 (0, 0))) ∧ Aside0 (Below w.heap.size w wc))
  case first =>
   have H := HC10.out
   clear HC10
   by_cases c16 : t222 = t224
   ·rw [if_pos c16] at H
    have c16b0 : (t222 == t224) = true := beq_iff_eq.mpr c16
    have c16b1 : (t222 != t224) = false := bne_eq_false_iff_eq.mpr c16
    clear c16
    (first | rw [c16b0] | (simp only [i64_w, i32_w]; rw [c16b0]) | skip)
    by_cases c17 : t223 = t225
    ·rw [if_pos c17] at H
     have c17b0 : (t223 == t225) = true := beq_iff_eq.mpr c17
     have c17b1 : (t223 != t225) = false := bne_eq_false_iff_eq.mpr c17
     clear c17
     replace H := Option.bind_eq_some_iff.mp H
     obtain ⟨t226, A180, H⟩ := H
     try set_option simprocs false in dsimp only at H
     have A18 := XPrint.A0 A180
     clear A180
     replace H := Option.bind_eq_some_iff.mp H
     obtain ⟨t229, A190, H⟩ := H
     try set_option simprocs false in dsimp only at H
     have A19 := XPrint.A0 A190
     clear A190
     replace H := Option.bind_eq_some_iff.mp H
     obtain ⟨t232, A200, H⟩ := H
     try set_option simprocs false in dsimp only at H
     have A20 := XPrint.A0 A200
     clear A200
     have H' := XPrint.A0 H
     clear H
     try go_wp2
     replace BK220 := XPrint.A0 (blk_drew BK220.out)
     replace HB := XPrint.A0 (below_drew1 HB.out)
     refine start_ (n := 18) (S := fun w' => w'.cell? ⟨gb220, 0, none⟩ = some (.int .i64 a0_0) ∧ w'.cell? ⟨gb220, 1, none⟩ = some (.int .i64 a0_1) ∧ w'.cell? ⟨gb220, 2, none⟩ = some (.slice A0_2 l0_2.length c0_2)) (ds := []) #[false, false, false, false, false, false, false, false, false, false, false, false, false, false, false, false, false, false] (by kernel_rfl) rfl rfl ⟨(blk_cell BK220.out 0).trans rfl, (blk_cell BK220.out 1).trans rfl, (blk_cell BK220.out 2).trans rfl⟩ (fun hHeld => ?_); refine with_tabW liverylaw08_ShapeTells.tab5 liverylaw08_ShapeTells.bits5 (fun HT_ HW_ => ?_)
     generalize w15.drew = w21 at BK220 HB hHeld ⊢
     refine XPrint.pu 0 31 (XPrint.L 18 1) HT_.out (v := ?_) (a' := ?_) ?_ ?_ ?_
     rotate_left
     ·intro w'
      go_simp
      with_reducible rfl
     rotate_left
     ·simp only [XPrint.pw, i64_w, i32_w]
      rfl
     refine XPrint.pu 1 32 (XPrint.L 18 3) HT_.out (v := ?_) (a' := ?_) ?_ ?_ ?_
     rotate_left
     ·intro w'
      go_simp
      with_reducible rfl
     rotate_left
     ·simp only [XPrint.pw, i64_w, i32_w]
      rfl
     refine XPrint.pu 2 33 (XPrint.L 18 7) HT_.out (v := ?_) (a' := ?_) ?_ ?_ ?_
     rotate_left
     ·intro w'
      go_simp
      with_reducible rfl
     rotate_left
     ·simp only [XPrint.pw, i64_w, i32_w]
      rfl
     refine XPrint.pu 3 34 (XPrint.L 18 15) HT_.out (v := ?_) (a' := ?_) ?_ ?_ ?_
     rotate_left
     ·intro w'
      go_simp
      with_reducible rfl
     rotate_left
     ·simp only [XPrint.pw, i64_w, i32_w]
      rfl
     refine XPrint.pu 4 35 (XPrint.L 18 31) HT_.out (v := ?_) (a' := ?_) ?_ ?_ ?_
     rotate_left
     ·intro w'
      go_simp
      with_reducible rfl
     rotate_left
     ·simp only [XPrint.pw, i64_w, i32_w]
      rfl
     refine XPrint.pu 5 36 (XPrint.L 18 63) HT_.out (v := ?_) (a' := ?_) ?_ ?_ ?_
     rotate_left
     ·intro w'
      go_simp
      with_reducible rfl
     rotate_left
     ·simp only [XPrint.pw, i64_w, i32_w]
      rfl
     refine XPrint.pu 6 37 (XPrint.L 18 127) HT_.out (v := ?_) (a' := ?_) ?_ ?_ ?_
     rotate_left
     ·intro w'
      go_simp
      with_reducible rfl
     rotate_left
     ·simp only [XPrint.pw, i64_w, i32_w]
      rfl
     refine XPrint.pu 7 38 (XPrint.L 18 255) HT_.out (v := ?_) (a' := ?_) ?_ ?_ ?_
     rotate_left
     ·intro w'
      go_simp
      with_reducible rfl
     rotate_left
     ·simp only [XPrint.pw, i64_w, i32_w]
      rfl
     refine XPrint.pu 8 39 (XPrint.L 18 511) HT_.out (v := ?_) (a' := ?_) ?_ ?_ ?_
     rotate_left
     ·intro w'
      go_simp
      with_reducible rfl
     rotate_left
     ·simp only [XPrint.pw, i64_w, i32_w]
      rfl
     refine XPrint.pu 9 40 (XPrint.L 18 1023) HT_.out (v := ?_) (a' := ?_) ?_ ?_ ?_
     rotate_left
     ·intro w'
      go_simp
      with_reducible rfl
     rotate_left
     ·simp only [XPrint.pw, i64_w, i32_w]
      rfl
     refine XPrint.pu 12 43 (XPrint.L 18 5119) HT_.out (v := ?_) (a' := ?_) ?_ ?_ ?_
     rotate_left
     ·intro w'
      go_simp
      with_reducible rfl
     rotate_left
     ·simp only [XPrint.pw, i64_w, i32_w]
      rfl
     refine XPrint.ta 10 41 (XPrint.L 18 6143) HT_.out HW_.out (v := ?_) (a' := ?_) ?_ hHeld ?_ ?_
     rotate_left
     ·rintro w' ⟨s0, s1, s2⟩
      go_simp
      with_reducible rfl
     rotate_left
     ·simp only [XPrint.pw, i64_w, i32_w]
      rfl
     refine XPrint.ta 13 44 (XPrint.L 18 14335) HT_.out HW_.out (v := ?_) (a' := ?_) ?_ hHeld ?_ ?_
     rotate_left
     ·rintro w' ⟨s0, s1, s2⟩
      go_simp
      with_reducible rfl
     rotate_left
     ·simp only [XPrint.pw, i64_w, i32_w]
      rfl
     refine one_ (i := 11) (N := some 42) (XPrint.L 18 16383) rfl rfl (one_of HT_.out (by kernel_rfl)) (by decide) (fun K hK => ?_)
     refine XPrint.gs Try.func36 #[.slice A0_2 l0_2.length c0_2] ?_
     with_reducible refine (shape_Atoms.calls k _ _ l0_2 t226 _ ?side1 ?side2 A18.out).mono ?_
     (case side1 => repeat (first | exact (Kd.C_below HR0_2.out HB.out) | (with_reducible refine Kd.C_alloc ?_ _) | (with_reducible refine Kd.C_drewN ?_ _) | (with_reducible refine Kd.C_drew ?_)))
     (case side2 => exact HC0_2.out)
     rintro e w22 ⟨v227, rfl, ho0, hb⟩
     refine ⟨_, rfl, ?_⟩
     have HO228 := XPrint.A0 (Kd.R_lower ho0 (below_size (by exact XPrint.bz HB.out)))
     replace BK220 := XPrint.A0 (XPrint.ab BK220.out hb)
     replace HB := XPrint.A0 (below_step (by exact XPrint.bz HB.out) hb)
     (try clear hb)
     (try clear hb2)
     (try clear hk)
     (try clear hi)
     (try clear ho0)
     refine hK.out _ _ ⟨(blk_cell BK220.out 0).trans rfl, (blk_cell BK220.out 1).trans rfl, (blk_cell BK220.out 2).trans rfl⟩ (fun hHeld => ?_)
     clear hK K
     refine norm_ (a' := ?_) ?_ ?_
     rotate_left
     ·show Act.put _ (some 42) _ = _
      simp only [XPrint.pw, i64_w, i32_w]
      rfl
     refine one_ (i := 14) (N := some 45) (XPrint.L 18 32767) rfl rfl (one_of HT_.out (by kernel_rfl)) (by decide) (fun K hK => ?_)
     refine XPrint.gs Try.func37 #[.slice A0_2 l0_2.length c0_2] ?_
     with_reducible refine (liveryref08_Atoms.calls k _ _ l0_2 t229 _ ?side1 ?side2 A19.out).mono ?_
     (case side1 => repeat (first | exact (Kd.C_below HR0_2.out HB.out) | (with_reducible refine Kd.C_alloc ?_ _) | (with_reducible refine Kd.C_drewN ?_ _) | (with_reducible refine Kd.C_drew ?_)))
     (case side2 => exact HC0_2.out)
     rintro e w23 ⟨v230, rfl, ho0, hb⟩
     refine ⟨_, rfl, ?_⟩
     have HO231 := XPrint.A0 (Kd.R_lower (Kd.R_new' ho0 (Kd.R_lt (by (with_reducible repeat (first | apply Kd.R_alloc | apply Kd.R_drewN | apply Kd.R_drew)); exact HO228.out))) (below_size (by exact XPrint.bz HB.out)))
     replace HO228 := XPrint.A0 (Kd.R_elder' (by (with_reducible repeat (first | apply Kd.R_alloc | apply Kd.R_drewN | apply Kd.R_drew)); exact HO228.out) (Kd.R_base ho0) hb)
     replace BK220 := XPrint.A0 (XPrint.ab BK220.out hb)
     replace HB := XPrint.A0 (below_step (by exact XPrint.bz HB.out) hb)
     (try clear hb)
     (try clear hb2)
     (try clear hk)
     (try clear hi)
     (try clear ho0)
     obtain ⟨Ao24, co24, eo24⟩ := Kd.R_slice HO228.out
     (first | subst eo24 | (injection eo24 with f1_ f2_ f3_; have f4_ := f1_.symm; have f5_ := f3_.symm; clear f1_ f2_ f3_; subst f4_; subst f5_))
     obtain ⟨Ao25, co25, eo25⟩ := Kd.R_slice HO231.out
     (first | subst eo25 | (injection eo25 with f1_ f2_ f3_; have f4_ := f1_.symm; have f5_ := f3_.symm; clear f1_ f2_ f3_; subst f4_; subst f5_))
     refine hK.out _ _ ⟨(blk_cell BK220.out 0).trans rfl, (blk_cell BK220.out 1).trans rfl, (blk_cell BK220.out 2).trans rfl⟩ (fun hHeld => ?_)
     clear hK K
     refine norm_ (a' := ?_) ?_ ?_
     rotate_left
     ·show Act.put _ (some 45) _ = _
      simp only [XPrint.pw, i64_w, i32_w]
      rfl
     refine one_ (i := 15) (N := some 46) (XPrint.L 18 65535) rfl rfl (one_of HT_.out (by kernel_rfl)) (by decide) (fun K hK => ?_)
     refine XPrint.gs Try.func35 #[.slice Ao24 t226.length co24, .slice Ao25 t229.length co25] ?_
     with_reducible refine (liveryref08_Same.calls k _ _ t226 _ _ t229 t232 _ ?side1 ?side2 ?side3 ?side4 A20.out).mono ?_
     (case side1 => repeat (first | exact (Kd.R_reads' HO228.out).2.2 | (with_reducible refine Kd.C_alloc ?_ _) | (with_reducible refine Kd.C_drewN ?_ _) | (with_reducible refine Kd.C_drew ?_)))
     (case side2 => exact (Kd.R_reads' HO228.out).2.1)
     (case side3 => repeat (first | exact (Kd.R_reads' HO231.out).2.2 | (with_reducible refine Kd.C_alloc ?_ _) | (with_reducible refine Kd.C_drewN ?_ _) | (with_reducible refine Kd.C_drew ?_)))
     (case side4 => exact (Kd.R_reads' HO231.out).2.1)
     rintro e w' ⟨rfl, ⟨nd, rfl⟩⟩
     refine ⟨_, rfl, ?_⟩
     refine hK.out _ _ ⟨(blk_cell BK220.out 0).trans rfl, (blk_cell BK220.out 1).trans rfl, (blk_cell BK220.out 2).trans rfl⟩ (fun hHeld => ?_)
     clear hK K
     refine norm_ (a' := ?_) ?_ ?_
     rotate_left
     ·show Act.put _ (some 46) _ = _
      simp only [XPrint.pw, i64_w, i32_w]
      rfl
     refine XPrint.pu 16 47 (XPrint.L 18 131071) HT_.out (v := ?_) (a' := ?_) ?_ ?_ ?_
     rotate_left
     ·intro w'
      go_simp
      with_reducible rfl
     rotate_left
     ·simp only [XPrint.pw, i64_w, i32_w]
      rfl
     refine XPrint.pu 17 48 (XPrint.L 18 262143) HT_.out (v := ?_) (a' := ?_) ?_ ?_ ?_
     rotate_left
     ·intro w'
      go_simp
      with_reducible rfl
     rotate_left
     ·simp only [XPrint.pw, i64_w, i32_w]
      rfl
     refine done_ (done_of HT_.out (by kernel_rfl)) ?_
     try go_wp2
     go_meet
     case rel => exact ⟨_, (!t232), (by first | rfl | (simp; done) | (simp [*]; done)), H', ⟨by first | omega | exact Nat.le_refl _⟩, ⟨by (repeat with_reducible first | refine XPrint.d1 ?_ | refine XPrint.d2 ?_ _ | refine XPrint.d3 ?_ _); exact BK220.out⟩, ⟨by exact XPrint.bz HB.out⟩⟩
    ·rw [if_neg c17] at H
     have c17b0 : (t223 == t225) = false := beq_eq_false_iff_ne.mpr c17
     have c17b1 : (t223 != t225) = true := bne_iff_ne.mpr c17
     exact absurd H (by simp)
   ·rw [if_neg c16] at H
    have c16b0 : (t222 == t224) = false := beq_eq_false_iff_ne.mpr c16
    have c16b1 : (t222 != t224) = true := bne_iff_ne.mpr c16
    (first | rw [c16b0] | (simp only [i64_w, i32_w]; rw [c16b0]) | skip)
    exact absurd H (by simp)
  case rest =>
   clear HC10
   try clear c1
   try clear p2
   try clear c3
   try clear c3b0
   try clear c3b1
   try clear c7
   try clear c16
   try clear c16b0
   try clear c16b1
   try clear c17
   try clear c17b0
   try clear c17b1
   try clear hcz12_0
   try clear hcz12_1
   try clear hcz12_2
   try clear hcz14_0
   try clear hcz14_1
   try clear hcz14_2
   try clear hcz6_0
   try clear hcz6_1
   try clear hcz6_2
   try clear hfz12_0
   try clear hfz12_1
   try clear hfz12_2
   try clear hfz14_0
   try clear hfz14_1
   try clear hfz14_2
   try clear hfz6_0
   try clear hfz6_1
   try clear hfz6_2
   obtain ⟨kq, x48_9, rfl, HA, HJ9, BK220, HB⟩ := hcut
   cases kq with
   | zero => exact absurd HA.out (by simp [liverylaw08_ShapeTells.j0])
   | succ kj9 =>
    have H := HA.out
    clear HA
    simp only [liverylaw08_ShapeTells.j0] at H
    by_cases c26 : x48_9 = true
    ·subst c26
     have H1 := H; rw [if_pos rfl] at H1
     clear H
     have H := H1
     clear H1
     exact absurd H (by simp)
    ·replace c26 := Bool.eq_false_iff.mpr c26
     subst c26
     have H1 := H; rw [if_neg (show ¬ (false = true) by decide)] at H1
     clear H
     have H := H1
     clear H1
     replace H := Option.bind_eq_some_iff.mp H
     obtain ⟨⟨t233, t234⟩, A270, H⟩ := H
     replace H : ((shape_End.f kj9 l0_2 a1).bind fun bt237 => ((shape_Depth.f l0_2 a1).bind fun bt239 => ((liveryref08_May.f kj9 l0_2 a1).bind fun t241 => (if t234 = t241 then (if bt237.2 = t241 then (liverylaw08_ShapeTells.j1 kj9 a1 t233 bt237.1 bt239.1 t241 (bt239.2 != t241) a0_0 a0_1 l0_2) else (none)) else (none))))) = some r := H
     have A27 := XPrint.A0 A270
     clear A270
     replace H := Option.bind_eq_some_iff.mp H
     obtain ⟨⟨t237, t238⟩, A280, H⟩ := H
     replace H : ((shape_Depth.f l0_2 a1).bind fun bt239 => ((liveryref08_May.f kj9 l0_2 a1).bind fun t241 => (if t234 = t241 then (if t238 = t241 then (liverylaw08_ShapeTells.j1 kj9 a1 t233 t237 bt239.1 t241 (bt239.2 != t241) a0_0 a0_1 l0_2) else (none)) else (none)))) = some r := H
     have A28 := XPrint.A0 A280
     clear A280
     replace H := Option.bind_eq_some_iff.mp H
     obtain ⟨⟨t239, t240⟩, A290, H⟩ := H
     replace H : ((liveryref08_May.f kj9 l0_2 a1).bind fun t241 => (if t234 = t241 then (if t238 = t241 then (liverylaw08_ShapeTells.j1 kj9 a1 t233 t237 t239 t241 (t240 != t241) a0_0 a0_1 l0_2) else (none)) else (none))) = some r := H
     have A29 := XPrint.A0 A290
     clear A290
     replace H := Option.bind_eq_some_iff.mp H
     obtain ⟨t241, A300, H⟩ := H
     try set_option simprocs false in dsimp only at H
     have A30 := XPrint.A0 A300
     clear A300
     have HC31 := XPrint.A0 H
     clear H
     have hcz32_0 : wc.cell? ⟨gb220, 0, none⟩ = some (.int .i64 a0_0) := (blk_cell BK220.out 0).trans rfl
     have hcz32_1 : wc.cell? ⟨gb220, 1, none⟩ = some (.int .i64 a0_1) := (blk_cell BK220.out 1).trans rfl
     have hcz32_2 : wc.cell? ⟨gb220, 2, none⟩ = some (.slice A0_2 l0_2.length c0_2) := (blk_cell BK220.out 2).trans rfl
     have hfz32_0 := blk_frozen BK220.out 0
     have hfz32_1 := blk_frozen BK220.out 1
     have hfz32_2 := blk_frozen BK220.out 2
     go_upto_region 11 with (first | ((with_reducible refine gate_callee (f := 38) rfl ?_); refine XPrint.gl (some 53) Try.func38 #[.slice A0_2 l0_2.length c0_2, .int .i64 a1] ?_; (with_reducible refine (shape_Kids.calls _ _ l0_2 a1 t233 t234 _ ?side1 ?side2 A27.out).mono ?_); (case side1 => repeat (first | exact (Kd.C_below HR0_2.out HB.out) | (with_reducible refine Kd.C_alloc ?_ _) | (with_reducible refine Kd.C_drewN ?_ _) | (with_reducible refine Kd.C_drew ?_))); (case side2 => exact HC0_2.out); rintro e w33 ⟨v235, rfl, ho0, hb⟩; refine ⟨_, rfl, ?_⟩; have n0_ := XPrint.A0 (Kd.R_lower ho0 (below_size (by exact XPrint.bz HB.out))); have n1_ := XPrint.A0 (XPrint.ab BK220.out hb); have n2_ := XPrint.A0 (below_step (by exact XPrint.bz HB.out) hb); clear BK220; clear HB; have HO236 := n0_; have BK220 := n1_; have HB := n2_; clear n0_ n1_ n2_; (try clear hb); (try clear hb2); (try clear hk); (try clear hi); (try clear ho0); have hcz34_0 : w33.cell? ⟨gb220, 0, none⟩ = some (.int .i64 a0_0) := (blk_cell BK220.out 0).trans rfl; have hcz34_1 : w33.cell? ⟨gb220, 1, none⟩ = some (.int .i64 a0_1) := (blk_cell BK220.out 1).trans rfl; have hcz34_2 : w33.cell? ⟨gb220, 2, none⟩ = some (.slice A0_2 l0_2.length c0_2) := (blk_cell BK220.out 2).trans rfl; have hfz34_0 := blk_frozen BK220.out 0; have hfz34_1 := blk_frozen BK220.out 1; have hfz34_2 := blk_frozen BK220.out 2) | ((with_reducible refine gate_callee (f := 39) rfl ?_); refine XPrint.gl (some 60) Try.func39 #[.slice A0_2 l0_2.length c0_2, .int .i64 a1] ?_; (with_reducible refine (shape_End.calls kj9 _ _ l0_2 a1 t237 t238 _ ?side1 ?side2 A28.out).mono ?_); (case side1 => repeat (first | exact (Kd.C_below HR0_2.out HB.out) | (with_reducible refine Kd.C_alloc ?_ _) | (with_reducible refine Kd.C_drewN ?_ _) | (with_reducible refine Kd.C_drew ?_))); (case side2 => exact HC0_2.out); rintro e w35 ⟨rfl, hb⟩; refine ⟨_, rfl, ?_⟩; have n0_ := XPrint.A0 (XPrint.rb HO236.out hb); have n1_ := XPrint.A0 (XPrint.ab BK220.out hb); have n2_ := XPrint.A0 (below_step (by exact XPrint.bz HB.out) hb); clear HO236; clear BK220; clear HB; have HO236 := n0_; have BK220 := n1_; have HB := n2_; clear n0_ n1_ n2_; (try clear hb); (try clear hb2); (try clear hk); (try clear hi); have hcz36_0 : w35.cell? ⟨gb220, 0, none⟩ = some (.int .i64 a0_0) := (blk_cell BK220.out 0).trans rfl; have hcz36_1 : w35.cell? ⟨gb220, 1, none⟩ = some (.int .i64 a0_1) := (blk_cell BK220.out 1).trans rfl; have hcz36_2 : w35.cell? ⟨gb220, 2, none⟩ = some (.slice A0_2 l0_2.length c0_2) := (blk_cell BK220.out 2).trans rfl; have hfz36_0 := blk_frozen BK220.out 0; have hfz36_1 := blk_frozen BK220.out 1; have hfz36_2 := blk_frozen BK220.out 2) | ((with_reducible refine gate_callee (f := 40) rfl ?_); refine XPrint.gl (some 67) Try.func40 #[.slice A0_2 l0_2.length c0_2, .int .i64 a1] ?_; (with_reducible refine (shape_Depth.calls _ _ l0_2 a1 t239 t240 _ ?side1 ?side2 A29.out).mono ?_); (case side1 => repeat (first | exact (Kd.C_below HR0_2.out HB.out) | (with_reducible refine Kd.C_alloc ?_ _) | (with_reducible refine Kd.C_drewN ?_ _) | (with_reducible refine Kd.C_drew ?_))); (case side2 => exact HC0_2.out); rintro e w37 ⟨rfl, hb⟩; refine ⟨_, rfl, ?_⟩; have n0_ := XPrint.A0 (XPrint.rb HO236.out hb); have n1_ := XPrint.A0 (XPrint.ab BK220.out hb); have n2_ := XPrint.A0 (below_step (by exact XPrint.bz HB.out) hb); clear HO236; clear BK220; clear HB; have HO236 := n0_; have BK220 := n1_; have HB := n2_; clear n0_ n1_ n2_; (try clear hb); (try clear hb2); (try clear hk); (try clear hi); have hcz38_0 : w37.cell? ⟨gb220, 0, none⟩ = some (.int .i64 a0_0) := (blk_cell BK220.out 0).trans rfl; have hcz38_1 : w37.cell? ⟨gb220, 1, none⟩ = some (.int .i64 a0_1) := (blk_cell BK220.out 1).trans rfl; have hcz38_2 : w37.cell? ⟨gb220, 2, none⟩ = some (.slice A0_2 l0_2.length c0_2) := (blk_cell BK220.out 2).trans rfl; have hfz38_0 := blk_frozen BK220.out 0; have hfz38_1 := blk_frozen BK220.out 1; have hfz38_2 := blk_frozen BK220.out 2) | ((with_reducible refine gate_callee (f := 41) rfl ?_); refine XPrint.gl (some 73) Try.func41 #[.slice A0_2 l0_2.length c0_2, .int .i64 a1] ?_; (with_reducible refine (liveryref08_May.calls kj9 _ _ l0_2 a1 t241 _ ?side1 ?side2 A30.out).mono ?_); (case side1 => repeat (first | exact (Kd.C_below HR0_2.out HB.out) | (with_reducible refine Kd.C_alloc ?_ _) | (with_reducible refine Kd.C_drewN ?_ _) | (with_reducible refine Kd.C_drew ?_))); (case side2 => exact HC0_2.out); rintro e w39 ⟨rfl, hb⟩; refine ⟨_, rfl, ?_⟩; have n0_ := XPrint.A0 (XPrint.rb HO236.out hb); have n1_ := XPrint.A0 (XPrint.ab BK220.out hb); have n2_ := XPrint.A0 (below_step (by exact XPrint.bz HB.out) hb); clear HO236; clear BK220; clear HB; have HO236 := n0_; have BK220 := n1_; have HB := n2_; clear n0_ n1_ n2_; (try clear hb); (try clear hb2); (try clear hk); (try clear hi)))
     (try simp only [XPrint.pw])
     go_cut [86] (fun v86 wc => ∃ (kq : Nat) (x86_30 : Bool), v86 = .bool x86_30 ∧ Aside0 (liverylaw08_ShapeTells.j1 kq a1 t233 t237 t239 t241 x86_30 a0_0 a0_1 l0_2 = some r) ∧ Aside0 (kq ≤ kj9) ∧ Aside0 (Kd.R (Kd.int .i64) 3 wc w.heap.size (fun _ => True) v235 t233) ∧ Aside0 (wc.heap[gb220]? = some (.cells #[.int .i64 a0_0, .int .i64 a0_1, (.slice A0_2 l0_2.length c0_2)] 50 (0, 0))) ∧ Aside0 (Below w.heap.size w wc))
     case first =>
      have H := HC31.out
      clear HC31
      by_cases c40 : t234 = t241
      ·rw [if_pos c40] at H
       have c40b0 : (t234 == t241) = true := beq_iff_eq.mpr c40
       have c40b1 : (t234 != t241) = false := bne_eq_false_iff_eq.mpr c40
       clear c40
       (first | rw [c40b0] | (simp only [i64_w, i32_w]; rw [c40b0]) | skip)
       by_cases c41 : t238 = t241
       ·rw [if_pos c41] at H
        have c41b0 : (t238 == t241) = true := beq_iff_eq.mpr c41
        have c41b1 : (t238 != t241) = false := bne_eq_false_iff_eq.mpr c41
        clear c41
        have H' := XPrint.A0 H
        clear H
        go_wp2
        go_meet
        case rel => exact ⟨_, ((t240 != t241)), (by first | rfl | (simp; done) | (simp [*]; done)), H', ⟨by have := HJ9.out; first | omega | exact Nat.le_refl _⟩, ⟨by (with_reducible repeat (first | apply Kd.R_alloc | apply Kd.R_drewN | apply Kd.R_drew)); exact HO236.out⟩, ⟨by (repeat with_reducible first | refine XPrint.d1 ?_ | refine XPrint.d2 ?_ _ | refine XPrint.d3 ?_ _); exact BK220.out⟩, ⟨by exact XPrint.bz HB.out⟩⟩
       ·rw [if_neg c41] at H
        exact absurd H (by simp)
      ·rw [if_neg c40] at H
       exact absurd H (by simp)
     case rest =>
      clear HC31
      try clear c1
      try clear c2
      try clear p2
      try clear c3
      try clear c3b0
      try clear c3b1
      try clear c4
      try clear c7
      try clear c16
      try clear c16b0
      try clear c16b1
      try clear c17
      try clear c17b0
      try clear c17b1
      try clear c26
      try clear c32
      try clear c33
      try clear c34
      try clear c35
      try clear c36
      try clear c37
      try clear c38
      try clear c39
      try clear c40
      try clear c40b0
      try clear c40b1
      try clear c41
      try clear c41b0
      try clear c41b1
      try clear hcz12_0
      try clear hcz12_1
      try clear hcz12_2
      try clear hcz14_0
      try clear hcz14_1
      try clear hcz14_2
      try clear hcz32_0
      try clear hcz32_1
      try clear hcz32_2
      try clear hcz34_0
      try clear hcz34_1
      try clear hcz34_2
      try clear hcz36_0
      try clear hcz36_1
      try clear hcz36_2
      try clear hcz38_0
      try clear hcz38_1
      try clear hcz38_2
      try clear hcz6_0
      try clear hcz6_1
      try clear hcz6_2
      try clear hfz12_0
      try clear hfz12_1
      try clear hfz12_2
      try clear hfz14_0
      try clear hfz14_1
      try clear hfz14_2
      try clear hfz32_0
      try clear hfz32_1
      try clear hfz32_2
      try clear hfz34_0
      try clear hfz34_1
      try clear hfz34_2
      try clear hfz36_0
      try clear hfz36_1
      try clear hfz36_2
      try clear hfz38_0
      try clear hfz38_1
      try clear hfz38_2
      try clear hfz6_0
      try clear hfz6_1
      try clear hfz6_2
      try clear p2
      obtain ⟨kq, x86_30, rfl, HA, HJ30, HO_9, BK220, HB⟩ := hcut
      cases kq with
      | zero => exact absurd HA.out (by simp [liverylaw08_ShapeTells.j1])
      | succ kj30 =>
       have H := HA.out
       clear HA
       simp only [liverylaw08_ShapeTells.j1] at H
       by_cases c42 : x86_30 = true
       ·subst c42
        have H1 := H; rw [if_pos rfl] at H1
        clear H
        have H := H1
        clear H1
        exact absurd H (by simp)
       ·replace c42 := Bool.eq_false_iff.mpr c42
        subst c42
        have H1 := H; rw [if_neg (show ¬ (false = true) by decide)] at H1
        clear H
        have H := H1
        clear H1
        by_cases c43 : t241 = 0
        ·rw [if_pos c43] at H
         have c43b0 : (t241 == 0) = true := beq_iff_eq.mpr c43
         have c43b1 : (t241 != 0) = false := bne_eq_false_iff_eq.mpr c43
         clear c43
         replace H := Option.bind_eq_some_iff.mp H
         obtain ⟨t243, A440, H⟩ := H
         try set_option simprocs false in dsimp only at H
         have A44 := XPrint.A0 A440
         clear A440
         replace H := Option.bind_eq_some_iff.mp H
         obtain ⟨t246, A450, H⟩ := H
         try set_option simprocs false in dsimp only at H
         have A45 := XPrint.A0 A450
         clear A450
         by_cases c46 : t246 = true
         ·subst c46
          have H1 := H; rw [if_pos rfl] at H1
          clear H
          have H := H1
          clear H1
          replace H := Option.bind_eq_some_iff.mp H
          obtain ⟨t247, A470, H⟩ := H
          try set_option simprocs false in dsimp only at H
          have A47 := XPrint.A0 A470
          clear A470
          by_cases c48 : t237 = t247
          ·rw [if_pos c48] at H
           have c48b0 : (t237 == t247) = true := beq_iff_eq.mpr c48
           have c48b1 : (t237 != t247) = false := bne_eq_false_iff_eq.mpr c48
           clear c48
           replace H := Option.bind_eq_some_iff.mp H
           obtain ⟨t248, A490, H⟩ := H
           try set_option simprocs false in dsimp only at H
           have A49 := XPrint.A0 A490
           clear A490
           by_cases c50 : t239 = t248
           ·rw [if_pos c50] at H
            have c50b0 : (t239 == t248) = true := beq_iff_eq.mpr c50
            have c50b1 : (t239 != t248) = false := bne_eq_false_iff_eq.mpr c50
            clear c50
            replace H := Option.bind_eq_some_iff.mp H
            obtain ⟨t249, A510, H⟩ := H
            try set_option simprocs false in dsimp only at H
            have A51 := XPrint.A0 A510
            clear A510
            obtain rfl := Option.some.inj H
            have hcz52_0 : wc.cell? ⟨gb220, 0, none⟩ = some (.int .i64 a0_0) := (blk_cell BK220.out 0).trans rfl
            have hcz52_1 : wc.cell? ⟨gb220, 1, none⟩ = some (.int .i64 a0_1) := (blk_cell BK220.out 1).trans rfl
            have hcz52_2 : wc.cell? ⟨gb220, 2, none⟩ = some (.slice A0_2 l0_2.length c0_2) := (blk_cell BK220.out 2).trans rfl
            have hfz52_0 := blk_frozen BK220.out 0
            have hfz52_1 := blk_frozen BK220.out 1
            have hfz52_2 := blk_frozen BK220.out 2
            go_wp2_with (first | ((with_reducible refine gate_callee (f := 42) rfl ?_); refine XPrint.gl (some 107) Try.func42 #[.slice A0_2 l0_2.length c0_2, .int .i64 a1] ?_; (with_reducible refine (liveryref08_Kids.calls kj30 _ _ l0_2 a1 t243 _ ?side1 ?side2 A44.out).mono ?_); (case side1 => repeat (first | exact (Kd.C_below HR0_2.out HB.out) | (with_reducible refine Kd.C_alloc ?_ _) | (with_reducible refine Kd.C_drewN ?_ _) | (with_reducible refine Kd.C_drew ?_))); (case side2 => exact HC0_2.out); rintro e w53 ⟨v244, rfl, ho0, hb⟩; refine ⟨_, rfl, ?_⟩; have HO245 := XPrint.A0 (Kd.R_lower (Kd.R_new' ho0 (Kd.R_lt (by (with_reducible repeat (first | apply Kd.R_alloc | apply Kd.R_drewN | apply Kd.R_drew)); exact HO_9.out))) (below_size (by exact XPrint.bz HB.out))); replace HO_9 := XPrint.A0 (Kd.R_elder' (by (with_reducible repeat (first | apply Kd.R_alloc | apply Kd.R_drewN | apply Kd.R_drew)); exact HO_9.out) (Kd.R_base ho0) hb); replace BK220 := XPrint.A0 (XPrint.ab BK220.out hb); replace HB := XPrint.A0 (below_step (by exact XPrint.bz HB.out) hb); (try clear hb); (try clear hb2); (try clear hk); (try clear hi); (try clear ho0); obtain ⟨Ao54, co54, eo54⟩ := Kd.R_slice HO_9.out; subst eo54; obtain ⟨Ao55, co55, eo55⟩ := Kd.R_slice HO245.out; subst eo55) | ((with_reducible refine gate_callee (f := 35) rfl ?_); refine XPrint.gl (some 108) Try.func35 #[.slice Ao54 t233.length co54, .slice Ao55 t243.length co55] ?_; (with_reducible refine (liveryref08_Same.calls kj30 _ _ t233 _ _ t243 true _ ?side1 ?side2 ?side3 ?side4 A45.out).mono ?_); (case side1 => repeat (first | exact (Kd.R_reads' HO_9.out).2.2 | (with_reducible refine Kd.C_alloc ?_ _) | (with_reducible refine Kd.C_drewN ?_ _) | (with_reducible refine Kd.C_drew ?_))); (case side2 => exact (Kd.R_reads' HO_9.out).2.1); (case side3 => repeat (first | exact (Kd.R_reads' HO245.out).2.2 | (with_reducible refine Kd.C_alloc ?_ _) | (with_reducible refine Kd.C_drewN ?_ _) | (with_reducible refine Kd.C_drew ?_))); (case side4 => exact (Kd.R_reads' HO245.out).2.1); rintro e w' ⟨rfl, ⟨nd, rfl⟩⟩; refine ⟨_, rfl, ?_⟩; have hcz56_0 : w53.cell? ⟨gb220, 0, none⟩ = some (.int .i64 a0_0) := (blk_cell BK220.out 0).trans rfl; have hcz56_1 : w53.cell? ⟨gb220, 1, none⟩ = some (.int .i64 a0_1) := (blk_cell BK220.out 1).trans rfl; have hcz56_2 : w53.cell? ⟨gb220, 2, none⟩ = some (.slice A0_2 l0_2.length c0_2) := (blk_cell BK220.out 2).trans rfl; have hfz56_0 := blk_frozen BK220.out 0; have hfz56_1 := blk_frozen BK220.out 1; have hfz56_2 := blk_frozen BK220.out 2) | (go_at_call 43; (with_reducible refine (liveryref08_End.calls kj30 _ _ l0_2 a1 t247 _ ?side1 ?side2 A47.out).mono ?_); (case side1 => repeat (first | exact (Kd.C_below HR0_2.out (by exact XPrint.bz HB.out)) | (with_reducible refine Kd.C_alloc ?_ _) | (with_reducible refine Kd.C_drewN ?_ _) | (with_reducible refine Kd.C_drew ?_))); (case side2 => exact HC0_2.out); rintro e w57 ⟨rfl, hb⟩; replace HO_9 := XPrint.A0 (Kd.R_below (by (with_reducible repeat (first | apply Kd.R_alloc | apply Kd.R_drewN | apply Kd.R_drew)); exact HO_9.out) hb); replace HO245 := XPrint.A0 (XPrint.rb HO245.out hb); replace BK220 := XPrint.A0 (XPrint.ab BK220.out hb); replace HB := XPrint.A0 (below_step (by exact XPrint.bz HB.out) hb); (try clear hb); (try clear hb2); (try clear hk); (try clear hi); have hcz58_0 : w57.cell? ⟨gb220, 0, none⟩ = some (.int .i64 a0_0) := (blk_cell BK220.out 0).trans rfl; have hcz58_1 : w57.cell? ⟨gb220, 1, none⟩ = some (.int .i64 a0_1) := (blk_cell BK220.out 1).trans rfl; have hcz58_2 : w57.cell? ⟨gb220, 2, none⟩ = some (.slice A0_2 l0_2.length c0_2) := (blk_cell BK220.out 2).trans rfl; have hfz58_0 := blk_frozen BK220.out 0; have hfz58_1 := blk_frozen BK220.out 1; have hfz58_2 := blk_frozen BK220.out 2) | (go_at_call 44; (with_reducible refine (liveryref08_Depth.calls kj30 _ _ l0_2 a1 t248 _ ?side1 ?side2 A49.out).mono ?_); (case side1 => repeat (first | exact (Kd.C_below HR0_2.out HB.out) | (with_reducible refine Kd.C_alloc ?_ _) | (with_reducible refine Kd.C_drewN ?_ _) | (with_reducible refine Kd.C_drew ?_))); (case side2 => exact HC0_2.out); rintro e w59 ⟨rfl, hb⟩; replace HO_9 := XPrint.A0 (Kd.R_below (by (with_reducible repeat (first | apply Kd.R_alloc | apply Kd.R_drewN | apply Kd.R_drew)); exact HO_9.out) hb); replace HO245 := XPrint.A0 (XPrint.rb HO245.out hb); replace BK220 := XPrint.A0 (XPrint.ab BK220.out hb); replace HB := XPrint.A0 (below_step (by exact XPrint.bz HB.out) hb); (try clear hb); (try clear hb2); (try clear hk); (try clear hi)) | (go_at_call 32; (with_reducible refine (liverylaw08_head.calls kj30  t249 _ A51.out).mono ?_); rintro e w60 ⟨rfl, hb⟩; replace HO_9 := XPrint.A0 (Kd.R_below (by (with_reducible repeat (first | apply Kd.R_alloc | apply Kd.R_drewN | apply Kd.R_drew)); exact HO_9.out) hb); replace HO245 := XPrint.A0 (XPrint.rb HO245.out hb); replace BK220 := XPrint.A0 (XPrint.ab BK220.out hb); replace HB := XPrint.A0 (below_step (by exact XPrint.bz HB.out) hb); (try clear hb); (try clear hb2); (try clear hk); (try clear hi)))
            go_ret
            exact ⟨by first | rfl | (simp [errW_none, errW_some] <;> rfl) | (simp [*, errW_none, errW_some] <;> rfl), by exact XPrint.bz HB.out⟩
           ·rw [if_neg c50] at H
            exact absurd H (by simp)
          ·rw [if_neg c48] at H
           exact absurd H (by simp)
         ·replace c46 := Bool.eq_false_iff.mpr c46
          subst c46
          have H1 := H; rw [if_neg (show ¬ (false = true) by decide)] at H1
          clear H
          have H := H1
          clear H1
          exact absurd H (by simp)
        ·rw [if_neg c43] at H
         have c43b0 : (t241 == 0) = false := beq_eq_false_iff_ne.mpr c43
         have c43b1 : (t241 != 0) = true := bne_iff_ne.mpr c43
         by_cases c61 : (t233.length : Int) = 0
         ·rw [if_pos c61] at H
          have c61b0 : ((t233.length : Int) == 0) = true := beq_iff_eq.mpr c61
          have c61b1 : ((t233.length : Int) != 0) = false := bne_eq_false_iff_eq.mpr c61
          clear c61
          by_cases c62 : t237 = 0
          ·rw [if_pos c62] at H
           have c62b0 : (t237 == 0) = true := beq_iff_eq.mpr c62
           have c62b1 : (t237 != 0) = false := bne_eq_false_iff_eq.mpr c62
           clear c62
           by_cases c63 : t239 = 0
           ·rw [if_pos c63] at H
            have c63b0 : (t239 == 0) = true := beq_iff_eq.mpr c63
            have c63b1 : (t239 != 0) = false := bne_eq_false_iff_eq.mpr c63
            clear c63
            replace H := Option.bind_eq_some_iff.mp H
            obtain ⟨t242, A640, H⟩ := H
            try set_option simprocs false in dsimp only at H
            have A64 := XPrint.A0 A640
            clear A640
            obtain rfl := Option.some.inj H
            obtain ⟨Ao65, co65, eo65⟩ := Kd.R_slice HO_9.out
            subst eo65
            go_wp2_with (first | (go_at_call 32; (with_reducible refine (liverylaw08_head.calls kj30  t242 _ A64.out).mono ?_); rintro e w66 ⟨rfl, hb⟩; replace HO_9 := XPrint.A0 (Kd.R_below (by (with_reducible repeat (first | apply Kd.R_alloc | apply Kd.R_drewN | apply Kd.R_drew)); exact HO_9.out) hb); replace BK220 := XPrint.A0 (XPrint.ab BK220.out hb); replace HB := XPrint.A0 (below_step (by exact XPrint.bz HB.out) hb); (try clear hb); (try clear hb2); (try clear hk); (try clear hi)))
            go_ret
            exact ⟨by first | rfl | (simp [errW_none, errW_some] <;> rfl) | (simp [*, errW_none, errW_some] <;> rfl), by exact XPrint.bz HB.out⟩
           ·rw [if_neg c63] at H
            exact absurd H (by simp)
          ·rw [if_neg c62] at H
           exact absurd H (by simp)
         ·rw [if_neg c61] at H
          exact absurd H (by simp)

end Go.Proofs.Ytkaokiiooakleaa.PShapeTells
