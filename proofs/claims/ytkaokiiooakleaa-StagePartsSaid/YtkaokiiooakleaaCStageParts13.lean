-- printed by this session's own driver over the kit's printer: Lean checks it
import Derived.Test.YtkaokiiooakleaaCStageParts0
import Derived.Test.YtkaokiiooakleaaCStageParts2
import Derived.Test.YtkaokiiooakleaaCStageParts4
import Derived.Test.YtkaokiiooakleaaCStageParts11
import Derived.Test.YtkaokiiooakleaaCStageParts12
namespace Go.Proofs.Ytkaokiiooakleaa.PStageParts
open Go.RowKit Go.Proofs.YtkaokiiooakleaaW.PrintWords Go.Proofs.YtkaokiiooakleaaW.PrintLast Go.Proofs.YtkaokiiooakleaaW.PrintMore
attribute [local go_sem] max2_int min2_int max_two min_two max_three min_three max_four min_four   -- for this text's walks alone
set_option linter.unusedVariables false
set_option linter.unusedSimpArgs false

/-! ### liverylaw18_StageParts: function 13 -/
mutual
def liverylaw18_StageParts.l0 : Nat → Int → List Int → List Int → Int → Int → Int → Int → Int → Int → List (S65) → Option (Bool)
 | 0, _, _, _, _, _, _, _, _, _, _ => none
 | k + 1, x1, x5, x8, x9, x10, x11, x12, x238000, x238001, x238002 => if x12 < (x5.length : Int) then (liverylaw18_StageParts.j1 k x1 x5 x8 x9 x10 x11 x12 (decide (x12 < (x8.length : Int))) x238000 x238001 x238002) else (liverylaw18_StageParts.j1 k x1 x5 x8 x9 x10 x11 x12 false x238000 x238001 x238002)
def liverylaw18_StageParts.j1 : Nat → Int → List Int → List Int → Int → Int → Int → Int → Bool → Int → Int → List (S65) → Option (Bool)
 | 0, _, _, _, _, _, _, _, _, _, _, _ => none
 | k + 1, x1, x5, x8, x9, x10, x11, x12, x73, x238000, x238001, x238002 => if x73 = true then (if 0 ≤ x12 then (if x12 < (x8.length : Int) then ((sat_Short.f k x238000 x238001 x238002 (rd x8 x12)).bind fun bt244 => (if bt244.2 = 0 then (if x12 < (x5.length : Int) then (if bt244.1 = (rd x5 x12) then (liverylaw18_StageParts.l0 k x1 x5 x8 x9 x10 (wrap64 (x11 + bt244.1)) (wrap64 (x12 + 1)) x238000 x238001 x238002) else (none)) else (none)) else (none))) else (none)) else (none)) else (if x10 = 0 then (if x11 = x9 then (liverylaw18_StageParts.j2 k x1 x5 x11 ((x5.length : Int) != (x8.length : Int))) else (none)) else (none))
def liverylaw18_StageParts.j2 : Nat → Int → List Int → Int → Bool → Option (Bool)
 | 0, _, _, _, _ => none
 | k + 1, x1, x5, x11, x111 => if x111 = true then (none) else ((stage_Split.f k 7 (wrap64 ((wrap64 (7 + x11)) + (wrap64 (Int.tmod x1 100)))) x5 (Int.tmod x1 3)).bind fun bt248 => (if bt248.2 = 2 then (if (wrap64 ((wrap64 ((wrap64 (7 + x11)) + (wrap64 (Int.tmod x1 100)))) - 7)) > 4096 then ((liverylaw18_head.f k).bind fun t252 => (some t252)) else ((liverylaw18_big.f k x5).bind fun t253 => (if t253 = true then ((liverylaw18_head.f k).bind fun t254 => (some t254)) else (none)))) else (if bt248.2 = 0 then (if (bt248.1.length : Int) = (x5.length : Int) then ((liverylaw18_head.f k).bind fun t255 => (some t255)) else (none)) else (none))))
end
def liverylaw18_StageParts.f (k : Nat) (a0_0 : Int) (a0_1 : Int) (l0_2 : List (S65)) (a0_3 : Int) (a1 : Int) : Option (Bool) := if (l0_2.length : Int) > 100 then ((liverylaw18_head.f k).bind fun t230 => (some t230)) else ((stage_Lengths.f k a0_0 a0_1 l0_2 a0_3).bind fun bt231 => (if bt231.2 = 0 then ((liveryref08_Kids.f k l0_2 a0_3).bind fun t238 => ((sat_Short.f k 0 1 l0_2 a0_3).bind fun bt241 => (liverylaw18_StageParts.l0 k a1 bt231.1 t238 bt241.1 bt241.2 0 0 0 1 l0_2))) else (if bt231.2 = 81 then (if (bt231.1.length : Int) = 0 then ((liverylaw18_head.f k).bind fun t235 => (some t235)) else (none)) else (if bt231.2 = 2 then (if (bt231.1.length : Int) = 0 then ((liverylaw18_head.f k).bind fun t236 => (some t236)) else (none)) else (none)))))
theorem liverylaw18_StageParts.mono_l : ∀ k, (∀ y0 y1 y2 y3 y4 y5 y6 y7 y8 y9, LeO (liverylaw18_StageParts.l0 k y0 y1 y2 y3 y4 y5 y6 y7 y8 y9) (liverylaw18_StageParts.l0 (k + 1) y0 y1 y2 y3 y4 y5 y6 y7 y8 y9)) ∧ (∀ y0 y1 y2 y3 y4 y5 y6 y7 y8 y9 y10, LeO (liverylaw18_StageParts.j1 k y0 y1 y2 y3 y4 y5 y6 y7 y8 y9 y10) (liverylaw18_StageParts.j1 (k + 1) y0 y1 y2 y3 y4 y5 y6 y7 y8 y9 y10)) ∧ (∀ y0 y1 y2 y3, LeO (liverylaw18_StageParts.j2 k y0 y1 y2 y3) (liverylaw18_StageParts.j2 (k + 1) y0 y1 y2 y3))
 | 0 => ⟨fun _ _ _ _ _ _ _ _ _ _ r h => by simp [liverylaw18_StageParts.l0] at h, fun _ _ _ _ _ _ _ _ _ _ _ r h => by simp [liverylaw18_StageParts.j1] at h, fun _ _ _ _ r h => by simp [liverylaw18_StageParts.j2] at h⟩
 | k + 1 => by
  obtain ⟨ih0, ih1, ih2⟩ := liverylaw18_StageParts.mono_l k
  refine ⟨?_, ?_, ?_⟩
  ·intro y0 y1 y2 y3 y4 y5 y6 y7 y8 y9
   unfold liverylaw18_StageParts.l0
   repeat' first
   | (with_reducible exact ih0 _ _ _ _ _ _ _ _ _ _)
   | (with_reducible exact ih1 _ _ _ _ _ _ _ _ _ _ _)
   | (with_reducible exact ih2 _ _ _ _)
   | (with_reducible exact liverylaw18_big.mono _ _)
   | (with_reducible exact liverylaw18_head.mono _)
   | (with_reducible exact liveryref08_Kids.mono _ _ _)
   | (with_reducible exact sat_Short.mono _ _ _ _ _)
   | (with_reducible exact stage_Lengths.mono _ _ _ _ _)
   | (with_reducible exact stage_Split.mono _ _ _ _ _)
   | (with_reducible exact LeO.refl _)
   | (with_reducible exact LeO.none _)
   | (with_reducible refine LeO.ite ?_ ?_)
   | (with_reducible refine LeO.bind ?_ (fun _ => ?_))
   | exact ih0 _ _ _ _ _ _ _ _ _ _
   | exact ih1 _ _ _ _ _ _ _ _ _ _ _
   | exact ih2 _ _ _ _
   | exact liverylaw18_big.mono _ _
   | exact liverylaw18_head.mono _
   | exact liveryref08_Kids.mono _ _ _
   | exact sat_Short.mono _ _ _ _ _
   | exact stage_Lengths.mono _ _ _ _ _
   | exact stage_Split.mono _ _ _ _ _
   | exact LeO.none _
   | refine LeO.ite ?_ ?_
   | refine LeO.bind ?_ (fun _ => ?_)
  ·intro y0 y1 y2 y3 y4 y5 y6 y7 y8 y9 y10
   unfold liverylaw18_StageParts.j1
   repeat' first
   | (with_reducible exact ih0 _ _ _ _ _ _ _ _ _ _)
   | (with_reducible exact ih1 _ _ _ _ _ _ _ _ _ _ _)
   | (with_reducible exact ih2 _ _ _ _)
   | (with_reducible exact liverylaw18_big.mono _ _)
   | (with_reducible exact liverylaw18_head.mono _)
   | (with_reducible exact liveryref08_Kids.mono _ _ _)
   | (with_reducible exact sat_Short.mono _ _ _ _ _)
   | (with_reducible exact stage_Lengths.mono _ _ _ _ _)
   | (with_reducible exact stage_Split.mono _ _ _ _ _)
   | (with_reducible exact LeO.refl _)
   | (with_reducible exact LeO.none _)
   | (with_reducible refine LeO.ite ?_ ?_)
   | (with_reducible refine LeO.bind ?_ (fun _ => ?_))
   | exact ih0 _ _ _ _ _ _ _ _ _ _
   | exact ih1 _ _ _ _ _ _ _ _ _ _ _
   | exact ih2 _ _ _ _
   | exact liverylaw18_big.mono _ _
   | exact liverylaw18_head.mono _
   | exact liveryref08_Kids.mono _ _ _
   | exact sat_Short.mono _ _ _ _ _
   | exact stage_Lengths.mono _ _ _ _ _
   | exact stage_Split.mono _ _ _ _ _
   | exact LeO.none _
   | refine LeO.ite ?_ ?_
   | refine LeO.bind ?_ (fun _ => ?_)
  ·intro y0 y1 y2 y3
   unfold liverylaw18_StageParts.j2
   repeat' first
   | (with_reducible exact ih0 _ _ _ _ _ _ _ _ _ _)
   | (with_reducible exact ih1 _ _ _ _ _ _ _ _ _ _ _)
   | (with_reducible exact ih2 _ _ _ _)
   | (with_reducible exact liverylaw18_big.mono _ _)
   | (with_reducible exact liverylaw18_head.mono _)
   | (with_reducible exact liveryref08_Kids.mono _ _ _)
   | (with_reducible exact sat_Short.mono _ _ _ _ _)
   | (with_reducible exact stage_Lengths.mono _ _ _ _ _)
   | (with_reducible exact stage_Split.mono _ _ _ _ _)
   | (with_reducible exact LeO.refl _)
   | (with_reducible exact LeO.none _)
   | (with_reducible refine LeO.ite ?_ ?_)
   | (with_reducible refine LeO.bind ?_ (fun _ => ?_))
   | exact ih0 _ _ _ _ _ _ _ _ _ _
   | exact ih1 _ _ _ _ _ _ _ _ _ _ _
   | exact ih2 _ _ _ _
   | exact liverylaw18_big.mono _ _
   | exact liverylaw18_head.mono _
   | exact liveryref08_Kids.mono _ _ _
   | exact sat_Short.mono _ _ _ _ _
   | exact stage_Lengths.mono _ _ _ _ _
   | exact stage_Split.mono _ _ _ _ _
   | exact LeO.none _
   | refine LeO.ite ?_ ?_
   | refine LeO.bind ?_ (fun _ => ?_)
theorem liverylaw18_StageParts.mono : ∀ a0 a1 a2 a3 a4 k, LeO (liverylaw18_StageParts.f k a0 a1 a2 a3 a4) (liverylaw18_StageParts.f (k + 1) a0 a1 a2 a3 a4) := by
 intro a0 a1 a2 a3 a4 k
 obtain ⟨ih0, ih1, ih2⟩ := liverylaw18_StageParts.mono_l k
 unfold liverylaw18_StageParts.f
 repeat' first
   | (with_reducible exact ih0 _ _ _ _ _ _ _ _ _ _)
   | (with_reducible exact ih1 _ _ _ _ _ _ _ _ _ _ _)
   | (with_reducible exact ih2 _ _ _ _)
   | (with_reducible exact liverylaw18_big.mono _ _)
   | (with_reducible exact liverylaw18_head.mono _)
   | (with_reducible exact liveryref08_Kids.mono _ _ _)
   | (with_reducible exact sat_Short.mono _ _ _ _ _)
   | (with_reducible exact stage_Lengths.mono _ _ _ _ _)
   | (with_reducible exact stage_Split.mono _ _ _ _ _)
   | (with_reducible exact LeO.refl _)
   | (with_reducible exact LeO.none _)
   | (with_reducible refine LeO.ite ?_ ?_)
   | (with_reducible refine LeO.bind ?_ (fun _ => ?_))
   | exact ih0 _ _ _ _ _ _ _ _ _ _
   | exact ih1 _ _ _ _ _ _ _ _ _ _ _
   | exact ih2 _ _ _ _
   | exact liverylaw18_big.mono _ _
   | exact liverylaw18_head.mono _
   | exact liveryref08_Kids.mono _ _ _
   | exact sat_Short.mono _ _ _ _ _
   | exact stage_Lengths.mono _ _ _ _ _
   | exact stage_Split.mono _ _ _ _ _
   | exact LeO.none _
   | refine LeO.ite ?_ ?_
   | refine LeO.bind ?_ (fun _ => ?_)
def liverylaw18_StageParts.T15 : Bool × List (List Nat × List Nat) := (true, [([], []), ([], []), ([], []), ([1, 2], [1, 2]), ([3], [3]), ([0, 4], [0, 4]), ([5], [5]), ([6], [6]), ([6], [6]), ([7, 5, 0, 1, 2, 3, 4, 5, 6, 7], [7]), ([8, 9, 0, 1, 2, 3, 4, 5, 6, 7, 8, 9], [8])])
def liverylaw18_StageParts.B15 : List Nat := [0, 0, 0, 6, 14, 31, 63, 127, 127, 255, 1023]
theorem liverylaw18_StageParts.tab15 : rtab .any (opsOf Try.f13 15) = liverylaw18_StageParts.T15 := by kernel_rfl
theorem liverylaw18_StageParts.bits15 : waitsOk liverylaw18_StageParts.T15.2 liverylaw18_StageParts.B15 = true := by kernel_rfl
set_option maxHeartbeats 8000000 in
set_option maxRecDepth 100000 in
theorem liverylaw18_StageParts.calls (k : Nat) (a0_0 : Int) (a0_1 : Int) (A0_2 : Option Addr) (c0_2 : Nat) (l0_2 : List (S65)) (a0_3 : Int) (a1 : Int) (r : Bool) (w : World) (hr0_2 : Kd.C k65 w A0_2 l0_2.length l0_2) (hc0_2 : l0_2.length ≤ c0_2) (h : liverylaw18_StageParts.f k a0_0 a0_1 l0_2 a0_3 a1 = some r) :
  Calls Try.prog 13 #[.agg #[.int .i64 a0_0, .int .i64 a0_1, .slice A0_2 l0_2.length c0_2, .int .i64 a0_3], .int .u8 a1] w fun e w' => e = .returned (.bool r) ∧ Below w.heap.size w w' := by
 have hu79 := Try.underlying79
 have hu50 := Try.underlying50
 have hu71 := Try.underlying71
 have HR0_2 := XPrint.A0 hr0_2
 have HC0_2 := XPrint.A0 hc0_2
 clear hr0_2 hc0_2
 have HB := XPrint.A0 (Below.refl w.heap.size w)
 have H : (if (l0_2.length : Int) > 100 then ((liverylaw18_head.f k).bind fun t230 => (some t230)) else ((stage_Lengths.f k a0_0 a0_1 l0_2 a0_3).bind fun bt231 => (if bt231.2 = 0 then ((liveryref08_Kids.f k l0_2 a0_3).bind fun t238 => ((sat_Short.f k 0 1 l0_2 a0_3).bind fun bt241 => (liverylaw18_StageParts.l0 k a1 bt231.1 t238 bt241.1 bt241.2 0 0 0 1 l0_2))) else (if bt231.2 = 81 then (if (bt231.1.length : Int) = 0 then ((liverylaw18_head.f k).bind fun t235 => (some t235)) else (none)) else (if bt231.2 = 2 then (if (bt231.1.length : Int) = 0 then ((liverylaw18_head.f k).bind fun t236 => (some t236)) else (none)) else (none)))))) = some r := h
 clear h
 by_cases c3 : (l0_2.length : Int) > 100
 ·rw [if_pos c3] at H
  have c3b0 : decide (100 < (l0_2.length : Int)) = true := decide_eq_true c3
  have c3b1 : decide (100 < l0_2.length) = true := decide_eq_true (by omega)
  clear c3
  replace H := Option.bind_eq_some_iff.mp H
  obtain ⟨t230, A40, H⟩ := H
  try set_option simprocs false in dsimp only at H
  have A4 := XPrint.A0 A40
  clear A40
  obtain rfl := Option.some.inj H
  go_enter Try.func13, Try.ntmps13
  go_wp2_with (first | ((with_reducible refine gate_dst (N := 2) rfl ?_); (try (refine gate_guard (by rfl) ?_; dsimp only)); refine box_event ?hg (N := 2) ?hd (cs := #[.int .i64 a0_0, .int .i64 a0_1, .slice A0_2 l0_2.length c0_2, .int .i64 a0_3]) (t := 79) ?hr ?_; (case hd => rfl); (case hg => rfl); (case hr => first | (go_simp; done) | (go_simp; rfl)); intro gb229 hg w5 hbox hb; have BK229 := XPrint.A0 (hbox); have GW229 := XPrint.A0 (XPrint.gz HB.out hg); have GE229 := XPrint.A0 (XPrint.gz HB.out hg); replace HB := XPrint.A0 (below_step (by exact XPrint.bz HB.out) hb); clear hb hbox hg; have hcz6_0 : w5.cell? ⟨gb229, 0, none⟩ = some (.int .i64 a0_0) := (blk_cell BK229.out 0).trans rfl; have hcz6_1 : w5.cell? ⟨gb229, 1, none⟩ = some (.int .i64 a0_1) := (blk_cell BK229.out 1).trans rfl; have hcz6_2 : w5.cell? ⟨gb229, 2, none⟩ = some (.slice A0_2 l0_2.length c0_2) := (blk_cell BK229.out 2).trans rfl; have hcz6_3 : w5.cell? ⟨gb229, 3, none⟩ = some (.int .i64 a0_3) := (blk_cell BK229.out 3).trans rfl; have hfz6_0 := blk_frozen BK229.out 0; have hfz6_1 := blk_frozen BK229.out 1; have hfz6_2 := blk_frozen BK229.out 2; have hfz6_3 := blk_frozen BK229.out 3) | ((with_reducible refine gate_callee (f := 46) rfl ?_); refine XPrint.gl (some 23) Try.func46 #[] ?_; (with_reducible refine (liverylaw18_head.calls k  t230 _ A4.out).mono ?_); rintro e w7 ⟨rfl, hb⟩; refine ⟨_, rfl, ?_⟩; replace BK229 := XPrint.A0 (XPrint.ab BK229.out hb); replace HB := XPrint.A0 (below_step (by exact XPrint.bz HB.out) hb); (try clear hb); (try clear hb2); (try clear hk); (try clear hi)))
  go_ret
  exact ⟨by first | rfl | (simp [errW_none, errW_some] <;> rfl) | (simp [*, errW_none, errW_some] <;> rfl), by exact XPrint.bz HB.out⟩
 ·rw [if_neg c3] at H
  have c3b0 : decide (100 < (l0_2.length : Int)) = false := decide_eq_false c3
  have c3b1 : decide (100 < l0_2.length) = false := decide_eq_false (by omega)
  clear c3
  replace H := Option.bind_eq_some_iff.mp H
  obtain ⟨⟨t231, t234⟩, A80, H⟩ := H
  replace H : (if t234 = 0 then ((liveryref08_Kids.f k l0_2 a0_3).bind fun t238 => ((sat_Short.f k 0 1 l0_2 a0_3).bind fun bt241 => (liverylaw18_StageParts.l0 k a1 t231 t238 bt241.1 bt241.2 0 0 0 1 l0_2))) else (if t234 = 81 then (if (t231.length : Int) = 0 then ((liverylaw18_head.f k).bind fun t235 => (some t235)) else (none)) else (if t234 = 2 then (if (t231.length : Int) = 0 then ((liverylaw18_head.f k).bind fun t236 => (some t236)) else (none)) else (none)))) = some r := H
  have A8 := XPrint.A0 A80
  clear A80
  by_cases c9 : t234 = 0
  ·rw [if_pos c9] at H
   have c9b0 : (t234 == 0) = true := beq_iff_eq.mpr c9
   have c9b1 : (t234 != 0) = false := bne_eq_false_iff_eq.mpr c9
   clear c9
   replace H := Option.bind_eq_some_iff.mp H
   obtain ⟨t238, A100, H⟩ := H
   try set_option simprocs false in dsimp only at H
   have A10 := XPrint.A0 A100
   clear A100
   replace H := Option.bind_eq_some_iff.mp H
   obtain ⟨⟨t241, t242⟩, A110, H⟩ := H
   replace H : (liverylaw18_StageParts.l0 k a1 t231 t238 t241 t242 0 0 0 1 l0_2) = some r := H
   have A11 := XPrint.A0 A110
   clear A110
   have H' := XPrint.A0 H
   clear H
   go_enter Try.func13, Try.ntmps13
   go_wp2_with (first | ((with_reducible refine gate_dst (N := 2) rfl ?_); (try (refine gate_guard (by rfl) ?_; dsimp only)); refine box_event ?hg (N := 2) ?hd (cs := #[.int .i64 a0_0, .int .i64 a0_1, .slice A0_2 l0_2.length c0_2, .int .i64 a0_3]) (t := 79) ?hr ?_; (case hd => rfl); (case hg => rfl); (case hr => first | (go_simp; done) | (go_simp; rfl)); intro gb229 hg w12 hbox hb; have BK229 := XPrint.A0 (hbox); have GW229 := XPrint.A0 (XPrint.gz HB.out hg); have GE229 := XPrint.A0 (XPrint.gz HB.out hg); replace HB := XPrint.A0 (below_step (by exact XPrint.bz HB.out) hb); clear hb hbox hg; have hcz13_0 : w12.cell? ⟨gb229, 0, none⟩ = some (.int .i64 a0_0) := (blk_cell BK229.out 0).trans rfl; have hcz13_1 : w12.cell? ⟨gb229, 1, none⟩ = some (.int .i64 a0_1) := (blk_cell BK229.out 1).trans rfl; have hcz13_2 : w12.cell? ⟨gb229, 2, none⟩ = some (.slice A0_2 l0_2.length c0_2) := (blk_cell BK229.out 2).trans rfl; have hcz13_3 : w12.cell? ⟨gb229, 3, none⟩ = some (.int .i64 a0_3) := (blk_cell BK229.out 3).trans rfl; have hfz13_0 := blk_frozen BK229.out 0; have hfz13_1 := blk_frozen BK229.out 1; have hfz13_2 := blk_frozen BK229.out 2; have hfz13_3 := blk_frozen BK229.out 3) | ((with_reducible refine gate_callee (f := 48) rfl ?_); refine XPrint.gl (some 29) Try.func48 #[.agg #[.int .i64 a0_0, .int .i64 a0_1, .slice A0_2 l0_2.length c0_2], .int .i64 a0_3] ?_; (with_reducible refine (stage_Lengths.calls k a0_0 a0_1 _ _ l0_2 a0_3 t231 t234 _ ?side1 ?side2 A8.out).mono ?_); (case side1 => repeat (first | exact (Kd.C_below HR0_2.out HB.out) | (with_reducible refine Kd.C_alloc ?_ _) | (with_reducible refine Kd.C_drewN ?_ _) | (with_reducible refine Kd.C_drew ?_))); (case side2 => exact HC0_2.out); rintro e w14 ⟨v232, rfl, ho0, hb⟩; refine ⟨_, rfl, ?_⟩; have HO233 := XPrint.A0 (Kd.R_lower ho0 (below_size (by exact XPrint.bz HB.out))); replace BK229 := XPrint.A0 (XPrint.ab BK229.out hb); replace HB := XPrint.A0 (below_step (by exact XPrint.bz HB.out) hb); (try clear hb); (try clear hb2); (try clear hk); (try clear hi); (try clear ho0); have hcz15_0 : w14.cell? ⟨gb229, 0, none⟩ = some (.int .i64 a0_0) := (blk_cell BK229.out 0).trans rfl; have hcz15_1 : w14.cell? ⟨gb229, 1, none⟩ = some (.int .i64 a0_1) := (blk_cell BK229.out 1).trans rfl; have hcz15_2 : w14.cell? ⟨gb229, 2, none⟩ = some (.slice A0_2 l0_2.length c0_2) := (blk_cell BK229.out 2).trans rfl; have hcz15_3 : w14.cell? ⟨gb229, 3, none⟩ = some (.int .i64 a0_3) := (blk_cell BK229.out 3).trans rfl; have hfz15_0 := blk_frozen BK229.out 0; have hfz15_1 := blk_frozen BK229.out 1; have hfz15_2 := blk_frozen BK229.out 2; have hfz15_3 := blk_frozen BK229.out 3) | ((with_reducible refine gate_dst (N := 7) rfl ?_); (try (refine gate_guard (by rfl) ?_; dsimp only)); refine box_event ?hg (N := 7) ?hd (cs := #[.int .i64 0, .int .i64 0, .slice none 0 0]) (t := 50) ?hr ?_; (case hd => rfl); (case hg => rfl); (case hr => first | (go_simp; done) | (go_simp; rfl)); intro gb237 hg w16 hbox hb; have BK237 := XPrint.A0 (hbox); have GW237 := XPrint.A0 (XPrint.gz HB.out hg); have GE237 := XPrint.A0 (XPrint.gz HB.out hg); have NB229_237 := XPrint.A1 (by rw [hg]; exact Nat.ne_of_lt (XPrint.al BK229.out) : gb229 ≠ gb237); have NB237_229 := XPrint.A1 (by rw [hg]; exact Nat.ne_of_gt (XPrint.al BK229.out) : gb237 ≠ gb229); replace HO233 := XPrint.A0 (XPrint.rb HO233.out hb); replace BK229 := XPrint.A0 (XPrint.ab BK229.out hb); replace HB := XPrint.A0 (below_step (by exact XPrint.bz HB.out) hb); clear hb hbox hg; have hnb17 := NB237_229.out; have hnc17 := NB229_237.out; have hcz18_0 : w16.cell? ⟨gb237, 0, none⟩ = some (.int .i64 0) := (blk_cell BK237.out 0).trans rfl; have hcz18_1 : w16.cell? ⟨gb237, 1, none⟩ = some (.int .i64 0) := (blk_cell BK237.out 1).trans rfl; have hcz18_2 : w16.cell? ⟨gb237, 2, none⟩ = some (.slice none 0 0) := (blk_cell BK237.out 2).trans rfl; have hfz18_0 := blk_frozen BK237.out 0; have hfz18_1 := blk_frozen BK237.out 1; have hfz18_2 := blk_frozen BK237.out 2; have hcz19_0 : w16.cell? ⟨gb229, 0, none⟩ = some (.int .i64 a0_0) := (blk_cell BK229.out 0).trans rfl; have hcz19_1 : w16.cell? ⟨gb229, 1, none⟩ = some (.int .i64 a0_1) := (blk_cell BK229.out 1).trans rfl; have hcz19_2 : w16.cell? ⟨gb229, 2, none⟩ = some (.slice A0_2 l0_2.length c0_2) := (blk_cell BK229.out 2).trans rfl; have hcz19_3 : w16.cell? ⟨gb229, 3, none⟩ = some (.int .i64 a0_3) := (blk_cell BK229.out 3).trans rfl; have hfz19_0 := blk_frozen BK229.out 0; have hfz19_1 := blk_frozen BK229.out 1; have hfz19_2 := blk_frozen BK229.out 2; have hfz19_3 := blk_frozen BK229.out 3) | ((with_reducible refine gate_callee (f := 42) rfl ?_); refine XPrint.gl (some 56) Try.func42 #[.slice A0_2 l0_2.length c0_2, .int .i64 a0_3] ?_; (with_reducible refine (liveryref08_Kids.calls k _ _ l0_2 a0_3 t238 _ ?side1 ?side2 A10.out).mono ?_); (case side1 => exact Kd.C_below HR0_2.out (by repeat (first | (with_reducible first | exact HB.out | apply below_alloc | apply pw_below_drewN | apply below_drew1 | refine below_set ?_ GE229.out | refine below_set ?_ GE237.out) | exact HB.out))); (case side2 => exact HC0_2.out); rintro e w20 ⟨v239, rfl, ho0, hb⟩; refine ⟨_, rfl, ?_⟩; have HO240 := XPrint.A0 (Kd.R_lower ho0 (below_size (by repeat (first | (with_reducible first | exact HB.out | apply below_alloc | apply pw_below_drewN | apply below_drew1 | refine below_set ?_ GE229.out | refine below_set ?_ GE237.out) | exact HB.out)))); replace HO233 := XPrint.A0 (Kd.R_below (by (with_reducible repeat (first | apply Kd.R_alloc | apply Kd.R_drewN | apply Kd.R_drew)); exact (Kd.R_mono (Kd.R_far (p := ⟨gb237, 1, none⟩) (Kd.R_far (p := ⟨gb237, 0, none⟩) (Kd.R_far (p := ⟨gb237, 2, none⟩) (Kd.R_far (p := ⟨gb237, 1, none⟩) (Kd.R_far (p := ⟨gb237, 0, none⟩) (Kd.R_types HO233.out BK237.out (by decide)) (fun _ hk => hk.2) (.int .i64 a0_0)) (fun _ hk => hk.2) (.int .i64 a0_1)) (fun _ hk => hk.2) (.slice A0_2 l0_2.length c0_2)) (fun _ hk => hk.2) (.int .i64 0)) (fun _ hk => hk.2) (.int .i64 1)) (fun _ h_ => by first | exact h_.1 | (simp only [XPrint.own_slice] at h_ ⊢; exact h_.1)))) hb); replace BK229 := XPrint.A0 (XPrint.ab BK229.out hb); replace BK237 := XPrint.A0 (blk_below (g := gb237) (o := .cells #[.int .i64 0, .int .i64 1, .slice A0_2 l0_2.length c0_2] 50 (0, 0)) (by (repeat with_reducible first | refine XPrint.d1 ?_ | refine XPrint.d2 ?_ _ | refine XPrint.d3 ?_ _); refine blk_put (cs := #[.int .i64 0, .int .i64 a0_1, .slice A0_2 l0_2.length c0_2]) ?_ 1 _ rfl; (repeat with_reducible first | refine XPrint.d1 ?_ | refine XPrint.d2 ?_ _ | refine XPrint.d3 ?_ _); refine blk_put (cs := #[.int .i64 a0_0, .int .i64 a0_1, .slice A0_2 l0_2.length c0_2]) ?_ 0 _ rfl; (repeat with_reducible first | refine XPrint.d1 ?_ | refine XPrint.d2 ?_ _ | refine XPrint.d3 ?_ _); refine blk_put (cs := #[.int .i64 a0_0, .int .i64 a0_1, .slice none 0 0]) ?_ 2 _ rfl; (repeat with_reducible first | refine XPrint.d1 ?_ | refine XPrint.d2 ?_ _ | refine XPrint.d3 ?_ _); refine blk_put (cs := #[.int .i64 a0_0, .int .i64 0, .slice none 0 0]) ?_ 1 _ rfl; (repeat with_reducible first | refine XPrint.d1 ?_ | refine XPrint.d2 ?_ _ | refine XPrint.d3 ?_ _); refine blk_put (cs := #[.int .i64 0, .int .i64 0, .slice none 0 0]) ?_ 0 _ rfl; (repeat with_reducible first | refine XPrint.d1 ?_ | refine XPrint.d2 ?_ _ | refine XPrint.d3 ?_ _); exact BK237.out) hb); replace HB := XPrint.A0 (below_step (by repeat (first | (with_reducible first | exact HB.out | apply below_alloc | apply pw_below_drewN | apply below_drew1 | refine below_set ?_ GE229.out | refine below_set ?_ GE237.out) | exact HB.out)) hb); (try clear hb); (try clear hb2); (try clear hk); (try clear hi); (try clear ho0); have hcz21_0 : w20.cell? ⟨gb237, 0, none⟩ = some (.int .i64 0) := (blk_cell BK237.out 0).trans rfl; have hcz21_1 : w20.cell? ⟨gb237, 1, none⟩ = some (.int .i64 1) := (blk_cell BK237.out 1).trans rfl; have hcz21_2 : w20.cell? ⟨gb237, 2, none⟩ = some (.slice A0_2 l0_2.length c0_2) := (blk_cell BK237.out 2).trans rfl; have hfz21_0 := blk_frozen BK237.out 0; have hfz21_1 := blk_frozen BK237.out 1; have hfz21_2 := blk_frozen BK237.out 2; have hcz22_0 : w20.cell? ⟨gb229, 0, none⟩ = some (.int .i64 a0_0) := (blk_cell BK229.out 0).trans rfl; have hcz22_1 : w20.cell? ⟨gb229, 1, none⟩ = some (.int .i64 a0_1) := (blk_cell BK229.out 1).trans rfl; have hcz22_2 : w20.cell? ⟨gb229, 2, none⟩ = some (.slice A0_2 l0_2.length c0_2) := (blk_cell BK229.out 2).trans rfl; have hcz22_3 : w20.cell? ⟨gb229, 3, none⟩ = some (.int .i64 a0_3) := (blk_cell BK229.out 3).trans rfl; have hfz22_0 := blk_frozen BK229.out 0; have hfz22_1 := blk_frozen BK229.out 1; have hfz22_2 := blk_frozen BK229.out 2; have hfz22_3 := blk_frozen BK229.out 3) | ((with_reducible refine gate_callee (f := 49) rfl ?_); refine XPrint.gl (some 61) Try.func49 #[.agg #[.int .i64 0, .int .i64 1, .slice A0_2 l0_2.length c0_2], .int .i64 a0_3] ?_; (with_reducible refine (sat_Short.calls k 0 1 _ _ l0_2 a0_3 t241 t242 _ ?side1 ?side2 A11.out).mono ?_); (case side1 => repeat (first | exact (Kd.C_below HR0_2.out HB.out) | (with_reducible refine Kd.C_alloc ?_ _) | (with_reducible refine Kd.C_drewN ?_ _) | (with_reducible refine Kd.C_drew ?_))); (case side2 => exact HC0_2.out); rintro e w23 ⟨rfl, hb⟩; refine ⟨_, rfl, ?_⟩; replace HO233 := XPrint.A0 (XPrint.rb HO233.out hb); replace HO240 := XPrint.A0 (XPrint.rb HO240.out hb); replace BK229 := XPrint.A0 (XPrint.ab BK229.out hb); replace BK237 := XPrint.A0 (XPrint.ab BK237.out hb); replace HB := XPrint.A0 (below_step (by exact XPrint.bz HB.out) hb); (try clear hb); (try clear hb2); (try clear hk); (try clear hi)))
   go_loopg [11, 12] k (fun kq v11 v12 w' => ∃ (x11_1 : Int) (x12_1 : Int), v11 = .int .i64 x11_1 ∧ v12 = .int .i64 x12_1 ∧ Aside0 (liverylaw18_StageParts.l0 kq a1 t231 t238 t241 t242 x11_1 x12_1 0 1 l0_2 = some r) ∧ Aside0 (kq ≤ k) ∧ Aside0 (Kd.R (Kd.int .i64) 2 w' w.heap.size (fun _ => True) v232 t231) ∧ Aside0 (Kd.R (Kd.int .i64) 3 w' w.heap.size (fun _ => True) v239 t238) ∧ Aside0 (w'.heap[gb229]? = some (.cells #[.int .i64 a0_0, .int .i64 a0_1, (.slice A0_2 l0_2.length c0_2), .int .i64 a0_3] 79 (0, 0))) ∧ Aside0 (w'.heap[gb237]? = some (.cells #[.int .i64 0, .int .i64 1, (.slice A0_2 l0_2.length c0_2)] 50 (0, 0))) ∧ Aside0 (Below w.heap.size w w'))
   case atStart => exact ⟨(0), (0), (by first | rfl | (simp; done) | (simp [*]; done)), (by first | rfl | (simp; done) | (simp [*]; done)), H', ⟨Nat.le_refl _⟩, ⟨by (with_reducible repeat (first | apply Kd.R_alloc | apply Kd.R_drewN | apply Kd.R_drew)); exact HO233.out⟩, ⟨by (with_reducible repeat (first | apply Kd.R_alloc | apply Kd.R_drewN | apply Kd.R_drew)); exact HO240.out⟩, ⟨by (repeat with_reducible first | refine XPrint.d1 ?_ | refine XPrint.d2 ?_ _ | refine XPrint.d3 ?_ _); exact BK229.out⟩, ⟨by (repeat with_reducible first | refine XPrint.d1 ?_ | refine XPrint.d2 ?_ _ | refine XPrint.d3 ?_ _); exact BK237.out⟩, ⟨by exact XPrint.bz HB.out⟩⟩
   case round =>
    clear H'
    try clear c1
    try clear p2
    try clear c3
    try clear c3b0
    try clear c3b1
    try clear c4
    try clear c9
    try clear c9b0
    try clear c9b1
    try clear c13
    try clear c17
    try clear hcz13_0
    try clear hcz13_1
    try clear hcz13_2
    try clear hcz13_3
    try clear hcz15_0
    try clear hcz15_1
    try clear hcz15_2
    try clear hcz15_3
    try clear hcz18_0
    try clear hcz18_1
    try clear hcz18_2
    try clear hcz19_0
    try clear hcz19_1
    try clear hcz19_2
    try clear hcz19_3
    try clear hcz21_0
    try clear hcz21_1
    try clear hcz21_2
    try clear hcz22_0
    try clear hcz22_1
    try clear hcz22_2
    try clear hcz22_3
    try clear hcz6_0
    try clear hcz6_1
    try clear hcz6_2
    try clear hcz6_3
    try clear hfz13_0
    try clear hfz13_1
    try clear hfz13_2
    try clear hfz13_3
    try clear hfz15_0
    try clear hfz15_1
    try clear hfz15_2
    try clear hfz15_3
    try clear hfz18_0
    try clear hfz18_1
    try clear hfz18_2
    try clear hfz19_0
    try clear hfz19_1
    try clear hfz19_2
    try clear hfz19_3
    try clear hfz21_0
    try clear hfz21_1
    try clear hfz21_2
    try clear hfz22_0
    try clear hfz22_1
    try clear hfz22_2
    try clear hfz22_3
    try clear hfz6_0
    try clear hfz6_1
    try clear hfz6_2
    try clear hfz6_3
    obtain ⟨x11_1, x12_1, rfl, rfl, HA, HK1, HO_5, HO_8, BK229, BK237, HB⟩ := hrel
    cases gk with
    | zero => exact absurd HA.out (by simp [liverylaw18_StageParts.l0])
    | succ k1 =>
     have H := HA.out
     clear HA
     simp only [liverylaw18_StageParts.l0] at H
     have HC24 := XPrint.A0 H
     clear H
     go_upto_region 13 with (fail)
     go_cut [73] (fun v73 wc => ∃ (kq : Nat) (x73_23 : Bool), v73 = .bool x73_23 ∧ Aside0 (liverylaw18_StageParts.j1 kq a1 t231 t238 t241 t242 x11_1 x12_1 x73_23 0 1 l0_2 = some r) ∧ Aside0 (kq ≤ k1) ∧ Aside0 (Kd.R (Kd.int .i64) 2 wc w.heap.size (fun _ => True) v232 t231) ∧ Aside0 (Kd.R (Kd.int .i64) 3 wc w.heap.size (fun _ => True) v239 t238) ∧ Aside0 (wc.heap[gb229]? = some (.cells #[.int .i64 a0_0, .int .i64 a0_1, (.slice A0_2 l0_2.length c0_2), .int .i64 a0_3] 79 (0, 0))) ∧ Aside0 (wc.heap[gb237]? = some (.cells #[.int .i64 0, .int .i64 1, (.slice A0_2 l0_2.length c0_2)] 50 (0, 0))) ∧ Aside0 (Below w.heap.size w wc))
     case first =>
      have H := HC24.out
      clear HC24
      by_cases c25 : x12_1 < (t231.length : Int)
      ·rw [if_pos c25] at H
       have c25b0 : decide (x12_1 < (t231.length : Int)) = true := decide_eq_true c25
       clear c25
       (first | rw [c25b0] | (simp only [i64_w, i32_w]; rw [c25b0]) | skip)
       have H' := XPrint.A0 H
       clear H
       obtain ⟨Ao26, co26, eo26⟩ := Kd.R_slice HO_5.out
       subst eo26
       obtain ⟨Ao27, co27, eo27⟩ := Kd.R_slice HO_8.out
       subst eo27
       go_wp2
       go_meet
       case rel => exact ⟨_, (decide (x12_1 < (t238.length : Int))), (by first | rfl | (simp; done) | (simp [*]; done)), H', ⟨by have := HK1.out; first | omega | exact Nat.le_refl _⟩, ⟨by (with_reducible repeat (first | apply Kd.R_alloc | apply Kd.R_drewN | apply Kd.R_drew)); exact HO_5.out⟩, ⟨by (with_reducible repeat (first | apply Kd.R_alloc | apply Kd.R_drewN | apply Kd.R_drew)); exact HO_8.out⟩, ⟨by (repeat with_reducible first | refine XPrint.d1 ?_ | refine XPrint.d2 ?_ _ | refine XPrint.d3 ?_ _); exact BK229.out⟩, ⟨by (repeat with_reducible first | refine XPrint.d1 ?_ | refine XPrint.d2 ?_ _ | refine XPrint.d3 ?_ _); exact BK237.out⟩, ⟨by exact XPrint.bz HB.out⟩⟩
      ·rw [if_neg c25] at H
       have c25b0 : decide (x12_1 < (t231.length : Int)) = false := decide_eq_false c25
       clear c25
       (first | rw [c25b0] | (simp only [i64_w, i32_w]; rw [c25b0]) | skip)
       have H' := XPrint.A0 H
       clear H
       obtain ⟨Ao28, co28, eo28⟩ := Kd.R_slice HO_5.out
       subst eo28
       go_wp2
       go_meet
       case rel => exact ⟨_, (false), (by first | rfl | (simp; done) | (simp [*]; done)), H', ⟨by have := HK1.out; first | omega | exact Nat.le_refl _⟩, ⟨by (with_reducible repeat (first | apply Kd.R_alloc | apply Kd.R_drewN | apply Kd.R_drew)); exact HO_5.out⟩, ⟨by (with_reducible repeat (first | apply Kd.R_alloc | apply Kd.R_drewN | apply Kd.R_drew)); exact HO_8.out⟩, ⟨by (repeat with_reducible first | refine XPrint.d1 ?_ | refine XPrint.d2 ?_ _ | refine XPrint.d3 ?_ _); exact BK229.out⟩, ⟨by (repeat with_reducible first | refine XPrint.d1 ?_ | refine XPrint.d2 ?_ _ | refine XPrint.d3 ?_ _); exact BK237.out⟩, ⟨by exact XPrint.bz HB.out⟩⟩
     case rest =>
      clear HC24
      try clear c1
      try clear c2
      try clear p2
      try clear c3
      try clear c3b0
      try clear c3b1
      try clear c4
      try clear c9
      try clear c9b0
      try clear c9b1
      try clear c13
      try clear c17
      try clear c25
      try clear c25b0
      try clear hcz13_0
      try clear hcz13_1
      try clear hcz13_2
      try clear hcz13_3
      try clear hcz15_0
      try clear hcz15_1
      try clear hcz15_2
      try clear hcz15_3
      try clear hcz18_0
      try clear hcz18_1
      try clear hcz18_2
      try clear hcz19_0
      try clear hcz19_1
      try clear hcz19_2
      try clear hcz19_3
      try clear hcz21_0
      try clear hcz21_1
      try clear hcz21_2
      try clear hcz22_0
      try clear hcz22_1
      try clear hcz22_2
      try clear hcz22_3
      try clear hcz6_0
      try clear hcz6_1
      try clear hcz6_2
      try clear hcz6_3
      try clear hfz13_0
      try clear hfz13_1
      try clear hfz13_2
      try clear hfz13_3
      try clear hfz15_0
      try clear hfz15_1
      try clear hfz15_2
      try clear hfz15_3
      try clear hfz18_0
      try clear hfz18_1
      try clear hfz18_2
      try clear hfz19_0
      try clear hfz19_1
      try clear hfz19_2
      try clear hfz19_3
      try clear hfz21_0
      try clear hfz21_1
      try clear hfz21_2
      try clear hfz22_0
      try clear hfz22_1
      try clear hfz22_2
      try clear hfz22_3
      try clear hfz6_0
      try clear hfz6_1
      try clear hfz6_2
      try clear hfz6_3
      try clear p2
      obtain ⟨kq, x73_23, rfl, HA, HJ23, HO_5, HO_8, BK229, BK237, HB⟩ := hcut
      cases kq with
      | zero => exact absurd HA.out (by simp [liverylaw18_StageParts.j1])
      | succ kj23 =>
       have H := HA.out
       clear HA
       simp only [liverylaw18_StageParts.j1] at H
       by_cases c29 : x73_23 = true
       ·subst c29
        have H1 := H; rw [if_pos rfl] at H1
        clear H
        have H := H1
        clear H1
        by_cases c30 : 0 ≤ x12_1
        ·rw [if_pos c30] at H
         have c30b0 : decide (0 ≤ x12_1) = true := decide_eq_true c30
         clear c30
         by_cases c31 : x12_1 < (t238.length : Int)
         ·rw [if_pos c31] at H
          have c31b0 : decide (x12_1 < (t238.length : Int)) = true := decide_eq_true c31
          clear c31
          replace H := Option.bind_eq_some_iff.mp H
          obtain ⟨⟨t244, t245⟩, A320, H⟩ := H
          replace H : (if t245 = 0 then (if x12_1 < (t231.length : Int) then (if t244 = (rd t231 x12_1) then (liverylaw18_StageParts.l0 kj23 a1 t231 t238 t241 t242 (wrap64 (x11_1 + t244)) (wrap64 (x12_1 + 1)) 0 1 l0_2) else (none)) else (none)) else (none)) = some r := H
          have A32 := XPrint.A0 A320
          clear A320
          by_cases c33 : t245 = 0
          ·rw [if_pos c33] at H
           have c33b0 : (t245 == 0) = true := beq_iff_eq.mpr c33
           have c33b1 : (t245 != 0) = false := bne_eq_false_iff_eq.mpr c33
           clear c33
           by_cases c34 : x12_1 < (t231.length : Int)
           ·rw [if_pos c34] at H
            have c34b0 : decide (x12_1 < (t231.length : Int)) = true := decide_eq_true c34
            clear c34
            by_cases c35 : t244 = (rd t231 x12_1)
            ·rw [if_pos c35] at H
             have c35b0 : (t244 == (rd t231 x12_1)) = true := beq_iff_eq.mpr c35
             have c35b1 : (t244 != (rd t231 x12_1)) = false := bne_eq_false_iff_eq.mpr c35
             clear c35
             have H' := XPrint.A0 H
             clear H
             try go_wp2
             replace HO_5 := XPrint.A0 (Kd.R_drew HO_5.out)
             replace HO_8 := XPrint.A0 (Kd.R_drew HO_8.out)
             replace BK229 := XPrint.A0 (blk_drew BK229.out)
             replace BK237 := XPrint.A0 (blk_drew BK237.out)
             replace HB := XPrint.A0 (below_drew1 HB.out)
             obtain ⟨Ao37, co37, eo37⟩ := Kd.R_slice HO_8.out
             (first | subst eo37 | (injection eo37 with f1_ f2_ f3_; have f4_ := f1_.symm; have f5_ := f3_.symm; clear f1_ f2_ f3_; subst f4_; subst f5_))
             have p243 : 0 ≤ (x12_1 : Int) := of_decide_eq_true (by first | (with_reducible assumption) | assumption)
             have q243 : x12_1 < (t238.length : Int) := of_decide_eq_true (by first | (with_reducible assumption) | assumption)
             obtain ⟨ad243, e243, hx243_0⟩ := Kd.at_int (Kd.R_reads' HO_8.out).2.2 x12_1 p243 q243
             cases e243
             replace p243 := eq_true p243
             replace q243 := eq_true q243
             refine start_ (n := 11) (S := fun w' => w'.cell? ⟨gb237, 0, none⟩ = some (.int .i64 0) ∧ w'.cell? ⟨gb237, 1, none⟩ = some (.int .i64 1) ∧ w'.cell? ⟨gb237, 2, none⟩ = some (.slice A0_2 l0_2.length c0_2) ∧ w'.cell? (ad243.add (x12_1).toNat) = some (.int .i64 (rd t238 x12_1))) (ds := []) #[false, false, false, false, false, false, false, false, false, false, false] (by kernel_rfl) rfl rfl ⟨(blk_cell BK237.out 0).trans rfl, (blk_cell BK237.out 1).trans rfl, (blk_cell BK237.out 2).trans rfl, hx243_0⟩ (fun hHeld => ?_); refine with_tabW liverylaw18_StageParts.tab15 liverylaw18_StageParts.bits15 (fun HT_ HW_ => ?_)
             generalize wc.drew = w36 at HO_5 HO_8 BK229 BK237 HB hx243_0 hHeld ⊢
             refine XPrint.pu 1 78 (XPrint.L 11 2) HT_.out (v := ?_) (a' := ?_) ?_ ?_ ?_
             rotate_left
             ·intro w'
              go_simp
              with_reducible rfl
             rotate_left
             ·simp only [XPrint.pw, i64_w, i32_w]
              rfl
             refine XPrint.pu 2 79 (XPrint.L 11 6) HT_.out (v := ?_) (a' := ?_) ?_ ?_ ?_
             rotate_left
             ·intro w'
              go_simp
              with_reducible rfl
             rotate_left
             ·simp only [XPrint.pw, i64_w, i32_w]
              rfl
             refine XPrint.pu 3 80 (XPrint.L 11 14) HT_.out (v := ?_) (a' := ?_) ?_ ?_ ?_
             rotate_left
             ·intro w'
              go_simp
              with_reducible rfl
             rotate_left
             ·simp only [XPrint.pw, i64_w, i32_w]
              rfl
             refine XPrint.ta 0 77 (XPrint.L 11 15) HT_.out HW_.out (v := ?_) (a' := ?_) ?_ hHeld ?_ ?_
             rotate_left
             ·rintro w' ⟨s0, s1, s2, s3⟩
              go_simp
              with_reducible rfl
             rotate_left
             ·simp only [XPrint.pw, i64_w, i32_w]
              rfl
             refine XPrint.ta 4 81 (XPrint.L 11 31) HT_.out HW_.out (v := ?_) (a' := ?_) ?_ hHeld ?_ ?_
             rotate_left
             ·rintro w' ⟨s0, s1, s2, s3⟩
              go_simp
              with_reducible rfl
             rotate_left
             ·simp only [XPrint.pw, i64_w, i32_w]
              rfl
             refine one_ (i := 5) (N := some 82) (XPrint.L 11 63) rfl rfl (one_of HT_.out (by kernel_rfl)) (by decide) (fun K hK => ?_)
             refine XPrint.gs Try.func49 #[.agg #[.int .i64 0, .int .i64 1, .slice A0_2 l0_2.length c0_2], .int .i64 (rd t238 x12_1)] ?_
             with_reducible refine (sat_Short.calls kj23 0 1 _ _ l0_2 (rd t238 x12_1) t244 t245 _ ?side1 ?side2 A32.out).mono ?_
             (case side1 => repeat (first | exact (Kd.C_below HR0_2.out HB.out) | (with_reducible refine Kd.C_alloc ?_ _) | (with_reducible refine Kd.C_drewN ?_ _) | (with_reducible refine Kd.C_drew ?_)))
             (case side2 => exact HC0_2.out)
             rintro e w38 ⟨rfl, hb⟩
             have HS3_ := (hb.cell (World.block_lt_of_cell? _ _ (hHeld.2.2.2))).trans (hHeld.2.2.2)
             refine ⟨_, rfl, ?_⟩
             replace HO_5 := XPrint.A0 (Kd.R_below (by (with_reducible repeat (first | apply Kd.R_alloc | apply Kd.R_drewN | apply Kd.R_drew)); exact HO_5.out) hb)
             replace HO_8 := XPrint.A0 (Kd.R_below (by (with_reducible repeat (first | apply Kd.R_alloc | apply Kd.R_drewN | apply Kd.R_drew)); exact HO_8.out) hb)
             replace BK229 := XPrint.A0 (XPrint.ab BK229.out hb)
             replace BK237 := XPrint.A0 (XPrint.ab BK237.out hb)
             replace HB := XPrint.A0 (below_step (by exact XPrint.bz HB.out) hb)
             (try clear hb)
             (try clear hb2)
             (try clear hk)
             (try clear hi)
             refine hK.out _ _ ⟨(blk_cell BK237.out 0).trans rfl, (blk_cell BK237.out 1).trans rfl, (blk_cell BK237.out 2).trans rfl, HS3_⟩ (fun hHeld => ?_)
             clear hK K
             refine norm_ (a' := ?_) ?_ ?_
             rotate_left
             ·show Act.put _ (some 82) _ = _
              simp only [XPrint.pw, i64_w, i32_w]
              rfl
             refine XPrint.pu 6 76 (XPrint.L 11 127) HT_.out (v := ?_) (a' := ?_) ?_ ?_ ?_
             rotate_left
             ·intro w'
              go_simp
              with_reducible rfl
             rotate_left
             ·simp only [XPrint.pw, i64_w, i32_w]
              rfl
             refine XPrint.pu 7 83 (XPrint.L 11 255) HT_.out (v := ?_) (a' := ?_) ?_ ?_ ?_
             rotate_left
             ·intro w'
              go_simp
              with_reducible rfl
             rotate_left
             ·simp only [XPrint.pw, i64_w, i32_w]
              rfl
             refine XPrint.pu 8 84 (XPrint.L 11 511) HT_.out (v := ?_) (a' := ?_) ?_ ?_ ?_
             rotate_left
             ·intro w'
              go_simp
              with_reducible rfl
             rotate_left
             ·simp only [XPrint.pw, i64_w, i32_w]
              rfl
             refine XPrint.pu 9 13 (XPrint.L 11 1023) HT_.out (v := ?_) (a' := ?_) ?_ ?_ ?_
             rotate_left
             ·intro w'
              go_simp
              with_reducible rfl
             rotate_left
             ·simp only [XPrint.pw, i64_w, i32_w]
              rfl
             refine XPrint.pu 10 14 (XPrint.L 11 2047) HT_.out (v := ?_) (a' := ?_) ?_ ?_ ?_
             rotate_left
             ·intro w'
              go_simp
              with_reducible rfl
             rotate_left
             ·simp only [XPrint.pw, i64_w, i32_w]
              rfl
             refine done_ (done_of HT_.out (by kernel_rfl)) ?_
             obtain ⟨Ao39, co39, eo39⟩ := Kd.R_slice HO_5.out
             subst eo39
             have p246 : 0 ≤ (x12_1 : Int) := of_decide_eq_true (by first | (with_reducible assumption) | assumption)
             have q246 : x12_1 < (t231.length : Int) := of_decide_eq_true (by first | (with_reducible assumption) | assumption)
             obtain ⟨ad246, e246, hx246_0⟩ := Kd.at_int (Kd.R_reads' HO_5.out).2.2 x12_1 p246 q246
             cases e246
             replace p246 := eq_true p246
             replace q246 := eq_true q246
             try go_wp2
             go_roundg kj23
             case measure => have := HK1.out; have := HJ23.out; omega
             case rel => exact ⟨(wrap64 (x11_1 + t244)), (wrap64 (x12_1 + 1)), (by first | rfl | (simp; done) | (simp [*]; done)), (by first | rfl | (simp; done) | (simp [*]; done)), H', ⟨by have := HK1.out; have := HJ23.out; omega⟩, ⟨by (with_reducible repeat (first | apply Kd.R_alloc | apply Kd.R_drewN | apply Kd.R_drew)); exact HO_5.out⟩, ⟨by (with_reducible repeat (first | apply Kd.R_alloc | apply Kd.R_drewN | apply Kd.R_drew)); exact HO_8.out⟩, ⟨by (repeat with_reducible first | refine XPrint.d1 ?_ | refine XPrint.d2 ?_ _ | refine XPrint.d3 ?_ _); exact BK229.out⟩, ⟨by (repeat with_reducible first | refine XPrint.d1 ?_ | refine XPrint.d2 ?_ _ | refine XPrint.d3 ?_ _); exact BK237.out⟩, ⟨by exact XPrint.bz HB.out⟩⟩
            ·rw [if_neg c35] at H
             exact absurd H (by simp)
           ·rw [if_neg c34] at H
            exact absurd H (by simp)
          ·rw [if_neg c33] at H
           exact absurd H (by simp)
         ·rw [if_neg c31] at H
          exact absurd H (by simp)
        ·rw [if_neg c30] at H
         exact absurd H (by simp)
       ·replace c29 := Bool.eq_false_iff.mpr c29
        subst c29
        have H1 := H; rw [if_neg (show ¬ (false = true) by decide)] at H1
        clear H
        have H := H1
        clear H1
        have HC40 := XPrint.A0 H
        clear H
        go_upto_region 19 with (fail)
        go_cut [111] (fun v111 wc => ∃ (kq : Nat) (x111_39 : Bool), v111 = .bool x111_39 ∧ Aside0 (liverylaw18_StageParts.j2 kq a1 t231 x11_1 x111_39 = some r) ∧ Aside0 (kq ≤ kj23) ∧ Aside0 (Kd.R (Kd.int .i64) 2 wc w.heap.size (fun _ => True) v232 t231) ∧ Aside0 (wc.heap[gb229]? = some (.cells #[.int .i64 a0_0, .int .i64 a0_1, (.slice A0_2 l0_2.length c0_2), .int .i64 a0_3] 79 (0, 0))) ∧ Aside0 (wc.heap[gb237]? = some (.cells #[.int .i64 0, .int .i64 1, (.slice A0_2 l0_2.length c0_2)] 50 (0, 0))) ∧ Aside0 (Below w.heap.size w wc))
        case first =>
         have H := HC40.out
         clear HC40
         by_cases c41 : t242 = 0
         ·rw [if_pos c41] at H
          have c41b0 : (t242 == 0) = true := beq_iff_eq.mpr c41
          have c41b1 : (t242 != 0) = false := bne_eq_false_iff_eq.mpr c41
          clear c41
          (first | rw [c41b0] | (simp only [i64_w, i32_w]; rw [c41b0]) | skip)
          by_cases c42 : x11_1 = t241
          ·rw [if_pos c42] at H
           have c42b0 : (x11_1 == t241) = true := beq_iff_eq.mpr c42
           have c42b1 : (x11_1 != t241) = false := bne_eq_false_iff_eq.mpr c42
           clear c42
           have H' := XPrint.A0 H
           clear H
           obtain ⟨Ao43, co43, eo43⟩ := Kd.R_slice HO_5.out
           subst eo43
           obtain ⟨Ao44, co44, eo44⟩ := Kd.R_slice HO_8.out
           subst eo44
           go_wp2
           go_meet
           case rel => exact ⟨_, (((t231.length : Int) != (t238.length : Int))), (by first | rfl | (simp; done) | (simp [*]; done)), H', ⟨by have := HK1.out; have := HJ23.out; first | omega | exact Nat.le_refl _⟩, ⟨by (with_reducible repeat (first | apply Kd.R_alloc | apply Kd.R_drewN | apply Kd.R_drew)); exact HO_5.out⟩, ⟨by (repeat with_reducible first | refine XPrint.d1 ?_ | refine XPrint.d2 ?_ _ | refine XPrint.d3 ?_ _); exact BK229.out⟩, ⟨by (repeat with_reducible first | refine XPrint.d1 ?_ | refine XPrint.d2 ?_ _ | refine XPrint.d3 ?_ _); exact BK237.out⟩, ⟨by exact XPrint.bz HB.out⟩⟩
          ·rw [if_neg c42] at H
           exact absurd H (by simp)
         ·rw [if_neg c41] at H
          exact absurd H (by simp)
        case rest =>
         clear HC40
         try clear c1
         try clear c2
         try clear p2
         try clear q2
         try clear hx2
         try clear c3
         try clear c3b0
         try clear c3b1
         try clear c4
         try clear p6
         try clear c9
         try clear c9b0
         try clear c9b1
         try clear c13
         try clear c17
         try clear p24
         try clear q24
         try clear hx24
         try clear c25
         try clear c25b0
         try clear c29
         try clear c30
         try clear c30b0
         try clear c31
         try clear c31b0
         try clear c33
         try clear c33b0
         try clear c33b1
         try clear c34
         try clear c34b0
         try clear c35
         try clear c35b0
         try clear c35b1
         try clear c41
         try clear c41b0
         try clear c41b1
         try clear c42
         try clear c42b0
         try clear c42b1
         try clear hcz13_0
         try clear hcz13_1
         try clear hcz13_2
         try clear hcz13_3
         try clear hcz15_0
         try clear hcz15_1
         try clear hcz15_2
         try clear hcz15_3
         try clear hcz18_0
         try clear hcz18_1
         try clear hcz18_2
         try clear hcz19_0
         try clear hcz19_1
         try clear hcz19_2
         try clear hcz19_3
         try clear hcz21_0
         try clear hcz21_1
         try clear hcz21_2
         try clear hcz22_0
         try clear hcz22_1
         try clear hcz22_2
         try clear hcz22_3
         try clear hcz6_0
         try clear hcz6_1
         try clear hcz6_2
         try clear hcz6_3
         try clear hfz13_0
         try clear hfz13_1
         try clear hfz13_2
         try clear hfz13_3
         try clear hfz15_0
         try clear hfz15_1
         try clear hfz15_2
         try clear hfz15_3
         try clear hfz18_0
         try clear hfz18_1
         try clear hfz18_2
         try clear hfz19_0
         try clear hfz19_1
         try clear hfz19_2
         try clear hfz19_3
         try clear hfz21_0
         try clear hfz21_1
         try clear hfz21_2
         try clear hfz22_0
         try clear hfz22_1
         try clear hfz22_2
         try clear hfz22_3
         try clear hfz6_0
         try clear hfz6_1
         try clear hfz6_2
         try clear hfz6_3
         try clear hx243_0
         try clear hx246_0
         try clear p2
         try clear p243
         try clear p246
         try clear q243
         try clear q246
         obtain ⟨kq, x111_39, rfl, HA, HJ39, HO_5, BK229, BK237, HB⟩ := hcut
         cases kq with
         | zero => exact absurd HA.out (by simp [liverylaw18_StageParts.j2])
         | succ kj39 =>
          have H := HA.out
          clear HA
          simp only [liverylaw18_StageParts.j2] at H
          by_cases c45 : x111_39 = true
          ·subst c45
           have H1 := H; rw [if_pos rfl] at H1
           clear H
           have H := H1
           clear H1
           exact absurd H (by simp)
          ·replace c45 := Bool.eq_false_iff.mpr c45
           subst c45
           have H1 := H; rw [if_neg (show ¬ (false = true) by decide)] at H1
           clear H
           have H := H1
           clear H1
           replace H := Option.bind_eq_some_iff.mp H
           obtain ⟨⟨t248, t251⟩, A460, H⟩ := H
           replace H : (if t251 = 2 then (if (wrap64 ((wrap64 ((wrap64 (7 + x11_1)) + (wrap64 (Int.tmod a1 100)))) - 7)) > 4096 then ((liverylaw18_head.f kj39).bind fun t252 => (some t252)) else ((liverylaw18_big.f kj39 t231).bind fun t253 => (if t253 = true then ((liverylaw18_head.f kj39).bind fun t254 => (some t254)) else (none)))) else (if t251 = 0 then (if (t248.length : Int) = (t231.length : Int) then ((liverylaw18_head.f kj39).bind fun t255 => (some t255)) else (none)) else (none))) = some r := H
           have A46 := XPrint.A0 A460
           clear A460
           by_cases c47 : t251 = 2
           ·rw [if_pos c47] at H
            have c47b0 : (t251 == 2) = true := beq_iff_eq.mpr c47
            have c47b1 : (t251 != 2) = false := bne_eq_false_iff_eq.mpr c47
            clear c47
            by_cases c48 : (wrap64 ((wrap64 ((wrap64 (7 + x11_1)) + (wrap64 (Int.tmod a1 100)))) - 7)) > 4096
            ·rw [if_pos c48] at H
             have c48b0 : decide (4096 < (wrap64 ((wrap64 ((wrap64 (7 + x11_1)) + (wrap64 (Int.tmod a1 100)))) - 7))) = true := decide_eq_true c48
             clear c48
             replace H := Option.bind_eq_some_iff.mp H
             obtain ⟨t252, A490, H⟩ := H
             try set_option simprocs false in dsimp only at H
             have A49 := XPrint.A0 A490
             clear A490
             obtain rfl := Option.some.inj H
             go_wp2_with (first | ((with_reducible refine gate_dst (N := 15) rfl ?_); (try (refine gate_guard (by rfl) ?_; dsimp only)); refine box_event ?hg (N := 15) ?hd (cs := #[.int .i64 0, .int .i64 0]) (t := 71) ?hr ?_; (case hd => rfl); (case hg => rfl); (case hr => first | (go_simp; done) | (go_simp; rfl)); intro gb247 hg w50 hbox hb; have BK247 := XPrint.A0 (hbox); have GW247 := XPrint.A0 (XPrint.gz HB.out hg); have GE247 := XPrint.A0 (XPrint.gz HB.out hg); have NB229_247 := XPrint.A1 (by rw [hg]; exact Nat.ne_of_lt (XPrint.al BK229.out) : gb229 ≠ gb247); have NB247_229 := XPrint.A1 (by rw [hg]; exact Nat.ne_of_gt (XPrint.al BK229.out) : gb247 ≠ gb229); have NB237_247 := XPrint.A1 (by rw [hg]; exact Nat.ne_of_lt (XPrint.al BK237.out) : gb237 ≠ gb247); have NB247_237 := XPrint.A1 (by rw [hg]; exact Nat.ne_of_gt (XPrint.al BK237.out) : gb247 ≠ gb237); replace HO_5 := XPrint.A0 (Kd.R_below (by (with_reducible repeat (first | apply Kd.R_alloc | apply Kd.R_drewN | apply Kd.R_drew)); exact HO_5.out) hb); replace BK229 := XPrint.A0 (XPrint.ab BK229.out hb); replace BK237 := XPrint.A0 (XPrint.ab BK237.out hb); replace HB := XPrint.A0 (below_step (by exact XPrint.bz HB.out) hb); clear hb hbox hg; have hnb51 := NB247_229.out; have hnc51 := NB229_247.out; have hnb52 := NB247_237.out; have hnc52 := NB237_247.out; have hcz53_0 : w50.cell? ⟨gb247, 0, none⟩ = some (.int .i64 0) := (blk_cell BK247.out 0).trans rfl; have hcz53_1 : w50.cell? ⟨gb247, 1, none⟩ = some (.int .i64 0) := (blk_cell BK247.out 1).trans rfl; have hfz53_0 := blk_frozen BK247.out 0; have hfz53_1 := blk_frozen BK247.out 1; obtain ⟨Ao54, co54, eo54⟩ := Kd.R_slice HO_5.out; subst eo54) | ((with_reducible refine gate_callee (f := 47) rfl ?_); refine XPrint.gl (some 124) Try.func47 #[.agg #[.int .i64 7, .int .i64 (wrap64 ((wrap64 (7 + x11_1)) + (wrap64 (Int.tmod a1 100))))], .slice Ao54 t231.length co54, .int .u8 (Int.tmod a1 3)] ?_; (with_reducible refine (stage_Split.calls kj39 7 (wrap64 ((wrap64 (7 + x11_1)) + (wrap64 (Int.tmod a1 100)))) _ _ t231 (Int.tmod a1 3) t248 t251 _ ?side1 ?side2 A46.out).mono ?_); (case side1 => refine (Kd.R_reads' (e := 2) (base := w.heap.size) (ok := fun k_ => True) (n := t231.length) (c := co54) ?_).2.2; exact (by (with_reducible repeat (first | apply Kd.R_alloc | apply Kd.R_drewN | apply Kd.R_drew)); exact (Kd.R_mono (Kd.R_far (p := ⟨gb247, 1, none⟩) (Kd.R_far (p := ⟨gb247, 0, none⟩) (Kd.R_types HO_5.out BK247.out (by decide)) (fun _ hk => hk.2) (.int .i64 7)) (fun _ hk => hk.2) (.int .i64 (wrap64 ((wrap64 (7 + x11_1)) + (wrap64 (Int.tmod a1 100)))))) (fun _ h_ => by first | exact h_.1 | (simp only [XPrint.own_slice] at h_ ⊢; exact h_.1))))); (case side2 => exact (Kd.R_reads' HO_5.out).2.1); rintro e w55 ⟨v249, rfl, ho0, hb⟩; refine ⟨_, rfl, ?_⟩; have HO250 := XPrint.A0 (Kd.R_lower (Kd.R_newB ho0 (g := gb247) (o := .cells #[.int .i64 7, .int .i64 (wrap64 ((wrap64 (7 + x11_1)) + (wrap64 (Int.tmod a1 100))))] 71 (0, 0)) (by (repeat with_reducible first | refine XPrint.d1 ?_ | refine XPrint.d2 ?_ _ | refine XPrint.d3 ?_ _); refine blk_put (cs := #[.int .i64 7, .int .i64 0]) ?_ 1 _ rfl; (repeat with_reducible first | refine XPrint.d1 ?_ | refine XPrint.d2 ?_ _ | refine XPrint.d3 ?_ _); refine blk_put (cs := #[.int .i64 0, .int .i64 0]) ?_ 0 _ rfl; (repeat with_reducible first | refine XPrint.d1 ?_ | refine XPrint.d2 ?_ _ | refine XPrint.d3 ?_ _); exact BK247.out)) (below_size (by repeat (first | (with_reducible first | exact HB.out | apply below_alloc | apply pw_below_drewN | apply below_drew1 | refine below_set ?_ GE229.out | refine below_set ?_ GE237.out | refine below_set ?_ GE247.out) | exact HB.out)))); replace HO_5 := XPrint.A0 (Kd.R_below (by (with_reducible repeat (first | apply Kd.R_alloc | apply Kd.R_drewN | apply Kd.R_drew)); exact (Kd.R_mono (Kd.R_far (p := ⟨gb247, 1, none⟩) (Kd.R_far (p := ⟨gb247, 0, none⟩) (Kd.R_types HO_5.out BK247.out (by decide)) (fun _ hk => hk.2) (.int .i64 7)) (fun _ hk => hk.2) (.int .i64 (wrap64 ((wrap64 (7 + x11_1)) + (wrap64 (Int.tmod a1 100)))))) (fun _ h_ => by first | exact h_.1 | (simp only [XPrint.own_slice] at h_ ⊢; exact h_.1)))) hb); replace BK229 := XPrint.A0 (XPrint.ab BK229.out hb); replace BK237 := XPrint.A0 (XPrint.ab BK237.out hb); replace BK247 := XPrint.A0 (blk_below (g := gb247) (o := .cells #[.int .i64 7, .int .i64 (wrap64 ((wrap64 (7 + x11_1)) + (wrap64 (Int.tmod a1 100))))] 71 (0, 0)) (by (repeat with_reducible first | refine XPrint.d1 ?_ | refine XPrint.d2 ?_ _ | refine XPrint.d3 ?_ _); refine blk_put (cs := #[.int .i64 7, .int .i64 0]) ?_ 1 _ rfl; (repeat with_reducible first | refine XPrint.d1 ?_ | refine XPrint.d2 ?_ _ | refine XPrint.d3 ?_ _); refine blk_put (cs := #[.int .i64 0, .int .i64 0]) ?_ 0 _ rfl; (repeat with_reducible first | refine XPrint.d1 ?_ | refine XPrint.d2 ?_ _ | refine XPrint.d3 ?_ _); exact BK247.out) hb); replace HB := XPrint.A0 (below_step (by repeat (first | (with_reducible first | exact HB.out | apply below_alloc | apply pw_below_drewN | apply below_drew1 | refine below_set ?_ GE229.out | refine below_set ?_ GE237.out | refine below_set ?_ GE247.out) | exact HB.out)) hb); (try clear hb); (try clear hb2); (try clear hk); (try clear hi); (try clear ho0); have hcz56_0 : w55.cell? ⟨gb247, 0, none⟩ = some (.int .i64 7) := (blk_cell BK247.out 0).trans rfl; have hcz56_1 : w55.cell? ⟨gb247, 1, none⟩ = some (.int .i64 (wrap64 ((wrap64 (7 + x11_1)) + (wrap64 (Int.tmod a1 100))))) := (blk_cell BK247.out 1).trans rfl; have hfz56_0 := blk_frozen BK247.out 0; have hfz56_1 := blk_frozen BK247.out 1) | (go_at_call 46; (with_reducible refine (liverylaw18_head.calls kj39  t252 _ A49.out).mono ?_); rintro e w57 ⟨rfl, hb⟩; replace HO_5 := XPrint.A0 (Kd.R_below (by (with_reducible repeat (first | apply Kd.R_alloc | apply Kd.R_drewN | apply Kd.R_drew)); exact HO_5.out) hb); replace HO250 := XPrint.A0 (XPrint.rb HO250.out hb); replace BK229 := XPrint.A0 (XPrint.ab BK229.out hb); replace BK237 := XPrint.A0 (XPrint.ab BK237.out hb); replace BK247 := XPrint.A0 (XPrint.ab BK247.out hb); replace HB := XPrint.A0 (below_step (by exact XPrint.bz HB.out) hb); (try clear hb); (try clear hb2); (try clear hk); (try clear hi)))
             go_ret
             exact ⟨by first | rfl | (simp [errW_none, errW_some] <;> rfl) | (simp [*, errW_none, errW_some] <;> rfl), by exact XPrint.bz HB.out⟩
            ·rw [if_neg c48] at H
             have c48b0 : decide (4096 < (wrap64 ((wrap64 ((wrap64 (7 + x11_1)) + (wrap64 (Int.tmod a1 100)))) - 7))) = false := decide_eq_false c48
             clear c48
             replace H := Option.bind_eq_some_iff.mp H
             obtain ⟨t253, A580, H⟩ := H
             try set_option simprocs false in dsimp only at H
             have A58 := XPrint.A0 A580
             clear A580
             by_cases c59 : t253 = true
             ·subst c59
              have H1 := H; rw [if_pos rfl] at H1
              clear H
              have H := H1
              clear H1
              replace H := Option.bind_eq_some_iff.mp H
              obtain ⟨t254, A600, H⟩ := H
              try set_option simprocs false in dsimp only at H
              have A60 := XPrint.A0 A600
              clear A600
              obtain rfl := Option.some.inj H
              go_wp2_with (first | ((with_reducible refine gate_dst (N := 15) rfl ?_); (try (refine gate_guard (by rfl) ?_; dsimp only)); refine box_event ?hg (N := 15) ?hd (cs := #[.int .i64 0, .int .i64 0]) (t := 71) ?hr ?_; (case hd => rfl); (case hg => rfl); (case hr => first | (go_simp; done) | (go_simp; rfl)); intro gb247 hg w61 hbox hb; have BK247 := XPrint.A0 (hbox); have GW247 := XPrint.A0 (XPrint.gz HB.out hg); have GE247 := XPrint.A0 (XPrint.gz HB.out hg); have NB229_247 := XPrint.A1 (by rw [hg]; exact Nat.ne_of_lt (XPrint.al BK229.out) : gb229 ≠ gb247); have NB247_229 := XPrint.A1 (by rw [hg]; exact Nat.ne_of_gt (XPrint.al BK229.out) : gb247 ≠ gb229); have NB237_247 := XPrint.A1 (by rw [hg]; exact Nat.ne_of_lt (XPrint.al BK237.out) : gb237 ≠ gb247); have NB247_237 := XPrint.A1 (by rw [hg]; exact Nat.ne_of_gt (XPrint.al BK237.out) : gb247 ≠ gb237); replace HO_5 := XPrint.A0 (Kd.R_below (by (with_reducible repeat (first | apply Kd.R_alloc | apply Kd.R_drewN | apply Kd.R_drew)); exact HO_5.out) hb); replace BK229 := XPrint.A0 (XPrint.ab BK229.out hb); replace BK237 := XPrint.A0 (XPrint.ab BK237.out hb); replace HB := XPrint.A0 (below_step (by exact XPrint.bz HB.out) hb); clear hb hbox hg; have hnb62 := NB247_229.out; have hnc62 := NB229_247.out; have hnb63 := NB247_237.out; have hnc63 := NB237_247.out; have hcz64_0 : w61.cell? ⟨gb247, 0, none⟩ = some (.int .i64 0) := (blk_cell BK247.out 0).trans rfl; have hcz64_1 : w61.cell? ⟨gb247, 1, none⟩ = some (.int .i64 0) := (blk_cell BK247.out 1).trans rfl; have hfz64_0 := blk_frozen BK247.out 0; have hfz64_1 := blk_frozen BK247.out 1; obtain ⟨Ao65, co65, eo65⟩ := Kd.R_slice HO_5.out; subst eo65) | ((with_reducible refine gate_callee (f := 47) rfl ?_); refine XPrint.gl (some 124) Try.func47 #[.agg #[.int .i64 7, .int .i64 (wrap64 ((wrap64 (7 + x11_1)) + (wrap64 (Int.tmod a1 100))))], .slice Ao65 t231.length co65, .int .u8 (Int.tmod a1 3)] ?_; (with_reducible refine (stage_Split.calls kj39 7 (wrap64 ((wrap64 (7 + x11_1)) + (wrap64 (Int.tmod a1 100)))) _ _ t231 (Int.tmod a1 3) t248 t251 _ ?side1 ?side2 A46.out).mono ?_); (case side1 => refine (Kd.R_reads' (e := 2) (base := w.heap.size) (ok := fun k_ => True) (n := t231.length) (c := co65) ?_).2.2; exact (by (with_reducible repeat (first | apply Kd.R_alloc | apply Kd.R_drewN | apply Kd.R_drew)); exact (Kd.R_mono (Kd.R_far (p := ⟨gb247, 1, none⟩) (Kd.R_far (p := ⟨gb247, 0, none⟩) (Kd.R_types HO_5.out BK247.out (by decide)) (fun _ hk => hk.2) (.int .i64 7)) (fun _ hk => hk.2) (.int .i64 (wrap64 ((wrap64 (7 + x11_1)) + (wrap64 (Int.tmod a1 100)))))) (fun _ h_ => by first | exact h_.1 | (simp only [XPrint.own_slice] at h_ ⊢; exact h_.1))))); (case side2 => exact (Kd.R_reads' HO_5.out).2.1); rintro e w66 ⟨v249, rfl, ho0, hb⟩; refine ⟨_, rfl, ?_⟩; have HO250 := XPrint.A0 (Kd.R_lower (Kd.R_newB ho0 (g := gb247) (o := .cells #[.int .i64 7, .int .i64 (wrap64 ((wrap64 (7 + x11_1)) + (wrap64 (Int.tmod a1 100))))] 71 (0, 0)) (by (repeat with_reducible first | refine XPrint.d1 ?_ | refine XPrint.d2 ?_ _ | refine XPrint.d3 ?_ _); refine blk_put (cs := #[.int .i64 7, .int .i64 0]) ?_ 1 _ rfl; (repeat with_reducible first | refine XPrint.d1 ?_ | refine XPrint.d2 ?_ _ | refine XPrint.d3 ?_ _); refine blk_put (cs := #[.int .i64 0, .int .i64 0]) ?_ 0 _ rfl; (repeat with_reducible first | refine XPrint.d1 ?_ | refine XPrint.d2 ?_ _ | refine XPrint.d3 ?_ _); exact BK247.out)) (below_size (by repeat (first | (with_reducible first | exact HB.out | apply below_alloc | apply pw_below_drewN | apply below_drew1 | refine below_set ?_ GE229.out | refine below_set ?_ GE237.out | refine below_set ?_ GE247.out) | exact HB.out)))); replace HO_5 := XPrint.A0 (Kd.R_below (by (with_reducible repeat (first | apply Kd.R_alloc | apply Kd.R_drewN | apply Kd.R_drew)); exact (Kd.R_mono (Kd.R_far (p := ⟨gb247, 1, none⟩) (Kd.R_far (p := ⟨gb247, 0, none⟩) (Kd.R_types HO_5.out BK247.out (by decide)) (fun _ hk => hk.2) (.int .i64 7)) (fun _ hk => hk.2) (.int .i64 (wrap64 ((wrap64 (7 + x11_1)) + (wrap64 (Int.tmod a1 100)))))) (fun _ h_ => by first | exact h_.1 | (simp only [XPrint.own_slice] at h_ ⊢; exact h_.1)))) hb); replace BK229 := XPrint.A0 (XPrint.ab BK229.out hb); replace BK237 := XPrint.A0 (XPrint.ab BK237.out hb); replace BK247 := XPrint.A0 (blk_below (g := gb247) (o := .cells #[.int .i64 7, .int .i64 (wrap64 ((wrap64 (7 + x11_1)) + (wrap64 (Int.tmod a1 100))))] 71 (0, 0)) (by (repeat with_reducible first | refine XPrint.d1 ?_ | refine XPrint.d2 ?_ _ | refine XPrint.d3 ?_ _); refine blk_put (cs := #[.int .i64 7, .int .i64 0]) ?_ 1 _ rfl; (repeat with_reducible first | refine XPrint.d1 ?_ | refine XPrint.d2 ?_ _ | refine XPrint.d3 ?_ _); refine blk_put (cs := #[.int .i64 0, .int .i64 0]) ?_ 0 _ rfl; (repeat with_reducible first | refine XPrint.d1 ?_ | refine XPrint.d2 ?_ _ | refine XPrint.d3 ?_ _); exact BK247.out) hb); replace HB := XPrint.A0 (below_step (by repeat (first | (with_reducible first | exact HB.out | apply below_alloc | apply pw_below_drewN | apply below_drew1 | refine below_set ?_ GE229.out | refine below_set ?_ GE237.out | refine below_set ?_ GE247.out) | exact HB.out)) hb); (try clear hb); (try clear hb2); (try clear hk); (try clear hi); (try clear ho0); have hcz67_0 : w66.cell? ⟨gb247, 0, none⟩ = some (.int .i64 7) := (blk_cell BK247.out 0).trans rfl; have hcz67_1 : w66.cell? ⟨gb247, 1, none⟩ = some (.int .i64 (wrap64 ((wrap64 (7 + x11_1)) + (wrap64 (Int.tmod a1 100))))) := (blk_cell BK247.out 1).trans rfl; have hfz67_0 := blk_frozen BK247.out 0; have hfz67_1 := blk_frozen BK247.out 1) | (go_at_call 50; (with_reducible refine (liverylaw18_big.calls kj39 _ _ t231 true _ ?side1 ?side2 A58.out).mono ?_); (case side1 => repeat (first | exact (Kd.R_reads' HO_5.out).2.2 | (with_reducible refine Kd.C_alloc ?_ _) | (with_reducible refine Kd.C_drewN ?_ _) | (with_reducible refine Kd.C_drew ?_))); (case side2 => exact (Kd.R_reads' HO_5.out).2.1); rintro e w' ⟨rfl, ⟨nd, rfl⟩⟩) | (go_at_call 46; (with_reducible refine (liverylaw18_head.calls kj39  t254 _ A60.out).mono ?_); rintro e w68 ⟨rfl, hb⟩; replace HO_5 := XPrint.A0 (Kd.R_below (by (with_reducible repeat (first | apply Kd.R_alloc | apply Kd.R_drewN | apply Kd.R_drew)); exact HO_5.out) hb); replace HO250 := XPrint.A0 (XPrint.rb HO250.out hb); replace BK229 := XPrint.A0 (XPrint.ab BK229.out hb); replace BK237 := XPrint.A0 (XPrint.ab BK237.out hb); replace BK247 := XPrint.A0 (XPrint.ab BK247.out hb); replace HB := XPrint.A0 (below_step (by exact XPrint.bz HB.out) hb); (try clear hb); (try clear hb2); (try clear hk); (try clear hi)))
              go_ret
              exact ⟨by first | rfl | (simp [errW_none, errW_some] <;> rfl) | (simp [*, errW_none, errW_some] <;> rfl), by exact XPrint.bz HB.out⟩
             ·replace c59 := Bool.eq_false_iff.mpr c59
              subst c59
              have H1 := H; rw [if_neg (show ¬ (false = true) by decide)] at H1
              clear H
              have H := H1
              clear H1
              exact absurd H (by simp)
           ·rw [if_neg c47] at H
            have c47b0 : (t251 == 2) = false := beq_eq_false_iff_ne.mpr c47
            have c47b1 : (t251 != 2) = true := bne_iff_ne.mpr c47
            by_cases c69 : t251 = 0
            ·rw [if_pos c69] at H
             have c69b0 : (t251 == 0) = true := beq_iff_eq.mpr c69
             have c69b1 : (t251 != 0) = false := bne_eq_false_iff_eq.mpr c69
             clear c69
             by_cases c70 : (t248.length : Int) = (t231.length : Int)
             ·rw [if_pos c70] at H
              have c70b0 : ((t248.length : Int) == (t231.length : Int)) = true := beq_iff_eq.mpr c70
              have c70b1 : ((t248.length : Int) != (t231.length : Int)) = false := bne_eq_false_iff_eq.mpr c70
              have c70b2 : (t248.length == t231.length) = true := by first | simpa using c70 | (simp at c70 ⊢; omega)
              clear c70
              replace H := Option.bind_eq_some_iff.mp H
              obtain ⟨t255, A710, H⟩ := H
              try set_option simprocs false in dsimp only at H
              have A71 := XPrint.A0 A710
              clear A710
              obtain rfl := Option.some.inj H
              go_wp2_with (first | ((with_reducible refine gate_dst (N := 15) rfl ?_); (try (refine gate_guard (by rfl) ?_; dsimp only)); refine box_event ?hg (N := 15) ?hd (cs := #[.int .i64 0, .int .i64 0]) (t := 71) ?hr ?_; (case hd => rfl); (case hg => rfl); (case hr => first | (go_simp; done) | (go_simp; rfl)); intro gb247 hg w72 hbox hb; have BK247 := XPrint.A0 (hbox); have GW247 := XPrint.A0 (XPrint.gz HB.out hg); have GE247 := XPrint.A0 (XPrint.gz HB.out hg); have NB229_247 := XPrint.A1 (by rw [hg]; exact Nat.ne_of_lt (XPrint.al BK229.out) : gb229 ≠ gb247); have NB247_229 := XPrint.A1 (by rw [hg]; exact Nat.ne_of_gt (XPrint.al BK229.out) : gb247 ≠ gb229); have NB237_247 := XPrint.A1 (by rw [hg]; exact Nat.ne_of_lt (XPrint.al BK237.out) : gb237 ≠ gb247); have NB247_237 := XPrint.A1 (by rw [hg]; exact Nat.ne_of_gt (XPrint.al BK237.out) : gb247 ≠ gb237); replace HO_5 := XPrint.A0 (Kd.R_below (by (with_reducible repeat (first | apply Kd.R_alloc | apply Kd.R_drewN | apply Kd.R_drew)); exact HO_5.out) hb); replace BK229 := XPrint.A0 (XPrint.ab BK229.out hb); replace BK237 := XPrint.A0 (XPrint.ab BK237.out hb); replace HB := XPrint.A0 (below_step (by exact XPrint.bz HB.out) hb); clear hb hbox hg; have hnb73 := NB247_229.out; have hnc73 := NB229_247.out; have hnb74 := NB247_237.out; have hnc74 := NB237_247.out; have hcz75_0 : w72.cell? ⟨gb247, 0, none⟩ = some (.int .i64 0) := (blk_cell BK247.out 0).trans rfl; have hcz75_1 : w72.cell? ⟨gb247, 1, none⟩ = some (.int .i64 0) := (blk_cell BK247.out 1).trans rfl; have hfz75_0 := blk_frozen BK247.out 0; have hfz75_1 := blk_frozen BK247.out 1; obtain ⟨Ao76, co76, eo76⟩ := Kd.R_slice HO_5.out; subst eo76) | ((with_reducible refine gate_callee (f := 47) rfl ?_); refine XPrint.gl (some 124) Try.func47 #[.agg #[.int .i64 7, .int .i64 (wrap64 ((wrap64 (7 + x11_1)) + (wrap64 (Int.tmod a1 100))))], .slice Ao76 t231.length co76, .int .u8 (Int.tmod a1 3)] ?_; (with_reducible refine (stage_Split.calls kj39 7 (wrap64 ((wrap64 (7 + x11_1)) + (wrap64 (Int.tmod a1 100)))) _ _ t231 (Int.tmod a1 3) t248 t251 _ ?side1 ?side2 A46.out).mono ?_); (case side1 => refine (Kd.R_reads' (e := 2) (base := w.heap.size) (ok := fun k_ => True) (n := t231.length) (c := co76) ?_).2.2; exact (by (with_reducible repeat (first | apply Kd.R_alloc | apply Kd.R_drewN | apply Kd.R_drew)); exact (Kd.R_mono (Kd.R_far (p := ⟨gb247, 1, none⟩) (Kd.R_far (p := ⟨gb247, 0, none⟩) (Kd.R_types HO_5.out BK247.out (by decide)) (fun _ hk => hk.2) (.int .i64 7)) (fun _ hk => hk.2) (.int .i64 (wrap64 ((wrap64 (7 + x11_1)) + (wrap64 (Int.tmod a1 100)))))) (fun _ h_ => by first | exact h_.1 | (simp only [XPrint.own_slice] at h_ ⊢; exact h_.1))))); (case side2 => exact (Kd.R_reads' HO_5.out).2.1); rintro e w77 ⟨v249, rfl, ho0, hb⟩; refine ⟨_, rfl, ?_⟩; have HO250 := XPrint.A0 (Kd.R_lower (Kd.R_newB ho0 (g := gb247) (o := .cells #[.int .i64 7, .int .i64 (wrap64 ((wrap64 (7 + x11_1)) + (wrap64 (Int.tmod a1 100))))] 71 (0, 0)) (by (repeat with_reducible first | refine XPrint.d1 ?_ | refine XPrint.d2 ?_ _ | refine XPrint.d3 ?_ _); refine blk_put (cs := #[.int .i64 7, .int .i64 0]) ?_ 1 _ rfl; (repeat with_reducible first | refine XPrint.d1 ?_ | refine XPrint.d2 ?_ _ | refine XPrint.d3 ?_ _); refine blk_put (cs := #[.int .i64 0, .int .i64 0]) ?_ 0 _ rfl; (repeat with_reducible first | refine XPrint.d1 ?_ | refine XPrint.d2 ?_ _ | refine XPrint.d3 ?_ _); exact BK247.out)) (below_size (by repeat (first | (with_reducible first | exact HB.out | apply below_alloc | apply pw_below_drewN | apply below_drew1 | refine below_set ?_ GE229.out | refine below_set ?_ GE237.out | refine below_set ?_ GE247.out) | exact HB.out)))); replace HO_5 := XPrint.A0 (Kd.R_below (by (with_reducible repeat (first | apply Kd.R_alloc | apply Kd.R_drewN | apply Kd.R_drew)); exact (Kd.R_mono (Kd.R_far (p := ⟨gb247, 1, none⟩) (Kd.R_far (p := ⟨gb247, 0, none⟩) (Kd.R_types HO_5.out BK247.out (by decide)) (fun _ hk => hk.2) (.int .i64 7)) (fun _ hk => hk.2) (.int .i64 (wrap64 ((wrap64 (7 + x11_1)) + (wrap64 (Int.tmod a1 100)))))) (fun _ h_ => by first | exact h_.1 | (simp only [XPrint.own_slice] at h_ ⊢; exact h_.1)))) hb); replace BK229 := XPrint.A0 (XPrint.ab BK229.out hb); replace BK237 := XPrint.A0 (XPrint.ab BK237.out hb); replace BK247 := XPrint.A0 (blk_below (g := gb247) (o := .cells #[.int .i64 7, .int .i64 (wrap64 ((wrap64 (7 + x11_1)) + (wrap64 (Int.tmod a1 100))))] 71 (0, 0)) (by (repeat with_reducible first | refine XPrint.d1 ?_ | refine XPrint.d2 ?_ _ | refine XPrint.d3 ?_ _); refine blk_put (cs := #[.int .i64 7, .int .i64 0]) ?_ 1 _ rfl; (repeat with_reducible first | refine XPrint.d1 ?_ | refine XPrint.d2 ?_ _ | refine XPrint.d3 ?_ _); refine blk_put (cs := #[.int .i64 0, .int .i64 0]) ?_ 0 _ rfl; (repeat with_reducible first | refine XPrint.d1 ?_ | refine XPrint.d2 ?_ _ | refine XPrint.d3 ?_ _); exact BK247.out) hb); replace HB := XPrint.A0 (below_step (by repeat (first | (with_reducible first | exact HB.out | apply below_alloc | apply pw_below_drewN | apply below_drew1 | refine below_set ?_ GE229.out | refine below_set ?_ GE237.out | refine below_set ?_ GE247.out) | exact HB.out)) hb); (try clear hb); (try clear hb2); (try clear hk); (try clear hi); (try clear ho0); obtain ⟨Ao78, co78, eo78⟩ := Kd.R_slice HO250.out; subst eo78) | (go_at_call 46; (with_reducible refine (liverylaw18_head.calls kj39  t255 _ A71.out).mono ?_); rintro e w79 ⟨rfl, hb⟩; replace HO_5 := XPrint.A0 (Kd.R_below (by (with_reducible repeat (first | apply Kd.R_alloc | apply Kd.R_drewN | apply Kd.R_drew)); exact HO_5.out) hb); replace HO250 := XPrint.A0 (XPrint.rb HO250.out hb); replace BK229 := XPrint.A0 (XPrint.ab BK229.out hb); replace BK237 := XPrint.A0 (XPrint.ab BK237.out hb); replace BK247 := XPrint.A0 (XPrint.ab BK247.out hb); replace HB := XPrint.A0 (below_step (by exact XPrint.bz HB.out) hb); (try clear hb); (try clear hb2); (try clear hk); (try clear hi)))
              go_ret
              exact ⟨by first | rfl | (simp [errW_none, errW_some] <;> rfl) | (simp [*, errW_none, errW_some] <;> rfl), by exact XPrint.bz HB.out⟩
             ·rw [if_neg c70] at H
              exact absurd H (by simp)
            ·rw [if_neg c69] at H
             exact absurd H (by simp)
  ·rw [if_neg c9] at H
   have c9b0 : (t234 == 0) = false := beq_eq_false_iff_ne.mpr c9
   have c9b1 : (t234 != 0) = true := bne_iff_ne.mpr c9
   by_cases c80 : t234 = 81
   ·rw [if_pos c80] at H
    have c80b0 : (t234 == 81) = true := beq_iff_eq.mpr c80
    have c80b1 : (t234 != 81) = false := bne_eq_false_iff_eq.mpr c80
    clear c80
    by_cases c81 : (t231.length : Int) = 0
    ·rw [if_pos c81] at H
     have c81b0 : ((t231.length : Int) == 0) = true := beq_iff_eq.mpr c81
     have c81b1 : ((t231.length : Int) != 0) = false := bne_eq_false_iff_eq.mpr c81
     clear c81
     replace H := Option.bind_eq_some_iff.mp H
     obtain ⟨t235, A820, H⟩ := H
     try set_option simprocs false in dsimp only at H
     have A82 := XPrint.A0 A820
     clear A820
     obtain rfl := Option.some.inj H
     go_enter Try.func13, Try.ntmps13
     go_wp2_with (first | ((with_reducible refine gate_dst (N := 2) rfl ?_); (try (refine gate_guard (by rfl) ?_; dsimp only)); refine box_event ?hg (N := 2) ?hd (cs := #[.int .i64 a0_0, .int .i64 a0_1, .slice A0_2 l0_2.length c0_2, .int .i64 a0_3]) (t := 79) ?hr ?_; (case hd => rfl); (case hg => rfl); (case hr => first | (go_simp; done) | (go_simp; rfl)); intro gb229 hg w83 hbox hb; have BK229 := XPrint.A0 (hbox); have GW229 := XPrint.A0 (XPrint.gz HB.out hg); have GE229 := XPrint.A0 (XPrint.gz HB.out hg); replace HB := XPrint.A0 (below_step (by exact XPrint.bz HB.out) hb); clear hb hbox hg; have hcz84_0 : w83.cell? ⟨gb229, 0, none⟩ = some (.int .i64 a0_0) := (blk_cell BK229.out 0).trans rfl; have hcz84_1 : w83.cell? ⟨gb229, 1, none⟩ = some (.int .i64 a0_1) := (blk_cell BK229.out 1).trans rfl; have hcz84_2 : w83.cell? ⟨gb229, 2, none⟩ = some (.slice A0_2 l0_2.length c0_2) := (blk_cell BK229.out 2).trans rfl; have hcz84_3 : w83.cell? ⟨gb229, 3, none⟩ = some (.int .i64 a0_3) := (blk_cell BK229.out 3).trans rfl; have hfz84_0 := blk_frozen BK229.out 0; have hfz84_1 := blk_frozen BK229.out 1; have hfz84_2 := blk_frozen BK229.out 2; have hfz84_3 := blk_frozen BK229.out 3) | ((with_reducible refine gate_callee (f := 48) rfl ?_); refine XPrint.gl (some 29) Try.func48 #[.agg #[.int .i64 a0_0, .int .i64 a0_1, .slice A0_2 l0_2.length c0_2], .int .i64 a0_3] ?_; (with_reducible refine (stage_Lengths.calls k a0_0 a0_1 _ _ l0_2 a0_3 t231 t234 _ ?side1 ?side2 A8.out).mono ?_); (case side1 => repeat (first | exact (Kd.C_below HR0_2.out HB.out) | (with_reducible refine Kd.C_alloc ?_ _) | (with_reducible refine Kd.C_drewN ?_ _) | (with_reducible refine Kd.C_drew ?_))); (case side2 => exact HC0_2.out); rintro e w85 ⟨v232, rfl, ho0, hb⟩; refine ⟨_, rfl, ?_⟩; have HO233 := XPrint.A0 (Kd.R_lower ho0 (below_size (by exact XPrint.bz HB.out))); replace BK229 := XPrint.A0 (XPrint.ab BK229.out hb); replace HB := XPrint.A0 (below_step (by exact XPrint.bz HB.out) hb); (try clear hb); (try clear hb2); (try clear hk); (try clear hi); (try clear ho0); obtain ⟨Ao86, co86, eo86⟩ := Kd.R_slice HO233.out; subst eo86) | (go_at_call 46; (with_reducible refine (liverylaw18_head.calls k  t235 _ A82.out).mono ?_); rintro e w87 ⟨rfl, hb⟩; replace HO233 := XPrint.A0 (XPrint.rb HO233.out hb); replace BK229 := XPrint.A0 (XPrint.ab BK229.out hb); replace HB := XPrint.A0 (below_step (by exact XPrint.bz HB.out) hb); (try clear hb); (try clear hb2); (try clear hk); (try clear hi)))
     go_ret
     exact ⟨by first | rfl | (simp [errW_none, errW_some] <;> rfl) | (simp [*, errW_none, errW_some] <;> rfl), by exact XPrint.bz HB.out⟩
    ·rw [if_neg c81] at H
     exact absurd H (by simp)
   ·rw [if_neg c80] at H
    have c80b0 : (t234 == 81) = false := beq_eq_false_iff_ne.mpr c80
    have c80b1 : (t234 != 81) = true := bne_iff_ne.mpr c80
    by_cases c88 : t234 = 2
    ·rw [if_pos c88] at H
     have c88b0 : (t234 == 2) = true := beq_iff_eq.mpr c88
     have c88b1 : (t234 != 2) = false := bne_eq_false_iff_eq.mpr c88
     clear c88
     by_cases c89 : (t231.length : Int) = 0
     ·rw [if_pos c89] at H
      have c89b0 : ((t231.length : Int) == 0) = true := beq_iff_eq.mpr c89
      have c89b1 : ((t231.length : Int) != 0) = false := bne_eq_false_iff_eq.mpr c89
      clear c89
      replace H := Option.bind_eq_some_iff.mp H
      obtain ⟨t236, A900, H⟩ := H
      try set_option simprocs false in dsimp only at H
      have A90 := XPrint.A0 A900
      clear A900
      obtain rfl := Option.some.inj H
      go_enter Try.func13, Try.ntmps13
      go_wp2_with (first | ((with_reducible refine gate_dst (N := 2) rfl ?_); (try (refine gate_guard (by rfl) ?_; dsimp only)); refine box_event ?hg (N := 2) ?hd (cs := #[.int .i64 a0_0, .int .i64 a0_1, .slice A0_2 l0_2.length c0_2, .int .i64 a0_3]) (t := 79) ?hr ?_; (case hd => rfl); (case hg => rfl); (case hr => first | (go_simp; done) | (go_simp; rfl)); intro gb229 hg w91 hbox hb; have BK229 := XPrint.A0 (hbox); have GW229 := XPrint.A0 (XPrint.gz HB.out hg); have GE229 := XPrint.A0 (XPrint.gz HB.out hg); replace HB := XPrint.A0 (below_step (by exact XPrint.bz HB.out) hb); clear hb hbox hg; have hcz92_0 : w91.cell? ⟨gb229, 0, none⟩ = some (.int .i64 a0_0) := (blk_cell BK229.out 0).trans rfl; have hcz92_1 : w91.cell? ⟨gb229, 1, none⟩ = some (.int .i64 a0_1) := (blk_cell BK229.out 1).trans rfl; have hcz92_2 : w91.cell? ⟨gb229, 2, none⟩ = some (.slice A0_2 l0_2.length c0_2) := (blk_cell BK229.out 2).trans rfl; have hcz92_3 : w91.cell? ⟨gb229, 3, none⟩ = some (.int .i64 a0_3) := (blk_cell BK229.out 3).trans rfl; have hfz92_0 := blk_frozen BK229.out 0; have hfz92_1 := blk_frozen BK229.out 1; have hfz92_2 := blk_frozen BK229.out 2; have hfz92_3 := blk_frozen BK229.out 3) | ((with_reducible refine gate_callee (f := 48) rfl ?_); refine XPrint.gl (some 29) Try.func48 #[.agg #[.int .i64 a0_0, .int .i64 a0_1, .slice A0_2 l0_2.length c0_2], .int .i64 a0_3] ?_; (with_reducible refine (stage_Lengths.calls k a0_0 a0_1 _ _ l0_2 a0_3 t231 t234 _ ?side1 ?side2 A8.out).mono ?_); (case side1 => repeat (first | exact (Kd.C_below HR0_2.out HB.out) | (with_reducible refine Kd.C_alloc ?_ _) | (with_reducible refine Kd.C_drewN ?_ _) | (with_reducible refine Kd.C_drew ?_))); (case side2 => exact HC0_2.out); rintro e w93 ⟨v232, rfl, ho0, hb⟩; refine ⟨_, rfl, ?_⟩; have HO233 := XPrint.A0 (Kd.R_lower ho0 (below_size (by exact XPrint.bz HB.out))); replace BK229 := XPrint.A0 (XPrint.ab BK229.out hb); replace HB := XPrint.A0 (below_step (by exact XPrint.bz HB.out) hb); (try clear hb); (try clear hb2); (try clear hk); (try clear hi); (try clear ho0); obtain ⟨Ao94, co94, eo94⟩ := Kd.R_slice HO233.out; subst eo94) | (go_at_call 46; (with_reducible refine (liverylaw18_head.calls k  t236 _ A90.out).mono ?_); rintro e w95 ⟨rfl, hb⟩; replace HO233 := XPrint.A0 (XPrint.rb HO233.out hb); replace BK229 := XPrint.A0 (XPrint.ab BK229.out hb); replace HB := XPrint.A0 (below_step (by exact XPrint.bz HB.out) hb); (try clear hb); (try clear hb2); (try clear hk); (try clear hi)))
      go_ret
      exact ⟨by first | rfl | (simp [errW_none, errW_some] <;> rfl) | (simp [*, errW_none, errW_some] <;> rfl), by exact XPrint.bz HB.out⟩
     ·rw [if_neg c89] at H
      exact absurd H (by simp)
    ·rw [if_neg c88] at H
     exact absurd H (by simp)

end Go.Proofs.Ytkaokiiooakleaa.PStageParts
