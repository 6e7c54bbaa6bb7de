-- printed by this session's own driver over the kit's printer: Lean checks it
import Derived.Test.YtkaokiiooakleaaCStageParts0
import Derived.Test.YtkaokiiooakleaaCStageParts1
import Derived.Test.YtkaokiiooakleaaCStageParts4
import Derived.Test.YtkaokiiooakleaaCStageParts8
import Derived.Test.YtkaokiiooakleaaCStageParts9
import Derived.Test.YtkaokiiooakleaaCStageParts10
namespace Go.Proofs.Ytkaokiiooakleaa.PStageParts
open Go.RowKit Go.Proofs.YtkaokiiooakleaaW.PrintWords Go.Proofs.YtkaokiiooakleaaW.PrintLast Go.Proofs.YtkaokiiooakleaaW.PrintMore
attribute [local go_sem] max2_int min2_int max_two min_two max_three min_three max_four min_four   -- for this text's walks alone
set_option linter.unusedVariables false
set_option linter.unusedSimpArgs false

attribute [local go_sem high] eqA71
/-! ### sat_Short: function 49 -/
def sat_Short.f (k : Nat) (a0_0 : Int) (a0_1 : Int) (l0_2 : List (S65)) (a1 : Int) : Option (Int × Int) := (sat_check.f k a0_0 a0_1 l0_2 ([] : List (S139)) a1).bind fun t145 => (if t145 = 0 then ((sat_term_short.f k l0_2 ([] : List (S139)) a1).bind fun t146 => (some (t146, 0))) else (some (0, t145)))
theorem sat_Short.mono : ∀ a0 a1 a2 a3 k, LeO (sat_Short.f k a0 a1 a2 a3) (sat_Short.f (k + 1) a0 a1 a2 a3) := by
 intro a0 a1 a2 a3 k
 unfold sat_Short.f
 repeat' first
   | (with_reducible exact sat_check.mono _ _ _ _ _ _)
   | (with_reducible exact sat_term_short.mono _ _ _ _)
   | (with_reducible exact LeO.refl _)
   | (with_reducible exact LeO.none _)
   | (with_reducible refine LeO.ite ?_ ?_)
   | (with_reducible refine LeO.bind ?_ (fun _ => ?_))
   | exact sat_check.mono _ _ _ _ _ _
   | exact sat_term_short.mono _ _ _ _
   | exact LeO.none _
   | refine LeO.ite ?_ ?_
   | refine LeO.bind ?_ (fun _ => ?_)
set_option maxHeartbeats 8000000 in
set_option maxRecDepth 100000 in
theorem sat_Short.calls (k : Nat) (a0_0 : Int) (a0_1 : Int) (A0_2 : Option Addr) (c0_2 : Nat) (l0_2 : List (S65)) (a1 : Int) (r1 : Int) (r2 : Int) (w : World) (hr0_2 : Kd.C k65 w A0_2 l0_2.length l0_2) (hc0_2 : l0_2.length ≤ c0_2) (h : sat_Short.f k a0_0 a0_1 l0_2 a1 = some (r1, r2)) :
  Calls Try.prog 49 #[.agg #[.int .i64 a0_0, .int .i64 a0_1, .slice A0_2 l0_2.length c0_2], .int .i64 a1] w fun e w' => e = .returned (.tuple #[.int .i64 r1, .int .i64 r2]) ∧ Below w.heap.size w w' := by
 have hu50 := Try.underlying50
 have hu124 := Try.underlying124
 have HR0_2 := XPrint.A0 hr0_2
 have HC0_2 := XPrint.A0 hc0_2
 clear hr0_2 hc0_2
 have HB := XPrint.A0 (Below.refl w.heap.size w)
 have H : ((sat_check.f k a0_0 a0_1 l0_2 ([] : List (S139)) a1).bind fun t145 => (if t145 = 0 then ((sat_term_short.f k l0_2 ([] : List (S139)) a1).bind fun t146 => (some (t146, 0))) else (some (0, t145)))) = some (r1, r2) := h
 clear h
 replace H := Option.bind_eq_some_iff.mp H
 obtain ⟨t145, A30, H⟩ := H
 replace H : (if t145 = 0 then ((sat_term_short.f k l0_2 ([] : List (S139)) a1).bind fun t146 => (some (t146, 0))) else (some (0, t145))) = some (r1, r2) := H
 have A3 := XPrint.A0 A30
 clear A30
 by_cases c4 : t145 = 0
 ·rw [if_pos c4] at H
  have c4b0 : (t145 == 0) = true := beq_iff_eq.mpr c4
  have c4b1 : (t145 != 0) = false := bne_eq_false_iff_eq.mpr c4
  clear c4
  replace H := Option.bind_eq_some_iff.mp H
  obtain ⟨t146, A50, H⟩ := H
  replace H : (some (t146, 0)) = some (r1, r2) := H
  have A5 := XPrint.A0 A50
  clear A50
  simp only [Option.some.injEq, Prod.mk.injEq] at H
  obtain ⟨rfl, rfl⟩ := H
  go_enter Try.func49, Try.ntmps49
  go_wp2_with (first | ((with_reducible refine gate_dst (N := 2) rfl ?_); refine box_event ?hg (N := 2) ?hd (cs := #[.int .i64 a0_0, .int .i64 a0_1, .slice A0_2 l0_2.length c0_2]) (t := 50) ?hr ?_; (case hd => rfl); (case hg => rfl); (case hr => first | (go_simp; done) | (go_simp; rfl)); intro gb144 hg w6 hbox hb; have BK144 := XPrint.A0 (hbox); have GW144 := XPrint.A0 (XPrint.gz HB.out hg); have GE144 := XPrint.A0 (XPrint.gz HB.out hg); replace HB := XPrint.A0 (below_step (by exact XPrint.bz HB.out) hb); clear hb hbox hg; have hcz7_0 : w6.cell? ⟨gb144, 0, none⟩ = some (.int .i64 a0_0) := (blk_cell BK144.out 0).trans rfl; have hcz7_1 : w6.cell? ⟨gb144, 1, none⟩ = some (.int .i64 a0_1) := (blk_cell BK144.out 1).trans rfl; have hcz7_2 : w6.cell? ⟨gb144, 2, none⟩ = some (.slice A0_2 l0_2.length c0_2) := (blk_cell BK144.out 2).trans rfl; have hfz7_0 := blk_frozen BK144.out 0; have hfz7_1 := blk_frozen BK144.out 1; have hfz7_2 := blk_frozen BK144.out 2) | ((with_reducible refine gate_callee (f := 78) rfl ?_); refine XPrint.gl (some 9) Try.func78 #[.agg #[.int .i64 a0_0, .int .i64 a0_1, .slice A0_2 l0_2.length c0_2], .slice none 0 0, .int .i64 a1] ?_; (refine (sat_check.calls k a0_0 a0_1 _ _ l0_2 _ _ ([] : List (S139)) a1 t145 _ ?side1 ?side2 ?side3 ?side4 A3.out).mono ?_); (case side1 => repeat (first | exact (Kd.C_below HR0_2.out HB.out) | (with_reducible refine Kd.C_alloc ?_ _) | (with_reducible refine Kd.C_drewN ?_ _) | (with_reducible refine Kd.C_drew ?_))); (case side2 => exact HC0_2.out); (case side3 => exact Kd.C_nil _ _); (case side4 => exact Nat.le_refl _); rintro e w8 ⟨rfl, hb⟩; refine ⟨_, rfl, ?_⟩; replace BK144 := XPrint.A0 (XPrint.ab BK144.out hb); replace HB := XPrint.A0 (below_step (by exact XPrint.bz HB.out) hb); (try clear hb); (try clear hb2); (try clear hk); (try clear hi); have hcz9_0 : w8.cell? ⟨gb144, 0, none⟩ = some (.int .i64 a0_0) := (blk_cell BK144.out 0).trans rfl; have hcz9_1 : w8.cell? ⟨gb144, 1, none⟩ = some (.int .i64 a0_1) := (blk_cell BK144.out 1).trans rfl; have hcz9_2 : w8.cell? ⟨gb144, 2, none⟩ = some (.slice A0_2 l0_2.length c0_2) := (blk_cell BK144.out 2).trans rfl; have hfz9_0 := blk_frozen BK144.out 0; have hfz9_1 := blk_frozen BK144.out 1; have hfz9_2 := blk_frozen BK144.out 2) | ((with_reducible refine gate_callee (f := 79) rfl ?_); refine XPrint.gl (some 17) Try.func79 #[.agg #[.slice A0_2 l0_2.length c0_2, .slice none 0 0, .int .i64 a1]] ?_; (refine (sat_term_short.calls k _ _ l0_2 _ _ ([] : List (S139)) a1 t146 _ ?side1 ?side2 ?side3 ?side4 A5.out).mono ?_); (case side1 => repeat (first | exact (Kd.C_below HR0_2.out HB.out) | (with_reducible refine Kd.C_alloc ?_ _) | (with_reducible refine Kd.C_drewN ?_ _) | (with_reducible refine Kd.C_drew ?_))); (case side2 => exact HC0_2.out); (case side3 => exact Kd.C_nil _ _); (case side4 => exact Nat.le_refl _); rintro e w10 ⟨rfl, hb⟩; refine ⟨_, rfl, ?_⟩; replace BK144 := XPrint.A0 (XPrint.ab BK144.out hb); replace HB := XPrint.A0 (below_step (by exact XPrint.bz HB.out) hb); (try clear hb); (try clear hb2); (try clear hk); (try clear hi)))
  go_ret2
  exact ⟨by first | rfl | (simp [errW_none, errW_some] <;> rfl) | (simp [*, errW_none, errW_some] <;> rfl), by exact XPrint.bz HB.out⟩
 ·rw [if_neg c4] at H
  have c4b0 : (t145 == 0) = false := beq_eq_false_iff_ne.mpr c4
  have c4b1 : (t145 != 0) = true := bne_iff_ne.mpr c4
  simp only [Option.some.injEq, Prod.mk.injEq] at H
  obtain ⟨rfl, rfl⟩ := H
  go_enter Try.func49, Try.ntmps49
  go_wp2_with (first | ((with_reducible refine gate_dst (N := 2) rfl ?_); refine box_event ?hg (N := 2) ?hd (cs := #[.int .i64 a0_0, .int .i64 a0_1, .slice A0_2 l0_2.length c0_2]) (t := 50) ?hr ?_; (case hd => rfl); (case hg => rfl); (case hr => first | (go_simp; done) | (go_simp; rfl)); intro gb144 hg w11 hbox hb; have BK144 := XPrint.A0 (hbox); have GW144 := XPrint.A0 (XPrint.gz HB.out hg); have GE144 := XPrint.A0 (XPrint.gz HB.out hg); replace HB := XPrint.A0 (below_step (by exact XPrint.bz HB.out) hb); clear hb hbox hg; have hcz12_0 : w11.cell? ⟨gb144, 0, none⟩ = some (.int .i64 a0_0) := (blk_cell BK144.out 0).trans rfl; have hcz12_1 : w11.cell? ⟨gb144, 1, none⟩ = some (.int .i64 a0_1) := (blk_cell BK144.out 1).trans rfl; have hcz12_2 : w11.cell? ⟨gb144, 2, none⟩ = some (.slice A0_2 l0_2.length c0_2) := (blk_cell BK144.out 2).trans rfl; have hfz12_0 := blk_frozen BK144.out 0; have hfz12_1 := blk_frozen BK144.out 1; have hfz12_2 := blk_frozen BK144.out 2) | ((with_reducible refine gate_callee (f := 78) rfl ?_); refine XPrint.gl (some 9) Try.func78 #[.agg #[.int .i64 a0_0, .int .i64 a0_1, .slice A0_2 l0_2.length c0_2], .slice none 0 0, .int .i64 a1] ?_; (refine (sat_check.calls k a0_0 a0_1 _ _ l0_2 _ _ ([] : List (S139)) a1 t145 _ ?side1 ?side2 ?side3 ?side4 A3.out).mono ?_); (case side1 => repeat (first | exact (Kd.C_below HR0_2.out HB.out) | (with_reducible refine Kd.C_alloc ?_ _) | (with_reducible refine Kd.C_drewN ?_ _) | (with_reducible refine Kd.C_drew ?_))); (case side2 => exact HC0_2.out); (case side3 => exact Kd.C_nil _ _); (case side4 => exact Nat.le_refl _); rintro e w13 ⟨rfl, hb⟩; refine ⟨_, rfl, ?_⟩; replace BK144 := XPrint.A0 (XPrint.ab BK144.out hb); replace HB := XPrint.A0 (below_step (by exact XPrint.bz HB.out) hb); (try clear hb); (try clear hb2); (try clear hk); (try clear hi)))
  go_ret2
  exact ⟨by first | rfl | (simp [errW_none, errW_some] <;> rfl) | (simp [*, errW_none, errW_some] <;> rfl), by exact XPrint.bz HB.out⟩

/-! ### stage_Lengths: function 48 -/
mutual
def stage_Lengths.j0 : Nat → List Int → Bool → Int → Int → List (S65) → Option (List Int × Int)
 | 0, _, _, _, _, _ => none
 | k + 1, x6, x37, x148000, x148001, x148002 => if x37 = true then (some (([] : List Int), 2)) else (stage_Lengths.l0 k ([] : List Int) x6 (x6.length : Int) 0 x148000 x148001 x148002)
def stage_Lengths.l0 : Nat → List Int → List Int → Int → Int → Int → Int → List (S65) → Option (List Int × Int)
 | 0, _, _, _, _, _, _, _ => none
 | k + 1, x9, x38, x39, x40, x148000, x148001, x148002 => if x40 < x39 then (if 0 ≤ x40 then (if x40 < (x38.length : Int) then ((sat_Short.f k x148000 x148001 x148002 (rd x38 x40)).bind fun bt154 => (if x9.length < 17592186044416 then (stage_Lengths.l0 k (x9 ++ [bt154.1]) x38 x39 (wrap64 (x40 + 1)) x148000 x148001 x148002) else (none))) else (none)) else (none)) else (some (x9, 0))
end
def stage_Lengths.f (k : Nat) (a0_0 : Int) (a0_1 : Int) (l0_2 : List (S65)) (a1 : Int) : Option (List Int × Int) := (shape_Kids.f l0_2 a1).bind fun bt148 => (if bt148.2 = 0 then (if 0 ≤ a1 then (if a1 < (l0_2.length : Int) then (if ((rd_T65 l0_2 a1).f0) = 1 then (stage_Lengths.j0 k bt148.1 false 0 1 l0_2) else (stage_Lengths.j0 k bt148.1 (((rd_T65 l0_2 a1).f0) != 2) 0 1 l0_2)) else (none)) else (none)) else (some (([] : List Int), bt148.2)))
theorem stage_Lengths.mono_l : ∀ k, (∀ y0 y1 y2 y3 y4, LeO (stage_Lengths.j0 k y0 y1 y2 y3 y4) (stage_Lengths.j0 (k + 1) y0 y1 y2 y3 y4)) ∧ (∀ y0 y1 y2 y3 y4 y5 y6, LeO (stage_Lengths.l0 k y0 y1 y2 y3 y4 y5 y6) (stage_Lengths.l0 (k + 1) y0 y1 y2 y3 y4 y5 y6))
 | 0 => ⟨fun _ _ _ _ _ r h => by simp [stage_Lengths.j0] at h, fun _ _ _ _ _ _ _ r h => by simp [stage_Lengths.l0] at h⟩
 | k + 1 => by
  obtain ⟨ih0, ih1⟩ := stage_Lengths.mono_l k
  refine ⟨?_, ?_⟩
  ·intro y0 y1 y2 y3 y4
   unfold stage_Lengths.j0
   repeat' first
   | (with_reducible exact ih0 _ _ _ _ _)
   | (with_reducible exact ih1 _ _ _ _ _ _ _)
   | (with_reducible exact sat_Short.mono _ _ _ _ _)
   | (with_reducible exact LeO.refl _)
   | (with_reducible exact LeO.none _)
   | (with_reducible refine LeO.ite ?_ ?_)
   | (with_reducible refine LeO.bind ?_ (fun _ => ?_))
   | exact ih0 _ _ _ _ _
   | exact ih1 _ _ _ _ _ _ _
   | exact sat_Short.mono _ _ _ _ _
   | exact LeO.none _
   | refine LeO.ite ?_ ?_
   | refine LeO.bind ?_ (fun _ => ?_)
  ·intro y0 y1 y2 y3 y4 y5 y6
   unfold stage_Lengths.l0
   repeat' first
   | (with_reducible exact ih0 _ _ _ _ _)
   | (with_reducible exact ih1 _ _ _ _ _ _ _)
   | (with_reducible exact sat_Short.mono _ _ _ _ _)
   | (with_reducible exact LeO.refl _)
   | (with_reducible exact LeO.none _)
   | (with_reducible refine LeO.ite ?_ ?_)
   | (with_reducible refine LeO.bind ?_ (fun _ => ?_))
   | exact ih0 _ _ _ _ _
   | exact ih1 _ _ _ _ _ _ _
   | exact sat_Short.mono _ _ _ _ _
   | exact LeO.none _
   | refine LeO.ite ?_ ?_
   | refine LeO.bind ?_ (fun _ => ?_)
theorem stage_Lengths.mono : ∀ a0 a1 a2 a3 k, LeO (stage_Lengths.f k a0 a1 a2 a3) (stage_Lengths.f (k + 1) a0 a1 a2 a3) := by
 intro a0 a1 a2 a3 k
 obtain ⟨ih0, ih1⟩ := stage_Lengths.mono_l k
 unfold stage_Lengths.f
 repeat' first
   | (with_reducible exact ih0 _ _ _ _ _)
   | (with_reducible exact ih1 _ _ _ _ _ _ _)
   | (with_reducible exact sat_Short.mono _ _ _ _ _)
   | (with_reducible exact LeO.refl _)
   | (with_reducible exact LeO.none _)
   | (with_reducible refine LeO.ite ?_ ?_)
   | (with_reducible refine LeO.bind ?_ (fun _ => ?_))
   | exact ih0 _ _ _ _ _
   | exact ih1 _ _ _ _ _ _ _
   | exact sat_Short.mono _ _ _ _ _
   | exact LeO.none _
   | refine LeO.ite ?_ ?_
   | refine LeO.bind ?_ (fun _ => ?_)
set_option maxHeartbeats 8000000 in
set_option maxRecDepth 100000 in
theorem stage_Lengths.calls (k : Nat) (a0_0 : Int) (a0_1 : Int) (A0_2 : Option Addr) (c0_2 : Nat) (l0_2 : List (S65)) (a1 : Int) (r1 : List Int) (r2 : Int) (w : World) (hr0_2 : Kd.C k65 w A0_2 l0_2.length l0_2) (hc0_2 : l0_2.length ≤ c0_2) (h : stage_Lengths.f k a0_0 a0_1 l0_2 a1 = some (r1, r2)) :
  Calls Try.prog 48 #[.agg #[.int .i64 a0_0, .int .i64 a0_1, .slice A0_2 l0_2.length c0_2], .int .i64 a1] w fun e w' => ∃ v0_ : Value, e = .returned (.tuple #[v0_, .int .i64 r2]) ∧ Kd.R (Kd.int .i64) 2 w' w.heap.size (fun _ => True) v0_ r1 ∧ Below w.heap.size w w' := by
 have hu50 := Try.underlying50
 have HR0_2 := XPrint.A0 hr0_2
 have HC0_2 := XPrint.A0 hc0_2
 clear hr0_2 hc0_2
 have HB := XPrint.A0 (Below.refl w.heap.size w)
 have H : ((shape_Kids.f l0_2 a1).bind fun bt148 => (if bt148.2 = 0 then (if 0 ≤ a1 then (if a1 < (l0_2.length : Int) then (if ((rd_T65 l0_2 a1).f0) = 1 then (stage_Lengths.j0 k bt148.1 false 0 1 l0_2) else (stage_Lengths.j0 k bt148.1 (((rd_T65 l0_2 a1).f0) != 2) 0 1 l0_2)) else (none)) else (none)) else (some (([] : List Int), bt148.2)))) = some (r1, r2) := h
 clear h
 replace H := Option.bind_eq_some_iff.mp H
 obtain ⟨⟨t148, t149⟩, A30, H⟩ := H
 replace H : (if t149 = 0 then (if 0 ≤ a1 then (if a1 < (l0_2.length : Int) then (if ((rd_T65 l0_2 a1).f0) = 1 then (stage_Lengths.j0 k t148 false 0 1 l0_2) else (stage_Lengths.j0 k t148 (((rd_T65 l0_2 a1).f0) != 2) 0 1 l0_2)) else (none)) else (none)) else (some (([] : List Int), t149))) = some (r1, r2) := H
 have A3 := XPrint.A0 A30
 clear A30
 by_cases c4 : t149 = 0
 ·rw [if_pos c4] at H
  have c4b0 : (t149 == 0) = true := beq_iff_eq.mpr c4
  have c4b1 : (t149 != 0) = false := bne_eq_false_iff_eq.mpr c4
  clear c4
  by_cases c5 : 0 ≤ a1
  ·rw [if_pos c5] at H
   have c5b0 : decide (0 ≤ a1) = true := decide_eq_true c5
   clear c5
   by_cases c6 : a1 < (l0_2.length : Int)
   ·rw [if_pos c6] at H
    have c6b0 : decide (a1 < (l0_2.length : Int)) = true := decide_eq_true c6
    clear c6
    have HC7 := XPrint.A0 H
    clear H
    go_enter Try.func48, Try.ntmps48
    go_upto_region 6 with (first | ((with_reducible refine gate_dst (N := 2) rfl ?_); refine box_event ?hg (N := 2) ?hd (cs := #[.int .i64 a0_0, .int .i64 a0_1, .slice A0_2 l0_2.length c0_2]) (t := 50) ?hr ?_; (case hd => rfl); (case hg => rfl); (case hr => first | (go_simp; done) | (go_simp; rfl)); intro gb147 hg w8 hbox hb; have n0_ := XPrint.A0 (below_step (by exact XPrint.bz HB.out) hb); have n1_ := XPrint.A0 (hbox); have n2_ := XPrint.A0 (XPrint.gz HB.out hg); have n3_ := XPrint.A0 (XPrint.gz HB.out hg); clear HB; have HB := n0_; have BK147 := n1_; have GW147 := n2_; have GE147 := n3_; clear n0_ n1_ n2_ n3_; clear hb hbox hg; have hcz9_0 : w8.cell? ⟨gb147, 0, none⟩ = some (.int .i64 a0_0) := (blk_cell BK147.out 0).trans rfl; have hcz9_1 : w8.cell? ⟨gb147, 1, none⟩ = some (.int .i64 a0_1) := (blk_cell BK147.out 1).trans rfl; have hcz9_2 : w8.cell? ⟨gb147, 2, none⟩ = some (.slice A0_2 l0_2.length c0_2) := (blk_cell BK147.out 2).trans rfl; have hfz9_0 := blk_frozen BK147.out 0; have hfz9_1 := blk_frozen BK147.out 1; have hfz9_2 := blk_frozen BK147.out 2) | ((with_reducible refine gate_callee (f := 38) rfl ?_); refine XPrint.gl (some 20) Try.func38 #[.slice A0_2 l0_2.length c0_2, .int .i64 a1] ?_; (with_reducible refine (shape_Kids.calls _ _ l0_2 a1 t148 t149 _ ?side1 ?side2 A3.out).mono ?_); (case side1 => exact Kd.C_below HR0_2.out (by repeat (first | (with_reducible first | exact HB.out | apply below_alloc | apply pw_below_drewN | apply below_drew1 | refine below_set ?_ GE147.out) | exact HB.out))); (case side2 => exact HC0_2.out); rintro e w10 ⟨v150, rfl, ho0, hb⟩; refine ⟨_, rfl, ?_⟩; have n0_ := XPrint.A0 (Kd.R_lower ho0 (below_size (by repeat (first | (with_reducible first | exact HB.out | apply below_alloc | apply pw_below_drewN | apply below_drew1 | refine below_set ?_ GE147.out) | exact HB.out)))); have n1_ := XPrint.A0 (blk_below (g := gb147) (o := .cells #[.int .i64 0, .int .i64 1, .slice A0_2 l0_2.length c0_2] 50 (0, 0)) (by (repeat with_reducible first | refine XPrint.d1 ?_ | refine XPrint.d2 ?_ _ | refine XPrint.d3 ?_ _); refine blk_put (cs := #[.int .i64 0, .int .i64 a0_1, .slice A0_2 l0_2.length c0_2]) ?_ 1 _ rfl; (repeat with_reducible first | refine XPrint.d1 ?_ | refine XPrint.d2 ?_ _ | refine XPrint.d3 ?_ _); refine blk_put (cs := #[.int .i64 a0_0, .int .i64 a0_1, .slice A0_2 l0_2.length c0_2]) ?_ 0 _ rfl; (repeat with_reducible first | refine XPrint.d1 ?_ | refine XPrint.d2 ?_ _ | refine XPrint.d3 ?_ _); exact BK147.out) hb); have n2_ := XPrint.A0 (below_step (by repeat (first | (with_reducible first | exact HB.out | apply below_alloc | apply pw_below_drewN | apply below_drew1 | refine below_set ?_ GE147.out) | exact HB.out)) hb); clear BK147; clear HB; have HO151 := n0_; have BK147 := n1_; have HB := n2_; clear n0_ n1_ n2_; (try clear hb); (try clear hb2); (try clear hk); (try clear hi); (try clear ho0); have hcz11_0 : w10.cell? ⟨gb147, 0, none⟩ = some (.int .i64 0) := (blk_cell BK147.out 0).trans rfl; have hcz11_1 : w10.cell? ⟨gb147, 1, none⟩ = some (.int .i64 1) := (blk_cell BK147.out 1).trans rfl; have hcz11_2 : w10.cell? ⟨gb147, 2, none⟩ = some (.slice A0_2 l0_2.length c0_2) := (blk_cell BK147.out 2).trans rfl; have hfz11_0 := blk_frozen BK147.out 0; have hfz11_1 := blk_frozen BK147.out 1; have hfz11_2 := blk_frozen BK147.out 2; have p152 : 0 ≤ (a1 : Int) := of_decide_eq_true (by first | (with_reducible assumption) | assumption); have q152 : a1 < (l0_2.length : Int) := of_decide_eq_true (by first | (with_reducible assumption) | assumption); obtain ⟨ad152, e152, hx152_0, hx152_1, hx152_2, hx152_3, hx152_4⟩ := at_T65 HR0_2.out a1 p152 q152; cases e152; replace hx152_0 := (HB.out.cell (World.block_lt_of_cell? w _ hx152_0)).trans hx152_0; replace hx152_1 := (HB.out.cell (World.block_lt_of_cell? w _ hx152_1)).trans hx152_1; replace hx152_2 := (HB.out.cell (World.block_lt_of_cell? w _ hx152_2)).trans hx152_2; replace hx152_3 := (HB.out.cell (World.block_lt_of_cell? w _ hx152_3)).trans hx152_3; replace hx152_4 := (HB.out.cell (World.block_lt_of_cell? w _ hx152_4)).trans hx152_4; replace p152 := eq_true p152; replace q152 := eq_true q152))
    (try simp only [XPrint.pw])
    go_cut [37] (fun v37 wc => ∃ (kq : Nat) (x37_6 : Bool), v37 = .bool x37_6 ∧ Aside0 (stage_Lengths.j0 kq t148 x37_6 0 1 l0_2 = some (r1, r2)) ∧ Aside0 (kq ≤ k) ∧ Aside0 (Kd.R (Kd.int .i64) 3 wc w.heap.size (fun _ => True) v150 t148) ∧ Aside0 (wc.heap[gb147]? = some (.cells #[.int .i64 0, .int .i64 1, (.slice (some ad152) l0_2.length c0_2)] 50 (0, 0))) ∧ Aside0 (Below w.heap.size w wc))
    case first =>
     have H := HC7.out
     clear HC7
     by_cases c12 : ((rd_T65 l0_2 a1).f0) = 1
     ·rw [if_pos c12] at H
      have c12b0 : (((rd_T65 l0_2 a1).f0) == 1) = true := beq_iff_eq.mpr c12
      have c12b1 : (((rd_T65 l0_2 a1).f0) != 1) = false := bne_eq_false_iff_eq.mpr c12
      clear c12
      (first | rw [c12b0] | (simp only [i64_w, i32_w]; rw [c12b0]) | skip)
      have H' := XPrint.A0 H
      clear H
      go_wp2
      go_meet
      case rel => exact ⟨_, (false), (by first | rfl | (simp; done) | (simp [*]; done)), H', ⟨by first | omega | exact Nat.le_refl _⟩, ⟨by (with_reducible repeat (first | apply Kd.R_alloc | apply Kd.R_drewN | apply Kd.R_drew)); exact HO151.out⟩, ⟨by (repeat with_reducible first | refine XPrint.d1 ?_ | refine XPrint.d2 ?_ _ | refine XPrint.d3 ?_ _); exact BK147.out⟩, ⟨by exact XPrint.bz HB.out⟩⟩
     ·rw [if_neg c12] at H
      have c12b0 : (((rd_T65 l0_2 a1).f0) == 1) = false := beq_eq_false_iff_ne.mpr c12
      have c12b1 : (((rd_T65 l0_2 a1).f0) != 1) = true := bne_iff_ne.mpr c12
      (first | rw [c12b0] | (simp only [i64_w, i32_w]; rw [c12b0]) | skip)
      have H' := XPrint.A0 H
      clear H
      go_wp2
      go_meet
      case rel => exact ⟨_, ((((rd_T65 l0_2 a1).f0) != 2)), (by first | rfl | (simp; done) | (simp [*]; done)), H', ⟨by first | omega | exact Nat.le_refl _⟩, ⟨by (with_reducible repeat (first | apply Kd.R_alloc | apply Kd.R_drewN | apply Kd.R_drew)); exact HO151.out⟩, ⟨by (repeat with_reducible first | refine XPrint.d1 ?_ | refine XPrint.d2 ?_ _ | refine XPrint.d3 ?_ _); exact BK147.out⟩, ⟨by exact XPrint.bz HB.out⟩⟩
    case rest =>
     clear HC7
     try clear c1
     try clear p1
     try clear q1
     try clear hx1
     try clear p2
     try clear c3
     try clear c4
     try clear c4b0
     try clear c4b1
     try clear c5
     try clear c5b0
     try clear c6
     try clear c6b0
     try clear c12
     try clear c12b0
     try clear c12b1
     try clear hcz11_0
     try clear hcz11_1
     try clear hcz11_2
     try clear hcz9_0
     try clear hcz9_1
     try clear hcz9_2
     try clear hfz11_0
     try clear hfz11_1
     try clear hfz11_2
     try clear hfz9_0
     try clear hfz9_1
     try clear hfz9_2
     try clear hx152_0
     try clear hx152_1
     try clear hx152_2
     try clear hx152_3
     try clear hx152_4
     try clear p152
     try clear q152
     obtain ⟨kq, x37_6, rfl, HA, HJ6, HO_6, BK147, HB⟩ := hcut
     cases kq with
     | zero => exact absurd HA.out (by simp [stage_Lengths.j0])
     | succ kj6 =>
      have H := HA.out
      clear HA
      simp only [stage_Lengths.j0] at H
      by_cases c13 : x37_6 = true
      ·subst c13
       have H1 := H; rw [if_pos rfl] at H1
       clear H
       have H := H1
       clear H1
       simp only [Option.some.injEq, Prod.mk.injEq] at H
       obtain ⟨rfl, rfl⟩ := H
       go_wp2
       go_ret2
       exact ⟨_, by first | rfl | (simp [errW_none, errW_some] <;> rfl) | (simp [*, errW_none, errW_some] <;> rfl), by first | exact Kd.R_nil _ _ _ _ _ | exact Kd.N_nil _ _ _ _ _ | exact Kd.V_nil _ _ _ _ _ | exact Kd.Q_nil _ _ _ _ _ | exact Kd.S_nil _ _ _ _ _, by exact XPrint.bz HB.out⟩
      ·replace c13 := Bool.eq_false_iff.mpr c13
       subst c13
       have H1 := H; rw [if_neg (show ¬ (false = true) by decide)] at H1
       clear H
       have H := H1
       clear H1
       have H' := XPrint.A0 H
       clear H
       obtain ⟨Ao14, co14, eo14⟩ := Kd.R_slice HO_6.out
       subst eo14
       go_wp2
       go_loopg [9, 40] kj6 (fun kq v9 v40 w' => ∃ (x9_2 : List Int) (x40_2 : Int), v40 = .int .i64 x40_2 ∧ Aside0 (stage_Lengths.l0 kq x9_2 t148 (t148.length : Int) x40_2 0 1 l0_2 = some (r1, r2)) ∧ Aside0 (kq ≤ kj6) ∧ Aside0 (Kd.R (Kd.int .i64) 2 w' w.heap.size (fun _ => True) v9 x9_2) ∧ Aside0 (Kd.R (Kd.int .i64) 3 w' w.heap.size (fun _ => True) (.slice Ao14 t148.length co14) t148) ∧ Aside0 (w'.heap[gb147]? = some (.cells #[.int .i64 0, .int .i64 1, (.slice (some ad152) l0_2.length c0_2)] 50 (0, 0))) ∧ Aside0 (Below w.heap.size w w'))
       case atStart => exact ⟨(([] : List Int)), (0), (by first | rfl | (simp; done) | (simp [*]; done)), H', ⟨Nat.le_refl _⟩, ⟨by first | exact Kd.R_nil _ _ _ _ _ | exact Kd.N_nil _ _ _ _ _ | exact Kd.V_nil _ _ _ _ _ | exact Kd.Q_nil _ _ _ _ _ | exact Kd.S_nil _ _ _ _ _⟩, ⟨by (with_reducible repeat (first | apply Kd.R_alloc | apply Kd.R_drewN | apply Kd.R_drew)); exact HO_6.out⟩, ⟨by (repeat with_reducible first | refine XPrint.d1 ?_ | refine XPrint.d2 ?_ _ | refine XPrint.d3 ?_ _); exact BK147.out⟩, ⟨by exact XPrint.bz HB.out⟩⟩
       case round =>
        clear H'
        try clear c1
        try clear p1
        try clear q1
        try clear hx1
        try clear p2
        try clear c3
        try clear c4
        try clear c4b0
        try clear c4b1
        try clear c5
        try clear c5b0
        try clear c6
        try clear c6b0
        try clear c12
        try clear c12b0
        try clear c12b1
        try clear c13
        try clear hcz11_0
        try clear hcz11_1
        try clear hcz11_2
        try clear hcz9_0
        try clear hcz9_1
        try clear hcz9_2
        try clear hfz11_0
        try clear hfz11_1
        try clear hfz11_2
        try clear hfz9_0
        try clear hfz9_1
        try clear hfz9_2
        try clear hx152_0
        try clear hx152_1
        try clear hx152_2
        try clear hx152_3
        try clear hx152_4
        try clear p1
        try clear p152
        try clear p2
        try clear q1
        try clear q152
        obtain ⟨x9_2, x40_2, rfl, HA, HK2, HO_9, HO_38, BK147, HB⟩ := hrel
        cases gk with
        | zero => exact absurd HA.out (by simp [stage_Lengths.l0])
        | succ k2 =>
         have H := HA.out
         clear HA
         simp only [stage_Lengths.l0] at H
         by_cases c15 : x40_2 < (t148.length : Int)
         ·rw [if_pos c15] at H
          have c15b0 : decide (x40_2 < (t148.length : Int)) = true := decide_eq_true c15
          clear c15
          by_cases c16 : 0 ≤ x40_2
          ·rw [if_pos c16] at H
           have c16b0 : decide (0 ≤ x40_2) = true := decide_eq_true c16
           clear c16
           by_cases c17 : x40_2 < (t148.length : Int)
           ·rw [if_pos c17] at H
            have c17b0 : decide (x40_2 < (t148.length : Int)) = true := decide_eq_true c17
            clear c17
            replace H := Option.bind_eq_some_iff.mp H
            obtain ⟨⟨t154, t155⟩, A180, H⟩ := H
            replace H : (if x9_2.length < 17592186044416 then (stage_Lengths.l0 k2 (x9_2 ++ [t154]) t148 (t148.length : Int) (wrap64 (x40_2 + 1)) 0 1 l0_2) else (none)) = some (r1, r2) := H
            have A18 := XPrint.A0 A180
            clear A180
            by_cases c19 : x9_2.length < 17592186044416
            ·rw [if_pos c19] at H
             have LMc19 := XPrint.A0 c19
             clear c19
             obtain ⟨y156, hy156⟩ : ∃ y_ : List Int, y_ = (x9_2 ++ [t154]) := ⟨_, rfl⟩
             replace H : (stage_Lengths.l0 k2 y156 t148 (t148.length : Int) (wrap64 (x40_2 + 1)) 0 1 l0_2) = some (r1, r2) := by first | (rw [hy156]; with_reducible exact H) | (have H2_ := (Option.bind_some _ _).symm.trans H; rw [hy156]; with_reducible exact H2_) | (have H2_ := (Option.bind_some _ _).symm.trans H; with_reducible exact H2_) | with_reducible exact H | (rw [hy156]; exact H) | exact H
             have Ny156 := XPrint.A0 hy156
             clear hy156
             have H' := XPrint.A0 H
             clear H
             have p153 : 0 ≤ (x40_2 : Int) := of_decide_eq_true (by first | (with_reducible assumption) | assumption)
             have q153 : x40_2 < (t148.length : Int) := of_decide_eq_true (by first | (with_reducible assumption) | assumption)
             obtain ⟨ad153, e153, hx153_0⟩ := Kd.at_int (Kd.R_reads' HO_38.out).2.2 x40_2 p153 q153
             cases e153
             replace p153 := eq_true p153
             replace q153 := eq_true q153
             have hcz20_0 : wr.cell? ⟨gb147, 0, none⟩ = some (.int .i64 0) := (blk_cell BK147.out 0).trans rfl
             have hcz20_1 : wr.cell? ⟨gb147, 1, none⟩ = some (.int .i64 1) := (blk_cell BK147.out 1).trans rfl
             have hcz20_2 : wr.cell? ⟨gb147, 2, none⟩ = some (.slice (some ad152) l0_2.length c0_2) := (blk_cell BK147.out 2).trans rfl
             have hfz20_0 := blk_frozen BK147.out 0
             have hfz20_1 := blk_frozen BK147.out 1
             have hfz20_2 := blk_frozen BK147.out 2
             go_wp2_with (first | ((with_reducible refine gate_callee (f := 49) rfl ?_); refine XPrint.gl (some 47) Try.func49 #[.agg #[.int .i64 0, .int .i64 1, .slice (some ad152) l0_2.length c0_2], .int .i64 (rd t148 x40_2)] ?_; (with_reducible refine (sat_Short.calls k2 0 1 _ _ l0_2 (rd t148 x40_2) t154 t155 _ ?side1 ?side2 A18.out).mono ?_); (case side1 => repeat (first | exact (Kd.C_below HR0_2.out HB.out) | (with_reducible refine Kd.C_alloc ?_ _) | (with_reducible refine Kd.C_drewN ?_ _) | (with_reducible refine Kd.C_drew ?_))); (case side2 => exact HC0_2.out); rintro e w21 ⟨rfl, hb⟩; refine ⟨_, rfl, ?_⟩; replace HO_9 := XPrint.A0 (Kd.R_below (by (with_reducible repeat (first | apply Kd.R_alloc | apply Kd.R_drewN | apply Kd.R_drew)); exact HO_9.out) hb); replace HO_38 := XPrint.A0 (Kd.R_below (by (with_reducible repeat (first | apply Kd.R_alloc | apply Kd.R_drewN | apply Kd.R_drew)); exact HO_38.out) hb); replace BK147 := XPrint.A0 (XPrint.ab BK147.out hb); replace HB := XPrint.A0 (below_step (by exact XPrint.bz HB.out) hb); (try clear hb); (try clear hb2); (try clear hk); (try clear hi)) | ((with_reducible refine gate_builtin (b := .append) (xs := #[.tmp 50, .tmp 52]) rfl ?_); at_builtin; refine Kd.R_append (Kd.int .i64) (w0 := w) w.heap.size rfl (.tmp 50) (.tmp 52) 72 2 (.int .i64 0) 8 rfl Try.underlying72 info2 rfl (by decide) (by omega) u9 x9_2 t154 [.int .i64 t154] (fun _ => True) (fun _ => False) rfl rfl ?aP (fun _ hk => hk.elim) ?aF ?aO ?aB ?aS ?aL ?_; (case aP => exact rfl); (case aB => exact (by exact XPrint.bz HB.out)); (case aF => exact (fun _ _ => trivial)); (case aO => exact (by (with_reducible repeat (first | apply Kd.R_alloc | apply Kd.R_drewN | apply Kd.R_drew)); exact HO_9.out)); (case aS => exact (below_size (by exact XPrint.bz HB.out))); (case aL => have := LMc19.out; omega); intro v157 w22 ho hb hg hat; rw [← Ny156.out] at ho; have HO158 := XPrint.A0 (ho); replace HO_38 := XPrint.A0 (Kd.R_over' (by (with_reducible repeat (first | apply Kd.R_alloc | apply Kd.R_drewN | apply Kd.R_drew)); exact HO_38.out) (Kd.R_typed (by (with_reducible repeat (first | apply Kd.R_alloc | apply Kd.R_drewN | apply Kd.R_drew)); exact HO_9.out)) (by decide) hg); replace BK147 := XPrint.A0 (blk_grown (g := gb147) (o := .cells #[.int .i64 0, .int .i64 1, .slice (some ad152) l0_2.length c0_2] 50 (0, 0)) (XPrint.ak BK147.out) hg (Kd.R_ne HO_9.out BK147.out (by decide))); replace HB := XPrint.A0 (hb); clear HO_9; clear ho hb hg hat))
             go_roundg k2
             case measure => have := HJ6.out; have := HK2.out; omega
             case rel => exact ⟨(y156), (wrap64 (x40_2 + 1)), (by first | rfl | (simp; done) | (simp [*]; done)), H', ⟨by have := HJ6.out; have := HK2.out; omega⟩, ⟨by (with_reducible repeat (first | apply Kd.R_alloc | apply Kd.R_drewN | apply Kd.R_drew)); exact HO158.out⟩, ⟨by (with_reducible repeat (first | apply Kd.R_alloc | apply Kd.R_drewN | apply Kd.R_drew)); exact HO_38.out⟩, ⟨by (repeat with_reducible first | refine XPrint.d1 ?_ | refine XPrint.d2 ?_ _ | refine XPrint.d3 ?_ _); exact BK147.out⟩, ⟨by exact XPrint.bz HB.out⟩⟩
            ·rw [if_neg c19] at H
             exact absurd H (by simp)
           ·rw [if_neg c17] at H
            exact absurd H (by simp)
          ·rw [if_neg c16] at H
           exact absurd H (by simp)
         ·rw [if_neg c15] at H
          have c15b0 : decide (x40_2 < (t148.length : Int)) = false := decide_eq_false c15
          clear c15
          simp only [Option.some.injEq, Prod.mk.injEq] at H
          obtain ⟨rfl, rfl⟩ := H
          go_wp2
          go_ret2
          exact ⟨_, by first | rfl | (simp [errW_none, errW_some] <;> rfl) | (simp [*, errW_none, errW_some] <;> rfl), by (with_reducible repeat (first | apply Kd.R_alloc | apply Kd.R_drewN | apply Kd.R_drew)); exact HO_9.out, by exact XPrint.bz HB.out⟩
   ·rw [if_neg c6] at H
    exact absurd H (by simp)
  ·rw [if_neg c5] at H
   exact absurd H (by simp)
 ·rw [if_neg c4] at H
  have c4b0 : (t149 == 0) = false := beq_eq_false_iff_ne.mpr c4
  have c4b1 : (t149 != 0) = true := bne_iff_ne.mpr c4
  simp only [Option.some.injEq, Prod.mk.injEq] at H
  obtain ⟨rfl, rfl⟩ := H
  go_enter Try.func48, Try.ntmps48
  go_wp2_with (first | ((with_reducible refine gate_dst (N := 2) rfl ?_); refine box_event ?hg (N := 2) ?hd (cs := #[.int .i64 a0_0, .int .i64 a0_1, .slice A0_2 l0_2.length c0_2]) (t := 50) ?hr ?_; (case hd => rfl); (case hg => rfl); (case hr => first | (go_simp; done) | (go_simp; rfl)); intro gb147 hg w23 hbox hb; have BK147 := XPrint.A0 (hbox); have GW147 := XPrint.A0 (XPrint.gz HB.out hg); have GE147 := XPrint.A0 (XPrint.gz HB.out hg); replace HB := XPrint.A0 (below_step (by exact XPrint.bz HB.out) hb); clear hb hbox hg; have hcz24_0 : w23.cell? ⟨gb147, 0, none⟩ = some (.int .i64 a0_0) := (blk_cell BK147.out 0).trans rfl; have hcz24_1 : w23.cell? ⟨gb147, 1, none⟩ = some (.int .i64 a0_1) := (blk_cell BK147.out 1).trans rfl; have hcz24_2 : w23.cell? ⟨gb147, 2, none⟩ = some (.slice A0_2 l0_2.length c0_2) := (blk_cell BK147.out 2).trans rfl; have hfz24_0 := blk_frozen BK147.out 0; have hfz24_1 := blk_frozen BK147.out 1; have hfz24_2 := blk_frozen BK147.out 2) | ((with_reducible refine gate_callee (f := 38) rfl ?_); refine XPrint.gl (some 20) Try.func38 #[.slice A0_2 l0_2.length c0_2, .int .i64 a1] ?_; (with_reducible refine (shape_Kids.calls _ _ l0_2 a1 t148 t149 _ ?side1 ?side2 A3.out).mono ?_); (case side1 => exact Kd.C_below HR0_2.out (by repeat (first | (with_reducible first | exact HB.out | apply below_alloc | apply pw_below_drewN | apply below_drew1 | refine below_set ?_ GE147.out) | exact HB.out))); (case side2 => exact HC0_2.out); rintro e w25 ⟨v150, rfl, ho0, hb⟩; refine ⟨_, rfl, ?_⟩; have HO151 := XPrint.A0 (Kd.R_lower ho0 (below_size (by repeat (first | (with_reducible first | exact HB.out | apply below_alloc | apply pw_below_drewN | apply below_drew1 | refine below_set ?_ GE147.out) | exact HB.out)))); replace BK147 := XPrint.A0 (blk_below (g := gb147) (o := .cells #[.int .i64 0, .int .i64 1, .slice A0_2 l0_2.length c0_2] 50 (0, 0)) (by (repeat with_reducible first | refine XPrint.d1 ?_ | refine XPrint.d2 ?_ _ | refine XPrint.d3 ?_ _); refine blk_put (cs := #[.int .i64 0, .int .i64 a0_1, .slice A0_2 l0_2.length c0_2]) ?_ 1 _ rfl; (repeat with_reducible first | refine XPrint.d1 ?_ | refine XPrint.d2 ?_ _ | refine XPrint.d3 ?_ _); refine blk_put (cs := #[.int .i64 a0_0, .int .i64 a0_1, .slice A0_2 l0_2.length c0_2]) ?_ 0 _ rfl; (repeat with_reducible first | refine XPrint.d1 ?_ | refine XPrint.d2 ?_ _ | refine XPrint.d3 ?_ _); exact BK147.out) hb); replace HB := XPrint.A0 (below_step (by repeat (first | (with_reducible first | exact HB.out | apply below_alloc | apply pw_below_drewN | apply below_drew1 | refine below_set ?_ GE147.out) | exact HB.out)) hb); (try clear hb); (try clear hb2); (try clear hk); (try clear hi); (try clear ho0)))
  go_ret2
  exact ⟨_, by first | rfl | (simp [errW_none, errW_some] <;> rfl) | (simp [*, errW_none, errW_some] <;> rfl), by first | exact Kd.R_nil _ _ _ _ _ | exact Kd.N_nil _ _ _ _ _ | exact Kd.V_nil _ _ _ _ _ | exact Kd.Q_nil _ _ _ _ _ | exact Kd.S_nil _ _ _ _ _, by exact XPrint.bz HB.out⟩

/-! ### liverylaw18_plan: function 72 -/
def liverylaw18_plan.f  : Option (Int × Int × (List (S65))) := some (0, 100, (([(⟨1, 0, 0, 0, 2⟩ : S65), (⟨0, 2, 1, 10, 0⟩ : S65), (⟨3, 0, 0, 0, 2⟩ : S65), (⟨0, 4, 2, 5, 0⟩ : S65), (⟨0, 1, 1, 20, 0⟩ : S65)] : List (S65))))
set_option maxHeartbeats 8000000 in
set_option maxRecDepth 100000 in
theorem liverylaw18_plan.calls  (r1 : Int) (r2 : Int) (r3 : List (S65)) (w : World) (h : liverylaw18_plan.f  = some (r1, r2, r3)) :
  Calls Try.prog 72 #[] w fun e w' => ∃ v2_ : Value, e = .returned (.agg #[.int .i64 r1, .int .i64 r2, v2_]) ∧ Kd.R k65 65 w' w.heap.size (fun _ => True) v2_ r3 ∧ Below w.heap.size w w' := by
 have hu50 := Try.underlying50
 have hu65 := Try.underlying65
 have HB := XPrint.A0 (Below.refl w.heap.size w)
 have H : (some (0, 100, (([(⟨1, 0, 0, 0, 2⟩ : S65), (⟨0, 2, 1, 10, 0⟩ : S65), (⟨3, 0, 0, 0, 2⟩ : S65), (⟨0, 4, 2, 5, 0⟩ : S65), (⟨0, 1, 1, 20, 0⟩ : S65)] : List (S65))))) = some (r1, r2, r3) := h
 clear h
 obtain ⟨y160, hy160⟩ : ∃ y_ : List (S65), y_ = (([(⟨1, 0, 0, 0, 2⟩ : S65), (⟨0, 2, 1, 10, 0⟩ : S65), (⟨3, 0, 0, 0, 2⟩ : S65), (⟨0, 4, 2, 5, 0⟩ : S65), (⟨0, 1, 1, 20, 0⟩ : S65)] : List (S65))) := ⟨_, rfl⟩
 replace H : (some (0, 100, y160)) = some (r1, r2, r3) := by first | (rw [hy160]; with_reducible exact H) | (have H2_ := (Option.bind_some _ _).symm.trans H; rw [hy160]; with_reducible exact H2_) | (have H2_ := (Option.bind_some _ _).symm.trans H; with_reducible exact H2_) | with_reducible exact H | (rw [hy160]; exact H) | exact H
 have Ny160 := XPrint.A0 hy160
 clear hy160
 simp only [Option.some.injEq, Prod.mk.injEq] at H
 obtain ⟨rfl, rfl, rfl⟩ := H
 go_enter Try.func72, Try.ntmps72
 go_wp2_with (first | ((with_reducible refine gate_dst (N := 0) rfl ?_); refine box_event ?hg (N := 0) ?hd (cs := #[.int .i64 0, .int .i64 0, .slice none 0 0]) (t := 50) ?hr ?_; (case hd => rfl); (case hg => rfl); (case hr => first | (go_simp; done) | (go_simp; rfl)); intro gb159 hg w1 hbox hb; have BK159 := XPrint.A0 (hbox); have GW159 := XPrint.A0 (XPrint.gz HB.out hg); have GE159 := XPrint.A0 (XPrint.gz HB.out hg); replace HB := XPrint.A0 (below_step (by exact XPrint.bz HB.out) hb); clear hb hbox hg) | ((with_reducible refine gate_dst (N := 6) rfl ?_); refine Kd.R_lit k65 _ 65 ?hg (N := 6) ?hd (xs := ([(⟨1, 0, 0, 0, 2⟩ : S65), (⟨0, 2, 1, 10, 0⟩ : S65), (⟨3, 0, 0, 0, 2⟩ : S65), (⟨0, 4, 2, 5, 0⟩ : S65), (⟨0, 1, 1, 20, 0⟩ : S65)] : List (S65))) (inner := [.int .u8 1, .int .u32 0, .int .u32 0, .int .i64 0, .int .i64 2, .int .u8 0, .int .u32 2, .int .u32 1, .int .i64 10, .int .i64 0, .int .u8 3, .int .u32 0, .int .u32 0, .int .i64 0, .int .i64 2, .int .u8 0, .int .u32 4, .int .u32 2, .int .i64 5, .int .i64 0, .int .u8 0, .int .u32 1, .int .u32 1, .int .i64 20, .int .i64 0]) (ok := fun _ => True) (okp := fun _ => True) ?hr ?hp (fun _ hk => hk) trivial (Below.refl _ _) (Nat.le_refl _) (by simp) ?_; (case hd => rfl); (case hg => rfl); (case hr => first | (go_simp; done) | (go_simp; rfl)); (case hp => exact (Reps.c5 (show Kd.M k65 _ _ _ (⟨1, 0, 0, 0, 2⟩ : S65) [.int .u8 1, .int .u32 0, .int .u32 0, .int .i64 0, .int .i64 2] from (k65_mkM _ _ _ (⟨1, 0, 0, 0, 2⟩ : S65) )) (Reps.c5 (show Kd.M k65 _ _ _ (⟨0, 2, 1, 10, 0⟩ : S65) [.int .u8 0, .int .u32 2, .int .u32 1, .int .i64 10, .int .i64 0] from (k65_mkM _ _ _ (⟨0, 2, 1, 10, 0⟩ : S65) )) (Reps.c5 (show Kd.M k65 _ _ _ (⟨3, 0, 0, 0, 2⟩ : S65) [.int .u8 3, .int .u32 0, .int .u32 0, .int .i64 0, .int .i64 2] from (k65_mkM _ _ _ (⟨3, 0, 0, 0, 2⟩ : S65) )) (Reps.c5 (show Kd.M k65 _ _ _ (⟨0, 4, 2, 5, 0⟩ : S65) [.int .u8 0, .int .u32 4, .int .u32 2, .int .i64 5, .int .i64 0] from (k65_mkM _ _ _ (⟨0, 4, 2, 5, 0⟩ : S65) )) (Reps.c5 (show Kd.M k65 _ _ _ (⟨0, 1, 1, 20, 0⟩ : S65) [.int .u8 0, .int .u32 1, .int .u32 1, .int .i64 20, .int .i64 0] from (k65_mkM _ _ _ (⟨0, 1, 1, 20, 0⟩ : S65) )) (Reps.none _ _))))))); intro v161 w2 ho3 hb hg_ hnew_; clear hg_ hnew_; (first | rw [← Ny160.out] at ho3 | (simp only [Int.reduceToNat] at ho3; rw [← Ny160.out] at ho3)); have HO162 := XPrint.A0 (Kd.R_lower ho3 (below_size (by exact XPrint.bz HB.out))); replace BK159 := XPrint.A0 (XPrint.ab BK159.out hb); replace HB := XPrint.A0 (below_step (by exact XPrint.bz HB.out) hb); clear hb ho3; obtain ⟨Ao4, co4, eo4⟩ := Kd.R_slice HO162.out; subst eo4; have hcz5_0 : w2.cell? ⟨gb159, 0, none⟩ = some (.int .i64 0) := (blk_cell BK159.out 0).trans rfl; have hcz5_1 : w2.cell? ⟨gb159, 1, none⟩ = some (.int .i64 0) := (blk_cell BK159.out 1).trans rfl; have hcz5_2 : w2.cell? ⟨gb159, 2, none⟩ = some (.slice none 0 0) := (blk_cell BK159.out 2).trans rfl; have hfz5_0 := blk_frozen BK159.out 0; have hfz5_1 := blk_frozen BK159.out 1; have hfz5_2 := blk_frozen BK159.out 2))
 refine bodyPost_ret (results_cell_row rfl _ _ gb159 50 #[.int .i64 0, .int .i64 100, .slice Ao4 y160.length co4] (0, 0) _ rfl (by (repeat with_reducible first | refine XPrint.d1 ?_ | refine XPrint.d2 ?_ _ | refine XPrint.d3 ?_ _); refine blk_put (cs := #[.int .i64 0, .int .i64 100, .slice none 0 0]) ?_ 2 _ rfl; (repeat with_reducible first | refine XPrint.d1 ?_ | refine XPrint.d2 ?_ _ | refine XPrint.d3 ?_ _); refine blk_put (cs := #[.int .i64 0, .int .i64 0, .slice none 0 0]) ?_ 1 _ rfl; (repeat with_reducible first | refine XPrint.d1 ?_ | refine XPrint.d2 ?_ _ | refine XPrint.d3 ?_ _); refine blk_put (cs := #[.int .i64 0, .int .i64 0, .slice none 0 0]) ?_ 0 _ rfl; (repeat with_reducible first | refine XPrint.d1 ?_ | refine XPrint.d2 ?_ _ | refine XPrint.d3 ?_ _); exact BK159.out) Try.underlying50 rfl (by kernel_rfl)) rfl ?_
 exact ⟨_, by first | rfl | (simp [errW_none, errW_some] <;> rfl) | (simp [*, errW_none, errW_some] <;> rfl), by (with_reducible repeat (first | apply Kd.R_alloc | apply Kd.R_drewN | apply Kd.R_drew)); exact Kd.R_mono (Kd.R_far (p := ⟨gb159, 2, none⟩) (Kd.R_far (p := ⟨gb159, 1, none⟩) (Kd.R_far (p := ⟨gb159, 0, none⟩) (Kd.R_types HO162.out BK159.out (by decide)) (fun _ hk => hk.2) (.int .i64 0)) (fun _ hk => hk.2) (.int .i64 100)) (fun _ hk => hk.2) (.slice Ao4 y160.length co4)) (fun _ hk => trivial), by repeat (first | (with_reducible first | exact HB.out | apply below_alloc | apply pw_below_drewN | apply below_drew1 | refine below_set ?_ GE159.out) | exact HB.out)⟩

/-! ### liverylaw18_ends: function 73 -/
mutual
def liverylaw18_ends.j0 : Nat → List Int → List (S71) → Bool → Option (Bool)
 | 0, _, _, _ => none
 | k + 1, x3, x9, x29 => if x29 = true then (some false) else (liverylaw18_ends.l0 k x3 x9 0 0)
def liverylaw18_ends.l0 : Nat → List Int → List (S71) → Int → Int → Option (Bool)
 | 0, _, _, _, _ => none
 | k + 1, x3, x9, x11, x12 => if x12 < (x9.length : Int) then (if 0 ≤ x12 then (if x12 < (x3.length : Int) then (if (!(((rd_T71 x9 x12).f0) == x11) || (!(((rd_T71 x9 x12).f1) == (rd x3 x12)))) = true then (some false) else (liverylaw18_ends.l0 k x3 x9 (rd x3 x12) (wrap64 (x12 + 1)))) else (none)) else (none)) else (some true)
end
def liverylaw18_ends.f (k : Nat) (l0 : List Int) (a1 : Int) (a2 : Int) (l3 : List Int) : Option (Bool) := (stage_Split.f k 0 a1 l0 a2).bind fun bt163 => (if bt163.2 = 0 then (liverylaw18_ends.j0 k l3 bt163.1 ((bt163.1.length : Int) != (l3.length : Int))) else (liverylaw18_ends.j0 k l3 bt163.1 true))
theorem liverylaw18_ends.mono_l : ∀ k, (∀ y0 y1 y2, LeO (liverylaw18_ends.j0 k y0 y1 y2) (liverylaw18_ends.j0 (k + 1) y0 y1 y2)) ∧ (∀ y0 y1 y2 y3, LeO (liverylaw18_ends.l0 k y0 y1 y2 y3) (liverylaw18_ends.l0 (k + 1) y0 y1 y2 y3))
 | 0 => ⟨fun _ _ _ r h => by simp [liverylaw18_ends.j0] at h, fun _ _ _ _ r h => by simp [liverylaw18_ends.l0] at h⟩
 | k + 1 => by
  obtain ⟨ih0, ih1⟩ := liverylaw18_ends.mono_l k
  refine ⟨?_, ?_⟩
  ·intro y0 y1 y2
   unfold liverylaw18_ends.j0
   repeat' first
   | (with_reducible exact ih0 _ _ _)
   | (with_reducible exact ih1 _ _ _ _)
   | (with_reducible exact stage_Split.mono _ _ _ _ _)
   | (with_reducible exact LeO.refl _)
   | (with_reducible exact LeO.none _)
   | (with_reducible refine LeO.ite ?_ ?_)
   | (with_reducible refine LeO.bind ?_ (fun _ => ?_))
   | exact ih0 _ _ _
   | exact ih1 _ _ _ _
   | exact stage_Split.mono _ _ _ _ _
   | exact LeO.none _
   | refine LeO.ite ?_ ?_
   | refine LeO.bind ?_ (fun _ => ?_)
  ·intro y0 y1 y2 y3
   unfold liverylaw18_ends.l0
   repeat' first
   | (with_reducible exact ih0 _ _ _)
   | (with_reducible exact ih1 _ _ _ _)
   | (with_reducible exact stage_Split.mono _ _ _ _ _)
   | (with_reducible exact LeO.refl _)
   | (with_reducible exact LeO.none _)
   | (with_reducible refine LeO.ite ?_ ?_)
   | (with_reducible refine LeO.bind ?_ (fun _ => ?_))
   | exact ih0 _ _ _
   | exact ih1 _ _ _ _
   | exact stage_Split.mono _ _ _ _ _
   | exact LeO.none _
   | refine LeO.ite ?_ ?_
   | refine LeO.bind ?_ (fun _ => ?_)
theorem liverylaw18_ends.mono : ∀ a0 a1 a2 a3 k, LeO (liverylaw18_ends.f k a0 a1 a2 a3) (liverylaw18_ends.f (k + 1) a0 a1 a2 a3) := by
 intro a0 a1 a2 a3 k
 obtain ⟨ih0, ih1⟩ := liverylaw18_ends.mono_l k
 unfold liverylaw18_ends.f
 repeat' first
   | (with_reducible exact ih0 _ _ _)
   | (with_reducible exact ih1 _ _ _ _)
   | (with_reducible exact stage_Split.mono _ _ _ _ _)
   | (with_reducible exact LeO.refl _)
   | (with_reducible exact LeO.none _)
   | (with_reducible refine LeO.ite ?_ ?_)
   | (with_reducible refine LeO.bind ?_ (fun _ => ?_))
   | exact ih0 _ _ _
   | exact ih1 _ _ _ _
   | exact stage_Split.mono _ _ _ _ _
   | exact LeO.none _
   | refine LeO.ite ?_ ?_
   | refine LeO.bind ?_ (fun _ => ?_)
set_option maxHeartbeats 8000000 in
set_option maxRecDepth 100000 in
theorem liverylaw18_ends.calls (k : Nat) (A0 : Option Addr) (c0 : Nat) (l0 : List Int) (a1 : Int) (a2 : Int) (A3 : Option Addr) (c3 : Nat) (l3 : List Int) (r : Bool) (w : World) (hr0 : Kd.C (Kd.int .i64) w A0 l0.length l0) (hc0 : l0.length ≤ c0) (hr3 : Kd.C (Kd.int .i64) w A3 l3.length l3) (hc3 : l3.length ≤ c3) (h : liverylaw18_ends.f k l0 a1 a2 l3 = some r) :
  Calls Try.prog 73 #[.slice A0 l0.length c0, .int .i64 a1, .int .u8 a2, .slice A3 l3.length c3] w fun e w' => e = .returned (.bool r) ∧ Below w.heap.size w w' := by
 have hu71 := Try.underlying71
 have HR0 := XPrint.A0 hr0
 have HC0 := XPrint.A0 hc0
 clear hr0 hc0
 have HR3 := XPrint.A0 hr3
 have HC3 := XPrint.A0 hc3
 clear hr3 hc3
 have HB := XPrint.A0 (Below.refl w.heap.size w)
 have H : ((stage_Split.f k 0 a1 l0 a2).bind fun bt163 => (if bt163.2 = 0 then (liverylaw18_ends.j0 k l3 bt163.1 ((bt163.1.length : Int) != (l3.length : Int))) else (liverylaw18_ends.j0 k l3 bt163.1 true))) = some r := h
 clear h
 replace H := Option.bind_eq_some_iff.mp H
 obtain ⟨⟨t163, t166⟩, A50, H⟩ := H
 replace H : (if t166 = 0 then (liverylaw18_ends.j0 k l3 t163 ((t163.length : Int) != (l3.length : Int))) else (liverylaw18_ends.j0 k l3 t163 true)) = some r := H
 have A5 := XPrint.A0 A50
 clear A50
 have HC6 := XPrint.A0 H
 clear H
 go_enter Try.func73, Try.ntmps73
 go_upto_region 2 with (first | (go_at_call 47; (with_reducible refine (stage_Split.calls k 0 a1 _ _ l0 a2 t163 t166 _ ?side1 ?side2 A5.out).mono ?_); (case side1 => repeat (first | exact HR0.out | (with_reducible refine Kd.C_alloc ?_ _) | (with_reducible refine Kd.C_drewN ?_ _) | (with_reducible refine Kd.C_drew ?_))); (case side2 => exact HC0.out); rintro e w7 ⟨v164, rfl, ho0, hb⟩; have n0_ := XPrint.A0 (Kd.R_lower ho0 (below_size (by exact XPrint.bz HB.out))); have n1_ := XPrint.A0 (below_step (by exact XPrint.bz HB.out) hb); clear HB; have HO165 := n0_; have HB := n1_; clear n0_ n1_; (try clear hb); (try clear hb2); (try clear hk); (try clear hi); (try clear ho0)))
 repeat (go_quiet (first | (go_at_call 47; (with_reducible refine (stage_Split.calls k 0 a1 _ _ l0 a2 t163 t166 _ ?side1 ?side2 A5.out).mono ?_); (case side1 => repeat (first | exact HR0.out | (with_reducible refine Kd.C_alloc ?_ _) | (with_reducible refine Kd.C_drewN ?_ _) | (with_reducible refine Kd.C_drew ?_))); (case side2 => exact HC0.out); rintro e w7 ⟨v164, rfl, ho0, hb⟩; have n0_ := XPrint.A0 (Kd.R_lower ho0 (below_size (by exact XPrint.bz HB.out))); have n1_ := XPrint.A0 (below_step (by exact XPrint.bz HB.out) hb); clear HB; have HO165 := n0_; have HB := n1_; clear n0_ n1_; (try clear hb); (try clear hb2); (try clear hk); (try clear hi); (try clear ho0))); go_upto_region 2 with (first | (go_at_call 47; (with_reducible refine (stage_Split.calls k 0 a1 _ _ l0 a2 t163 t166 _ ?side1 ?side2 A5.out).mono ?_); (case side1 => repeat (first | exact HR0.out | (with_reducible refine Kd.C_alloc ?_ _) | (with_reducible refine Kd.C_drewN ?_ _) | (with_reducible refine Kd.C_drew ?_))); (case side2 => exact HC0.out); rintro e w7 ⟨v164, rfl, ho0, hb⟩; have n0_ := XPrint.A0 (Kd.R_lower ho0 (below_size (by exact XPrint.bz HB.out))); have n1_ := XPrint.A0 (below_step (by exact XPrint.bz HB.out) hb); clear HB; have HO165 := n0_; have HB := n1_; clear n0_ n1_; (try clear hb); (try clear hb2); (try clear hk); (try clear hi); (try clear ho0))))
 (try simp only [XPrint.pw])
 go_cut [29] (fun v29 wc => ∃ (kq : Nat) (x29_5 : Bool), v29 = .bool x29_5 ∧ Aside0 (liverylaw18_ends.j0 kq l3 t163 x29_5 = some r) ∧ Aside0 (kq ≤ k) ∧ Aside0 (Kd.R k71 71 wc w.heap.size (fun _ => True) v164 t163) ∧ Aside0 (Below w.heap.size w wc))
 case first =>
  have H := HC6.out
  clear HC6
  by_cases c8 : t166 = 0
  ·rw [if_pos c8] at H
   have c8b0 : (t166 == 0) = true := beq_iff_eq.mpr c8
   have c8b1 : (t166 != 0) = false := bne_eq_false_iff_eq.mpr c8
   clear c8
   (first | rw [c8b0] | (simp only [i64_w, i32_w]; rw [c8b0]) | skip)
   have H' := XPrint.A0 H
   clear H
   obtain ⟨Ao9, co9, eo9⟩ := Kd.R_slice HO165.out
   subst eo9
   go_wp2
   repeat (go_quiet (fail); try go_wp2)
   go_meet
   case rel => exact ⟨_, (((t163.length : Int) != (l3.length : Int))), (by first | rfl | (simp; done) | (simp [*]; done)), H', ⟨by first | omega | exact Nat.le_refl _⟩, ⟨by (with_reducible repeat (first | apply Kd.R_alloc | apply Kd.R_drewN | apply Kd.R_drew)); exact HO165.out⟩, ⟨by exact XPrint.bz HB.out⟩⟩
  ·rw [if_neg c8] at H
   have c8b0 : (t166 == 0) = false := beq_eq_false_iff_ne.mpr c8
   have c8b1 : (t166 != 0) = true := bne_iff_ne.mpr c8
   (first | rw [c8b0] | (simp only [i64_w, i32_w]; rw [c8b0]) | skip)
   have H' := XPrint.A0 H
   clear H
   go_wp2
   repeat (go_quiet (fail); try go_wp2)
   go_meet
   case rel => exact ⟨_, (true), (by first | rfl | (simp; done) | (simp [*]; done)), H', ⟨by first | omega | exact Nat.le_refl _⟩, ⟨by (with_reducible repeat (first | apply Kd.R_alloc | apply Kd.R_drewN | apply Kd.R_drew)); exact HO165.out⟩, ⟨by exact XPrint.bz HB.out⟩⟩
 case rest =>
  clear HC6
  try clear p2
  try clear c3
  try clear c7
  try clear c8
  try clear c8b0
  try clear c8b1
  obtain ⟨kq, x29_5, rfl, HA, HJ5, HO_9, HB⟩ := hcut
  cases kq with
  | zero => exact absurd HA.out (by simp [liverylaw18_ends.j0])
  | succ kj5 =>
   have H := HA.out
   clear HA
   simp only [liverylaw18_ends.j0] at H
   by_cases c10 : x29_5 = true
   ·subst c10
    have H1 := H; rw [if_pos rfl] at H1
    clear H
    have H := H1
    clear H1
    obtain rfl := Option.some.inj H
    go_wp2
    repeat (go_quiet (fail); try go_wp2)
    go_ret
    exact ⟨by first | rfl | (simp [errW_none, errW_some] <;> rfl) | (simp [*, errW_none, errW_some] <;> rfl), by exact XPrint.bz HB.out⟩
   ·replace c10 := Bool.eq_false_iff.mpr c10
    subst c10
    have H1 := H; rw [if_neg (show ¬ (false = true) by decide)] at H1
    clear H
    have H := H1
    clear H1
    have H' := XPrint.A0 H
    clear H
    go_wp2
    repeat (go_quiet (fail); try go_wp2)
    go_loopg [11, 12] kj5 (fun kq v11 v12 w' => ∃ (x11_2 : Int) (x12_2 : Int), v11 = .int .i64 x11_2 ∧ v12 = .int .i64 x12_2 ∧ Aside0 (liverylaw18_ends.l0 kq l3 t163 x11_2 x12_2 = some r) ∧ Aside0 (kq ≤ kj5) ∧ Aside0 (Kd.R k71 71 w' w.heap.size (fun _ => True) v164 t163) ∧ Aside0 (Below w.heap.size w w'))
    case atStart => exact ⟨(0), (0), (by first | rfl | (simp; done) | (simp [*]; done)), (by first | rfl | (simp; done) | (simp [*]; done)), H', ⟨Nat.le_refl _⟩, ⟨by (with_reducible repeat (first | apply Kd.R_alloc | apply Kd.R_drewN | apply Kd.R_drew)); exact HO_9.out⟩, ⟨by exact XPrint.bz HB.out⟩⟩
    case round =>
     clear H'
     try clear c1
     try clear p2
     try clear c3
     try clear c7
     try clear c8
     try clear c8b0
     try clear c8b1
     try clear c10
     try clear p2
     obtain ⟨x11_2, x12_2, rfl, rfl, HA, HK2, HO_9, HB⟩ := hrel
     cases gk with
     | zero => exact absurd HA.out (by simp [liverylaw18_ends.l0])
     | succ k2 =>
      have H := HA.out
      clear HA
      simp only [liverylaw18_ends.l0] at H
      by_cases c11 : x12_2 < (t163.length : Int)
      ·rw [if_pos c11] at H
       have c11b0 : decide (x12_2 < (t163.length : Int)) = true := decide_eq_true c11
       clear c11
       by_cases c12 : 0 ≤ x12_2
       ·rw [if_pos c12] at H
        have c12b0 : decide (0 ≤ x12_2) = true := decide_eq_true c12
        clear c12
        by_cases c13 : x12_2 < (l3.length : Int)
        ·rw [if_pos c13] at H
         have c13b0 : decide (x12_2 < (l3.length : Int)) = true := decide_eq_true c13
         clear c13
         by_cases c14 : (!(((rd_T71 t163 x12_2).f0) == x11_2) || (!(((rd_T71 t163 x12_2).f1) == (rd l3 x12_2)))) = true
         ·rw [if_pos c14] at H
          have c14b0 : (!(((rd_T71 t163 x12_2).f0) == x11_2) || (!(((rd_T71 t163 x12_2).f1) == (rd l3 x12_2)))) = true := c14
          clear c14
          obtain rfl := Option.some.inj H
          obtain ⟨Ao15, co15, eo15⟩ := Kd.R_slice HO_9.out
          subst eo15
          have p167 : 0 ≤ (x12_2 : Int) := of_decide_eq_true (by first | (with_reducible assumption) | assumption)
          have q167 : x12_2 < (t163.length : Int) := of_decide_eq_true (by first | (with_reducible assumption) | assumption)
          obtain ⟨ad167, e167, hx167_0, hx167_1⟩ := at_T71 (Kd.R_reads' HO_9.out).2.2 x12_2 p167 q167
          cases e167
          replace p167 := eq_true p167
          replace q167 := eq_true q167
          have p168 : 0 ≤ (x12_2 : Int) := of_decide_eq_true (by first | (with_reducible assumption) | assumption)
          have q168 : x12_2 < (l3.length : Int) := of_decide_eq_true (by first | (with_reducible assumption) | assumption)
          obtain ⟨ad168, e168, hx168_0⟩ := Kd.at_int HR3.out x12_2 p168 q168
          cases e168
          replace hx168_0 := (HB.out.cell (World.block_lt_of_cell? w _ hx168_0)).trans hx168_0
          replace p168 := eq_true p168
          replace q168 := eq_true q168
          go_wp2
          repeat (go_quiet (fail); try go_wp2)
          go_ret
          exact ⟨by first | rfl | (simp [errW_none, errW_some] <;> rfl) | (simp [*, errW_none, errW_some] <;> rfl), by exact XPrint.bz HB.out⟩
         ·rw [if_neg c14] at H
          have c14b0 : (!(((rd_T71 t163 x12_2).f0) == x11_2) || (!(((rd_T71 t163 x12_2).f1) == (rd l3 x12_2)))) = false := by simpa using c14
          clear c14
          have H' := XPrint.A0 H
          clear H
          obtain ⟨Ao16, co16, eo16⟩ := Kd.R_slice HO_9.out
          subst eo16
          have p167 : 0 ≤ (x12_2 : Int) := of_decide_eq_true (by first | (with_reducible assumption) | assumption)
          have q167 : x12_2 < (t163.length : Int) := of_decide_eq_true (by first | (with_reducible assumption) | assumption)
          obtain ⟨ad167, e167, hx167_0, hx167_1⟩ := at_T71 (Kd.R_reads' HO_9.out).2.2 x12_2 p167 q167
          cases e167
          replace p167 := eq_true p167
          replace q167 := eq_true q167
          have p168 : 0 ≤ (x12_2 : Int) := of_decide_eq_true (by first | (with_reducible assumption) | assumption)
          have q168 : x12_2 < (l3.length : Int) := of_decide_eq_true (by first | (with_reducible assumption) | assumption)
          obtain ⟨ad168, e168, hx168_0⟩ := Kd.at_int HR3.out x12_2 p168 q168
          cases e168
          replace hx168_0 := (HB.out.cell (World.block_lt_of_cell? w _ hx168_0)).trans hx168_0
          replace p168 := eq_true p168
          replace q168 := eq_true q168
          have p169 : 0 ≤ (x12_2 : Int) := of_decide_eq_true (by first | (with_reducible assumption) | assumption)
          have q169 : x12_2 < (l3.length : Int) := of_decide_eq_true (by first | (with_reducible assumption) | assumption)
          obtain ⟨ad169, e169, hx169_0⟩ := Kd.at_int HR3.out x12_2 p169 q169
          obtain rfl : ad168 = ad169 := (by injection e169)
          replace hx169_0 := (HB.out.cell (World.block_lt_of_cell? w _ hx169_0)).trans hx169_0
          replace p169 := eq_true p169
          replace q169 := eq_true q169
          go_wp2
          repeat (go_quiet (fail); try go_wp2)
          go_roundg k2
          case measure => have := HJ5.out; have := HK2.out; omega
          case rel => exact ⟨(rd l3 x12_2), (wrap64 (x12_2 + 1)), (by first | rfl | (simp; done) | (simp [*]; done)), (by first | rfl | (simp; done) | (simp [*]; done)), H', ⟨by have := HJ5.out; have := HK2.out; omega⟩, ⟨by (with_reducible repeat (first | apply Kd.R_alloc | apply Kd.R_drewN | apply Kd.R_drew)); exact HO_9.out⟩, ⟨by exact XPrint.bz HB.out⟩⟩
        ·rw [if_neg c13] at H
         exact absurd H (by simp)
       ·rw [if_neg c12] at H
        exact absurd H (by simp)
      ·rw [if_neg c11] at H
       have c11b0 : decide (x12_2 < (t163.length : Int)) = false := decide_eq_false c11
       clear c11
       obtain rfl := Option.some.inj H
       obtain ⟨Ao17, co17, eo17⟩ := Kd.R_slice HO_9.out
       subst eo17
       go_wp2
       repeat (go_quiet (fail); try go_wp2)
       go_ret
       exact ⟨by first | rfl | (simp [errW_none, errW_some] <;> rfl) | (simp [*, errW_none, errW_some] <;> rfl), by exact XPrint.bz HB.out⟩

/-! ### liveryref17_Same: function 74 -/
def liveryref17_Same.l0 : Nat → List Int → List Int → Int → Option (Bool)
 | 0, _, _, _ => none
 | k + 1, x0, x1, x5 => if x5 < (x0.length : Int) then (if 0 ≤ x5 then (if x5 < (x1.length : Int) then (if (rd x0 x5) = (rd x1 x5) then (liveryref17_Same.l0 k x0 x1 (wrap64 (x5 + 1))) else (some false)) else (none)) else (none)) else (some true)
def liveryref17_Same.f (k : Nat) (l0 : List Int) (l1 : List Int) : Option (Bool) := if (l0.length : Int) = (l1.length : Int) then (liveryref17_Same.l0 k l0 l1 0) else (some false)
theorem liveryref17_Same.mono_l : ∀ k, (∀ y0 y1 y2, LeO (liveryref17_Same.l0 k y0 y1 y2) (liveryref17_Same.l0 (k + 1) y0 y1 y2))
 | 0 => fun _ _ _ r h => by simp [liveryref17_Same.l0] at h
 | k + 1 => by
  have ih0 := liveryref17_Same.mono_l k
  ·intro y0 y1 y2
   unfold liveryref17_Same.l0
   repeat' first
   | (with_reducible exact ih0 _ _ _)
   | (with_reducible exact LeO.refl _)
   | (with_reducible exact LeO.none _)
   | (with_reducible refine LeO.ite ?_ ?_)
   | (with_reducible refine LeO.bind ?_ (fun _ => ?_))
   | exact ih0 _ _ _
   | exact LeO.none _
   | refine LeO.ite ?_ ?_
   | refine LeO.bind ?_ (fun _ => ?_)
theorem liveryref17_Same.mono : ∀ a0 a1 k, LeO (liveryref17_Same.f k a0 a1) (liveryref17_Same.f (k + 1) a0 a1) := by
 intro a0 a1 k
 have ih0 := liveryref17_Same.mono_l k
 unfold liveryref17_Same.f
 repeat' first
   | (with_reducible exact ih0 _ _ _)
   | (with_reducible exact LeO.refl _)
   | (with_reducible exact LeO.none _)
   | (with_reducible refine LeO.ite ?_ ?_)
   | (with_reducible refine LeO.bind ?_ (fun _ => ?_))
   | exact ih0 _ _ _
   | exact LeO.none _
   | refine LeO.ite ?_ ?_
   | refine LeO.bind ?_ (fun _ => ?_)
set_option maxHeartbeats 8000000 in
set_option maxRecDepth 100000 in
theorem liveryref17_Same.calls (k : Nat) (A0 : Option Addr) (c0 : Nat) (l0 : List Int) (A1 : Option Addr) (c1 : Nat) (l1 : List Int) (r : Bool) (w : World) (hr0 : Kd.C (Kd.int .i64) w A0 l0.length l0) (hc0 : l0.length ≤ c0) (hr1 : Kd.C (Kd.int .i64) w A1 l1.length l1) (hc1 : l1.length ≤ c1) (h : liveryref17_Same.f k l0 l1 = some r) :
  Calls Try.prog 74 #[.slice A0 l0.length c0, .slice A1 l1.length c1] w fun e w' => e = .returned (.bool r) ∧ Drawn0 w w' := by
 have HR0 := XPrint.A0 hr0
 have HC0 := XPrint.A0 hc0
 clear hr0 hc0
 have HR1 := XPrint.A0 hr1
 have HC1 := XPrint.A0 hc1
 clear hr1 hc1
 have H : (if (l0.length : Int) = (l1.length : Int) then (liveryref17_Same.l0 k l0 l1 0) else (some false)) = some r := h
 clear h
 by_cases c3 : (l0.length : Int) = (l1.length : Int)
 ·rw [if_pos c3] at H
  have c3b0 : ((l0.length : Int) == (l1.length : Int)) = true := beq_iff_eq.mpr c3
  have c3b1 : ((l0.length : Int) != (l1.length : Int)) = false := bne_eq_false_iff_eq.mpr c3
  have c3b2 : (l0.length == l1.length) = true := by first | simpa using c3 | (simp at c3 ⊢; omega)
  clear c3
  have H' := XPrint.A0 H
  clear H
  go_enter Try.func74, Try.ntmps74
  go_wp2
  repeat (go_quiet (fail); try go_wp2)
  go_loopg [5] k (fun kq v5 w' => ∃ (x5_1 : Int), v5 = .int .i64 x5_1 ∧ Aside0 (liveryref17_Same.l0 kq l0 l1 x5_1 = some r) ∧ Aside0 (kq ≤ k) ∧ Drawn0 w w')
  case atStart => exact ⟨(0), (by first | rfl | (simp; done) | (simp [*]; done)), H', ⟨Nat.le_refl _⟩, by repeat (first | exact Drawn0.refl _ | apply Drawn0.step)⟩
  case round =>
   clear H'
   try clear c1
   try clear p2
   try clear c3
   try clear c3b0
   try clear c3b1
   try clear c3b2
   obtain ⟨x5_1, rfl, HA, HK1, ⟨m1, rfl⟩⟩ := hrel
   cases gk with
   | zero => exact absurd HA.out (by simp [liveryref17_Same.l0])
   | succ k1 =>
    have H := HA.out
    clear HA
    simp only [liveryref17_Same.l0] at H
    by_cases c4 : x5_1 < (l0.length : Int)
    ·rw [if_pos c4] at H
     have c4b0 : decide (x5_1 < (l0.length : Int)) = true := decide_eq_true c4
     clear c4
     by_cases c5 : 0 ≤ x5_1
     ·rw [if_pos c5] at H
      have c5b0 : decide (0 ≤ x5_1) = true := decide_eq_true c5
      clear c5
      by_cases c6 : x5_1 < (l1.length : Int)
      ·rw [if_pos c6] at H
       have c6b0 : decide (x5_1 < (l1.length : Int)) = true := decide_eq_true c6
       clear c6
       by_cases c7 : (rd l0 x5_1) = (rd l1 x5_1)
       ·rw [if_pos c7] at H
        have c7b0 : ((rd l0 x5_1) == (rd l1 x5_1)) = true := beq_iff_eq.mpr c7
        have c7b1 : ((rd l0 x5_1) != (rd l1 x5_1)) = false := bne_eq_false_iff_eq.mpr c7
        clear c7
        have H' := XPrint.A0 H
        clear H
        have p170 : 0 ≤ (x5_1 : Int) := of_decide_eq_true (by first | (with_reducible assumption) | assumption)
        have q170 : x5_1 < (l0.length : Int) := of_decide_eq_true (by first | (with_reducible assumption) | assumption)
        obtain ⟨ad170, e170, hx170_0⟩ := Kd.at_int HR0.out x5_1 p170 q170
        cases e170
        replace p170 := eq_true p170
        replace q170 := eq_true q170
        have p171 : 0 ≤ (x5_1 : Int) := of_decide_eq_true (by first | (with_reducible assumption) | assumption)
        have q171 : x5_1 < (l1.length : Int) := of_decide_eq_true (by first | (with_reducible assumption) | assumption)
        obtain ⟨ad171, e171, hx171_0⟩ := Kd.at_int HR1.out x5_1 p171 q171
        cases e171
        replace p171 := eq_true p171
        replace q171 := eq_true q171
        go_wp2
        repeat (go_quiet (fail); try go_wp2)
        go_roundg k1
        case measure => have := HK1.out; omega
        case rel => exact ⟨(wrap64 (x5_1 + 1)), (by first | rfl | (simp; done) | (simp [*]; done)), H', ⟨by have := HK1.out; omega⟩, by repeat (first | exact Drawn0.refl _ | apply Drawn0.step)⟩
       ·rw [if_neg c7] at H
        have c7b0 : ((rd l0 x5_1) == (rd l1 x5_1)) = false := beq_eq_false_iff_ne.mpr c7
        have c7b1 : ((rd l0 x5_1) != (rd l1 x5_1)) = true := bne_iff_ne.mpr c7
        obtain rfl := Option.some.inj H
        have p170 : 0 ≤ (x5_1 : Int) := of_decide_eq_true (by first | (with_reducible assumption) | assumption)
        have q170 : x5_1 < (l0.length : Int) := of_decide_eq_true (by first | (with_reducible assumption) | assumption)
        obtain ⟨ad170, e170, hx170_0⟩ := Kd.at_int HR0.out x5_1 p170 q170
        cases e170
        replace p170 := eq_true p170
        replace q170 := eq_true q170
        have p171 : 0 ≤ (x5_1 : Int) := of_decide_eq_true (by first | (with_reducible assumption) | assumption)
        have q171 : x5_1 < (l1.length : Int) := of_decide_eq_true (by first | (with_reducible assumption) | assumption)
        obtain ⟨ad171, e171, hx171_0⟩ := Kd.at_int HR1.out x5_1 p171 q171
        cases e171
        replace p171 := eq_true p171
        replace q171 := eq_true q171
        go_wp2
        repeat (go_quiet (fail); try go_wp2)
        go_ret
        exact ⟨by first | rfl | (simp; done) | (simp [*]; done), by repeat (first | exact Drawn0.refl _ | apply Drawn0.step)⟩
      ·rw [if_neg c6] at H
       exact absurd H (by simp)
     ·rw [if_neg c5] at H
      exact absurd H (by simp)
    ·rw [if_neg c4] at H
     have c4b0 : decide (x5_1 < (l0.length : Int)) = false := decide_eq_false c4
     clear c4
     obtain rfl := Option.some.inj H
     go_wp2
     repeat (go_quiet (fail); try go_wp2)
     go_ret
     exact ⟨by first | rfl | (simp; done) | (simp [*]; done), by repeat (first | exact Drawn0.refl _ | apply Drawn0.step)⟩
 ·rw [if_neg c3] at H
  have c3b0 : ((l0.length : Int) == (l1.length : Int)) = false := beq_eq_false_iff_ne.mpr c3
  have c3b1 : ((l0.length : Int) != (l1.length : Int)) = true := bne_iff_ne.mpr c3
  have c3b2 : (l0.length == l1.length) = false := by first | simpa using c3 | (simp at c3 ⊢; omega)
  obtain rfl := Option.some.inj H
  go_enter Try.func74, Try.ntmps74
  go_wp2
  repeat (go_quiet (fail); try go_wp2)
  go_ret
  exact ⟨by first | rfl | (simp; done) | (simp [*]; done), by repeat (first | exact Drawn0.refl _ | apply Drawn0.step)⟩

end Go.Proofs.Ytkaokiiooakleaa.PStageParts
