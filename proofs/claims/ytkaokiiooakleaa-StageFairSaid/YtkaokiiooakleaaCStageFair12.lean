-- printed by this session's own driver over the kit's printer: Lean checks it
import Derived.Test.YtkaokiiooakleaaCStageFair0
import Derived.Test.YtkaokiiooakleaaCStageFair2
import Derived.Test.YtkaokiiooakleaaCStageFair3
import Derived.Test.YtkaokiiooakleaaCStageFair11
namespace Go.Proofs.Ytkaokiiooakleaa.PStageFair
open Go.RowKit Go.Proofs.YtkaokiiooakleaaW.PrintWords Go.Proofs.YtkaokiiooakleaaW.PrintLast Go.Proofs.YtkaokiiooakleaaW.PrintMore
attribute [local go_sem] max2_int min2_int max_two min_two max_three min_three max_four min_four   -- for this text's walks alone
set_option linter.unusedVariables false
set_option linter.unusedSimpArgs false

/-! ### liverylaw18_StageFair: function 12 -/
mutual
def liverylaw18_StageFair.j0 : Nat → List Int → Int → List (S71) → Bool → Option (Bool)
 | 0, _, _, _, _ => none
 | k + 1, x1, x5, x7, x36 => if x36 = true then ((liverylaw18_head.f k).bind fun t218 => (some t218)) else (if (x7.length : Int) = (x1.length : Int) then (liverylaw18_StageFair.l0 k x1 x5 x7 0 0) else (none))
def liverylaw18_StageFair.l0 : Nat → List Int → Int → List (S71) → Int → Int → Option (Bool)
 | 0, _, _, _, _, _ => none
 | k + 1, x1, x5, x7, x9, x10 => if x10 < (x1.length : Int) then (if 0 ≤ x10 then (liverylaw18_StageFair.l0 k x1 x5 x7 (wrap64 (x9 + (rd x1 x10))) (wrap64 (x10 + 1))) else (none)) else (liverylaw18_StageFair.l1 k x1 x5 x7 x9 0)
def liverylaw18_StageFair.l1 : Nat → List Int → Int → List (S71) → Int → Int → Option (Bool)
 | 0, _, _, _, _, _ => none
 | k + 1, x1, x5, x7, x9, x11 => if x11 < (x1.length : Int) then (if 0 ≤ x11 then (if x11 < (x7.length : Int) then (if (wrap64 ((wrap64 ((wrap64 (((rd_T71 x7 x11).f1) - ((rd_T71 x7 x11).f0))) - (rd x1 x11))) * x9)) ≤ (wrap64 ((wrap64 (x5 * (rd x1 x11))) - x9)) then (none) else (liverylaw18_StageFair.j3 k x1 x5 x7 x9 x11 (decide ((wrap64 ((wrap64 ((wrap64 (((rd_T71 x7 x11).f1) - ((rd_T71 x7 x11).f0))) - (rd x1 x11))) * x9)) ≥ (wrap64 ((wrap64 (x5 * (rd x1 x11))) + x9)))))) else (none)) else (none)) else ((liverylaw18_head.f k).bind fun t220 => (some t220))
def liverylaw18_StageFair.j3 : Nat → List Int → Int → List (S71) → Int → Int → Bool → Option (Bool)
 | 0, _, _, _, _, _, _ => none
 | k + 1, x1, x5, x7, x9, x11, x102 => if x102 = true then (none) else (liverylaw18_StageFair.l2 k x1 x5 x7 x9 x11 0)
def liverylaw18_StageFair.l2 : Nat → List Int → Int → List (S71) → Int → Int → Int → Option (Bool)
 | 0, _, _, _, _, _, _ => none
 | k + 1, x1, x5, x7, x9, x11, x13 => if x13 < (x1.length : Int) then (if 0 ≤ x13 then (if 0 ≤ x11 then (if x11 < (x1.length : Int) then (if (rd x1 x13) ≥ (rd x1 x11) then (if x13 < (x7.length : Int) then (if x11 < (x7.length : Int) then (if (wrap64 (((rd_T71 x7 x13).f1) - ((rd_T71 x7 x13).f0))) < (wrap64 ((wrap64 (((rd_T71 x7 x11).f1) - ((rd_T71 x7 x11).f0))) - 1)) then (none) else (liverylaw18_StageFair.l2 k x1 x5 x7 x9 x11 (wrap64 (x13 + 1)))) else (none)) else (none)) else (liverylaw18_StageFair.l2 k x1 x5 x7 x9 x11 (wrap64 (x13 + 1)))) else (none)) else (none)) else (none)) else (liverylaw18_StageFair.l1 k x1 x5 x7 x9 (wrap64 (x11 + 1)))
end
def liverylaw18_StageFair.f (k : Nat) (a0_0 : Int) (a0_1 : Int) (l1 : List Int) : Option (Bool) := (stage_Slack.f k a0_0 a0_1 l1).bind fun bt212 => ((stage_Split.f k a0_0 a0_1 l1 2).bind fun bt214 => (if (l1.length : Int) > 40 then (liverylaw18_StageFair.j0 k l1 bt212.1 bt214.1 true) else (if bt212.2 = 0 then (liverylaw18_StageFair.j0 k l1 bt212.1 bt214.1 (bt214.2 != 0)) else (liverylaw18_StageFair.j0 k l1 bt212.1 bt214.1 true))))
theorem liverylaw18_StageFair.mono_l : ∀ k, (∀ y0 y1 y2 y3, LeO (liverylaw18_StageFair.j0 k y0 y1 y2 y3) (liverylaw18_StageFair.j0 (k + 1) y0 y1 y2 y3)) ∧ (∀ y0 y1 y2 y3 y4, LeO (liverylaw18_StageFair.l0 k y0 y1 y2 y3 y4) (liverylaw18_StageFair.l0 (k + 1) y0 y1 y2 y3 y4)) ∧ (∀ y0 y1 y2 y3 y4, LeO (liverylaw18_StageFair.l1 k y0 y1 y2 y3 y4) (liverylaw18_StageFair.l1 (k + 1) y0 y1 y2 y3 y4)) ∧ (∀ y0 y1 y2 y3 y4 y5, LeO (liverylaw18_StageFair.j3 k y0 y1 y2 y3 y4 y5) (liverylaw18_StageFair.j3 (k + 1) y0 y1 y2 y3 y4 y5)) ∧ (∀ y0 y1 y2 y3 y4 y5, LeO (liverylaw18_StageFair.l2 k y0 y1 y2 y3 y4 y5) (liverylaw18_StageFair.l2 (k + 1) y0 y1 y2 y3 y4 y5))
 | 0 => ⟨fun _ _ _ _ r h => by simp [liverylaw18_StageFair.j0] at h, fun _ _ _ _ _ r h => by simp [liverylaw18_StageFair.l0] at h, fun _ _ _ _ _ r h => by simp [liverylaw18_StageFair.l1] at h, fun _ _ _ _ _ _ r h => by simp [liverylaw18_StageFair.j3] at h, fun _ _ _ _ _ _ r h => by simp [liverylaw18_StageFair.l2] at h⟩
 | k + 1 => by
  obtain ⟨ih0, ih1, ih2, ih3, ih4⟩ := liverylaw18_StageFair.mono_l k
  refine ⟨?_, ?_, ?_, ?_, ?_⟩
  ·intro y0 y1 y2 y3
   unfold liverylaw18_StageFair.j0
   repeat' first
   | (with_reducible exact ih0 _ _ _ _)
   | (with_reducible exact ih1 _ _ _ _ _)
   | (with_reducible exact ih2 _ _ _ _ _)
   | (with_reducible exact ih3 _ _ _ _ _ _)
   | (with_reducible exact ih4 _ _ _ _ _ _)
   | (with_reducible exact liverylaw18_head.mono _)
   | (with_reducible exact stage_Slack.mono _ _ _ _)
   | (with_reducible exact stage_Split.mono _ _ _ _ _)
   | (with_reducible exact LeO.refl _)
   | (with_reducible exact LeO.none _)
   | (with_reducible refine LeO.ite ?_ ?_)
   | (with_reducible refine LeO.bind ?_ (fun _ => ?_))
   | exact ih0 _ _ _ _
   | exact ih1 _ _ _ _ _
   | exact ih2 _ _ _ _ _
   | exact ih3 _ _ _ _ _ _
   | exact ih4 _ _ _ _ _ _
   | exact liverylaw18_head.mono _
   | exact stage_Slack.mono _ _ _ _
   | exact stage_Split.mono _ _ _ _ _
   | exact LeO.none _
   | refine LeO.ite ?_ ?_
   | refine LeO.bind ?_ (fun _ => ?_)
  ·intro y0 y1 y2 y3 y4
   unfold liverylaw18_StageFair.l0
   repeat' first
   | (with_reducible exact ih0 _ _ _ _)
   | (with_reducible exact ih1 _ _ _ _ _)
   | (with_reducible exact ih2 _ _ _ _ _)
   | (with_reducible exact ih3 _ _ _ _ _ _)
   | (with_reducible exact ih4 _ _ _ _ _ _)
   | (with_reducible exact liverylaw18_head.mono _)
   | (with_reducible exact stage_Slack.mono _ _ _ _)
   | (with_reducible exact stage_Split.mono _ _ _ _ _)
   | (with_reducible exact LeO.refl _)
   | (with_reducible exact LeO.none _)
   | (with_reducible refine LeO.ite ?_ ?_)
   | (with_reducible refine LeO.bind ?_ (fun _ => ?_))
   | exact ih0 _ _ _ _
   | exact ih1 _ _ _ _ _
   | exact ih2 _ _ _ _ _
   | exact ih3 _ _ _ _ _ _
   | exact ih4 _ _ _ _ _ _
   | exact liverylaw18_head.mono _
   | exact stage_Slack.mono _ _ _ _
   | exact stage_Split.mono _ _ _ _ _
   | exact LeO.none _
   | refine LeO.ite ?_ ?_
   | refine LeO.bind ?_ (fun _ => ?_)
  ·intro y0 y1 y2 y3 y4
   unfold liverylaw18_StageFair.l1
   repeat' first
   | (with_reducible exact ih0 _ _ _ _)
   | (with_reducible exact ih1 _ _ _ _ _)
   | (with_reducible exact ih2 _ _ _ _ _)
   | (with_reducible exact ih3 _ _ _ _ _ _)
   | (with_reducible exact ih4 _ _ _ _ _ _)
   | (with_reducible exact liverylaw18_head.mono _)
   | (with_reducible exact stage_Slack.mono _ _ _ _)
   | (with_reducible exact stage_Split.mono _ _ _ _ _)
   | (with_reducible exact LeO.refl _)
   | (with_reducible exact LeO.none _)
   | (with_reducible refine LeO.ite ?_ ?_)
   | (with_reducible refine LeO.bind ?_ (fun _ => ?_))
   | exact ih0 _ _ _ _
   | exact ih1 _ _ _ _ _
   | exact ih2 _ _ _ _ _
   | exact ih3 _ _ _ _ _ _
   | exact ih4 _ _ _ _ _ _
   | exact liverylaw18_head.mono _
   | exact stage_Slack.mono _ _ _ _
   | exact stage_Split.mono _ _ _ _ _
   | exact LeO.none _
   | refine LeO.ite ?_ ?_
   | refine LeO.bind ?_ (fun _ => ?_)
  ·intro y0 y1 y2 y3 y4 y5
   unfold liverylaw18_StageFair.j3
   repeat' first
   | (with_reducible exact ih0 _ _ _ _)
   | (with_reducible exact ih1 _ _ _ _ _)
   | (with_reducible exact ih2 _ _ _ _ _)
   | (with_reducible exact ih3 _ _ _ _ _ _)
   | (with_reducible exact ih4 _ _ _ _ _ _)
   | (with_reducible exact liverylaw18_head.mono _)
   | (with_reducible exact stage_Slack.mono _ _ _ _)
   | (with_reducible exact stage_Split.mono _ _ _ _ _)
   | (with_reducible exact LeO.refl _)
   | (with_reducible exact LeO.none _)
   | (with_reducible refine LeO.ite ?_ ?_)
   | (with_reducible refine LeO.bind ?_ (fun _ => ?_))
   | exact ih0 _ _ _ _
   | exact ih1 _ _ _ _ _
   | exact ih2 _ _ _ _ _
   | exact ih3 _ _ _ _ _ _
   | exact ih4 _ _ _ _ _ _
   | exact liverylaw18_head.mono _
   | exact stage_Slack.mono _ _ _ _
   | exact stage_Split.mono _ _ _ _ _
   | exact LeO.none _
   | refine LeO.ite ?_ ?_
   | refine LeO.bind ?_ (fun _ => ?_)
  ·intro y0 y1 y2 y3 y4 y5
   unfold liverylaw18_StageFair.l2
   repeat' first
   | (with_reducible exact ih0 _ _ _ _)
   | (with_reducible exact ih1 _ _ _ _ _)
   | (with_reducible exact ih2 _ _ _ _ _)
   | (with_reducible exact ih3 _ _ _ _ _ _)
   | (with_reducible exact ih4 _ _ _ _ _ _)
   | (with_reducible exact liverylaw18_head.mono _)
   | (with_reducible exact stage_Slack.mono _ _ _ _)
   | (with_reducible exact stage_Split.mono _ _ _ _ _)
   | (with_reducible exact LeO.refl _)
   | (with_reducible exact LeO.none _)
   | (with_reducible refine LeO.ite ?_ ?_)
   | (with_reducible refine LeO.bind ?_ (fun _ => ?_))
   | exact ih0 _ _ _ _
   | exact ih1 _ _ _ _ _
   | exact ih2 _ _ _ _ _
   | exact ih3 _ _ _ _ _ _
   | exact ih4 _ _ _ _ _ _
   | exact liverylaw18_head.mono _
   | exact stage_Slack.mono _ _ _ _
   | exact stage_Split.mono _ _ _ _ _
   | exact LeO.none _
   | refine LeO.ite ?_ ?_
   | refine LeO.bind ?_ (fun _ => ?_)
theorem liverylaw18_StageFair.mono : ∀ a0 a1 a2 k, LeO (liverylaw18_StageFair.f k a0 a1 a2) (liverylaw18_StageFair.f (k + 1) a0 a1 a2) := by
 intro a0 a1 a2 k
 obtain ⟨ih0, ih1, ih2, ih3, ih4⟩ := liverylaw18_StageFair.mono_l k
 unfold liverylaw18_StageFair.f
 repeat' first
   | (with_reducible exact ih0 _ _ _ _)
   | (with_reducible exact ih1 _ _ _ _ _)
   | (with_reducible exact ih2 _ _ _ _ _)
   | (with_reducible exact ih3 _ _ _ _ _ _)
   | (with_reducible exact ih4 _ _ _ _ _ _)
   | (with_reducible exact liverylaw18_head.mono _)
   | (with_reducible exact stage_Slack.mono _ _ _ _)
   | (with_reducible exact stage_Split.mono _ _ _ _ _)
   | (with_reducible exact LeO.refl _)
   | (with_reducible exact LeO.none _)
   | (with_reducible refine LeO.ite ?_ ?_)
   | (with_reducible refine LeO.bind ?_ (fun _ => ?_))
   | exact ih0 _ _ _ _
   | exact ih1 _ _ _ _ _
   | exact ih2 _ _ _ _ _
   | exact ih3 _ _ _ _ _ _
   | exact ih4 _ _ _ _ _ _
   | exact liverylaw18_head.mono _
   | exact stage_Slack.mono _ _ _ _
   | exact stage_Split.mono _ _ _ _ _
   | exact LeO.none _
   | refine LeO.ite ?_ ?_
   | refine LeO.bind ?_ (fun _ => ?_)
set_option maxHeartbeats 8000000 in
set_option maxRecDepth 100000 in
theorem liverylaw18_StageFair.calls (k : Nat) (a0_0 : Int) (a0_1 : Int) (A1 : Option Addr) (c1 : Nat) (l1 : List Int) (r : Bool) (w : World) (hr1 : Kd.C (Kd.int .i64) w A1 l1.length l1) (hc1 : l1.length ≤ c1) (h : liverylaw18_StageFair.f k a0_0 a0_1 l1 = some r) :
  Calls Try.prog 12 #[.agg #[.int .i64 a0_0, .int .i64 a0_1], .slice A1 l1.length c1] w fun e w' => e = .returned (.bool r) ∧ Below w.heap.size w w' := by
 have hu71 := Try.underlying71
 have HR1 := XPrint.A0 hr1
 have HC1 := XPrint.A0 hc1
 clear hr1 hc1
 have HB := XPrint.A0 (Below.refl w.heap.size w)
 have H : ((stage_Slack.f k a0_0 a0_1 l1).bind fun bt212 => ((stage_Split.f k a0_0 a0_1 l1 2).bind fun bt214 => (if (l1.length : Int) > 40 then (liverylaw18_StageFair.j0 k l1 bt212.1 bt214.1 true) else (if bt212.2 = 0 then (liverylaw18_StageFair.j0 k l1 bt212.1 bt214.1 (bt214.2 != 0)) else (liverylaw18_StageFair.j0 k l1 bt212.1 bt214.1 true))))) = some r := h
 clear h
 replace H := Option.bind_eq_some_iff.mp H
 obtain ⟨⟨t212, t213⟩, A30, H⟩ := H
 replace H : ((stage_Split.f k a0_0 a0_1 l1 2).bind fun bt214 => (if (l1.length : Int) > 40 then (liverylaw18_StageFair.j0 k l1 t212 bt214.1 true) else (if t213 = 0 then (liverylaw18_StageFair.j0 k l1 t212 bt214.1 (bt214.2 != 0)) else (liverylaw18_StageFair.j0 k l1 t212 bt214.1 true)))) = some r := H
 have A3 := XPrint.A0 A30
 clear A30
 replace H := Option.bind_eq_some_iff.mp H
 obtain ⟨⟨t214, t217⟩, A40, H⟩ := H
 replace H : (if (l1.length : Int) > 40 then (liverylaw18_StageFair.j0 k l1 t212 t214 true) else (if t213 = 0 then (liverylaw18_StageFair.j0 k l1 t212 t214 (t217 != 0)) else (liverylaw18_StageFair.j0 k l1 t212 t214 true))) = some r := H
 have A4 := XPrint.A0 A40
 clear A40
 have HC5 := XPrint.A0 H
 clear H
 go_enter Try.func12, Try.ntmps12
 go_upto_region 3 with (first | ((with_reducible refine gate_dst (N := 2) rfl ?_); refine box_event ?hg (N := 2) ?hd (cs := #[.int .i64 a0_0, .int .i64 a0_1]) (t := 71) ?hr ?_; (case hd => rfl); (case hg => rfl); (case hr => first | (go_simp; done) | (go_simp; rfl)); intro gb211 hg w6 hbox hb; have n0_ := XPrint.A0 (below_step (by exact XPrint.bz HB.out) hb); have n1_ := XPrint.A0 (hbox); have n2_ := XPrint.A0 (XPrint.gz HB.out hg); have n3_ := XPrint.A0 (XPrint.gz HB.out hg); clear HB; have HB := n0_; have BK211 := n1_; have GW211 := n2_; have GE211 := n3_; clear n0_ n1_ n2_ n3_; clear hb hbox hg; have hcz7_0 : w6.cell? ⟨gb211, 0, none⟩ = some (.int .i64 a0_0) := (blk_cell BK211.out 0).trans rfl; have hcz7_1 : w6.cell? ⟨gb211, 1, none⟩ = some (.int .i64 a0_1) := (blk_cell BK211.out 1).trans rfl; have hfz7_0 := blk_frozen BK211.out 0; have hfz7_1 := blk_frozen BK211.out 1) | (go_at_call 45; (with_reducible refine (stage_Slack.calls k a0_0 a0_1 _ _ l1 t212 t213 _ ?side1 ?side2 A3.out).mono ?_); (case side1 => repeat (first | exact (Kd.C_below HR1.out HB.out) | (with_reducible refine Kd.C_alloc ?_ _) | (with_reducible refine Kd.C_drewN ?_ _) | (with_reducible refine Kd.C_drew ?_))); (case side2 => exact HC1.out); rintro e w8 ⟨rfl, hb⟩; have n0_ := XPrint.A0 (XPrint.ab BK211.out hb); have n1_ := XPrint.A0 (below_step (by exact XPrint.bz HB.out) hb); clear BK211; clear HB; have BK211 := n0_; have HB := n1_; clear n0_ n1_; (try clear hb); (try clear hb2); (try clear hk); (try clear hi); have hcz9_0 : w8.cell? ⟨gb211, 0, none⟩ = some (.int .i64 a0_0) := (blk_cell BK211.out 0).trans rfl; have hcz9_1 : w8.cell? ⟨gb211, 1, none⟩ = some (.int .i64 a0_1) := (blk_cell BK211.out 1).trans rfl; have hfz9_0 := blk_frozen BK211.out 0; have hfz9_1 := blk_frozen BK211.out 1) | (go_at_call 47; (with_reducible refine (stage_Split.calls k a0_0 a0_1 _ _ l1 2 t214 t217 _ ?side1 ?side2 A4.out).mono ?_); (case side1 => repeat (first | exact (Kd.C_below HR1.out HB.out) | (with_reducible refine Kd.C_alloc ?_ _) | (with_reducible refine Kd.C_drewN ?_ _) | (with_reducible refine Kd.C_drew ?_))); (case side2 => exact HC1.out); rintro e w10 ⟨v215, rfl, ho0, hb⟩; have n0_ := XPrint.A0 (Kd.R_lower (Kd.R_newB ho0 (g := gb211) (o := .cells #[.int .i64 a0_0, .int .i64 a0_1] 71 (0, 0)) (XPrint.ak BK211.out)) (below_size (by exact XPrint.bz HB.out))); have n1_ := XPrint.A0 (XPrint.ab BK211.out hb); have n2_ := XPrint.A0 (below_step (by exact XPrint.bz HB.out) hb); clear BK211; clear HB; have HO216 := n0_; have BK211 := n1_; have HB := n2_; clear n0_ n1_ n2_; (try clear hb); (try clear hb2); (try clear hk); (try clear hi); (try clear ho0)))
 repeat (go_quiet (first | ((with_reducible refine gate_dst (N := 2) rfl ?_); refine box_event ?hg (N := 2) ?hd (cs := #[.int .i64 a0_0, .int .i64 a0_1]) (t := 71) ?hr ?_; (case hd => rfl); (case hg => rfl); (case hr => first | (go_simp; done) | (go_simp; rfl)); intro gb211 hg w6 hbox hb; have n0_ := XPrint.A0 (below_step (by exact XPrint.bz HB.out) hb); have n1_ := XPrint.A0 (hbox); have n2_ := XPrint.A0 (XPrint.gz HB.out hg); have n3_ := XPrint.A0 (XPrint.gz HB.out hg); clear HB; have HB := n0_; have BK211 := n1_; have GW211 := n2_; have GE211 := n3_; clear n0_ n1_ n2_ n3_; clear hb hbox hg; have hcz7_0 : w6.cell? ⟨gb211, 0, none⟩ = some (.int .i64 a0_0) := (blk_cell BK211.out 0).trans rfl; have hcz7_1 : w6.cell? ⟨gb211, 1, none⟩ = some (.int .i64 a0_1) := (blk_cell BK211.out 1).trans rfl; have hfz7_0 := blk_frozen BK211.out 0; have hfz7_1 := blk_frozen BK211.out 1) | (go_at_call 45; (with_reducible refine (stage_Slack.calls k a0_0 a0_1 _ _ l1 t212 t213 _ ?side1 ?side2 A3.out).mono ?_); (case side1 => repeat (first | exact (Kd.C_below HR1.out HB.out) | (with_reducible refine Kd.C_alloc ?_ _) | (with_reducible refine Kd.C_drewN ?_ _) | (with_reducible refine Kd.C_drew ?_))); (case side2 => exact HC1.out); rintro e w8 ⟨rfl, hb⟩; have n0_ := XPrint.A0 (XPrint.ab BK211.out hb); have n1_ := XPrint.A0 (below_step (by exact XPrint.bz HB.out) hb); clear BK211; clear HB; have BK211 := n0_; have HB := n1_; clear n0_ n1_; (try clear hb); (try clear hb2); (try clear hk); (try clear hi); have hcz9_0 : w8.cell? ⟨gb211, 0, none⟩ = some (.int .i64 a0_0) := (blk_cell BK211.out 0).trans rfl; have hcz9_1 : w8.cell? ⟨gb211, 1, none⟩ = some (.int .i64 a0_1) := (blk_cell BK211.out 1).trans rfl; have hfz9_0 := blk_frozen BK211.out 0; have hfz9_1 := blk_frozen BK211.out 1) | (go_at_call 47; (with_reducible refine (stage_Split.calls k a0_0 a0_1 _ _ l1 2 t214 t217 _ ?side1 ?side2 A4.out).mono ?_); (case side1 => repeat (first | exact (Kd.C_below HR1.out HB.out) | (with_reducible refine Kd.C_alloc ?_ _) | (with_reducible refine Kd.C_drewN ?_ _) | (with_reducible refine Kd.C_drew ?_))); (case side2 => exact HC1.out); rintro e w10 ⟨v215, rfl, ho0, hb⟩; have n0_ := XPrint.A0 (Kd.R_lower (Kd.R_newB ho0 (g := gb211) (o := .cells #[.int .i64 a0_0, .int .i64 a0_1] 71 (0, 0)) (XPrint.ak BK211.out)) (below_size (by exact XPrint.bz HB.out))); have n1_ := XPrint.A0 (XPrint.ab BK211.out hb); have n2_ := XPrint.A0 (below_step (by exact XPrint.bz HB.out) hb); clear BK211; clear HB; have HO216 := n0_; have BK211 := n1_; have HB := n2_; clear n0_ n1_ n2_; (try clear hb); (try clear hb2); (try clear hk); (try clear hi); (try clear ho0))); go_upto_region 3 with (first | ((with_reducible refine gate_dst (N := 2) rfl ?_); refine box_event ?hg (N := 2) ?hd (cs := #[.int .i64 a0_0, .int .i64 a0_1]) (t := 71) ?hr ?_; (case hd => rfl); (case hg => rfl); (case hr => first | (go_simp; done) | (go_simp; rfl)); intro gb211 hg w6 hbox hb; have n0_ := XPrint.A0 (below_step (by exact XPrint.bz HB.out) hb); have n1_ := XPrint.A0 (hbox); have n2_ := XPrint.A0 (XPrint.gz HB.out hg); have n3_ := XPrint.A0 (XPrint.gz HB.out hg); clear HB; have HB := n0_; have BK211 := n1_; have GW211 := n2_; have GE211 := n3_; clear n0_ n1_ n2_ n3_; clear hb hbox hg; have hcz7_0 : w6.cell? ⟨gb211, 0, none⟩ = some (.int .i64 a0_0) := (blk_cell BK211.out 0).trans rfl; have hcz7_1 : w6.cell? ⟨gb211, 1, none⟩ = some (.int .i64 a0_1) := (blk_cell BK211.out 1).trans rfl; have hfz7_0 := blk_frozen BK211.out 0; have hfz7_1 := blk_frozen BK211.out 1) | (go_at_call 45; (with_reducible refine (stage_Slack.calls k a0_0 a0_1 _ _ l1 t212 t213 _ ?side1 ?side2 A3.out).mono ?_); (case side1 => repeat (first | exact (Kd.C_below HR1.out HB.out) | (with_reducible refine Kd.C_alloc ?_ _) | (with_reducible refine Kd.C_drewN ?_ _) | (with_reducible refine Kd.C_drew ?_))); (case side2 => exact HC1.out); rintro e w8 ⟨rfl, hb⟩; have n0_ := XPrint.A0 (XPrint.ab BK211.out hb); have n1_ := XPrint.A0 (below_step (by exact XPrint.bz HB.out) hb); clear BK211; clear HB; have BK211 := n0_; have HB := n1_; clear n0_ n1_; (try clear hb); (try clear hb2); (try clear hk); (try clear hi); have hcz9_0 : w8.cell? ⟨gb211, 0, none⟩ = some (.int .i64 a0_0) := (blk_cell BK211.out 0).trans rfl; have hcz9_1 : w8.cell? ⟨gb211, 1, none⟩ = some (.int .i64 a0_1) := (blk_cell BK211.out 1).trans rfl; have hfz9_0 := blk_frozen BK211.out 0; have hfz9_1 := blk_frozen BK211.out 1) | (go_at_call 47; (with_reducible refine (stage_Split.calls k a0_0 a0_1 _ _ l1 2 t214 t217 _ ?side1 ?side2 A4.out).mono ?_); (case side1 => repeat (first | exact (Kd.C_below HR1.out HB.out) | (with_reducible refine Kd.C_alloc ?_ _) | (with_reducible refine Kd.C_drewN ?_ _) | (with_reducible refine Kd.C_drew ?_))); (case side2 => exact HC1.out); rintro e w10 ⟨v215, rfl, ho0, hb⟩; have n0_ := XPrint.A0 (Kd.R_lower (Kd.R_newB ho0 (g := gb211) (o := .cells #[.int .i64 a0_0, .int .i64 a0_1] 71 (0, 0)) (XPrint.ak BK211.out)) (below_size (by exact XPrint.bz HB.out))); have n1_ := XPrint.A0 (XPrint.ab BK211.out hb); have n2_ := XPrint.A0 (below_step (by exact XPrint.bz HB.out) hb); clear BK211; clear HB; have HO216 := n0_; have BK211 := n1_; have HB := n2_; clear n0_ n1_ n2_; (try clear hb); (try clear hb2); (try clear hk); (try clear hi); (try clear ho0))))
 (try simp only [XPrint.pw])
 go_cut [36] (fun v36 wc => ∃ (kq : Nat) (x36_4 : Bool), v36 = .bool x36_4 ∧ Aside0 (liverylaw18_StageFair.j0 kq l1 t212 t214 x36_4 = some r) ∧ Aside0 (kq ≤ k) ∧ Aside0 (Kd.R k71 71 wc w.heap.size (fun k_ => k_ ≠ gb211) v215 t214) ∧ Aside0 (wc.heap[gb211]? = some (.cells #[.int .i64 a0_0, .int .i64 a0_1] 71 (0, 0))) ∧ Aside0 (Below w.heap.size w wc))
 case first =>
  have H := HC5.out
  clear HC5
  by_cases c11 : (l1.length : Int) > 40
  ·rw [if_pos c11] at H
   have c11b0 : decide (40 < (l1.length : Int)) = true := decide_eq_true c11
   have c11b1 : decide (40 < l1.length) = true := decide_eq_true (by omega)
   clear c11
   (first | rw [c11b0] | (simp only [i64_w, i32_w]; rw [c11b0]) | skip)
   have H' := XPrint.A0 H
   clear H
   go_wp2
   repeat (go_quiet (fail); try go_wp2)
   go_meet
   case rel => exact ⟨_, (true), (by first | rfl | (simp; done) | (simp [*]; done)), H', ⟨by first | omega | exact Nat.le_refl _⟩, ⟨by (with_reducible repeat (first | apply Kd.R_alloc | apply Kd.R_drewN | apply Kd.R_drew)); exact Kd.R_mono HO216.out (fun _ hk => hk.2)⟩, ⟨by (repeat with_reducible first | refine XPrint.d1 ?_ | refine XPrint.d2 ?_ _ | refine XPrint.d3 ?_ _); exact BK211.out⟩, ⟨by exact XPrint.bz HB.out⟩⟩
  ·rw [if_neg c11] at H
   have c11b0 : decide (40 < (l1.length : Int)) = false := decide_eq_false c11
   have c11b1 : decide (40 < l1.length) = false := decide_eq_false (by omega)
   clear c11
   (first | rw [c11b0] | (simp only [i64_w, i32_w]; rw [c11b0]) | skip)
   by_cases c12 : t213 = 0
   ·rw [if_pos c12] at H
    have c12b0 : (t213 == 0) = true := beq_iff_eq.mpr c12
    have c12b1 : (t213 != 0) = false := bne_eq_false_iff_eq.mpr c12
    clear c12
    have H' := XPrint.A0 H
    clear H
    go_wp2
    repeat (go_quiet (fail); try go_wp2)
    go_meet
    case rel => exact ⟨_, ((t217 != 0)), (by first | rfl | (simp; done) | (simp [*]; done)), H', ⟨by first | omega | exact Nat.le_refl _⟩, ⟨by (with_reducible repeat (first | apply Kd.R_alloc | apply Kd.R_drewN | apply Kd.R_drew)); exact Kd.R_mono HO216.out (fun _ hk => hk.2)⟩, ⟨by (repeat with_reducible first | refine XPrint.d1 ?_ | refine XPrint.d2 ?_ _ | refine XPrint.d3 ?_ _); exact BK211.out⟩, ⟨by exact XPrint.bz HB.out⟩⟩
   ·rw [if_neg c12] at H
    have c12b0 : (t213 == 0) = false := beq_eq_false_iff_ne.mpr c12
    have c12b1 : (t213 != 0) = true := bne_iff_ne.mpr c12
    have H' := XPrint.A0 H
    clear H
    go_wp2
    repeat (go_quiet (fail); try go_wp2)
    go_meet
    case rel => exact ⟨_, (true), (by first | rfl | (simp; done) | (simp [*]; done)), H', ⟨by first | omega | exact Nat.le_refl _⟩, ⟨by (with_reducible repeat (first | apply Kd.R_alloc | apply Kd.R_drewN | apply Kd.R_drew)); exact Kd.R_mono HO216.out (fun _ hk => hk.2)⟩, ⟨by (repeat with_reducible first | refine XPrint.d1 ?_ | refine XPrint.d2 ?_ _ | refine XPrint.d3 ?_ _); exact BK211.out⟩, ⟨by exact XPrint.bz HB.out⟩⟩
 case rest =>
  clear HC5
  try clear c1
  try clear p2
  try clear c11
  try clear c11b0
  try clear c11b1
  try clear c12
  try clear c12b0
  try clear c12b1
  try clear hcz7_0
  try clear hcz7_1
  try clear hcz9_0
  try clear hcz9_1
  try clear hfz7_0
  try clear hfz7_1
  try clear hfz9_0
  try clear hfz9_1
  obtain ⟨kq, x36_4, rfl, HA, HJ4, HO_7, BK211, HB⟩ := hcut
  cases kq with
  | zero => exact absurd HA.out (by simp [liverylaw18_StageFair.j0])
  | succ kj4 =>
   have H := HA.out
   clear HA
   simp only [liverylaw18_StageFair.j0] at H
   by_cases c13 : x36_4 = true
   ·subst c13
    have H1 := H; rw [if_pos rfl] at H1
    clear H
    have H := H1
    clear H1
    replace H := Option.bind_eq_some_iff.mp H
    obtain ⟨t218, A140, H⟩ := H
    try set_option simprocs false in dsimp only at H
    have A14 := XPrint.A0 A140
    clear A140
    obtain rfl := Option.some.inj H
    go_wp2_with (first | (go_at_call 46; (with_reducible refine (liverylaw18_head.calls kj4  t218 _ A14.out).mono ?_); rintro e w15 ⟨rfl, hb⟩; replace HO_7 := XPrint.A0 (Kd.R_below (by (with_reducible repeat (first | apply Kd.R_alloc | apply Kd.R_drewN | apply Kd.R_drew)); exact HO_7.out) hb); replace BK211 := XPrint.A0 (XPrint.ab BK211.out hb); replace HB := XPrint.A0 (below_step (by exact XPrint.bz HB.out) hb); (try clear hb); (try clear hb2); (try clear hk); (try clear hi)))
    repeat (go_quiet (first | (go_at_call 46; (with_reducible refine (liverylaw18_head.calls kj4  t218 _ A14.out).mono ?_); rintro e w15 ⟨rfl, hb⟩; replace HO_7 := XPrint.A0 (Kd.R_below (by (with_reducible repeat (first | apply Kd.R_alloc | apply Kd.R_drewN | apply Kd.R_drew)); exact HO_7.out) hb); replace BK211 := XPrint.A0 (XPrint.ab BK211.out hb); replace HB := XPrint.A0 (below_step (by exact XPrint.bz HB.out) hb); (try clear hb); (try clear hb2); (try clear hk); (try clear hi))); try go_wp2_with (first | (go_at_call 46; (with_reducible refine (liverylaw18_head.calls kj4  t218 _ A14.out).mono ?_); rintro e w15 ⟨rfl, hb⟩; replace HO_7 := XPrint.A0 (Kd.R_below (by (with_reducible repeat (first | apply Kd.R_alloc | apply Kd.R_drewN | apply Kd.R_drew)); exact HO_7.out) hb); replace BK211 := XPrint.A0 (XPrint.ab BK211.out hb); replace HB := XPrint.A0 (below_step (by exact XPrint.bz HB.out) hb); (try clear hb); (try clear hb2); (try clear hk); (try clear hi))))
    go_ret
    exact ⟨by first | rfl | (simp [errW_none, errW_some] <;> rfl) | (simp [*, errW_none, errW_some] <;> rfl), by exact XPrint.bz HB.out⟩
   ·replace c13 := Bool.eq_false_iff.mpr c13
    subst c13
    have H1 := H; rw [if_neg (show ¬ (false = true) by decide)] at H1
    clear H
    have H := H1
    clear H1
    by_cases c16 : (t214.length : Int) = (l1.length : Int)
    ·rw [if_pos c16] at H
     have c16b0 : ((t214.length : Int) == (l1.length : Int)) = true := beq_iff_eq.mpr c16
     have c16b1 : ((t214.length : Int) != (l1.length : Int)) = false := bne_eq_false_iff_eq.mpr c16
     have c16b2 : (t214.length == l1.length) = true := by first | simpa using c16 | (simp at c16 ⊢; omega)
     clear c16
     have H' := XPrint.A0 H
     clear H
     obtain ⟨Ao17, co17, eo17⟩ := Kd.R_slice HO_7.out
     subst eo17
     go_wp2
     repeat (go_quiet (fail); try go_wp2)
     go_loopg [9, 10] kj4 (fun kq v9 v10 w' => ∃ (x9_2 : Int) (x10_2 : Int), v9 = .int .i64 x9_2 ∧ v10 = .int .i64 x10_2 ∧ Aside0 (liverylaw18_StageFair.l0 kq l1 t212 t214 x9_2 x10_2 = some r) ∧ Aside0 (kq ≤ kj4) ∧ Aside0 (Kd.R k71 71 w' w.heap.size (fun k_ => k_ ≠ gb211) (.slice Ao17 t214.length co17) t214) ∧ Aside0 (w'.heap[gb211]? = some (.cells #[.int .i64 a0_0, .int .i64 a0_1] 71 (0, 0))) ∧ Aside0 (Below w.heap.size w w'))
     case atStart => exact ⟨(0), (0), (by first | rfl | (simp; done) | (simp [*]; done)), (by first | rfl | (simp; done) | (simp [*]; done)), H', ⟨Nat.le_refl _⟩, ⟨by (with_reducible repeat (first | apply Kd.R_alloc | apply Kd.R_drewN | apply Kd.R_drew)); exact HO_7.out⟩, ⟨by (repeat with_reducible first | refine XPrint.d1 ?_ | refine XPrint.d2 ?_ _ | refine XPrint.d3 ?_ _); exact BK211.out⟩, ⟨by exact XPrint.bz HB.out⟩⟩
     case round =>
      clear H'
      try clear c1
      try clear p2
      try clear c11
      try clear c11b0
      try clear c11b1
      try clear c12
      try clear c12b0
      try clear c12b1
      try clear c13
      try clear c16
      try clear c16b0
      try clear c16b1
      try clear c16b2
      try clear hcz7_0
      try clear hcz7_1
      try clear hcz9_0
      try clear hcz9_1
      try clear hfz7_0
      try clear hfz7_1
      try clear hfz9_0
      try clear hfz9_1
      try clear p2
      obtain ⟨x9_2, x10_2, rfl, rfl, HA, HK2, HO_7, BK211, HB⟩ := hrel
      cases gk with
      | zero => exact absurd HA.out (by simp [liverylaw18_StageFair.l0])
      | succ k2 =>
       have H := HA.out
       clear HA
       simp only [liverylaw18_StageFair.l0] at H
       by_cases c18 : x10_2 < (l1.length : Int)
       ·rw [if_pos c18] at H
        have c18b0 : decide (x10_2 < (l1.length : Int)) = true := decide_eq_true c18
        clear c18
        by_cases c19 : 0 ≤ x10_2
        ·rw [if_pos c19] at H
         have c19b0 : decide (0 ≤ x10_2) = true := decide_eq_true c19
         clear c19
         have H' := XPrint.A0 H
         clear H
         have p219 : 0 ≤ (x10_2 : Int) := of_decide_eq_true (by first | (with_reducible assumption) | assumption)
         have q219 : x10_2 < (l1.length : Int) := of_decide_eq_true (by first | (with_reducible assumption) | assumption)
         obtain ⟨ad219, e219, hx219_0⟩ := Kd.at_int HR1.out x10_2 p219 q219
         cases e219
         replace hx219_0 := (HB.out.cell (World.block_lt_of_cell? w _ hx219_0)).trans hx219_0
         replace p219 := eq_true p219
         replace q219 := eq_true q219
         go_wp2
         repeat (go_quiet (fail); try go_wp2)
         go_roundg k2
         case measure => have := HJ4.out; have := HK2.out; omega
         case rel => exact ⟨(wrap64 (x9_2 + (rd l1 x10_2))), (wrap64 (x10_2 + 1)), (by first | rfl | (simp; done) | (simp [*]; done)), (by first | rfl | (simp; done) | (simp [*]; done)), H', ⟨by have := HJ4.out; have := HK2.out; omega⟩, ⟨by (with_reducible repeat (first | apply Kd.R_alloc | apply Kd.R_drewN | apply Kd.R_drew)); exact HO_7.out⟩, ⟨by (repeat with_reducible first | refine XPrint.d1 ?_ | refine XPrint.d2 ?_ _ | refine XPrint.d3 ?_ _); exact BK211.out⟩, ⟨by exact XPrint.bz HB.out⟩⟩
        ·rw [if_neg c19] at H
         exact absurd H (by simp)
       ·rw [if_neg c18] at H
        have c18b0 : decide (x10_2 < (l1.length : Int)) = false := decide_eq_false c18
        clear c18
        have H' := XPrint.A0 H
        clear H
        go_wp2
        repeat (go_quiet (fail); try go_wp2)
        go_loopg [11] k2 (fun kq v11 w' => ∃ (x11_3 : Int), v11 = .int .i64 x11_3 ∧ Aside0 (liverylaw18_StageFair.l1 kq l1 t212 t214 x9_2 x11_3 = some r) ∧ Aside0 (kq ≤ k2) ∧ Aside0 (Kd.R k71 71 w' w.heap.size (fun k_ => k_ ≠ gb211) (.slice Ao17 t214.length co17) t214) ∧ Aside0 (w'.heap[gb211]? = some (.cells #[.int .i64 a0_0, .int .i64 a0_1] 71 (0, 0))) ∧ Aside0 (Below w.heap.size w w'))
        case atStart => exact ⟨(0), (by first | rfl | (simp; done) | (simp [*]; done)), H', ⟨Nat.le_refl _⟩, ⟨by (with_reducible repeat (first | apply Kd.R_alloc | apply Kd.R_drewN | apply Kd.R_drew)); exact HO_7.out⟩, ⟨by (repeat with_reducible first | refine XPrint.d1 ?_ | refine XPrint.d2 ?_ _ | refine XPrint.d3 ?_ _); exact BK211.out⟩, ⟨by exact XPrint.bz HB.out⟩⟩
        case round =>
         clear H'
         try clear c1
         try clear p2
         try clear q2
         try clear hx2
         try clear p6
         try clear c11
         try clear c11b0
         try clear c11b1
         try clear c12
         try clear c12b0
         try clear c12b1
         try clear c13
         try clear c16
         try clear c16b0
         try clear c16b1
         try clear c16b2
         try clear c18
         try clear c18b0
         try clear c19
         try clear c19b0
         try clear hcz7_0
         try clear hcz7_1
         try clear hcz9_0
         try clear hcz9_1
         try clear hfz7_0
         try clear hfz7_1
         try clear hfz9_0
         try clear hfz9_1
         try clear hx219_0
         try clear p2
         try clear p219
         try clear q219
         obtain ⟨x11_3, rfl, HA, HK3, HO_7, BK211, HB⟩ := hrel
         cases gk with
         | zero => exact absurd HA.out (by simp [liverylaw18_StageFair.l1])
         | succ k3 =>
          have H := HA.out
          clear HA
          simp only [liverylaw18_StageFair.l1] at H
          by_cases c20 : x11_3 < (l1.length : Int)
          ·rw [if_pos c20] at H
           have c20b0 : decide (x11_3 < (l1.length : Int)) = true := decide_eq_true c20
           clear c20
           by_cases c21 : 0 ≤ x11_3
           ·rw [if_pos c21] at H
            have c21b0 : decide (0 ≤ x11_3) = true := decide_eq_true c21
            clear c21
            by_cases c22 : x11_3 < (t214.length : Int)
            ·rw [if_pos c22] at H
             have c22b0 : decide (x11_3 < (t214.length : Int)) = true := decide_eq_true c22
             clear c22
             have HC23 := XPrint.A0 H
             clear H
             have p221 : 0 ≤ (x11_3 : Int) := of_decide_eq_true (by first | (with_reducible assumption) | assumption)
             have q221 : x11_3 < (t214.length : Int) := of_decide_eq_true (by first | (with_reducible assumption) | assumption)
             obtain ⟨ad221, e221, hx221_0, hx221_1⟩ := at_T71 (Kd.R_reads' HO_7.out).2.2 x11_3 p221 q221
             cases e221
             replace p221 := eq_true p221
             replace q221 := eq_true q221
             have p222 : 0 ≤ (x11_3 : Int) := of_decide_eq_true (by first | (with_reducible assumption) | assumption)
             have q222 : x11_3 < (t214.length : Int) := of_decide_eq_true (by first | (with_reducible assumption) | assumption)
             obtain ⟨ad222, e222, hx222_0, hx222_1⟩ := at_T71 (Kd.R_reads' HO_7.out).2.2 x11_3 p222 q222
             obtain rfl : ad221 = ad222 := (by injection e222)
             replace p222 := eq_true p222
             replace q222 := eq_true q222
             have p223 : 0 ≤ (x11_3 : Int) := of_decide_eq_true (by first | (with_reducible assumption) | assumption)
             have q223 : x11_3 < (l1.length : Int) := of_decide_eq_true (by first | (with_reducible assumption) | assumption)
             obtain ⟨ad223, e223, hx223_0⟩ := Kd.at_int HR1.out x11_3 p223 q223
             cases e223
             replace hx223_0 := (HB.out.cell (World.block_lt_of_cell? w _ hx223_0)).trans hx223_0
             replace p223 := eq_true p223
             replace q223 := eq_true q223
             go_upto_region 16 with (fail)
             repeat (go_quiet (fail); go_upto_region 16 with (fail))
             go_cut [102] (fun v102 wc => ∃ (kq : Nat) (x102_22 : Bool), v102 = .bool x102_22 ∧ Aside0 (liverylaw18_StageFair.j3 kq l1 t212 t214 x9_2 x11_3 x102_22 = some r) ∧ Aside0 (kq ≤ k3) ∧ Aside0 (Kd.R k71 71 wc w.heap.size (fun k_ => k_ ≠ gb211) (.slice (some ad221) t214.length co17) t214) ∧ Aside0 (wc.heap[gb211]? = some (.cells #[.int .i64 a0_0, .int .i64 a0_1] 71 (0, 0))) ∧ Aside0 (Below w.heap.size w wc))
             case first =>
              have H := HC23.out
              clear HC23
              by_cases c24 : (wrap64 ((wrap64 ((wrap64 (((rd_T71 t214 x11_3).f1) - ((rd_T71 t214 x11_3).f0))) - (rd l1 x11_3))) * x9_2)) ≤ (wrap64 ((wrap64 (t212 * (rd l1 x11_3))) - x9_2))
              ·rw [if_pos c24] at H
               exact absurd H (by simp)
              ·rw [if_neg c24] at H
               have c24b0 : decide ((wrap64 ((wrap64 ((wrap64 (((rd_T71 t214 x11_3).f1) - ((rd_T71 t214 x11_3).f0))) - (rd l1 x11_3))) * x9_2)) ≤ (wrap64 ((wrap64 (t212 * (rd l1 x11_3))) - x9_2))) = false := decide_eq_false c24
               clear c24
               (first | rw [c24b0] | (simp only [i64_w, i32_w]; rw [c24b0]) | skip)
               have H' := XPrint.A0 H
               clear H
               have p224 : 0 ≤ (x11_3 : Int) := of_decide_eq_true (by first | (with_reducible assumption) | assumption)
               have q224 : x11_3 < (l1.length : Int) := of_decide_eq_true (by first | (with_reducible assumption) | assumption)
               obtain ⟨ad224, e224, hx224_0⟩ := Kd.at_int HR1.out x11_3 p224 q224
               obtain rfl : ad223 = ad224 := (by injection e224)
               replace hx224_0 := (HB.out.cell (World.block_lt_of_cell? w _ hx224_0)).trans hx224_0
               replace p224 := eq_true p224
               replace q224 := eq_true q224
               have p225 : 0 ≤ (x11_3 : Int) := of_decide_eq_true (by first | (with_reducible assumption) | assumption)
               have q225 : x11_3 < (l1.length : Int) := of_decide_eq_true (by first | (with_reducible assumption) | assumption)
               obtain ⟨ad225, e225, hx225_0⟩ := Kd.at_int HR1.out x11_3 p225 q225
               obtain rfl : ad223 = ad225 := (by injection e225)
               replace hx225_0 := (HB.out.cell (World.block_lt_of_cell? w _ hx225_0)).trans hx225_0
               replace p225 := eq_true p225
               replace q225 := eq_true q225
               go_wp2
               repeat (go_quiet (fail); try go_wp2)
               go_meet
               case rel => exact ⟨_, (decide ((wrap64 ((wrap64 ((wrap64 (((rd_T71 t214 x11_3).f1) - ((rd_T71 t214 x11_3).f0))) - (rd l1 x11_3))) * x9_2)) ≥ (wrap64 ((wrap64 (t212 * (rd l1 x11_3))) + x9_2)))), (by first | rfl | (simp; done) | (simp [*]; done)), H', ⟨by have := HJ4.out; have := HK2.out; have := HK3.out; first | omega | exact Nat.le_refl _⟩, ⟨by (with_reducible repeat (first | apply Kd.R_alloc | apply Kd.R_drewN | apply Kd.R_drew)); exact HO_7.out⟩, ⟨by (repeat with_reducible first | refine XPrint.d1 ?_ | refine XPrint.d2 ?_ _ | refine XPrint.d3 ?_ _); exact BK211.out⟩, ⟨by exact XPrint.bz HB.out⟩⟩
             case rest =>
              clear HC23
              try clear c1
              try clear c2
              try clear p2
              try clear q2
              try clear hx2
              try clear p6
              try clear c11
              try clear c11b0
              try clear c11b1
              try clear c12
              try clear c12b0
              try clear c12b1
              try clear c13
              try clear c16
              try clear c16b0
              try clear c16b1
              try clear c16b2
              try clear c18
              try clear c18b0
              try clear c19
              try clear c19b0
              try clear c20
              try clear c20b0
              try clear c21
              try clear c21b0
              try clear p21
              try clear q21
              try clear hx21
              try clear c22
              try clear c22b0
              try clear p22
              try clear q22
              try clear hx22
              try clear c24
              try clear c24b0
              try clear hcz7_0
              try clear hcz7_1
              try clear hcz9_0
              try clear hcz9_1
              try clear hfz7_0
              try clear hfz7_1
              try clear hfz9_0
              try clear hfz9_1
              try clear hx219_0
              try clear hx221_0
              try clear hx221_1
              try clear hx222_0
              try clear hx222_1
              try clear hx223_0
              try clear hx224_0
              try clear hx225_0
              try clear p2
              try clear p219
              try clear p221
              try clear p222
              try clear p223
              try clear p224
              try clear p225
              try clear p6
              try clear q2
              try clear q219
              try clear q221
              try clear q222
              try clear q223
              try clear q224
              try clear q225
              obtain ⟨kq, x102_22, rfl, HA, HJ22, HO_7, BK211, HB⟩ := hcut
              cases kq with
              | zero => exact absurd HA.out (by simp [liverylaw18_StageFair.j3])
              | succ kj22 =>
               have H := HA.out
               clear HA
               simp only [liverylaw18_StageFair.j3] at H
               by_cases c25 : x102_22 = true
               ·subst c25
                have H1 := H; rw [if_pos rfl] at H1
                clear H
                have H := H1
                clear H1
                exact absurd H (by simp)
               ·replace c25 := Bool.eq_false_iff.mpr c25
                subst c25
                have H1 := H; rw [if_neg (show ¬ (false = true) by decide)] at H1
                clear H
                have H := H1
                clear H1
                have H' := XPrint.A0 H
                clear H
                go_wp2
                repeat (go_quiet (fail); try go_wp2)
                go_loopg [13] kj22 (fun kq v13 w' => ∃ (x13_5 : Int), v13 = .int .i64 x13_5 ∧ Aside0 (liverylaw18_StageFair.l2 kq l1 t212 t214 x9_2 x11_3 x13_5 = some r) ∧ Aside0 (kq ≤ kj22) ∧ Aside0 (Kd.R k71 71 w' w.heap.size (fun k_ => k_ ≠ gb211) (.slice (some ad221) t214.length co17) t214) ∧ Aside0 (w'.heap[gb211]? = some (.cells #[.int .i64 a0_0, .int .i64 a0_1] 71 (0, 0))) ∧ Aside0 (Below w.heap.size w w'))
                case atStart => exact ⟨(0), (by first | rfl | (simp; done) | (simp [*]; done)), H', ⟨Nat.le_refl _⟩, ⟨by (with_reducible repeat (first | apply Kd.R_alloc | apply Kd.R_drewN | apply Kd.R_drew)); exact HO_7.out⟩, ⟨by (repeat with_reducible first | refine XPrint.d1 ?_ | refine XPrint.d2 ?_ _ | refine XPrint.d3 ?_ _); exact BK211.out⟩, ⟨by exact XPrint.bz HB.out⟩⟩
                case round =>
                 clear H'
                 try clear c1
                 try clear c2
                 try clear p2
                 try clear q2
                 try clear hx2
                 try clear p6
                 try clear c11
                 try clear c11b0
                 try clear c11b1
                 try clear c12
                 try clear c12b0
                 try clear c12b1
                 try clear c13
                 try clear c16
                 try clear c16b0
                 try clear c16b1
                 try clear c16b2
                 try clear c18
                 try clear c18b0
                 try clear c19
                 try clear c19b0
                 try clear c20
                 try clear c20b0
                 try clear c21
                 try clear c21b0
                 try clear p21
                 try clear q21
                 try clear hx21
                 try clear c22
                 try clear c22b0
                 try clear p22
                 try clear q22
                 try clear hx22
                 try clear c24
                 try clear c24b0
                 try clear c25
                 try clear hcz7_0
                 try clear hcz7_1
                 try clear hcz9_0
                 try clear hcz9_1
                 try clear hfz7_0
                 try clear hfz7_1
                 try clear hfz9_0
                 try clear hfz9_1
                 try clear hx219_0
                 try clear hx221_0
                 try clear hx221_1
                 try clear hx222_0
                 try clear hx222_1
                 try clear hx223_0
                 try clear hx224_0
                 try clear hx225_0
                 try clear p2
                 try clear p21
                 try clear p219
                 try clear p22
                 try clear p221
                 try clear p222
                 try clear p223
                 try clear p224
                 try clear p225
                 try clear p6
                 try clear q2
                 try clear q21
                 try clear q219
                 try clear q22
                 try clear q221
                 try clear q222
                 try clear q223
                 try clear q224
                 try clear q225
                 obtain ⟨x13_5, rfl, HA, HK5, HO_7, BK211, HB⟩ := hrel
                 cases gk with
                 | zero => exact absurd HA.out (by simp [liverylaw18_StageFair.l2])
                 | succ k5 =>
                  have H := HA.out
                  clear HA
                  simp only [liverylaw18_StageFair.l2] at H
                  by_cases c26 : x13_5 < (l1.length : Int)
                  ·rw [if_pos c26] at H
                   have c26b0 : decide (x13_5 < (l1.length : Int)) = true := decide_eq_true c26
                   clear c26
                   by_cases c27 : 0 ≤ x13_5
                   ·rw [if_pos c27] at H
                    have c27b0 : decide (0 ≤ x13_5) = true := decide_eq_true c27
                    clear c27
                    by_cases c28 : 0 ≤ x11_3
                    ·rw [if_pos c28] at H
                     have c28b0 : decide (0 ≤ x11_3) = true := decide_eq_true c28
                     clear c28
                     by_cases c29 : x11_3 < (l1.length : Int)
                     ·rw [if_pos c29] at H
                      have c29b0 : decide (x11_3 < (l1.length : Int)) = true := decide_eq_true c29
                      clear c29
                      by_cases c30 : (rd l1 x13_5) ≥ (rd l1 x11_3)
                      ·rw [if_pos c30] at H
                       have c30b0 : decide ((rd l1 x11_3) ≤ (rd l1 x13_5)) = true := decide_eq_true c30
                       clear c30
                       by_cases c31 : x13_5 < (t214.length : Int)
                       ·rw [if_pos c31] at H
                        have c31b0 : decide (x13_5 < (t214.length : Int)) = true := decide_eq_true c31
                        clear c31
                        by_cases c32 : x11_3 < (t214.length : Int)
                        ·rw [if_pos c32] at H
                         have c32b0 : decide (x11_3 < (t214.length : Int)) = true := decide_eq_true c32
                         clear c32
                         by_cases c33 : (wrap64 (((rd_T71 t214 x13_5).f1) - ((rd_T71 t214 x13_5).f0))) < (wrap64 ((wrap64 (((rd_T71 t214 x11_3).f1) - ((rd_T71 t214 x11_3).f0))) - 1))
                         ·rw [if_pos c33] at H
                          exact absurd H (by simp)
                         ·rw [if_neg c33] at H
                          have c33b0 : decide ((wrap64 (((rd_T71 t214 x13_5).f1) - ((rd_T71 t214 x13_5).f0))) < (wrap64 ((wrap64 (((rd_T71 t214 x11_3).f1) - ((rd_T71 t214 x11_3).f0))) - 1))) = false := decide_eq_false c33
                          clear c33
                          have H' := XPrint.A0 H
                          clear H
                          have p226 : 0 ≤ (x13_5 : Int) := of_decide_eq_true (by first | (with_reducible assumption) | assumption)
                          have q226 : x13_5 < (l1.length : Int) := of_decide_eq_true (by first | (with_reducible assumption) | assumption)
                          obtain ⟨ad226, e226, hx226_0⟩ := Kd.at_int HR1.out x13_5 p226 q226
                          obtain rfl : ad223 = ad226 := (by injection e226)
                          replace hx226_0 := (HB.out.cell (World.block_lt_of_cell? w _ hx226_0)).trans hx226_0
                          replace p226 := eq_true p226
                          replace q226 := eq_true q226
                          have p227 : 0 ≤ (x11_3 : Int) := of_decide_eq_true (by first | (with_reducible assumption) | assumption)
                          have q227 : x11_3 < (l1.length : Int) := of_decide_eq_true (by first | (with_reducible assumption) | assumption)
                          obtain ⟨ad227, e227, hx227_0⟩ := Kd.at_int HR1.out x11_3 p227 q227
                          obtain rfl : ad223 = ad227 := (by injection e227)
                          replace hx227_0 := (HB.out.cell (World.block_lt_of_cell? w _ hx227_0)).trans hx227_0
                          replace p227 := eq_true p227
                          replace q227 := eq_true q227
                          have p228 : 0 ≤ (x13_5 : Int) := of_decide_eq_true (by first | (with_reducible assumption) | assumption)
                          have q228 : x13_5 < (t214.length : Int) := of_decide_eq_true (by first | (with_reducible assumption) | assumption)
                          obtain ⟨ad228, e228, hx228_0, hx228_1⟩ := at_T71 (Kd.R_reads' HO_7.out).2.2 x13_5 p228 q228
                          obtain rfl : ad221 = ad228 := (by injection e228)
                          replace p228 := eq_true p228
                          replace q228 := eq_true q228
                          have p229 : 0 ≤ (x13_5 : Int) := of_decide_eq_true (by first | (with_reducible assumption) | assumption)
                          have q229 : x13_5 < (t214.length : Int) := of_decide_eq_true (by first | (with_reducible assumption) | assumption)
                          obtain ⟨ad229, e229, hx229_0, hx229_1⟩ := at_T71 (Kd.R_reads' HO_7.out).2.2 x13_5 p229 q229
                          obtain rfl : ad221 = ad229 := (by injection e229)
                          replace p229 := eq_true p229
                          replace q229 := eq_true q229
                          have p230 : 0 ≤ (x11_3 : Int) := of_decide_eq_true (by first | (with_reducible assumption) | assumption)
                          have q230 : x11_3 < (t214.length : Int) := of_decide_eq_true (by first | (with_reducible assumption) | assumption)
                          obtain ⟨ad230, e230, hx230_0, hx230_1⟩ := at_T71 (Kd.R_reads' HO_7.out).2.2 x11_3 p230 q230
                          obtain rfl : ad221 = ad230 := (by injection e230)
                          replace p230 := eq_true p230
                          replace q230 := eq_true q230
                          have p231 : 0 ≤ (x11_3 : Int) := of_decide_eq_true (by first | (with_reducible assumption) | assumption)
                          have q231 : x11_3 < (t214.length : Int) := of_decide_eq_true (by first | (with_reducible assumption) | assumption)
                          obtain ⟨ad231, e231, hx231_0, hx231_1⟩ := at_T71 (Kd.R_reads' HO_7.out).2.2 x11_3 p231 q231
                          obtain rfl : ad221 = ad231 := (by injection e231)
                          replace p231 := eq_true p231
                          replace q231 := eq_true q231
                          go_wp2
                          repeat (go_quiet (fail); try go_wp2)
                          go_roundg k5
                          case measure => have := HJ4.out; have := HK2.out; have := HK3.out; have := HJ22.out; have := HK5.out; omega
                          case rel => exact ⟨(wrap64 (x13_5 + 1)), (by first | rfl | (simp; done) | (simp [*]; done)), H', ⟨by have := HJ4.out; have := HK2.out; have := HK3.out; have := HJ22.out; have := HK5.out; omega⟩, ⟨by (with_reducible repeat (first | apply Kd.R_alloc | apply Kd.R_drewN | apply Kd.R_drew)); exact HO_7.out⟩, ⟨by (repeat with_reducible first | refine XPrint.d1 ?_ | refine XPrint.d2 ?_ _ | refine XPrint.d3 ?_ _); exact BK211.out⟩, ⟨by exact XPrint.bz HB.out⟩⟩
                        ·rw [if_neg c32] at H
                         exact absurd H (by simp)
                       ·rw [if_neg c31] at H
                        exact absurd H (by simp)
                      ·rw [if_neg c30] at H
                       have c30b0 : decide ((rd l1 x11_3) ≤ (rd l1 x13_5)) = false := decide_eq_false c30
                       clear c30
                       have H' := XPrint.A0 H
                       clear H
                       have p226 : 0 ≤ (x13_5 : Int) := of_decide_eq_true (by first | (with_reducible assumption) | assumption)
                       have q226 : x13_5 < (l1.length : Int) := of_decide_eq_true (by first | (with_reducible assumption) | assumption)
                       obtain ⟨ad226, e226, hx226_0⟩ := Kd.at_int HR1.out x13_5 p226 q226
                       obtain rfl : ad223 = ad226 := (by injection e226)
                       replace hx226_0 := (HB.out.cell (World.block_lt_of_cell? w _ hx226_0)).trans hx226_0
                       replace p226 := eq_true p226
                       replace q226 := eq_true q226
                       have p227 : 0 ≤ (x11_3 : Int) := of_decide_eq_true (by first | (with_reducible assumption) | assumption)
                       have q227 : x11_3 < (l1.length : Int) := of_decide_eq_true (by first | (with_reducible assumption) | assumption)
                       obtain ⟨ad227, e227, hx227_0⟩ := Kd.at_int HR1.out x11_3 p227 q227
                       obtain rfl : ad223 = ad227 := (by injection e227)
                       replace hx227_0 := (HB.out.cell (World.block_lt_of_cell? w _ hx227_0)).trans hx227_0
                       replace p227 := eq_true p227
                       replace q227 := eq_true q227
                       go_wp2
                       repeat (go_quiet (fail); try go_wp2)
                       go_roundg k5
                       case measure => have := HJ4.out; have := HK2.out; have := HK3.out; have := HJ22.out; have := HK5.out; omega
                       case rel => exact ⟨(wrap64 (x13_5 + 1)), (by first | rfl | (simp; done) | (simp [*]; done)), H', ⟨by have := HJ4.out; have := HK2.out; have := HK3.out; have := HJ22.out; have := HK5.out; omega⟩, ⟨by (with_reducible repeat (first | apply Kd.R_alloc | apply Kd.R_drewN | apply Kd.R_drew)); exact HO_7.out⟩, ⟨by (repeat with_reducible first | refine XPrint.d1 ?_ | refine XPrint.d2 ?_ _ | refine XPrint.d3 ?_ _); exact BK211.out⟩, ⟨by exact XPrint.bz HB.out⟩⟩
                     ·rw [if_neg c29] at H
                      exact absurd H (by simp)
                    ·rw [if_neg c28] at H
                     exact absurd H (by simp)
                   ·rw [if_neg c27] at H
                    exact absurd H (by simp)
                  ·rw [if_neg c26] at H
                   have c26b0 : decide (x13_5 < (l1.length : Int)) = false := decide_eq_false c26
                   clear c26
                   have H' := XPrint.A0 H
                   clear H
                   go_wp2
                   repeat (go_quiet (fail); try go_wp2)
                   go_roundg k5
                   case measure => have := HJ4.out; have := HK2.out; have := HK3.out; have := HJ22.out; have := HK5.out; omega
                   case rel => exact ⟨(wrap64 (x11_3 + 1)), (by first | rfl | (simp; done) | (simp [*]; done)), H', ⟨by have := HJ4.out; have := HK2.out; have := HK3.out; have := HJ22.out; have := HK5.out; omega⟩, ⟨by (with_reducible repeat (first | apply Kd.R_alloc | apply Kd.R_drewN | apply Kd.R_drew)); exact HO_7.out⟩, ⟨by (repeat with_reducible first | refine XPrint.d1 ?_ | refine XPrint.d2 ?_ _ | refine XPrint.d3 ?_ _); exact BK211.out⟩, ⟨by exact XPrint.bz HB.out⟩⟩
            ·rw [if_neg c22] at H
             exact absurd H (by simp)
           ·rw [if_neg c21] at H
            exact absurd H (by simp)
          ·rw [if_neg c20] at H
           have c20b0 : decide (x11_3 < (l1.length : Int)) = false := decide_eq_false c20
           clear c20
           replace H := Option.bind_eq_some_iff.mp H
           obtain ⟨t220, A340, H⟩ := H
           try set_option simprocs false in dsimp only at H
           have A34 := XPrint.A0 A340
           clear A340
           obtain rfl := Option.some.inj H
           go_wp2_with (first | (go_at_call 46; (with_reducible refine (liverylaw18_head.calls k3  t220 _ A34.out).mono ?_); rintro e w35 ⟨rfl, hb⟩; replace HO_7 := XPrint.A0 (Kd.R_below (by (with_reducible repeat (first | apply Kd.R_alloc | apply Kd.R_drewN | apply Kd.R_drew)); exact HO_7.out) hb); replace BK211 := XPrint.A0 (XPrint.ab BK211.out hb); replace HB := XPrint.A0 (below_step (by exact XPrint.bz HB.out) hb); (try clear hb); (try clear hb2); (try clear hk); (try clear hi)))
           repeat (go_quiet (first | (go_at_call 46; (with_reducible refine (liverylaw18_head.calls k3  t220 _ A34.out).mono ?_); rintro e w35 ⟨rfl, hb⟩; replace HO_7 := XPrint.A0 (Kd.R_below (by (with_reducible repeat (first | apply Kd.R_alloc | apply Kd.R_drewN | apply Kd.R_drew)); exact HO_7.out) hb); replace BK211 := XPrint.A0 (XPrint.ab BK211.out hb); replace HB := XPrint.A0 (below_step (by exact XPrint.bz HB.out) hb); (try clear hb); (try clear hb2); (try clear hk); (try clear hi))); try go_wp2_with (first | (go_at_call 46; (with_reducible refine (liverylaw18_head.calls k3  t220 _ A34.out).mono ?_); rintro e w35 ⟨rfl, hb⟩; replace HO_7 := XPrint.A0 (Kd.R_below (by (with_reducible repeat (first | apply Kd.R_alloc | apply Kd.R_drewN | apply Kd.R_drew)); exact HO_7.out) hb); replace BK211 := XPrint.A0 (XPrint.ab BK211.out hb); replace HB := XPrint.A0 (below_step (by exact XPrint.bz HB.out) hb); (try clear hb); (try clear hb2); (try clear hk); (try clear hi))))
           go_ret
           exact ⟨by first | rfl | (simp [errW_none, errW_some] <;> rfl) | (simp [*, errW_none, errW_some] <;> rfl), by exact XPrint.bz HB.out⟩
    ·rw [if_neg c16] at H
     exact absurd H (by simp)

end Go.Proofs.Ytkaokiiooakleaa.PStageFair
