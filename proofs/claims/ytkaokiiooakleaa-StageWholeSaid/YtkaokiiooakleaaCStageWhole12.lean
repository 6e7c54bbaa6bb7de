-- printed by this session's own driver over the kit's printer: Lean checks it
import Derived.Test.YtkaokiiooakleaaCStageWhole0
import Derived.Test.YtkaokiiooakleaaCStageWhole2
import Derived.Test.YtkaokiiooakleaaCStageWhole3
import Derived.Test.YtkaokiiooakleaaCStageWhole11
namespace Go.Proofs.Ytkaokiiooakleaa.PStageWhole
open Go.RowKit Go.Proofs.YtkaokiiooakleaaW.PrintWords Go.Proofs.YtkaokiiooakleaaW.PrintLast Go.Proofs.YtkaokiiooakleaaW.PrintMore
attribute [local go_sem] max2_int min2_int max_two min_two max_three min_three max_four min_four   -- for this text's walks alone
set_option linter.unusedVariables false
set_option linter.unusedSimpArgs false

/-! ### liverylaw18_StageWhole: function 11 -/
mutual
def liverylaw18_StageWhole.j0 : Nat → List Int → Int → Bool → Int → Int → Option (Bool)
 | 0, _, _, _, _, _ => none
 | k + 1, x1, x5, x25, x212000, x212001 => if x25 = true then ((liverylaw18_head.f k).bind fun t214 => (some t214)) else (liverylaw18_StageWhole.l0 k x1 x5 0 x212000 x212001)
def liverylaw18_StageWhole.l0 : Nat → List Int → Int → Int → Int → Int → Option (Bool)
 | 0, _, _, _, _, _ => none
 | k + 1, x1, x5, x7, x212000, x212001 => if x7 < 3 then ((stage_Split.f k x212000 x212001 x1 x7).bind fun bt216 => (if x5 < 0 then (if bt216.2 = 210 then (if (bt216.1.length : Int) = 0 then (liverylaw18_StageWhole.l0 k x1 x5 ((x7 + 1) % 256) x212000 x212001) else (none)) else (none)) else (if bt216.2 = 0 then (liverylaw18_StageWhole.j2 k x1 x5 x7 bt216.1 ((bt216.1.length : Int) != (x1.length : Int)) x212000 x212001) else (none)))) else ((liverylaw18_head.f k).bind fun t215 => (some t215))
def liverylaw18_StageWhole.j2 : Nat → List Int → Int → Int → List (S71) → Bool → Int → Int → Option (Bool)
 | 0, _, _, _, _, _, _, _ => none
 | k + 1, x1, x5, x7, x8, x55, x212000, x212001 => if x55 = true then (none) else (liverylaw18_StageWhole.l1 k x1 x5 x7 x8 x212000 0 x212000 x212001)
def liverylaw18_StageWhole.l1 : Nat → List Int → Int → Int → List (S71) → Int → Int → Int → Int → Option (Bool)
 | 0, _, _, _, _, _, _, _, _ => none
 | k + 1, x1, x5, x7, x8, x10, x11, x212000, x212001 => if x11 < (x8.length : Int) then (if 0 ≤ x11 then (if ((rd_T71 x8 x11).f0) = x10 then (if x11 < (x1.length : Int) then (if (wrap64 (((rd_T71 x8 x11).f1) - ((rd_T71 x8 x11).f0))) < (rd x1 x11) then (none) else (if x7 = 0 then (if x11 > 0 then (if (wrap64 (((rd_T71 x8 x11).f1) - ((rd_T71 x8 x11).f0))) = (rd x1 x11) then (if x7 = 1 then (if x11 < (wrap64 ((x8.length : Int) - 1)) then (if x5 = 0 then (liverylaw18_StageWhole.l1 k x1 x5 x7 x8 ((rd_T71 x8 x11).f1) (wrap64 (x11 + 1)) x212000 x212001) else (liverylaw18_StageWhole.l1 k x1 x5 x7 x8 ((rd_T71 x8 x11).f1) (wrap64 (x11 + 1)) x212000 x212001)) else (if x5 = 0 then (liverylaw18_StageWhole.l1 k x1 x5 x7 x8 ((rd_T71 x8 x11).f1) (wrap64 (x11 + 1)) x212000 x212001) else (liverylaw18_StageWhole.l1 k x1 x5 x7 x8 ((rd_T71 x8 x11).f1) (wrap64 (x11 + 1)) x212000 x212001))) else (if x5 = 0 then (liverylaw18_StageWhole.l1 k x1 x5 x7 x8 ((rd_T71 x8 x11).f1) (wrap64 (x11 + 1)) x212000 x212001) else (liverylaw18_StageWhole.l1 k x1 x5 x7 x8 ((rd_T71 x8 x11).f1) (wrap64 (x11 + 1)) x212000 x212001))) else (none)) else (if x7 = 1 then (if x11 < (wrap64 ((x8.length : Int) - 1)) then (if (wrap64 (((rd_T71 x8 x11).f1) - ((rd_T71 x8 x11).f0))) = (rd x1 x11) then (if x5 = 0 then (liverylaw18_StageWhole.l1 k x1 x5 x7 x8 ((rd_T71 x8 x11).f1) (wrap64 (x11 + 1)) x212000 x212001) else (liverylaw18_StageWhole.l1 k x1 x5 x7 x8 ((rd_T71 x8 x11).f1) (wrap64 (x11 + 1)) x212000 x212001)) else (none)) else (if x5 = 0 then (if (wrap64 (((rd_T71 x8 x11).f1) - ((rd_T71 x8 x11).f0))) = (rd x1 x11) then (liverylaw18_StageWhole.l1 k x1 x5 x7 x8 ((rd_T71 x8 x11).f1) (wrap64 (x11 + 1)) x212000 x212001) else (none)) else (liverylaw18_StageWhole.l1 k x1 x5 x7 x8 ((rd_T71 x8 x11).f1) (wrap64 (x11 + 1)) x212000 x212001))) else (if x5 = 0 then (if (wrap64 (((rd_T71 x8 x11).f1) - ((rd_T71 x8 x11).f0))) = (rd x1 x11) then (liverylaw18_StageWhole.l1 k x1 x5 x7 x8 ((rd_T71 x8 x11).f1) (wrap64 (x11 + 1)) x212000 x212001) else (none)) else (liverylaw18_StageWhole.l1 k x1 x5 x7 x8 ((rd_T71 x8 x11).f1) (wrap64 (x11 + 1)) x212000 x212001)))) else (if x7 = 1 then (if x11 < (wrap64 ((x8.length : Int) - 1)) then (if (wrap64 (((rd_T71 x8 x11).f1) - ((rd_T71 x8 x11).f0))) = (rd x1 x11) then (if x5 = 0 then (liverylaw18_StageWhole.l1 k x1 x5 x7 x8 ((rd_T71 x8 x11).f1) (wrap64 (x11 + 1)) x212000 x212001) else (liverylaw18_StageWhole.l1 k x1 x5 x7 x8 ((rd_T71 x8 x11).f1) (wrap64 (x11 + 1)) x212000 x212001)) else (none)) else (if x5 = 0 then (if (wrap64 (((rd_T71 x8 x11).f1) - ((rd_T71 x8 x11).f0))) = (rd x1 x11) then (liverylaw18_StageWhole.l1 k x1 x5 x7 x8 ((rd_T71 x8 x11).f1) (wrap64 (x11 + 1)) x212000 x212001) else (none)) else (liverylaw18_StageWhole.l1 k x1 x5 x7 x8 ((rd_T71 x8 x11).f1) (wrap64 (x11 + 1)) x212000 x212001))) else (if x5 = 0 then (if (wrap64 (((rd_T71 x8 x11).f1) - ((rd_T71 x8 x11).f0))) = (rd x1 x11) then (liverylaw18_StageWhole.l1 k x1 x5 x7 x8 ((rd_T71 x8 x11).f1) (wrap64 (x11 + 1)) x212000 x212001) else (none)) else (liverylaw18_StageWhole.l1 k x1 x5 x7 x8 ((rd_T71 x8 x11).f1) (wrap64 (x11 + 1)) x212000 x212001))))) else (none)) else (none)) else (none)) else (if x10 = x212001 then (liverylaw18_StageWhole.l0 k x1 x5 ((x7 + 1) % 256) x212000 x212001) else (none))
end
def liverylaw18_StageWhole.f (k : Nat) (a0_0 : Int) (a0_1 : Int) (l1 : List Int) : Option (Bool) := (stage_Slack.f k a0_0 a0_1 l1).bind fun bt212 => (if (l1.length : Int) > 40 then (liverylaw18_StageWhole.j0 k l1 bt212.1 true a0_0 a0_1) else (liverylaw18_StageWhole.j0 k l1 bt212.1 (bt212.2 != 0) a0_0 a0_1))
theorem liverylaw18_StageWhole.mono_l : ∀ k, (∀ y0 y1 y2 y3 y4, LeO (liverylaw18_StageWhole.j0 k y0 y1 y2 y3 y4) (liverylaw18_StageWhole.j0 (k + 1) y0 y1 y2 y3 y4)) ∧ (∀ y0 y1 y2 y3 y4, LeO (liverylaw18_StageWhole.l0 k y0 y1 y2 y3 y4) (liverylaw18_StageWhole.l0 (k + 1) y0 y1 y2 y3 y4)) ∧ (∀ y0 y1 y2 y3 y4 y5 y6, LeO (liverylaw18_StageWhole.j2 k y0 y1 y2 y3 y4 y5 y6) (liverylaw18_StageWhole.j2 (k + 1) y0 y1 y2 y3 y4 y5 y6)) ∧ (∀ y0 y1 y2 y3 y4 y5 y6 y7, LeO (liverylaw18_StageWhole.l1 k y0 y1 y2 y3 y4 y5 y6 y7) (liverylaw18_StageWhole.l1 (k + 1) y0 y1 y2 y3 y4 y5 y6 y7))
 | 0 => ⟨fun _ _ _ _ _ r h => by simp [liverylaw18_StageWhole.j0] at h, fun _ _ _ _ _ r h => by simp [liverylaw18_StageWhole.l0] at h, fun _ _ _ _ _ _ _ r h => by simp [liverylaw18_StageWhole.j2] at h, fun _ _ _ _ _ _ _ _ r h => by simp [liverylaw18_StageWhole.l1] at h⟩
 | k + 1 => by
  obtain ⟨ih0, ih1, ih2, ih3⟩ := liverylaw18_StageWhole.mono_l k
  refine ⟨?_, ?_, ?_, ?_⟩
  ·intro y0 y1 y2 y3 y4
   unfold liverylaw18_StageWhole.j0
   repeat' first
   | (with_reducible exact ih0 _ _ _ _ _)
   | (with_reducible exact ih1 _ _ _ _ _)
   | (with_reducible exact ih2 _ _ _ _ _ _ _)
   | (with_reducible exact ih3 _ _ _ _ _ _ _ _)
   | (with_reducible exact liverylaw18_head.mono _)
   | (with_reducible exact stage_Slack.mono _ _ _ _)
   | (with_reducible exact stage_Split.mono _ _ _ _ _)
   | (with_reducible exact LeO.refl _)
   | (with_reducible exact LeO.none _)
   | (with_reducible refine LeO.ite ?_ ?_)
   | (with_reducible refine LeO.bind ?_ (fun _ => ?_))
   | exact ih0 _ _ _ _ _
   | exact ih1 _ _ _ _ _
   | exact ih2 _ _ _ _ _ _ _
   | exact ih3 _ _ _ _ _ _ _ _
   | exact liverylaw18_head.mono _
   | exact stage_Slack.mono _ _ _ _
   | exact stage_Split.mono _ _ _ _ _
   | exact LeO.none _
   | refine LeO.ite ?_ ?_
   | refine LeO.bind ?_ (fun _ => ?_)
  ·intro y0 y1 y2 y3 y4
   unfold liverylaw18_StageWhole.l0
   repeat' first
   | (with_reducible exact ih0 _ _ _ _ _)
   | (with_reducible exact ih1 _ _ _ _ _)
   | (with_reducible exact ih2 _ _ _ _ _ _ _)
   | (with_reducible exact ih3 _ _ _ _ _ _ _ _)
   | (with_reducible exact liverylaw18_head.mono _)
   | (with_reducible exact stage_Slack.mono _ _ _ _)
   | (with_reducible exact stage_Split.mono _ _ _ _ _)
   | (with_reducible exact LeO.refl _)
   | (with_reducible exact LeO.none _)
   | (with_reducible refine LeO.ite ?_ ?_)
   | (with_reducible refine LeO.bind ?_ (fun _ => ?_))
   | exact ih0 _ _ _ _ _
   | exact ih1 _ _ _ _ _
   | exact ih2 _ _ _ _ _ _ _
   | exact ih3 _ _ _ _ _ _ _ _
   | exact liverylaw18_head.mono _
   | exact stage_Slack.mono _ _ _ _
   | exact stage_Split.mono _ _ _ _ _
   | exact LeO.none _
   | refine LeO.ite ?_ ?_
   | refine LeO.bind ?_ (fun _ => ?_)
  ·intro y0 y1 y2 y3 y4 y5 y6
   unfold liverylaw18_StageWhole.j2
   repeat' first
   | (with_reducible exact ih0 _ _ _ _ _)
   | (with_reducible exact ih1 _ _ _ _ _)
   | (with_reducible exact ih2 _ _ _ _ _ _ _)
   | (with_reducible exact ih3 _ _ _ _ _ _ _ _)
   | (with_reducible exact liverylaw18_head.mono _)
   | (with_reducible exact stage_Slack.mono _ _ _ _)
   | (with_reducible exact stage_Split.mono _ _ _ _ _)
   | (with_reducible exact LeO.refl _)
   | (with_reducible exact LeO.none _)
   | (with_reducible refine LeO.ite ?_ ?_)
   | (with_reducible refine LeO.bind ?_ (fun _ => ?_))
   | exact ih0 _ _ _ _ _
   | exact ih1 _ _ _ _ _
   | exact ih2 _ _ _ _ _ _ _
   | exact ih3 _ _ _ _ _ _ _ _
   | exact liverylaw18_head.mono _
   | exact stage_Slack.mono _ _ _ _
   | exact stage_Split.mono _ _ _ _ _
   | exact LeO.none _
   | refine LeO.ite ?_ ?_
   | refine LeO.bind ?_ (fun _ => ?_)
  ·intro y0 y1 y2 y3 y4 y5 y6 y7
   unfold liverylaw18_StageWhole.l1
   repeat' first
   | (with_reducible exact ih0 _ _ _ _ _)
   | (with_reducible exact ih1 _ _ _ _ _)
   | (with_reducible exact ih2 _ _ _ _ _ _ _)
   | (with_reducible exact ih3 _ _ _ _ _ _ _ _)
   | (with_reducible exact liverylaw18_head.mono _)
   | (with_reducible exact stage_Slack.mono _ _ _ _)
   | (with_reducible exact stage_Split.mono _ _ _ _ _)
   | (with_reducible exact LeO.refl _)
   | (with_reducible exact LeO.none _)
   | (with_reducible refine LeO.ite ?_ ?_)
   | (with_reducible refine LeO.bind ?_ (fun _ => ?_))
   | exact ih0 _ _ _ _ _
   | exact ih1 _ _ _ _ _
   | exact ih2 _ _ _ _ _ _ _
   | exact ih3 _ _ _ _ _ _ _ _
   | exact liverylaw18_head.mono _
   | exact stage_Slack.mono _ _ _ _
   | exact stage_Split.mono _ _ _ _ _
   | exact LeO.none _
   | refine LeO.ite ?_ ?_
   | refine LeO.bind ?_ (fun _ => ?_)
theorem liverylaw18_StageWhole.mono : ∀ a0 a1 a2 k, LeO (liverylaw18_StageWhole.f k a0 a1 a2) (liverylaw18_StageWhole.f (k + 1) a0 a1 a2) := by
 intro a0 a1 a2 k
 obtain ⟨ih0, ih1, ih2, ih3⟩ := liverylaw18_StageWhole.mono_l k
 unfold liverylaw18_StageWhole.f
 repeat' first
   | (with_reducible exact ih0 _ _ _ _ _)
   | (with_reducible exact ih1 _ _ _ _ _)
   | (with_reducible exact ih2 _ _ _ _ _ _ _)
   | (with_reducible exact ih3 _ _ _ _ _ _ _ _)
   | (with_reducible exact liverylaw18_head.mono _)
   | (with_reducible exact stage_Slack.mono _ _ _ _)
   | (with_reducible exact stage_Split.mono _ _ _ _ _)
   | (with_reducible exact LeO.refl _)
   | (with_reducible exact LeO.none _)
   | (with_reducible refine LeO.ite ?_ ?_)
   | (with_reducible refine LeO.bind ?_ (fun _ => ?_))
   | exact ih0 _ _ _ _ _
   | exact ih1 _ _ _ _ _
   | exact ih2 _ _ _ _ _ _ _
   | exact ih3 _ _ _ _ _ _ _ _
   | exact liverylaw18_head.mono _
   | exact stage_Slack.mono _ _ _ _
   | exact stage_Split.mono _ _ _ _ _
   | exact LeO.none _
   | refine LeO.ite ?_ ?_
   | refine LeO.bind ?_ (fun _ => ?_)
set_option maxHeartbeats 8000000 in
set_option maxRecDepth 100000 in
theorem liverylaw18_StageWhole.calls (k : Nat) (a0_0 : Int) (a0_1 : Int) (A1 : Option Addr) (c1 : Nat) (l1 : List Int) (r : Bool) (w : World) (hr1 : Kd.C (Kd.int .i64) w A1 l1.length l1) (hc1 : l1.length ≤ c1) (h : liverylaw18_StageWhole.f k a0_0 a0_1 l1 = some r) :
  Calls Try.prog 11 #[.agg #[.int .i64 a0_0, .int .i64 a0_1], .slice A1 l1.length c1] w fun e w' => e = .returned (.bool r) ∧ Below w.heap.size w w' := by
 have hu71 := Try.underlying71
 have HR1 := XPrint.A0 hr1
 have HC1 := XPrint.A0 hc1
 clear hr1 hc1
 have HB := XPrint.A0 (Below.refl w.heap.size w)
 have H : ((stage_Slack.f k a0_0 a0_1 l1).bind fun bt212 => (if (l1.length : Int) > 40 then (liverylaw18_StageWhole.j0 k l1 bt212.1 true a0_0 a0_1) else (liverylaw18_StageWhole.j0 k l1 bt212.1 (bt212.2 != 0) a0_0 a0_1))) = some r := h
 clear h
 replace H := Option.bind_eq_some_iff.mp H
 obtain ⟨⟨t212, t213⟩, A30, H⟩ := H
 replace H : (if (l1.length : Int) > 40 then (liverylaw18_StageWhole.j0 k l1 t212 true a0_0 a0_1) else (liverylaw18_StageWhole.j0 k l1 t212 (t213 != 0) a0_0 a0_1)) = some r := H
 have A3 := XPrint.A0 A30
 clear A30
 have HC4 := XPrint.A0 H
 clear H
 go_enter Try.func11, Try.ntmps11
 go_upto_region 2 with (first | ((with_reducible refine gate_dst (N := 2) rfl ?_); (try (refine gate_guard (by rfl) ?_; dsimp only)); refine box_event ?hg (N := 2) ?hd (cs := #[.int .i64 a0_0, .int .i64 a0_1]) (t := 71) ?hr ?_; (case hd => rfl); (case hg => rfl); (case hr => first | (go_simp; done) | (go_simp; rfl)); intro gb211 hg w5 hbox hb; have n0_ := XPrint.A0 (below_step (by exact XPrint.bz HB.out) hb); have n1_ := XPrint.A0 (hbox); have n2_ := XPrint.A0 (XPrint.gz HB.out hg); have n3_ := XPrint.A0 (XPrint.gz HB.out hg); clear HB; have HB := n0_; have BK211 := n1_; have GW211 := n2_; have GE211 := n3_; clear n0_ n1_ n2_ n3_; clear hb hbox hg; have hcz6_0 : w5.cell? ⟨gb211, 0, none⟩ = some (.int .i64 a0_0) := (blk_cell BK211.out 0).trans rfl; have hcz6_1 : w5.cell? ⟨gb211, 1, none⟩ = some (.int .i64 a0_1) := (blk_cell BK211.out 1).trans rfl; have hfz6_0 := blk_frozen BK211.out 0; have hfz6_1 := blk_frozen BK211.out 1) | (go_at_call 45; (with_reducible refine (stage_Slack.calls k a0_0 a0_1 _ _ l1 t212 t213 _ ?side1 ?side2 A3.out).mono ?_); (case side1 => repeat (first | exact (Kd.C_below HR1.out HB.out) | (with_reducible refine Kd.C_alloc ?_ _) | (with_reducible refine Kd.C_drewN ?_ _) | (with_reducible refine Kd.C_drew ?_))); (case side2 => exact HC1.out); rintro e w7 ⟨rfl, hb⟩; have n0_ := XPrint.A0 (XPrint.ab BK211.out hb); have n1_ := XPrint.A0 (below_step (by exact XPrint.bz HB.out) hb); clear BK211; clear HB; have BK211 := n0_; have HB := n1_; clear n0_ n1_; (try clear hb); (try clear hb2); (try clear hk); (try clear hi)))
 repeat (go_quiet (first | ((with_reducible refine gate_dst (N := 2) rfl ?_); (try (refine gate_guard (by rfl) ?_; dsimp only)); refine box_event ?hg (N := 2) ?hd (cs := #[.int .i64 a0_0, .int .i64 a0_1]) (t := 71) ?hr ?_; (case hd => rfl); (case hg => rfl); (case hr => first | (go_simp; done) | (go_simp; rfl)); intro gb211 hg w5 hbox hb; have n0_ := XPrint.A0 (below_step (by exact XPrint.bz HB.out) hb); have n1_ := XPrint.A0 (hbox); have n2_ := XPrint.A0 (XPrint.gz HB.out hg); have n3_ := XPrint.A0 (XPrint.gz HB.out hg); clear HB; have HB := n0_; have BK211 := n1_; have GW211 := n2_; have GE211 := n3_; clear n0_ n1_ n2_ n3_; clear hb hbox hg; have hcz6_0 : w5.cell? ⟨gb211, 0, none⟩ = some (.int .i64 a0_0) := (blk_cell BK211.out 0).trans rfl; have hcz6_1 : w5.cell? ⟨gb211, 1, none⟩ = some (.int .i64 a0_1) := (blk_cell BK211.out 1).trans rfl; have hfz6_0 := blk_frozen BK211.out 0; have hfz6_1 := blk_frozen BK211.out 1) | (go_at_call 45; (with_reducible refine (stage_Slack.calls k a0_0 a0_1 _ _ l1 t212 t213 _ ?side1 ?side2 A3.out).mono ?_); (case side1 => repeat (first | exact (Kd.C_below HR1.out HB.out) | (with_reducible refine Kd.C_alloc ?_ _) | (with_reducible refine Kd.C_drewN ?_ _) | (with_reducible refine Kd.C_drew ?_))); (case side2 => exact HC1.out); rintro e w7 ⟨rfl, hb⟩; have n0_ := XPrint.A0 (XPrint.ab BK211.out hb); have n1_ := XPrint.A0 (below_step (by exact XPrint.bz HB.out) hb); clear BK211; clear HB; have BK211 := n0_; have HB := n1_; clear n0_ n1_; (try clear hb); (try clear hb2); (try clear hk); (try clear hi))); go_upto_region 2 with (first | ((with_reducible refine gate_dst (N := 2) rfl ?_); (try (refine gate_guard (by rfl) ?_; dsimp only)); refine box_event ?hg (N := 2) ?hd (cs := #[.int .i64 a0_0, .int .i64 a0_1]) (t := 71) ?hr ?_; (case hd => rfl); (case hg => rfl); (case hr => first | (go_simp; done) | (go_simp; rfl)); intro gb211 hg w5 hbox hb; have n0_ := XPrint.A0 (below_step (by exact XPrint.bz HB.out) hb); have n1_ := XPrint.A0 (hbox); have n2_ := XPrint.A0 (XPrint.gz HB.out hg); have n3_ := XPrint.A0 (XPrint.gz HB.out hg); clear HB; have HB := n0_; have BK211 := n1_; have GW211 := n2_; have GE211 := n3_; clear n0_ n1_ n2_ n3_; clear hb hbox hg; have hcz6_0 : w5.cell? ⟨gb211, 0, none⟩ = some (.int .i64 a0_0) := (blk_cell BK211.out 0).trans rfl; have hcz6_1 : w5.cell? ⟨gb211, 1, none⟩ = some (.int .i64 a0_1) := (blk_cell BK211.out 1).trans rfl; have hfz6_0 := blk_frozen BK211.out 0; have hfz6_1 := blk_frozen BK211.out 1) | (go_at_call 45; (with_reducible refine (stage_Slack.calls k a0_0 a0_1 _ _ l1 t212 t213 _ ?side1 ?side2 A3.out).mono ?_); (case side1 => repeat (first | exact (Kd.C_below HR1.out HB.out) | (with_reducible refine Kd.C_alloc ?_ _) | (with_reducible refine Kd.C_drewN ?_ _) | (with_reducible refine Kd.C_drew ?_))); (case side2 => exact HC1.out); rintro e w7 ⟨rfl, hb⟩; have n0_ := XPrint.A0 (XPrint.ab BK211.out hb); have n1_ := XPrint.A0 (below_step (by exact XPrint.bz HB.out) hb); clear BK211; clear HB; have BK211 := n0_; have HB := n1_; clear n0_ n1_; (try clear hb); (try clear hb2); (try clear hk); (try clear hi))))
 (try simp only [XPrint.pw])
 go_cut [25] (fun v25 wc => ∃ (kq : Nat) (x25_3 : Bool), v25 = .bool x25_3 ∧ Aside0 (liverylaw18_StageWhole.j0 kq l1 t212 x25_3 a0_0 a0_1 = some r) ∧ Aside0 (kq ≤ k) ∧ Aside0 (wc.heap[gb211]? = some (.cells #[.int .i64 a0_0, .int .i64 a0_1] 71 (0, 0))) ∧ Aside0 (Below w.heap.size w wc))
 case first =>
  have H := HC4.out
  clear HC4
  by_cases c8 : (l1.length : Int) > 40
  ·rw [if_pos c8] at H
   have c8b0 : decide (40 < (l1.length : Int)) = true := decide_eq_true c8
   have c8b1 : decide (40 < l1.length) = true := decide_eq_true (by omega)
   clear c8
   (first | rw [c8b0] | (simp only [i64_w, i32_w]; rw [c8b0]) | skip)
   have H' := XPrint.A0 H
   clear H
   go_wp2
   repeat (go_quiet (fail); try go_wp2)
   go_meet
   case rel => exact ⟨_, (true), (by first | rfl | (simp; done) | (simp [*]; done)), H', ⟨by first | omega | exact Nat.le_refl _⟩, ⟨by (repeat with_reducible first | refine XPrint.d1 ?_ | refine XPrint.d2 ?_ _ | refine XPrint.d3 ?_ _); exact BK211.out⟩, ⟨by exact XPrint.bz HB.out⟩⟩
  ·rw [if_neg c8] at H
   have c8b0 : decide (40 < (l1.length : Int)) = false := decide_eq_false c8
   have c8b1 : decide (40 < l1.length) = false := decide_eq_false (by omega)
   clear c8
   (first | rw [c8b0] | (simp only [i64_w, i32_w]; rw [c8b0]) | skip)
   have H' := XPrint.A0 H
   clear H
   go_wp2
   repeat (go_quiet (fail); try go_wp2)
   go_meet
   case rel => exact ⟨_, ((t213 != 0)), (by first | rfl | (simp; done) | (simp [*]; done)), H', ⟨by first | omega | exact Nat.le_refl _⟩, ⟨by (repeat with_reducible first | refine XPrint.d1 ?_ | refine XPrint.d2 ?_ _ | refine XPrint.d3 ?_ _); exact BK211.out⟩, ⟨by exact XPrint.bz HB.out⟩⟩
 case rest =>
  clear HC4
  try clear c1
  try clear p2
  try clear c8
  try clear c8b0
  try clear c8b1
  try clear hcz6_0
  try clear hcz6_1
  try clear hfz6_0
  try clear hfz6_1
  obtain ⟨kq, x25_3, rfl, HA, HJ3, BK211, HB⟩ := hcut
  cases kq with
  | zero => exact absurd HA.out (by simp [liverylaw18_StageWhole.j0])
  | succ kj3 =>
   have H := HA.out
   clear HA
   simp only [liverylaw18_StageWhole.j0] at H
   by_cases c9 : x25_3 = true
   ·subst c9
    have H1 := H; rw [if_pos rfl] at H1
    clear H
    have H := H1
    clear H1
    replace H := Option.bind_eq_some_iff.mp H
    obtain ⟨t214, A100, H⟩ := H
    try set_option simprocs false in dsimp only at H
    have A10 := XPrint.A0 A100
    clear A100
    obtain rfl := Option.some.inj H
    go_wp2_with (first | (go_at_call 46; (with_reducible refine (liverylaw18_head.calls kj3  t214 _ A10.out).mono ?_); rintro e w11 ⟨rfl, hb⟩; replace BK211 := XPrint.A0 (XPrint.ab BK211.out hb); replace HB := XPrint.A0 (below_step (by exact XPrint.bz HB.out) hb); (try clear hb); (try clear hb2); (try clear hk); (try clear hi)))
    repeat (go_quiet (first | (go_at_call 46; (with_reducible refine (liverylaw18_head.calls kj3  t214 _ A10.out).mono ?_); rintro e w11 ⟨rfl, hb⟩; replace BK211 := XPrint.A0 (XPrint.ab BK211.out hb); replace HB := XPrint.A0 (below_step (by exact XPrint.bz HB.out) hb); (try clear hb); (try clear hb2); (try clear hk); (try clear hi))); try go_wp2_with (first | (go_at_call 46; (with_reducible refine (liverylaw18_head.calls kj3  t214 _ A10.out).mono ?_); rintro e w11 ⟨rfl, hb⟩; replace BK211 := XPrint.A0 (XPrint.ab BK211.out hb); replace HB := XPrint.A0 (below_step (by exact XPrint.bz HB.out) hb); (try clear hb); (try clear hb2); (try clear hk); (try clear hi))))
    go_ret
    exact ⟨by first | rfl | (simp [errW_none, errW_some] <;> rfl) | (simp [*, errW_none, errW_some] <;> rfl), by exact XPrint.bz HB.out⟩
   ·replace c9 := Bool.eq_false_iff.mpr c9
    subst c9
    have H1 := H; rw [if_neg (show ¬ (false = true) by decide)] at H1
    clear H
    have H := H1
    clear H1
    have H' := XPrint.A0 H
    clear H
    go_wp2
    repeat (go_quiet (fail); try go_wp2)
    go_loopg [7] kj3 (fun kq v7 w' => ∃ (x7_2 : Int), v7 = .int .u8 x7_2 ∧ Aside0 (liverylaw18_StageWhole.l0 kq l1 t212 x7_2 a0_0 a0_1 = some r) ∧ Aside0 (kq ≤ kj3) ∧ Aside0 (w'.heap[gb211]? = some (.cells #[.int .i64 a0_0, .int .i64 a0_1] 71 (0, 0))) ∧ Aside0 (Below w.heap.size w w'))
    case atStart => exact ⟨(0), (by first | rfl | (simp; done) | (simp [*]; done)), H', ⟨Nat.le_refl _⟩, ⟨by (repeat with_reducible first | refine XPrint.d1 ?_ | refine XPrint.d2 ?_ _ | refine XPrint.d3 ?_ _); exact BK211.out⟩, ⟨by exact XPrint.bz HB.out⟩⟩
    case round =>
     clear H'
     try clear c1
     try clear p2
     try clear c8
     try clear c8b0
     try clear c8b1
     try clear c9
     try clear c11
     try clear hcz6_0
     try clear hcz6_1
     try clear hfz6_0
     try clear hfz6_1
     try clear p2
     obtain ⟨x7_2, rfl, HA, HK2, BK211, HB⟩ := hrel
     cases gk with
     | zero => exact absurd HA.out (by simp [liverylaw18_StageWhole.l0])
     | succ k2 =>
      have H := HA.out
      clear HA
      simp only [liverylaw18_StageWhole.l0] at H
      by_cases c12 : x7_2 < 3
      ·rw [if_pos c12] at H
       have c12b0 : decide (x7_2 < 3) = true := decide_eq_true c12
       clear c12
       replace H := Option.bind_eq_some_iff.mp H
       obtain ⟨⟨t216, t219⟩, A130, H⟩ := H
       replace H : (if t212 < 0 then (if t219 = 210 then (if (t216.length : Int) = 0 then (liverylaw18_StageWhole.l0 k2 l1 t212 ((x7_2 + 1) % 256) a0_0 a0_1) else (none)) else (none)) else (if t219 = 0 then (liverylaw18_StageWhole.j2 k2 l1 t212 x7_2 t216 ((t216.length : Int) != (l1.length : Int)) a0_0 a0_1) else (none))) = some r := H
       have A13 := XPrint.A0 A130
       clear A130
       by_cases c14 : t212 < 0
       ·rw [if_pos c14] at H
        have c14b0 : decide (t212 < 0) = true := decide_eq_true c14
        clear c14
        by_cases c15 : t219 = 210
        ·rw [if_pos c15] at H
         have c15b0 : (t219 == 210) = true := beq_iff_eq.mpr c15
         have c15b1 : (t219 != 210) = false := bne_eq_false_iff_eq.mpr c15
         clear c15
         by_cases c16 : (t216.length : Int) = 0
         ·rw [if_pos c16] at H
          have c16b0 : ((t216.length : Int) == 0) = true := beq_iff_eq.mpr c16
          have c16b1 : ((t216.length : Int) != 0) = false := bne_eq_false_iff_eq.mpr c16
          clear c16
          have H' := XPrint.A0 H
          clear H
          have hcz17_0 : wr.cell? ⟨gb211, 0, none⟩ = some (.int .i64 a0_0) := (blk_cell BK211.out 0).trans rfl
          have hcz17_1 : wr.cell? ⟨gb211, 1, none⟩ = some (.int .i64 a0_1) := (blk_cell BK211.out 1).trans rfl
          have hfz17_0 := blk_frozen BK211.out 0
          have hfz17_1 := blk_frozen BK211.out 1
          go_wp2_with (first | (go_at_call 47; (with_reducible refine (stage_Split.calls k2 a0_0 a0_1 _ _ l1 x7_2 t216 t219 _ ?side1 ?side2 A13.out).mono ?_); (case side1 => repeat (first | exact (Kd.C_below HR1.out HB.out) | (with_reducible refine Kd.C_alloc ?_ _) | (with_reducible refine Kd.C_drewN ?_ _) | (with_reducible refine Kd.C_drew ?_))); (case side2 => exact HC1.out); rintro e w18 ⟨v217, rfl, ho0, hb⟩; have HO218 := XPrint.A0 (Kd.R_lower (Kd.R_newB ho0 (g := gb211) (o := .cells #[.int .i64 a0_0, .int .i64 a0_1] 71 (0, 0)) (XPrint.ak BK211.out)) (below_size (by exact XPrint.bz HB.out))); replace BK211 := XPrint.A0 (XPrint.ab BK211.out hb); replace HB := XPrint.A0 (below_step (by exact XPrint.bz HB.out) hb); (try clear hb); (try clear hb2); (try clear hk); (try clear hi); (try clear ho0); obtain ⟨Ao19, co19, eo19⟩ := Kd.R_slice HO218.out; subst eo19))
          repeat (go_quiet (first | (go_at_call 47; (with_reducible refine (stage_Split.calls k2 a0_0 a0_1 _ _ l1 x7_2 t216 t219 _ ?side1 ?side2 A13.out).mono ?_); (case side1 => repeat (first | exact (Kd.C_below HR1.out HB.out) | (with_reducible refine Kd.C_alloc ?_ _) | (with_reducible refine Kd.C_drewN ?_ _) | (with_reducible refine Kd.C_drew ?_))); (case side2 => exact HC1.out); rintro e w18 ⟨v217, rfl, ho0, hb⟩; have HO218 := XPrint.A0 (Kd.R_lower (Kd.R_newB ho0 (g := gb211) (o := .cells #[.int .i64 a0_0, .int .i64 a0_1] 71 (0, 0)) (XPrint.ak BK211.out)) (below_size (by exact XPrint.bz HB.out))); replace BK211 := XPrint.A0 (XPrint.ab BK211.out hb); replace HB := XPrint.A0 (below_step (by exact XPrint.bz HB.out) hb); (try clear hb); (try clear hb2); (try clear hk); (try clear hi); (try clear ho0); obtain ⟨Ao19, co19, eo19⟩ := Kd.R_slice HO218.out; subst eo19)); try go_wp2_with (first | (go_at_call 47; (with_reducible refine (stage_Split.calls k2 a0_0 a0_1 _ _ l1 x7_2 t216 t219 _ ?side1 ?side2 A13.out).mono ?_); (case side1 => repeat (first | exact (Kd.C_below HR1.out HB.out) | (with_reducible refine Kd.C_alloc ?_ _) | (with_reducible refine Kd.C_drewN ?_ _) | (with_reducible refine Kd.C_drew ?_))); (case side2 => exact HC1.out); rintro e w18 ⟨v217, rfl, ho0, hb⟩; have HO218 := XPrint.A0 (Kd.R_lower (Kd.R_newB ho0 (g := gb211) (o := .cells #[.int .i64 a0_0, .int .i64 a0_1] 71 (0, 0)) (XPrint.ak BK211.out)) (below_size (by exact XPrint.bz HB.out))); replace BK211 := XPrint.A0 (XPrint.ab BK211.out hb); replace HB := XPrint.A0 (below_step (by exact XPrint.bz HB.out) hb); (try clear hb); (try clear hb2); (try clear hk); (try clear hi); (try clear ho0); obtain ⟨Ao19, co19, eo19⟩ := Kd.R_slice HO218.out; subst eo19)))
          go_roundg k2
          case measure => have := HJ3.out; have := HK2.out; omega
          case rel => exact ⟨((x7_2 + 1) % 256), (by first | rfl | (simp; done) | (simp [*]; done)), H', ⟨by have := HJ3.out; have := HK2.out; omega⟩, ⟨by (repeat with_reducible first | refine XPrint.d1 ?_ | refine XPrint.d2 ?_ _ | refine XPrint.d3 ?_ _); exact BK211.out⟩, ⟨by exact XPrint.bz HB.out⟩⟩
         ·rw [if_neg c16] at H
          exact absurd H (by simp)
        ·rw [if_neg c15] at H
         exact absurd H (by simp)
       ·rw [if_neg c14] at H
        have c14b0 : decide (t212 < 0) = false := decide_eq_false c14
        clear c14
        have HC20 := XPrint.A0 H
        clear H
        have hcz21_0 : wr.cell? ⟨gb211, 0, none⟩ = some (.int .i64 a0_0) := (blk_cell BK211.out 0).trans rfl
        have hcz21_1 : wr.cell? ⟨gb211, 1, none⟩ = some (.int .i64 a0_1) := (blk_cell BK211.out 1).trans rfl
        have hfz21_0 := blk_frozen BK211.out 0
        have hfz21_1 := blk_frozen BK211.out 1
        go_upto_region 11 with (first | (go_at_call 47; (with_reducible refine (stage_Split.calls k2 a0_0 a0_1 _ _ l1 x7_2 t216 t219 _ ?side1 ?side2 A13.out).mono ?_); (case side1 => repeat (first | exact (Kd.C_below HR1.out HB.out) | (with_reducible refine Kd.C_alloc ?_ _) | (with_reducible refine Kd.C_drewN ?_ _) | (with_reducible refine Kd.C_drew ?_))); (case side2 => exact HC1.out); rintro e w22 ⟨v217, rfl, ho0, hb⟩; have n0_ := XPrint.A0 (Kd.R_lower (Kd.R_newB ho0 (g := gb211) (o := .cells #[.int .i64 a0_0, .int .i64 a0_1] 71 (0, 0)) (XPrint.ak BK211.out)) (below_size (by exact XPrint.bz HB.out))); have n1_ := XPrint.A0 (XPrint.ab BK211.out hb); have n2_ := XPrint.A0 (below_step (by exact XPrint.bz HB.out) hb); clear BK211; clear HB; have HO218 := n0_; have BK211 := n1_; have HB := n2_; clear n0_ n1_ n2_; (try clear hb); (try clear hb2); (try clear hk); (try clear hi); (try clear ho0)))
        repeat (go_quiet (first | (go_at_call 47; (with_reducible refine (stage_Split.calls k2 a0_0 a0_1 _ _ l1 x7_2 t216 t219 _ ?side1 ?side2 A13.out).mono ?_); (case side1 => repeat (first | exact (Kd.C_below HR1.out HB.out) | (with_reducible refine Kd.C_alloc ?_ _) | (with_reducible refine Kd.C_drewN ?_ _) | (with_reducible refine Kd.C_drew ?_))); (case side2 => exact HC1.out); rintro e w22 ⟨v217, rfl, ho0, hb⟩; have n0_ := XPrint.A0 (Kd.R_lower (Kd.R_newB ho0 (g := gb211) (o := .cells #[.int .i64 a0_0, .int .i64 a0_1] 71 (0, 0)) (XPrint.ak BK211.out)) (below_size (by exact XPrint.bz HB.out))); have n1_ := XPrint.A0 (XPrint.ab BK211.out hb); have n2_ := XPrint.A0 (below_step (by exact XPrint.bz HB.out) hb); clear BK211; clear HB; have HO218 := n0_; have BK211 := n1_; have HB := n2_; clear n0_ n1_ n2_; (try clear hb); (try clear hb2); (try clear hk); (try clear hi); (try clear ho0))); go_upto_region 11 with (first | (go_at_call 47; (with_reducible refine (stage_Split.calls k2 a0_0 a0_1 _ _ l1 x7_2 t216 t219 _ ?side1 ?side2 A13.out).mono ?_); (case side1 => repeat (first | exact (Kd.C_below HR1.out HB.out) | (with_reducible refine Kd.C_alloc ?_ _) | (with_reducible refine Kd.C_drewN ?_ _) | (with_reducible refine Kd.C_drew ?_))); (case side2 => exact HC1.out); rintro e w22 ⟨v217, rfl, ho0, hb⟩; have n0_ := XPrint.A0 (Kd.R_lower (Kd.R_newB ho0 (g := gb211) (o := .cells #[.int .i64 a0_0, .int .i64 a0_1] 71 (0, 0)) (XPrint.ak BK211.out)) (below_size (by exact XPrint.bz HB.out))); have n1_ := XPrint.A0 (XPrint.ab BK211.out hb); have n2_ := XPrint.A0 (below_step (by exact XPrint.bz HB.out) hb); clear BK211; clear HB; have HO218 := n0_; have BK211 := n1_; have HB := n2_; clear n0_ n1_ n2_; (try clear hb); (try clear hb2); (try clear hk); (try clear hi); (try clear ho0))))
        (try simp only [XPrint.pw])
        go_cut [55] (fun v55 wc => ∃ (kq : Nat) (x55_19 : Bool), v55 = .bool x55_19 ∧ Aside0 (liverylaw18_StageWhole.j2 kq l1 t212 x7_2 t216 x55_19 a0_0 a0_1 = some r) ∧ Aside0 (kq ≤ k2) ∧ Aside0 (Kd.R k71 71 wc w.heap.size (fun k_ => k_ ≠ gb211) v217 t216) ∧ Aside0 (wc.heap[gb211]? = some (.cells #[.int .i64 a0_0, .int .i64 a0_1] 71 (0, 0))) ∧ Aside0 (Below w.heap.size w wc))
        case first =>
         have H := HC20.out
         clear HC20
         by_cases c23 : t219 = 0
         ·rw [if_pos c23] at H
          have c23b0 : (t219 == 0) = true := beq_iff_eq.mpr c23
          have c23b1 : (t219 != 0) = false := bne_eq_false_iff_eq.mpr c23
          clear c23
          (first | rw [c23b0] | (simp only [i64_w, i32_w]; rw [c23b0]) | skip)
          have H' := XPrint.A0 H
          clear H
          obtain ⟨Ao24, co24, eo24⟩ := Kd.R_slice HO218.out
          subst eo24
          go_wp2
          repeat (go_quiet (fail); try go_wp2)
          go_meet
          case rel => exact ⟨_, (((t216.length : Int) != (l1.length : Int))), (by first | rfl | (simp; done) | (simp [*]; done)), H', ⟨by have := HJ3.out; have := HK2.out; first | omega | exact Nat.le_refl _⟩, ⟨by (with_reducible repeat (first | apply Kd.R_alloc | apply Kd.R_drewN | apply Kd.R_drew)); exact Kd.R_mono HO218.out (fun _ hk => hk.2)⟩, ⟨by (repeat with_reducible first | refine XPrint.d1 ?_ | refine XPrint.d2 ?_ _ | refine XPrint.d3 ?_ _); exact BK211.out⟩, ⟨by exact XPrint.bz HB.out⟩⟩
         ·rw [if_neg c23] at H
          exact absurd H (by simp)
        case rest =>
         clear HC20
         try clear c1
         try clear c2
         try clear p2
         try clear c8
         try clear c8b0
         try clear c8b1
         try clear c9
         try clear c11
         try clear c12
         try clear c12b0
         try clear c14
         try clear c14b0
         try clear c15
         try clear c15b0
         try clear c15b1
         try clear c16
         try clear c16b0
         try clear c16b1
         try clear c23
         try clear c23b0
         try clear c23b1
         try clear hcz17_0
         try clear hcz17_1
         try clear hcz21_0
         try clear hcz21_1
         try clear hcz6_0
         try clear hcz6_1
         try clear hfz17_0
         try clear hfz17_1
         try clear hfz21_0
         try clear hfz21_1
         try clear hfz6_0
         try clear hfz6_1
         try clear p2
         obtain ⟨kq, x55_19, rfl, HA, HJ19, HO_8, BK211, HB⟩ := hcut
         cases kq with
         | zero => exact absurd HA.out (by simp [liverylaw18_StageWhole.j2])
         | succ kj19 =>
          have H := HA.out
          clear HA
          simp only [liverylaw18_StageWhole.j2] at H
          by_cases c25 : x55_19 = true
          ·subst c25
           have H1 := H; rw [if_pos rfl] at H1
           clear H
           have H := H1
           clear H1
           exact absurd H (by simp)
          ·replace c25 := Bool.eq_false_iff.mpr c25
           subst c25
           have H1 := H; rw [if_neg (show ¬ (false = true) by decide)] at H1
           clear H
           have H := H1
           clear H1
           have H' := XPrint.A0 H
           clear H
           have hcz26_0 : wc.cell? ⟨gb211, 0, none⟩ = some (.int .i64 a0_0) := (blk_cell BK211.out 0).trans rfl
           have hcz26_1 : wc.cell? ⟨gb211, 1, none⟩ = some (.int .i64 a0_1) := (blk_cell BK211.out 1).trans rfl
           have hfz26_0 := blk_frozen BK211.out 0
           have hfz26_1 := blk_frozen BK211.out 1
           go_wp2
           repeat (go_quiet (fail); try go_wp2)
           go_loopg [10, 11] kj19 (fun kq v10 v11 w' => ∃ (x10_4 : Int) (x11_4 : Int), v10 = .int .i64 x10_4 ∧ v11 = .int .i64 x11_4 ∧ Aside0 (liverylaw18_StageWhole.l1 kq l1 t212 x7_2 t216 x10_4 x11_4 a0_0 a0_1 = some r) ∧ Aside0 (kq ≤ kj19) ∧ Aside0 (Kd.R k71 71 w' w.heap.size (fun k_ => k_ ≠ gb211) v217 t216) ∧ Aside0 (w'.heap[gb211]? = some (.cells #[.int .i64 a0_0, .int .i64 a0_1] 71 (0, 0))) ∧ Aside0 (Below w.heap.size w w'))
           case atStart => exact ⟨(a0_0), (0), (by first | rfl | (simp; done) | (simp [*]; done)), (by first | rfl | (simp; done) | (simp [*]; done)), H', ⟨Nat.le_refl _⟩, ⟨by (with_reducible repeat (first | apply Kd.R_alloc | apply Kd.R_drewN | apply Kd.R_drew)); exact HO_8.out⟩, ⟨by (repeat with_reducible first | refine XPrint.d1 ?_ | refine XPrint.d2 ?_ _ | refine XPrint.d3 ?_ _); exact BK211.out⟩, ⟨by exact XPrint.bz HB.out⟩⟩
           case round =>
            clear H'
            try clear c1
            try clear c2
            try clear p2
            try clear c8
            try clear c8b0
            try clear c8b1
            try clear c9
            try clear c11
            try clear c12
            try clear c12b0
            try clear c14
            try clear c14b0
            try clear c15
            try clear c15b0
            try clear c15b1
            try clear c16
            try clear c16b0
            try clear c16b1
            try clear c23
            try clear c23b0
            try clear c23b1
            try clear c25
            try clear hcz17_0
            try clear hcz17_1
            try clear hcz21_0
            try clear hcz21_1
            try clear hcz26_0
            try clear hcz26_1
            try clear hcz6_0
            try clear hcz6_1
            try clear hfz17_0
            try clear hfz17_1
            try clear hfz21_0
            try clear hfz21_1
            try clear hfz26_0
            try clear hfz26_1
            try clear hfz6_0
            try clear hfz6_1
            try clear p2
            obtain ⟨x10_4, x11_4, rfl, rfl, HA, HK4, HO_8, BK211, HB⟩ := hrel
            cases gk with
            | zero => exact absurd HA.out (by simp [liverylaw18_StageWhole.l1])
            | succ k4 =>
             have H := HA.out
             clear HA
             simp only [liverylaw18_StageWhole.l1] at H
             by_cases c27 : x11_4 < (t216.length : Int)
             ·rw [if_pos c27] at H
              have c27b0 : decide (x11_4 < (t216.length : Int)) = true := decide_eq_true c27
              clear c27
              by_cases c28 : 0 ≤ x11_4
              ·rw [if_pos c28] at H
               have c28b0 : decide (0 ≤ x11_4) = true := decide_eq_true c28
               clear c28
               by_cases c29 : ((rd_T71 t216 x11_4).f0) = x10_4
               ·rw [if_pos c29] at H
                have c29b0 : (((rd_T71 t216 x11_4).f0) == x10_4) = true := beq_iff_eq.mpr c29
                have c29b1 : (((rd_T71 t216 x11_4).f0) != x10_4) = false := bne_eq_false_iff_eq.mpr c29
                clear c29
                by_cases c30 : x11_4 < (l1.length : Int)
                ·rw [if_pos c30] at H
                 have c30b0 : decide (x11_4 < (l1.length : Int)) = true := decide_eq_true c30
                 clear c30
                 by_cases c31 : (wrap64 (((rd_T71 t216 x11_4).f1) - ((rd_T71 t216 x11_4).f0))) < (rd l1 x11_4)
                 ·rw [if_pos c31] at H
                  exact absurd H (by simp)
                 ·rw [if_neg c31] at H
                  have c31b0 : decide ((wrap64 (((rd_T71 t216 x11_4).f1) - ((rd_T71 t216 x11_4).f0))) < (rd l1 x11_4)) = false := decide_eq_false c31
                  clear c31
                  by_cases c32 : x7_2 = 0
                  ·rw [if_pos c32] at H
                   have c32b0 : (x7_2 == 0) = true := beq_iff_eq.mpr c32
                   have c32b1 : (x7_2 != 0) = false := bne_eq_false_iff_eq.mpr c32
                   clear c32
                   by_cases c33 : x11_4 > 0
                   ·rw [if_pos c33] at H
                    have c33b0 : decide (0 < x11_4) = true := decide_eq_true c33
                    clear c33
                    by_cases c34 : (wrap64 (((rd_T71 t216 x11_4).f1) - ((rd_T71 t216 x11_4).f0))) = (rd l1 x11_4)
                    ·rw [if_pos c34] at H
                     have c34b0 : ((wrap64 (((rd_T71 t216 x11_4).f1) - ((rd_T71 t216 x11_4).f0))) == (rd l1 x11_4)) = true := beq_iff_eq.mpr c34
                     have c34b1 : ((wrap64 (((rd_T71 t216 x11_4).f1) - ((rd_T71 t216 x11_4).f0))) != (rd l1 x11_4)) = false := bne_eq_false_iff_eq.mpr c34
                     clear c34
                     by_cases c35 : x7_2 = 1
                     ·rw [if_pos c35] at H
                      have c35b0 : (x7_2 == 1) = true := beq_iff_eq.mpr c35
                      have c35b1 : (x7_2 != 1) = false := bne_eq_false_iff_eq.mpr c35
                      clear c35
                      by_cases c36 : x11_4 < (wrap64 ((t216.length : Int) - 1))
                      ·rw [if_pos c36] at H
                       have c36b0 : decide (x11_4 < (wrap64 ((t216.length : Int) - 1))) = true := decide_eq_true c36
                       clear c36
                       by_cases c37 : t212 = 0
                       ·rw [if_pos c37] at H
                        have c37b0 : (t212 == 0) = true := beq_iff_eq.mpr c37
                        have c37b1 : (t212 != 0) = false := bne_eq_false_iff_eq.mpr c37
                        clear c37
                        have H' := XPrint.A0 H
                        clear H
                        obtain ⟨Ao38, co38, eo38⟩ := Kd.R_slice HO_8.out
                        subst eo38
                        have p220 : 0 ≤ (x11_4 : Int) := of_decide_eq_true (by first | (with_reducible assumption) | assumption)
                        have q220 : x11_4 < (t216.length : Int) := of_decide_eq_true (by first | (with_reducible assumption) | assumption)
                        obtain ⟨ad220, e220, hx220_0, hx220_1⟩ := at_T71 (Kd.R_reads' HO_8.out).2.2 x11_4 p220 q220
                        cases e220
                        replace p220 := eq_true p220
                        replace q220 := eq_true q220
                        have p221 : 0 ≤ (x11_4 : Int) := of_decide_eq_true (by first | (with_reducible assumption) | assumption)
                        have q221 : x11_4 < (t216.length : Int) := of_decide_eq_true (by first | (with_reducible assumption) | assumption)
                        obtain ⟨ad221, e221, hx221_0, hx221_1⟩ := at_T71 (Kd.R_reads' HO_8.out).2.2 x11_4 p221 q221
                        obtain rfl : ad220 = ad221 := (by injection e221)
                        replace p221 := eq_true p221
                        replace q221 := eq_true q221
                        have p222 : 0 ≤ (x11_4 : Int) := of_decide_eq_true (by first | (with_reducible assumption) | assumption)
                        have q222 : x11_4 < (t216.length : Int) := of_decide_eq_true (by first | (with_reducible assumption) | assumption)
                        obtain ⟨ad222, e222, hx222_0, hx222_1⟩ := at_T71 (Kd.R_reads' HO_8.out).2.2 x11_4 p222 q222
                        obtain rfl : ad220 = ad222 := (by injection e222)
                        replace p222 := eq_true p222
                        replace q222 := eq_true q222
                        have p223 : 0 ≤ (x11_4 : Int) := of_decide_eq_true (by first | (with_reducible assumption) | assumption)
                        have q223 : x11_4 < (l1.length : Int) := of_decide_eq_true (by first | (with_reducible assumption) | assumption)
                        obtain ⟨ad223, e223, hx223_0⟩ := Kd.at_int HR1.out x11_4 p223 q223
                        cases e223
                        replace hx223_0 := (HB.out.cell (World.block_lt_of_cell? w _ hx223_0)).trans hx223_0
                        replace p223 := eq_true p223
                        replace q223 := eq_true q223
                        have p224 : 0 ≤ (x11_4 : Int) := of_decide_eq_true (by first | (with_reducible assumption) | assumption)
                        have q224 : x11_4 < (l1.length : Int) := of_decide_eq_true (by first | (with_reducible assumption) | assumption)
                        obtain ⟨ad224, e224, hx224_0⟩ := Kd.at_int HR1.out x11_4 p224 q224
                        obtain rfl : ad223 = ad224 := (by injection e224)
                        replace hx224_0 := (HB.out.cell (World.block_lt_of_cell? w _ hx224_0)).trans hx224_0
                        replace p224 := eq_true p224
                        replace q224 := eq_true q224
                        have p225 : 0 ≤ (x11_4 : Int) := of_decide_eq_true (by first | (with_reducible assumption) | assumption)
                        have q225 : x11_4 < (l1.length : Int) := of_decide_eq_true (by first | (with_reducible assumption) | assumption)
                        obtain ⟨ad225, e225, hx225_0⟩ := Kd.at_int HR1.out x11_4 p225 q225
                        obtain rfl : ad223 = ad225 := (by injection e225)
                        replace hx225_0 := (HB.out.cell (World.block_lt_of_cell? w _ hx225_0)).trans hx225_0
                        replace p225 := eq_true p225
                        replace q225 := eq_true q225
                        have p226 : 0 ≤ (x11_4 : Int) := of_decide_eq_true (by first | (with_reducible assumption) | assumption)
                        have q226 : x11_4 < (l1.length : Int) := of_decide_eq_true (by first | (with_reducible assumption) | assumption)
                        obtain ⟨ad226, e226, hx226_0⟩ := Kd.at_int HR1.out x11_4 p226 q226
                        obtain rfl : ad223 = ad226 := (by injection e226)
                        replace hx226_0 := (HB.out.cell (World.block_lt_of_cell? w _ hx226_0)).trans hx226_0
                        replace p226 := eq_true p226
                        replace q226 := eq_true q226
                        have p227 : 0 ≤ (x11_4 : Int) := of_decide_eq_true (by first | (with_reducible assumption) | assumption)
                        have q227 : x11_4 < (t216.length : Int) := of_decide_eq_true (by first | (with_reducible assumption) | assumption)
                        obtain ⟨ad227, e227, hx227_0, hx227_1⟩ := at_T71 (Kd.R_reads' HO_8.out).2.2 x11_4 p227 q227
                        obtain rfl : ad220 = ad227 := (by injection e227)
                        replace p227 := eq_true p227
                        replace q227 := eq_true q227
                        go_wp2
                        repeat (go_quiet (fail); try go_wp2)
                        go_roundg k4
                        case measure => have := HJ3.out; have := HK2.out; have := HJ19.out; have := HK4.out; omega
                        case rel => exact ⟨((rd_T71 t216 x11_4).f1), (wrap64 (x11_4 + 1)), (by first | rfl | (simp; done) | (simp [*]; done)), (by first | rfl | (simp; done) | (simp [*]; done)), H', ⟨by have := HJ3.out; have := HK2.out; have := HJ19.out; have := HK4.out; omega⟩, ⟨by (with_reducible repeat (first | apply Kd.R_alloc | apply Kd.R_drewN | apply Kd.R_drew)); exact HO_8.out⟩, ⟨by (repeat with_reducible first | refine XPrint.d1 ?_ | refine XPrint.d2 ?_ _ | refine XPrint.d3 ?_ _); exact BK211.out⟩, ⟨by exact XPrint.bz HB.out⟩⟩
                       ·rw [if_neg c37] at H
                        have c37b0 : (t212 == 0) = false := beq_eq_false_iff_ne.mpr c37
                        have c37b1 : (t212 != 0) = true := bne_iff_ne.mpr c37
                        have H' := XPrint.A0 H
                        clear H
                        obtain ⟨Ao39, co39, eo39⟩ := Kd.R_slice HO_8.out
                        subst eo39
                        have p220 : 0 ≤ (x11_4 : Int) := of_decide_eq_true (by first | (with_reducible assumption) | assumption)
                        have q220 : x11_4 < (t216.length : Int) := of_decide_eq_true (by first | (with_reducible assumption) | assumption)
                        obtain ⟨ad220, e220, hx220_0, hx220_1⟩ := at_T71 (Kd.R_reads' HO_8.out).2.2 x11_4 p220 q220
                        cases e220
                        replace p220 := eq_true p220
                        replace q220 := eq_true q220
                        have p221 : 0 ≤ (x11_4 : Int) := of_decide_eq_true (by first | (with_reducible assumption) | assumption)
                        have q221 : x11_4 < (t216.length : Int) := of_decide_eq_true (by first | (with_reducible assumption) | assumption)
                        obtain ⟨ad221, e221, hx221_0, hx221_1⟩ := at_T71 (Kd.R_reads' HO_8.out).2.2 x11_4 p221 q221
                        obtain rfl : ad220 = ad221 := (by injection e221)
                        replace p221 := eq_true p221
                        replace q221 := eq_true q221
                        have p222 : 0 ≤ (x11_4 : Int) := of_decide_eq_true (by first | (with_reducible assumption) | assumption)
                        have q222 : x11_4 < (t216.length : Int) := of_decide_eq_true (by first | (with_reducible assumption) | assumption)
                        obtain ⟨ad222, e222, hx222_0, hx222_1⟩ := at_T71 (Kd.R_reads' HO_8.out).2.2 x11_4 p222 q222
                        obtain rfl : ad220 = ad222 := (by injection e222)
                        replace p222 := eq_true p222
                        replace q222 := eq_true q222
                        have p223 : 0 ≤ (x11_4 : Int) := of_decide_eq_true (by first | (with_reducible assumption) | assumption)
                        have q223 : x11_4 < (l1.length : Int) := of_decide_eq_true (by first | (with_reducible assumption) | assumption)
                        obtain ⟨ad223, e223, hx223_0⟩ := Kd.at_int HR1.out x11_4 p223 q223
                        cases e223
                        replace hx223_0 := (HB.out.cell (World.block_lt_of_cell? w _ hx223_0)).trans hx223_0
                        replace p223 := eq_true p223
                        replace q223 := eq_true q223
                        have p224 : 0 ≤ (x11_4 : Int) := of_decide_eq_true (by first | (with_reducible assumption) | assumption)
                        have q224 : x11_4 < (l1.length : Int) := of_decide_eq_true (by first | (with_reducible assumption) | assumption)
                        obtain ⟨ad224, e224, hx224_0⟩ := Kd.at_int HR1.out x11_4 p224 q224
                        obtain rfl : ad223 = ad224 := (by injection e224)
                        replace hx224_0 := (HB.out.cell (World.block_lt_of_cell? w _ hx224_0)).trans hx224_0
                        replace p224 := eq_true p224
                        replace q224 := eq_true q224
                        have p225 : 0 ≤ (x11_4 : Int) := of_decide_eq_true (by first | (with_reducible assumption) | assumption)
                        have q225 : x11_4 < (l1.length : Int) := of_decide_eq_true (by first | (with_reducible assumption) | assumption)
                        obtain ⟨ad225, e225, hx225_0⟩ := Kd.at_int HR1.out x11_4 p225 q225
                        obtain rfl : ad223 = ad225 := (by injection e225)
                        replace hx225_0 := (HB.out.cell (World.block_lt_of_cell? w _ hx225_0)).trans hx225_0
                        replace p225 := eq_true p225
                        replace q225 := eq_true q225
                        have p228 : 0 ≤ (x11_4 : Int) := of_decide_eq_true (by first | (with_reducible assumption) | assumption)
                        have q228 : x11_4 < (t216.length : Int) := of_decide_eq_true (by first | (with_reducible assumption) | assumption)
                        obtain ⟨ad228, e228, hx228_0, hx228_1⟩ := at_T71 (Kd.R_reads' HO_8.out).2.2 x11_4 p228 q228
                        obtain rfl : ad220 = ad228 := (by injection e228)
                        replace p228 := eq_true p228
                        replace q228 := eq_true q228
                        go_wp2
                        repeat (go_quiet (fail); try go_wp2)
                        go_roundg k4
                        case measure => have := HJ3.out; have := HK2.out; have := HJ19.out; have := HK4.out; omega
                        case rel => exact ⟨((rd_T71 t216 x11_4).f1), (wrap64 (x11_4 + 1)), (by first | rfl | (simp; done) | (simp [*]; done)), (by first | rfl | (simp; done) | (simp [*]; done)), H', ⟨by have := HJ3.out; have := HK2.out; have := HJ19.out; have := HK4.out; omega⟩, ⟨by (with_reducible repeat (first | apply Kd.R_alloc | apply Kd.R_drewN | apply Kd.R_drew)); exact HO_8.out⟩, ⟨by (repeat with_reducible first | refine XPrint.d1 ?_ | refine XPrint.d2 ?_ _ | refine XPrint.d3 ?_ _); exact BK211.out⟩, ⟨by exact XPrint.bz HB.out⟩⟩
                      ·rw [if_neg c36] at H
                       have c36b0 : decide (x11_4 < (wrap64 ((t216.length : Int) - 1))) = false := decide_eq_false c36
                       clear c36
                       by_cases c40 : t212 = 0
                       ·rw [if_pos c40] at H
                        have c40b0 : (t212 == 0) = true := beq_iff_eq.mpr c40
                        have c40b1 : (t212 != 0) = false := bne_eq_false_iff_eq.mpr c40
                        clear c40
                        have H' := XPrint.A0 H
                        clear H
                        obtain ⟨Ao41, co41, eo41⟩ := Kd.R_slice HO_8.out
                        subst eo41
                        have p220 : 0 ≤ (x11_4 : Int) := of_decide_eq_true (by first | (with_reducible assumption) | assumption)
                        have q220 : x11_4 < (t216.length : Int) := of_decide_eq_true (by first | (with_reducible assumption) | assumption)
                        obtain ⟨ad220, e220, hx220_0, hx220_1⟩ := at_T71 (Kd.R_reads' HO_8.out).2.2 x11_4 p220 q220
                        cases e220
                        replace p220 := eq_true p220
                        replace q220 := eq_true q220
                        have p221 : 0 ≤ (x11_4 : Int) := of_decide_eq_true (by first | (with_reducible assumption) | assumption)
                        have q221 : x11_4 < (t216.length : Int) := of_decide_eq_true (by first | (with_reducible assumption) | assumption)
                        obtain ⟨ad221, e221, hx221_0, hx221_1⟩ := at_T71 (Kd.R_reads' HO_8.out).2.2 x11_4 p221 q221
                        obtain rfl : ad220 = ad221 := (by injection e221)
                        replace p221 := eq_true p221
                        replace q221 := eq_true q221
                        have p222 : 0 ≤ (x11_4 : Int) := of_decide_eq_true (by first | (with_reducible assumption) | assumption)
                        have q222 : x11_4 < (t216.length : Int) := of_decide_eq_true (by first | (with_reducible assumption) | assumption)
                        obtain ⟨ad222, e222, hx222_0, hx222_1⟩ := at_T71 (Kd.R_reads' HO_8.out).2.2 x11_4 p222 q222
                        obtain rfl : ad220 = ad222 := (by injection e222)
                        replace p222 := eq_true p222
                        replace q222 := eq_true q222
                        have p223 : 0 ≤ (x11_4 : Int) := of_decide_eq_true (by first | (with_reducible assumption) | assumption)
                        have q223 : x11_4 < (l1.length : Int) := of_decide_eq_true (by first | (with_reducible assumption) | assumption)
                        obtain ⟨ad223, e223, hx223_0⟩ := Kd.at_int HR1.out x11_4 p223 q223
                        cases e223
                        replace hx223_0 := (HB.out.cell (World.block_lt_of_cell? w _ hx223_0)).trans hx223_0
                        replace p223 := eq_true p223
                        replace q223 := eq_true q223
                        have p224 : 0 ≤ (x11_4 : Int) := of_decide_eq_true (by first | (with_reducible assumption) | assumption)
                        have q224 : x11_4 < (l1.length : Int) := of_decide_eq_true (by first | (with_reducible assumption) | assumption)
                        obtain ⟨ad224, e224, hx224_0⟩ := Kd.at_int HR1.out x11_4 p224 q224
                        obtain rfl : ad223 = ad224 := (by injection e224)
                        replace hx224_0 := (HB.out.cell (World.block_lt_of_cell? w _ hx224_0)).trans hx224_0
                        replace p224 := eq_true p224
                        replace q224 := eq_true q224
                        have p229 : 0 ≤ (x11_4 : Int) := of_decide_eq_true (by first | (with_reducible assumption) | assumption)
                        have q229 : x11_4 < (l1.length : Int) := of_decide_eq_true (by first | (with_reducible assumption) | assumption)
                        obtain ⟨ad229, e229, hx229_0⟩ := Kd.at_int HR1.out x11_4 p229 q229
                        obtain rfl : ad223 = ad229 := (by injection e229)
                        replace hx229_0 := (HB.out.cell (World.block_lt_of_cell? w _ hx229_0)).trans hx229_0
                        replace p229 := eq_true p229
                        replace q229 := eq_true q229
                        have p230 : 0 ≤ (x11_4 : Int) := of_decide_eq_true (by first | (with_reducible assumption) | assumption)
                        have q230 : x11_4 < (t216.length : Int) := of_decide_eq_true (by first | (with_reducible assumption) | assumption)
                        obtain ⟨ad230, e230, hx230_0, hx230_1⟩ := at_T71 (Kd.R_reads' HO_8.out).2.2 x11_4 p230 q230
                        obtain rfl : ad220 = ad230 := (by injection e230)
                        replace p230 := eq_true p230
                        replace q230 := eq_true q230
                        go_wp2
                        repeat (go_quiet (fail); try go_wp2)
                        go_roundg k4
                        case measure => have := HJ3.out; have := HK2.out; have := HJ19.out; have := HK4.out; omega
                        case rel => exact ⟨((rd_T71 t216 x11_4).f1), (wrap64 (x11_4 + 1)), (by first | rfl | (simp; done) | (simp [*]; done)), (by first | rfl | (simp; done) | (simp [*]; done)), H', ⟨by have := HJ3.out; have := HK2.out; have := HJ19.out; have := HK4.out; omega⟩, ⟨by (with_reducible repeat (first | apply Kd.R_alloc | apply Kd.R_drewN | apply Kd.R_drew)); exact HO_8.out⟩, ⟨by (repeat with_reducible first | refine XPrint.d1 ?_ | refine XPrint.d2 ?_ _ | refine XPrint.d3 ?_ _); exact BK211.out⟩, ⟨by exact XPrint.bz HB.out⟩⟩
                       ·rw [if_neg c40] at H
                        have c40b0 : (t212 == 0) = false := beq_eq_false_iff_ne.mpr c40
                        have c40b1 : (t212 != 0) = true := bne_iff_ne.mpr c40
                        have H' := XPrint.A0 H
                        clear H
                        obtain ⟨Ao42, co42, eo42⟩ := Kd.R_slice HO_8.out
                        subst eo42
                        have p220 : 0 ≤ (x11_4 : Int) := of_decide_eq_true (by first | (with_reducible assumption) | assumption)
                        have q220 : x11_4 < (t216.length : Int) := of_decide_eq_true (by first | (with_reducible assumption) | assumption)
                        obtain ⟨ad220, e220, hx220_0, hx220_1⟩ := at_T71 (Kd.R_reads' HO_8.out).2.2 x11_4 p220 q220
                        cases e220
                        replace p220 := eq_true p220
                        replace q220 := eq_true q220
                        have p221 : 0 ≤ (x11_4 : Int) := of_decide_eq_true (by first | (with_reducible assumption) | assumption)
                        have q221 : x11_4 < (t216.length : Int) := of_decide_eq_true (by first | (with_reducible assumption) | assumption)
                        obtain ⟨ad221, e221, hx221_0, hx221_1⟩ := at_T71 (Kd.R_reads' HO_8.out).2.2 x11_4 p221 q221
                        obtain rfl : ad220 = ad221 := (by injection e221)
                        replace p221 := eq_true p221
                        replace q221 := eq_true q221
                        have p222 : 0 ≤ (x11_4 : Int) := of_decide_eq_true (by first | (with_reducible assumption) | assumption)
                        have q222 : x11_4 < (t216.length : Int) := of_decide_eq_true (by first | (with_reducible assumption) | assumption)
                        obtain ⟨ad222, e222, hx222_0, hx222_1⟩ := at_T71 (Kd.R_reads' HO_8.out).2.2 x11_4 p222 q222
                        obtain rfl : ad220 = ad222 := (by injection e222)
                        replace p222 := eq_true p222
                        replace q222 := eq_true q222
                        have p223 : 0 ≤ (x11_4 : Int) := of_decide_eq_true (by first | (with_reducible assumption) | assumption)
                        have q223 : x11_4 < (l1.length : Int) := of_decide_eq_true (by first | (with_reducible assumption) | assumption)
                        obtain ⟨ad223, e223, hx223_0⟩ := Kd.at_int HR1.out x11_4 p223 q223
                        cases e223
                        replace hx223_0 := (HB.out.cell (World.block_lt_of_cell? w _ hx223_0)).trans hx223_0
                        replace p223 := eq_true p223
                        replace q223 := eq_true q223
                        have p224 : 0 ≤ (x11_4 : Int) := of_decide_eq_true (by first | (with_reducible assumption) | assumption)
                        have q224 : x11_4 < (l1.length : Int) := of_decide_eq_true (by first | (with_reducible assumption) | assumption)
                        obtain ⟨ad224, e224, hx224_0⟩ := Kd.at_int HR1.out x11_4 p224 q224
                        obtain rfl : ad223 = ad224 := (by injection e224)
                        replace hx224_0 := (HB.out.cell (World.block_lt_of_cell? w _ hx224_0)).trans hx224_0
                        replace p224 := eq_true p224
                        replace q224 := eq_true q224
                        have p231 : 0 ≤ (x11_4 : Int) := of_decide_eq_true (by first | (with_reducible assumption) | assumption)
                        have q231 : x11_4 < (t216.length : Int) := of_decide_eq_true (by first | (with_reducible assumption) | assumption)
                        obtain ⟨ad231, e231, hx231_0, hx231_1⟩ := at_T71 (Kd.R_reads' HO_8.out).2.2 x11_4 p231 q231
                        obtain rfl : ad220 = ad231 := (by injection e231)
                        replace p231 := eq_true p231
                        replace q231 := eq_true q231
                        go_wp2
                        repeat (go_quiet (fail); try go_wp2)
                        go_roundg k4
                        case measure => have := HJ3.out; have := HK2.out; have := HJ19.out; have := HK4.out; omega
                        case rel => exact ⟨((rd_T71 t216 x11_4).f1), (wrap64 (x11_4 + 1)), (by first | rfl | (simp; done) | (simp [*]; done)), (by first | rfl | (simp; done) | (simp [*]; done)), H', ⟨by have := HJ3.out; have := HK2.out; have := HJ19.out; have := HK4.out; omega⟩, ⟨by (with_reducible repeat (first | apply Kd.R_alloc | apply Kd.R_drewN | apply Kd.R_drew)); exact HO_8.out⟩, ⟨by (repeat with_reducible first | refine XPrint.d1 ?_ | refine XPrint.d2 ?_ _ | refine XPrint.d3 ?_ _); exact BK211.out⟩, ⟨by exact XPrint.bz HB.out⟩⟩
                     ·rw [if_neg c35] at H
                      have c35b0 : (x7_2 == 1) = false := beq_eq_false_iff_ne.mpr c35
                      have c35b1 : (x7_2 != 1) = true := bne_iff_ne.mpr c35
                      by_cases c43 : t212 = 0
                      ·rw [if_pos c43] at H
                       have c43b0 : (t212 == 0) = true := beq_iff_eq.mpr c43
                       have c43b1 : (t212 != 0) = false := bne_eq_false_iff_eq.mpr c43
                       clear c43
                       have H' := XPrint.A0 H
                       clear H
                       obtain ⟨Ao44, co44, eo44⟩ := Kd.R_slice HO_8.out
                       subst eo44
                       have p220 : 0 ≤ (x11_4 : Int) := of_decide_eq_true (by first | (with_reducible assumption) | assumption)
                       have q220 : x11_4 < (t216.length : Int) := of_decide_eq_true (by first | (with_reducible assumption) | assumption)
                       obtain ⟨ad220, e220, hx220_0, hx220_1⟩ := at_T71 (Kd.R_reads' HO_8.out).2.2 x11_4 p220 q220
                       cases e220
                       replace p220 := eq_true p220
                       replace q220 := eq_true q220
                       have p221 : 0 ≤ (x11_4 : Int) := of_decide_eq_true (by first | (with_reducible assumption) | assumption)
                       have q221 : x11_4 < (t216.length : Int) := of_decide_eq_true (by first | (with_reducible assumption) | assumption)
                       obtain ⟨ad221, e221, hx221_0, hx221_1⟩ := at_T71 (Kd.R_reads' HO_8.out).2.2 x11_4 p221 q221
                       obtain rfl : ad220 = ad221 := (by injection e221)
                       replace p221 := eq_true p221
                       replace q221 := eq_true q221
                       have p222 : 0 ≤ (x11_4 : Int) := of_decide_eq_true (by first | (with_reducible assumption) | assumption)
                       have q222 : x11_4 < (t216.length : Int) := of_decide_eq_true (by first | (with_reducible assumption) | assumption)
                       obtain ⟨ad222, e222, hx222_0, hx222_1⟩ := at_T71 (Kd.R_reads' HO_8.out).2.2 x11_4 p222 q222
                       obtain rfl : ad220 = ad222 := (by injection e222)
                       replace p222 := eq_true p222
                       replace q222 := eq_true q222
                       have p223 : 0 ≤ (x11_4 : Int) := of_decide_eq_true (by first | (with_reducible assumption) | assumption)
                       have q223 : x11_4 < (l1.length : Int) := of_decide_eq_true (by first | (with_reducible assumption) | assumption)
                       obtain ⟨ad223, e223, hx223_0⟩ := Kd.at_int HR1.out x11_4 p223 q223
                       cases e223
                       replace hx223_0 := (HB.out.cell (World.block_lt_of_cell? w _ hx223_0)).trans hx223_0
                       replace p223 := eq_true p223
                       replace q223 := eq_true q223
                       have p224 : 0 ≤ (x11_4 : Int) := of_decide_eq_true (by first | (with_reducible assumption) | assumption)
                       have q224 : x11_4 < (l1.length : Int) := of_decide_eq_true (by first | (with_reducible assumption) | assumption)
                       obtain ⟨ad224, e224, hx224_0⟩ := Kd.at_int HR1.out x11_4 p224 q224
                       obtain rfl : ad223 = ad224 := (by injection e224)
                       replace hx224_0 := (HB.out.cell (World.block_lt_of_cell? w _ hx224_0)).trans hx224_0
                       replace p224 := eq_true p224
                       replace q224 := eq_true q224
                       have p232 : 0 ≤ (x11_4 : Int) := of_decide_eq_true (by first | (with_reducible assumption) | assumption)
                       have q232 : x11_4 < (l1.length : Int) := of_decide_eq_true (by first | (with_reducible assumption) | assumption)
                       obtain ⟨ad232, e232, hx232_0⟩ := Kd.at_int HR1.out x11_4 p232 q232
                       obtain rfl : ad223 = ad232 := (by injection e232)
                       replace hx232_0 := (HB.out.cell (World.block_lt_of_cell? w _ hx232_0)).trans hx232_0
                       replace p232 := eq_true p232
                       replace q232 := eq_true q232
                       have p233 : 0 ≤ (x11_4 : Int) := of_decide_eq_true (by first | (with_reducible assumption) | assumption)
                       have q233 : x11_4 < (t216.length : Int) := of_decide_eq_true (by first | (with_reducible assumption) | assumption)
                       obtain ⟨ad233, e233, hx233_0, hx233_1⟩ := at_T71 (Kd.R_reads' HO_8.out).2.2 x11_4 p233 q233
                       obtain rfl : ad220 = ad233 := (by injection e233)
                       replace p233 := eq_true p233
                       replace q233 := eq_true q233
                       go_wp2
                       repeat (go_quiet (fail); try go_wp2)
                       go_roundg k4
                       case measure => have := HJ3.out; have := HK2.out; have := HJ19.out; have := HK4.out; omega
                       case rel => exact ⟨((rd_T71 t216 x11_4).f1), (wrap64 (x11_4 + 1)), (by first | rfl | (simp; done) | (simp [*]; done)), (by first | rfl | (simp; done) | (simp [*]; done)), H', ⟨by have := HJ3.out; have := HK2.out; have := HJ19.out; have := HK4.out; omega⟩, ⟨by (with_reducible repeat (first | apply Kd.R_alloc | apply Kd.R_drewN | apply Kd.R_drew)); exact HO_8.out⟩, ⟨by (repeat with_reducible first | refine XPrint.d1 ?_ | refine XPrint.d2 ?_ _ | refine XPrint.d3 ?_ _); exact BK211.out⟩, ⟨by exact XPrint.bz HB.out⟩⟩
                      ·rw [if_neg c43] at H
                       have c43b0 : (t212 == 0) = false := beq_eq_false_iff_ne.mpr c43
                       have c43b1 : (t212 != 0) = true := bne_iff_ne.mpr c43
                       have H' := XPrint.A0 H
                       clear H
                       obtain ⟨Ao45, co45, eo45⟩ := Kd.R_slice HO_8.out
                       subst eo45
                       have p220 : 0 ≤ (x11_4 : Int) := of_decide_eq_true (by first | (with_reducible assumption) | assumption)
                       have q220 : x11_4 < (t216.length : Int) := of_decide_eq_true (by first | (with_reducible assumption) | assumption)
                       obtain ⟨ad220, e220, hx220_0, hx220_1⟩ := at_T71 (Kd.R_reads' HO_8.out).2.2 x11_4 p220 q220
                       cases e220
                       replace p220 := eq_true p220
                       replace q220 := eq_true q220
                       have p221 : 0 ≤ (x11_4 : Int) := of_decide_eq_true (by first | (with_reducible assumption) | assumption)
                       have q221 : x11_4 < (t216.length : Int) := of_decide_eq_true (by first | (with_reducible assumption) | assumption)
                       obtain ⟨ad221, e221, hx221_0, hx221_1⟩ := at_T71 (Kd.R_reads' HO_8.out).2.2 x11_4 p221 q221
                       obtain rfl : ad220 = ad221 := (by injection e221)
                       replace p221 := eq_true p221
                       replace q221 := eq_true q221
                       have p222 : 0 ≤ (x11_4 : Int) := of_decide_eq_true (by first | (with_reducible assumption) | assumption)
                       have q222 : x11_4 < (t216.length : Int) := of_decide_eq_true (by first | (with_reducible assumption) | assumption)
                       obtain ⟨ad222, e222, hx222_0, hx222_1⟩ := at_T71 (Kd.R_reads' HO_8.out).2.2 x11_4 p222 q222
                       obtain rfl : ad220 = ad222 := (by injection e222)
                       replace p222 := eq_true p222
                       replace q222 := eq_true q222
                       have p223 : 0 ≤ (x11_4 : Int) := of_decide_eq_true (by first | (with_reducible assumption) | assumption)
                       have q223 : x11_4 < (l1.length : Int) := of_decide_eq_true (by first | (with_reducible assumption) | assumption)
                       obtain ⟨ad223, e223, hx223_0⟩ := Kd.at_int HR1.out x11_4 p223 q223
                       cases e223
                       replace hx223_0 := (HB.out.cell (World.block_lt_of_cell? w _ hx223_0)).trans hx223_0
                       replace p223 := eq_true p223
                       replace q223 := eq_true q223
                       have p224 : 0 ≤ (x11_4 : Int) := of_decide_eq_true (by first | (with_reducible assumption) | assumption)
                       have q224 : x11_4 < (l1.length : Int) := of_decide_eq_true (by first | (with_reducible assumption) | assumption)
                       obtain ⟨ad224, e224, hx224_0⟩ := Kd.at_int HR1.out x11_4 p224 q224
                       obtain rfl : ad223 = ad224 := (by injection e224)
                       replace hx224_0 := (HB.out.cell (World.block_lt_of_cell? w _ hx224_0)).trans hx224_0
                       replace p224 := eq_true p224
                       replace q224 := eq_true q224
                       have p234 : 0 ≤ (x11_4 : Int) := of_decide_eq_true (by first | (with_reducible assumption) | assumption)
                       have q234 : x11_4 < (t216.length : Int) := of_decide_eq_true (by first | (with_reducible assumption) | assumption)
                       obtain ⟨ad234, e234, hx234_0, hx234_1⟩ := at_T71 (Kd.R_reads' HO_8.out).2.2 x11_4 p234 q234
                       obtain rfl : ad220 = ad234 := (by injection e234)
                       replace p234 := eq_true p234
                       replace q234 := eq_true q234
                       go_wp2
                       repeat (go_quiet (fail); try go_wp2)
                       go_roundg k4
                       case measure => have := HJ3.out; have := HK2.out; have := HJ19.out; have := HK4.out; omega
                       case rel => exact ⟨((rd_T71 t216 x11_4).f1), (wrap64 (x11_4 + 1)), (by first | rfl | (simp; done) | (simp [*]; done)), (by first | rfl | (simp; done) | (simp [*]; done)), H', ⟨by have := HJ3.out; have := HK2.out; have := HJ19.out; have := HK4.out; omega⟩, ⟨by (with_reducible repeat (first | apply Kd.R_alloc | apply Kd.R_drewN | apply Kd.R_drew)); exact HO_8.out⟩, ⟨by (repeat with_reducible first | refine XPrint.d1 ?_ | refine XPrint.d2 ?_ _ | refine XPrint.d3 ?_ _); exact BK211.out⟩, ⟨by exact XPrint.bz HB.out⟩⟩
                    ·rw [if_neg c34] at H
                     exact absurd H (by simp)
                   ·rw [if_neg c33] at H
                    have c33b0 : decide (0 < x11_4) = false := decide_eq_false c33
                    clear c33
                    by_cases c46 : x7_2 = 1
                    ·rw [if_pos c46] at H
                     have c46b0 : (x7_2 == 1) = true := beq_iff_eq.mpr c46
                     have c46b1 : (x7_2 != 1) = false := bne_eq_false_iff_eq.mpr c46
                     clear c46
                     by_cases c47 : x11_4 < (wrap64 ((t216.length : Int) - 1))
                     ·rw [if_pos c47] at H
                      have c47b0 : decide (x11_4 < (wrap64 ((t216.length : Int) - 1))) = true := decide_eq_true c47
                      clear c47
                      by_cases c48 : (wrap64 (((rd_T71 t216 x11_4).f1) - ((rd_T71 t216 x11_4).f0))) = (rd l1 x11_4)
                      ·rw [if_pos c48] at H
                       have c48b0 : ((wrap64 (((rd_T71 t216 x11_4).f1) - ((rd_T71 t216 x11_4).f0))) == (rd l1 x11_4)) = true := beq_iff_eq.mpr c48
                       have c48b1 : ((wrap64 (((rd_T71 t216 x11_4).f1) - ((rd_T71 t216 x11_4).f0))) != (rd l1 x11_4)) = false := bne_eq_false_iff_eq.mpr c48
                       clear c48
                       by_cases c49 : t212 = 0
                       ·rw [if_pos c49] at H
                        have c49b0 : (t212 == 0) = true := beq_iff_eq.mpr c49
                        have c49b1 : (t212 != 0) = false := bne_eq_false_iff_eq.mpr c49
                        clear c49
                        have H' := XPrint.A0 H
                        clear H
                        obtain ⟨Ao50, co50, eo50⟩ := Kd.R_slice HO_8.out
                        subst eo50
                        have p220 : 0 ≤ (x11_4 : Int) := of_decide_eq_true (by first | (with_reducible assumption) | assumption)
                        have q220 : x11_4 < (t216.length : Int) := of_decide_eq_true (by first | (with_reducible assumption) | assumption)
                        obtain ⟨ad220, e220, hx220_0, hx220_1⟩ := at_T71 (Kd.R_reads' HO_8.out).2.2 x11_4 p220 q220
                        cases e220
                        replace p220 := eq_true p220
                        replace q220 := eq_true q220
                        have p221 : 0 ≤ (x11_4 : Int) := of_decide_eq_true (by first | (with_reducible assumption) | assumption)
                        have q221 : x11_4 < (t216.length : Int) := of_decide_eq_true (by first | (with_reducible assumption) | assumption)
                        obtain ⟨ad221, e221, hx221_0, hx221_1⟩ := at_T71 (Kd.R_reads' HO_8.out).2.2 x11_4 p221 q221
                        obtain rfl : ad220 = ad221 := (by injection e221)
                        replace p221 := eq_true p221
                        replace q221 := eq_true q221
                        have p222 : 0 ≤ (x11_4 : Int) := of_decide_eq_true (by first | (with_reducible assumption) | assumption)
                        have q222 : x11_4 < (t216.length : Int) := of_decide_eq_true (by first | (with_reducible assumption) | assumption)
                        obtain ⟨ad222, e222, hx222_0, hx222_1⟩ := at_T71 (Kd.R_reads' HO_8.out).2.2 x11_4 p222 q222
                        obtain rfl : ad220 = ad222 := (by injection e222)
                        replace p222 := eq_true p222
                        replace q222 := eq_true q222
                        have p223 : 0 ≤ (x11_4 : Int) := of_decide_eq_true (by first | (with_reducible assumption) | assumption)
                        have q223 : x11_4 < (l1.length : Int) := of_decide_eq_true (by first | (with_reducible assumption) | assumption)
                        obtain ⟨ad223, e223, hx223_0⟩ := Kd.at_int HR1.out x11_4 p223 q223
                        cases e223
                        replace hx223_0 := (HB.out.cell (World.block_lt_of_cell? w _ hx223_0)).trans hx223_0
                        replace p223 := eq_true p223
                        replace q223 := eq_true q223
                        have p235 : 0 ≤ (x11_4 : Int) := of_decide_eq_true (by first | (with_reducible assumption) | assumption)
                        have q235 : x11_4 < (l1.length : Int) := of_decide_eq_true (by first | (with_reducible assumption) | assumption)
                        obtain ⟨ad235, e235, hx235_0⟩ := Kd.at_int HR1.out x11_4 p235 q235
                        obtain rfl : ad223 = ad235 := (by injection e235)
                        replace hx235_0 := (HB.out.cell (World.block_lt_of_cell? w _ hx235_0)).trans hx235_0
                        replace p235 := eq_true p235
                        replace q235 := eq_true q235
                        have p236 : 0 ≤ (x11_4 : Int) := of_decide_eq_true (by first | (with_reducible assumption) | assumption)
                        have q236 : x11_4 < (l1.length : Int) := of_decide_eq_true (by first | (with_reducible assumption) | assumption)
                        obtain ⟨ad236, e236, hx236_0⟩ := Kd.at_int HR1.out x11_4 p236 q236
                        obtain rfl : ad223 = ad236 := (by injection e236)
                        replace hx236_0 := (HB.out.cell (World.block_lt_of_cell? w _ hx236_0)).trans hx236_0
                        replace p236 := eq_true p236
                        replace q236 := eq_true q236
                        have p237 : 0 ≤ (x11_4 : Int) := of_decide_eq_true (by first | (with_reducible assumption) | assumption)
                        have q237 : x11_4 < (t216.length : Int) := of_decide_eq_true (by first | (with_reducible assumption) | assumption)
                        obtain ⟨ad237, e237, hx237_0, hx237_1⟩ := at_T71 (Kd.R_reads' HO_8.out).2.2 x11_4 p237 q237
                        obtain rfl : ad220 = ad237 := (by injection e237)
                        replace p237 := eq_true p237
                        replace q237 := eq_true q237
                        go_wp2
                        repeat (go_quiet (fail); try go_wp2)
                        go_roundg k4
                        case measure => have := HJ3.out; have := HK2.out; have := HJ19.out; have := HK4.out; omega
                        case rel => exact ⟨((rd_T71 t216 x11_4).f1), (wrap64 (x11_4 + 1)), (by first | rfl | (simp; done) | (simp [*]; done)), (by first | rfl | (simp; done) | (simp [*]; done)), H', ⟨by have := HJ3.out; have := HK2.out; have := HJ19.out; have := HK4.out; omega⟩, ⟨by (with_reducible repeat (first | apply Kd.R_alloc | apply Kd.R_drewN | apply Kd.R_drew)); exact HO_8.out⟩, ⟨by (repeat with_reducible first | refine XPrint.d1 ?_ | refine XPrint.d2 ?_ _ | refine XPrint.d3 ?_ _); exact BK211.out⟩, ⟨by exact XPrint.bz HB.out⟩⟩
                       ·rw [if_neg c49] at H
                        have c49b0 : (t212 == 0) = false := beq_eq_false_iff_ne.mpr c49
                        have c49b1 : (t212 != 0) = true := bne_iff_ne.mpr c49
                        have H' := XPrint.A0 H
                        clear H
                        obtain ⟨Ao51, co51, eo51⟩ := Kd.R_slice HO_8.out
                        subst eo51
                        have p220 : 0 ≤ (x11_4 : Int) := of_decide_eq_true (by first | (with_reducible assumption) | assumption)
                        have q220 : x11_4 < (t216.length : Int) := of_decide_eq_true (by first | (with_reducible assumption) | assumption)
                        obtain ⟨ad220, e220, hx220_0, hx220_1⟩ := at_T71 (Kd.R_reads' HO_8.out).2.2 x11_4 p220 q220
                        cases e220
                        replace p220 := eq_true p220
                        replace q220 := eq_true q220
                        have p221 : 0 ≤ (x11_4 : Int) := of_decide_eq_true (by first | (with_reducible assumption) | assumption)
                        have q221 : x11_4 < (t216.length : Int) := of_decide_eq_true (by first | (with_reducible assumption) | assumption)
                        obtain ⟨ad221, e221, hx221_0, hx221_1⟩ := at_T71 (Kd.R_reads' HO_8.out).2.2 x11_4 p221 q221
                        obtain rfl : ad220 = ad221 := (by injection e221)
                        replace p221 := eq_true p221
                        replace q221 := eq_true q221
                        have p222 : 0 ≤ (x11_4 : Int) := of_decide_eq_true (by first | (with_reducible assumption) | assumption)
                        have q222 : x11_4 < (t216.length : Int) := of_decide_eq_true (by first | (with_reducible assumption) | assumption)
                        obtain ⟨ad222, e222, hx222_0, hx222_1⟩ := at_T71 (Kd.R_reads' HO_8.out).2.2 x11_4 p222 q222
                        obtain rfl : ad220 = ad222 := (by injection e222)
                        replace p222 := eq_true p222
                        replace q222 := eq_true q222
                        have p223 : 0 ≤ (x11_4 : Int) := of_decide_eq_true (by first | (with_reducible assumption) | assumption)
                        have q223 : x11_4 < (l1.length : Int) := of_decide_eq_true (by first | (with_reducible assumption) | assumption)
                        obtain ⟨ad223, e223, hx223_0⟩ := Kd.at_int HR1.out x11_4 p223 q223
                        cases e223
                        replace hx223_0 := (HB.out.cell (World.block_lt_of_cell? w _ hx223_0)).trans hx223_0
                        replace p223 := eq_true p223
                        replace q223 := eq_true q223
                        have p235 : 0 ≤ (x11_4 : Int) := of_decide_eq_true (by first | (with_reducible assumption) | assumption)
                        have q235 : x11_4 < (l1.length : Int) := of_decide_eq_true (by first | (with_reducible assumption) | assumption)
                        obtain ⟨ad235, e235, hx235_0⟩ := Kd.at_int HR1.out x11_4 p235 q235
                        obtain rfl : ad223 = ad235 := (by injection e235)
                        replace hx235_0 := (HB.out.cell (World.block_lt_of_cell? w _ hx235_0)).trans hx235_0
                        replace p235 := eq_true p235
                        replace q235 := eq_true q235
                        have p238 : 0 ≤ (x11_4 : Int) := of_decide_eq_true (by first | (with_reducible assumption) | assumption)
                        have q238 : x11_4 < (t216.length : Int) := of_decide_eq_true (by first | (with_reducible assumption) | assumption)
                        obtain ⟨ad238, e238, hx238_0, hx238_1⟩ := at_T71 (Kd.R_reads' HO_8.out).2.2 x11_4 p238 q238
                        obtain rfl : ad220 = ad238 := (by injection e238)
                        replace p238 := eq_true p238
                        replace q238 := eq_true q238
                        go_wp2
                        repeat (go_quiet (fail); try go_wp2)
                        go_roundg k4
                        case measure => have := HJ3.out; have := HK2.out; have := HJ19.out; have := HK4.out; omega
                        case rel => exact ⟨((rd_T71 t216 x11_4).f1), (wrap64 (x11_4 + 1)), (by first | rfl | (simp; done) | (simp [*]; done)), (by first | rfl | (simp; done) | (simp [*]; done)), H', ⟨by have := HJ3.out; have := HK2.out; have := HJ19.out; have := HK4.out; omega⟩, ⟨by (with_reducible repeat (first | apply Kd.R_alloc | apply Kd.R_drewN | apply Kd.R_drew)); exact HO_8.out⟩, ⟨by (repeat with_reducible first | refine XPrint.d1 ?_ | refine XPrint.d2 ?_ _ | refine XPrint.d3 ?_ _); exact BK211.out⟩, ⟨by exact XPrint.bz HB.out⟩⟩
                      ·rw [if_neg c48] at H
                       exact absurd H (by simp)
                     ·rw [if_neg c47] at H
                      have c47b0 : decide (x11_4 < (wrap64 ((t216.length : Int) - 1))) = false := decide_eq_false c47
                      clear c47
                      by_cases c52 : t212 = 0
                      ·rw [if_pos c52] at H
                       have c52b0 : (t212 == 0) = true := beq_iff_eq.mpr c52
                       have c52b1 : (t212 != 0) = false := bne_eq_false_iff_eq.mpr c52
                       clear c52
                       by_cases c53 : (wrap64 (((rd_T71 t216 x11_4).f1) - ((rd_T71 t216 x11_4).f0))) = (rd l1 x11_4)
                       ·rw [if_pos c53] at H
                        have c53b0 : ((wrap64 (((rd_T71 t216 x11_4).f1) - ((rd_T71 t216 x11_4).f0))) == (rd l1 x11_4)) = true := beq_iff_eq.mpr c53
                        have c53b1 : ((wrap64 (((rd_T71 t216 x11_4).f1) - ((rd_T71 t216 x11_4).f0))) != (rd l1 x11_4)) = false := bne_eq_false_iff_eq.mpr c53
                        clear c53
                        have H' := XPrint.A0 H
                        clear H
                        obtain ⟨Ao54, co54, eo54⟩ := Kd.R_slice HO_8.out
                        subst eo54
                        have p220 : 0 ≤ (x11_4 : Int) := of_decide_eq_true (by first | (with_reducible assumption) | assumption)
                        have q220 : x11_4 < (t216.length : Int) := of_decide_eq_true (by first | (with_reducible assumption) | assumption)
                        obtain ⟨ad220, e220, hx220_0, hx220_1⟩ := at_T71 (Kd.R_reads' HO_8.out).2.2 x11_4 p220 q220
                        cases e220
                        replace p220 := eq_true p220
                        replace q220 := eq_true q220
                        have p221 : 0 ≤ (x11_4 : Int) := of_decide_eq_true (by first | (with_reducible assumption) | assumption)
                        have q221 : x11_4 < (t216.length : Int) := of_decide_eq_true (by first | (with_reducible assumption) | assumption)
                        obtain ⟨ad221, e221, hx221_0, hx221_1⟩ := at_T71 (Kd.R_reads' HO_8.out).2.2 x11_4 p221 q221
                        obtain rfl : ad220 = ad221 := (by injection e221)
                        replace p221 := eq_true p221
                        replace q221 := eq_true q221
                        have p222 : 0 ≤ (x11_4 : Int) := of_decide_eq_true (by first | (with_reducible assumption) | assumption)
                        have q222 : x11_4 < (t216.length : Int) := of_decide_eq_true (by first | (with_reducible assumption) | assumption)
                        obtain ⟨ad222, e222, hx222_0, hx222_1⟩ := at_T71 (Kd.R_reads' HO_8.out).2.2 x11_4 p222 q222
                        obtain rfl : ad220 = ad222 := (by injection e222)
                        replace p222 := eq_true p222
                        replace q222 := eq_true q222
                        have p223 : 0 ≤ (x11_4 : Int) := of_decide_eq_true (by first | (with_reducible assumption) | assumption)
                        have q223 : x11_4 < (l1.length : Int) := of_decide_eq_true (by first | (with_reducible assumption) | assumption)
                        obtain ⟨ad223, e223, hx223_0⟩ := Kd.at_int HR1.out x11_4 p223 q223
                        cases e223
                        replace hx223_0 := (HB.out.cell (World.block_lt_of_cell? w _ hx223_0)).trans hx223_0
                        replace p223 := eq_true p223
                        replace q223 := eq_true q223
                        have p239 : 0 ≤ (x11_4 : Int) := of_decide_eq_true (by first | (with_reducible assumption) | assumption)
                        have q239 : x11_4 < (l1.length : Int) := of_decide_eq_true (by first | (with_reducible assumption) | assumption)
                        obtain ⟨ad239, e239, hx239_0⟩ := Kd.at_int HR1.out x11_4 p239 q239
                        obtain rfl : ad223 = ad239 := (by injection e239)
                        replace hx239_0 := (HB.out.cell (World.block_lt_of_cell? w _ hx239_0)).trans hx239_0
                        replace p239 := eq_true p239
                        replace q239 := eq_true q239
                        have p240 : 0 ≤ (x11_4 : Int) := of_decide_eq_true (by first | (with_reducible assumption) | assumption)
                        have q240 : x11_4 < (t216.length : Int) := of_decide_eq_true (by first | (with_reducible assumption) | assumption)
                        obtain ⟨ad240, e240, hx240_0, hx240_1⟩ := at_T71 (Kd.R_reads' HO_8.out).2.2 x11_4 p240 q240
                        obtain rfl : ad220 = ad240 := (by injection e240)
                        replace p240 := eq_true p240
                        replace q240 := eq_true q240
                        go_wp2
                        repeat (go_quiet (fail); try go_wp2)
                        go_roundg k4
                        case measure => have := HJ3.out; have := HK2.out; have := HJ19.out; have := HK4.out; omega
                        case rel => exact ⟨((rd_T71 t216 x11_4).f1), (wrap64 (x11_4 + 1)), (by first | rfl | (simp; done) | (simp [*]; done)), (by first | rfl | (simp; done) | (simp [*]; done)), H', ⟨by have := HJ3.out; have := HK2.out; have := HJ19.out; have := HK4.out; omega⟩, ⟨by (with_reducible repeat (first | apply Kd.R_alloc | apply Kd.R_drewN | apply Kd.R_drew)); exact HO_8.out⟩, ⟨by (repeat with_reducible first | refine XPrint.d1 ?_ | refine XPrint.d2 ?_ _ | refine XPrint.d3 ?_ _); exact BK211.out⟩, ⟨by exact XPrint.bz HB.out⟩⟩
                       ·rw [if_neg c53] at H
                        exact absurd H (by simp)
                      ·rw [if_neg c52] at H
                       have c52b0 : (t212 == 0) = false := beq_eq_false_iff_ne.mpr c52
                       have c52b1 : (t212 != 0) = true := bne_iff_ne.mpr c52
                       have H' := XPrint.A0 H
                       clear H
                       obtain ⟨Ao55, co55, eo55⟩ := Kd.R_slice HO_8.out
                       subst eo55
                       have p220 : 0 ≤ (x11_4 : Int) := of_decide_eq_true (by first | (with_reducible assumption) | assumption)
                       have q220 : x11_4 < (t216.length : Int) := of_decide_eq_true (by first | (with_reducible assumption) | assumption)
                       obtain ⟨ad220, e220, hx220_0, hx220_1⟩ := at_T71 (Kd.R_reads' HO_8.out).2.2 x11_4 p220 q220
                       cases e220
                       replace p220 := eq_true p220
                       replace q220 := eq_true q220
                       have p221 : 0 ≤ (x11_4 : Int) := of_decide_eq_true (by first | (with_reducible assumption) | assumption)
                       have q221 : x11_4 < (t216.length : Int) := of_decide_eq_true (by first | (with_reducible assumption) | assumption)
                       obtain ⟨ad221, e221, hx221_0, hx221_1⟩ := at_T71 (Kd.R_reads' HO_8.out).2.2 x11_4 p221 q221
                       obtain rfl : ad220 = ad221 := (by injection e221)
                       replace p221 := eq_true p221
                       replace q221 := eq_true q221
                       have p222 : 0 ≤ (x11_4 : Int) := of_decide_eq_true (by first | (with_reducible assumption) | assumption)
                       have q222 : x11_4 < (t216.length : Int) := of_decide_eq_true (by first | (with_reducible assumption) | assumption)
                       obtain ⟨ad222, e222, hx222_0, hx222_1⟩ := at_T71 (Kd.R_reads' HO_8.out).2.2 x11_4 p222 q222
                       obtain rfl : ad220 = ad222 := (by injection e222)
                       replace p222 := eq_true p222
                       replace q222 := eq_true q222
                       have p223 : 0 ≤ (x11_4 : Int) := of_decide_eq_true (by first | (with_reducible assumption) | assumption)
                       have q223 : x11_4 < (l1.length : Int) := of_decide_eq_true (by first | (with_reducible assumption) | assumption)
                       obtain ⟨ad223, e223, hx223_0⟩ := Kd.at_int HR1.out x11_4 p223 q223
                       cases e223
                       replace hx223_0 := (HB.out.cell (World.block_lt_of_cell? w _ hx223_0)).trans hx223_0
                       replace p223 := eq_true p223
                       replace q223 := eq_true q223
                       have p241 : 0 ≤ (x11_4 : Int) := of_decide_eq_true (by first | (with_reducible assumption) | assumption)
                       have q241 : x11_4 < (t216.length : Int) := of_decide_eq_true (by first | (with_reducible assumption) | assumption)
                       obtain ⟨ad241, e241, hx241_0, hx241_1⟩ := at_T71 (Kd.R_reads' HO_8.out).2.2 x11_4 p241 q241
                       obtain rfl : ad220 = ad241 := (by injection e241)
                       replace p241 := eq_true p241
                       replace q241 := eq_true q241
                       go_wp2
                       repeat (go_quiet (fail); try go_wp2)
                       go_roundg k4
                       case measure => have := HJ3.out; have := HK2.out; have := HJ19.out; have := HK4.out; omega
                       case rel => exact ⟨((rd_T71 t216 x11_4).f1), (wrap64 (x11_4 + 1)), (by first | rfl | (simp; done) | (simp [*]; done)), (by first | rfl | (simp; done) | (simp [*]; done)), H', ⟨by have := HJ3.out; have := HK2.out; have := HJ19.out; have := HK4.out; omega⟩, ⟨by (with_reducible repeat (first | apply Kd.R_alloc | apply Kd.R_drewN | apply Kd.R_drew)); exact HO_8.out⟩, ⟨by (repeat with_reducible first | refine XPrint.d1 ?_ | refine XPrint.d2 ?_ _ | refine XPrint.d3 ?_ _); exact BK211.out⟩, ⟨by exact XPrint.bz HB.out⟩⟩
                    ·rw [if_neg c46] at H
                     have c46b0 : (x7_2 == 1) = false := beq_eq_false_iff_ne.mpr c46
                     have c46b1 : (x7_2 != 1) = true := bne_iff_ne.mpr c46
                     by_cases c56 : t212 = 0
                     ·rw [if_pos c56] at H
                      have c56b0 : (t212 == 0) = true := beq_iff_eq.mpr c56
                      have c56b1 : (t212 != 0) = false := bne_eq_false_iff_eq.mpr c56
                      clear c56
                      by_cases c57 : (wrap64 (((rd_T71 t216 x11_4).f1) - ((rd_T71 t216 x11_4).f0))) = (rd l1 x11_4)
                      ·rw [if_pos c57] at H
                       have c57b0 : ((wrap64 (((rd_T71 t216 x11_4).f1) - ((rd_T71 t216 x11_4).f0))) == (rd l1 x11_4)) = true := beq_iff_eq.mpr c57
                       have c57b1 : ((wrap64 (((rd_T71 t216 x11_4).f1) - ((rd_T71 t216 x11_4).f0))) != (rd l1 x11_4)) = false := bne_eq_false_iff_eq.mpr c57
                       clear c57
                       have H' := XPrint.A0 H
                       clear H
                       obtain ⟨Ao58, co58, eo58⟩ := Kd.R_slice HO_8.out
                       subst eo58
                       have p220 : 0 ≤ (x11_4 : Int) := of_decide_eq_true (by first | (with_reducible assumption) | assumption)
                       have q220 : x11_4 < (t216.length : Int) := of_decide_eq_true (by first | (with_reducible assumption) | assumption)
                       obtain ⟨ad220, e220, hx220_0, hx220_1⟩ := at_T71 (Kd.R_reads' HO_8.out).2.2 x11_4 p220 q220
                       cases e220
                       replace p220 := eq_true p220
                       replace q220 := eq_true q220
                       have p221 : 0 ≤ (x11_4 : Int) := of_decide_eq_true (by first | (with_reducible assumption) | assumption)
                       have q221 : x11_4 < (t216.length : Int) := of_decide_eq_true (by first | (with_reducible assumption) | assumption)
                       obtain ⟨ad221, e221, hx221_0, hx221_1⟩ := at_T71 (Kd.R_reads' HO_8.out).2.2 x11_4 p221 q221
                       obtain rfl : ad220 = ad221 := (by injection e221)
                       replace p221 := eq_true p221
                       replace q221 := eq_true q221
                       have p222 : 0 ≤ (x11_4 : Int) := of_decide_eq_true (by first | (with_reducible assumption) | assumption)
                       have q222 : x11_4 < (t216.length : Int) := of_decide_eq_true (by first | (with_reducible assumption) | assumption)
                       obtain ⟨ad222, e222, hx222_0, hx222_1⟩ := at_T71 (Kd.R_reads' HO_8.out).2.2 x11_4 p222 q222
                       obtain rfl : ad220 = ad222 := (by injection e222)
                       replace p222 := eq_true p222
                       replace q222 := eq_true q222
                       have p223 : 0 ≤ (x11_4 : Int) := of_decide_eq_true (by first | (with_reducible assumption) | assumption)
                       have q223 : x11_4 < (l1.length : Int) := of_decide_eq_true (by first | (with_reducible assumption) | assumption)
                       obtain ⟨ad223, e223, hx223_0⟩ := Kd.at_int HR1.out x11_4 p223 q223
                       cases e223
                       replace hx223_0 := (HB.out.cell (World.block_lt_of_cell? w _ hx223_0)).trans hx223_0
                       replace p223 := eq_true p223
                       replace q223 := eq_true q223
                       have p242 : 0 ≤ (x11_4 : Int) := of_decide_eq_true (by first | (with_reducible assumption) | assumption)
                       have q242 : x11_4 < (l1.length : Int) := of_decide_eq_true (by first | (with_reducible assumption) | assumption)
                       obtain ⟨ad242, e242, hx242_0⟩ := Kd.at_int HR1.out x11_4 p242 q242
                       obtain rfl : ad223 = ad242 := (by injection e242)
                       replace hx242_0 := (HB.out.cell (World.block_lt_of_cell? w _ hx242_0)).trans hx242_0
                       replace p242 := eq_true p242
                       replace q242 := eq_true q242
                       have p243 : 0 ≤ (x11_4 : Int) := of_decide_eq_true (by first | (with_reducible assumption) | assumption)
                       have q243 : x11_4 < (t216.length : Int) := of_decide_eq_true (by first | (with_reducible assumption) | assumption)
                       obtain ⟨ad243, e243, hx243_0, hx243_1⟩ := at_T71 (Kd.R_reads' HO_8.out).2.2 x11_4 p243 q243
                       obtain rfl : ad220 = ad243 := (by injection e243)
                       replace p243 := eq_true p243
                       replace q243 := eq_true q243
                       go_wp2
                       repeat (go_quiet (fail); try go_wp2)
                       go_roundg k4
                       case measure => have := HJ3.out; have := HK2.out; have := HJ19.out; have := HK4.out; omega
                       case rel => exact ⟨((rd_T71 t216 x11_4).f1), (wrap64 (x11_4 + 1)), (by first | rfl | (simp; done) | (simp [*]; done)), (by first | rfl | (simp; done) | (simp [*]; done)), H', ⟨by have := HJ3.out; have := HK2.out; have := HJ19.out; have := HK4.out; omega⟩, ⟨by (with_reducible repeat (first | apply Kd.R_alloc | apply Kd.R_drewN | apply Kd.R_drew)); exact HO_8.out⟩, ⟨by (repeat with_reducible first | refine XPrint.d1 ?_ | refine XPrint.d2 ?_ _ | refine XPrint.d3 ?_ _); exact BK211.out⟩, ⟨by exact XPrint.bz HB.out⟩⟩
                      ·rw [if_neg c57] at H
                       exact absurd H (by simp)
                     ·rw [if_neg c56] at H
                      have c56b0 : (t212 == 0) = false := beq_eq_false_iff_ne.mpr c56
                      have c56b1 : (t212 != 0) = true := bne_iff_ne.mpr c56
                      have H' := XPrint.A0 H
                      clear H
                      obtain ⟨Ao59, co59, eo59⟩ := Kd.R_slice HO_8.out
                      subst eo59
                      have p220 : 0 ≤ (x11_4 : Int) := of_decide_eq_true (by first | (with_reducible assumption) | assumption)
                      have q220 : x11_4 < (t216.length : Int) := of_decide_eq_true (by first | (with_reducible assumption) | assumption)
                      obtain ⟨ad220, e220, hx220_0, hx220_1⟩ := at_T71 (Kd.R_reads' HO_8.out).2.2 x11_4 p220 q220
                      cases e220
                      replace p220 := eq_true p220
                      replace q220 := eq_true q220
                      have p221 : 0 ≤ (x11_4 : Int) := of_decide_eq_true (by first | (with_reducible assumption) | assumption)
                      have q221 : x11_4 < (t216.length : Int) := of_decide_eq_true (by first | (with_reducible assumption) | assumption)
                      obtain ⟨ad221, e221, hx221_0, hx221_1⟩ := at_T71 (Kd.R_reads' HO_8.out).2.2 x11_4 p221 q221
                      obtain rfl : ad220 = ad221 := (by injection e221)
                      replace p221 := eq_true p221
                      replace q221 := eq_true q221
                      have p222 : 0 ≤ (x11_4 : Int) := of_decide_eq_true (by first | (with_reducible assumption) | assumption)
                      have q222 : x11_4 < (t216.length : Int) := of_decide_eq_true (by first | (with_reducible assumption) | assumption)
                      obtain ⟨ad222, e222, hx222_0, hx222_1⟩ := at_T71 (Kd.R_reads' HO_8.out).2.2 x11_4 p222 q222
                      obtain rfl : ad220 = ad222 := (by injection e222)
                      replace p222 := eq_true p222
                      replace q222 := eq_true q222
                      have p223 : 0 ≤ (x11_4 : Int) := of_decide_eq_true (by first | (with_reducible assumption) | assumption)
                      have q223 : x11_4 < (l1.length : Int) := of_decide_eq_true (by first | (with_reducible assumption) | assumption)
                      obtain ⟨ad223, e223, hx223_0⟩ := Kd.at_int HR1.out x11_4 p223 q223
                      cases e223
                      replace hx223_0 := (HB.out.cell (World.block_lt_of_cell? w _ hx223_0)).trans hx223_0
                      replace p223 := eq_true p223
                      replace q223 := eq_true q223
                      have p244 : 0 ≤ (x11_4 : Int) := of_decide_eq_true (by first | (with_reducible assumption) | assumption)
                      have q244 : x11_4 < (t216.length : Int) := of_decide_eq_true (by first | (with_reducible assumption) | assumption)
                      obtain ⟨ad244, e244, hx244_0, hx244_1⟩ := at_T71 (Kd.R_reads' HO_8.out).2.2 x11_4 p244 q244
                      obtain rfl : ad220 = ad244 := (by injection e244)
                      replace p244 := eq_true p244
                      replace q244 := eq_true q244
                      go_wp2
                      repeat (go_quiet (fail); try go_wp2)
                      go_roundg k4
                      case measure => have := HJ3.out; have := HK2.out; have := HJ19.out; have := HK4.out; omega
                      case rel => exact ⟨((rd_T71 t216 x11_4).f1), (wrap64 (x11_4 + 1)), (by first | rfl | (simp; done) | (simp [*]; done)), (by first | rfl | (simp; done) | (simp [*]; done)), H', ⟨by have := HJ3.out; have := HK2.out; have := HJ19.out; have := HK4.out; omega⟩, ⟨by (with_reducible repeat (first | apply Kd.R_alloc | apply Kd.R_drewN | apply Kd.R_drew)); exact HO_8.out⟩, ⟨by (repeat with_reducible first | refine XPrint.d1 ?_ | refine XPrint.d2 ?_ _ | refine XPrint.d3 ?_ _); exact BK211.out⟩, ⟨by exact XPrint.bz HB.out⟩⟩
                  ·rw [if_neg c32] at H
                   have c32b0 : (x7_2 == 0) = false := beq_eq_false_iff_ne.mpr c32
                   have c32b1 : (x7_2 != 0) = true := bne_iff_ne.mpr c32
                   by_cases c60 : x7_2 = 1
                   ·rw [if_pos c60] at H
                    have c60b0 : (x7_2 == 1) = true := beq_iff_eq.mpr c60
                    have c60b1 : (x7_2 != 1) = false := bne_eq_false_iff_eq.mpr c60
                    clear c60
                    by_cases c61 : x11_4 < (wrap64 ((t216.length : Int) - 1))
                    ·rw [if_pos c61] at H
                     have c61b0 : decide (x11_4 < (wrap64 ((t216.length : Int) - 1))) = true := decide_eq_true c61
                     clear c61
                     by_cases c62 : (wrap64 (((rd_T71 t216 x11_4).f1) - ((rd_T71 t216 x11_4).f0))) = (rd l1 x11_4)
                     ·rw [if_pos c62] at H
                      have c62b0 : ((wrap64 (((rd_T71 t216 x11_4).f1) - ((rd_T71 t216 x11_4).f0))) == (rd l1 x11_4)) = true := beq_iff_eq.mpr c62
                      have c62b1 : ((wrap64 (((rd_T71 t216 x11_4).f1) - ((rd_T71 t216 x11_4).f0))) != (rd l1 x11_4)) = false := bne_eq_false_iff_eq.mpr c62
                      clear c62
                      by_cases c63 : t212 = 0
                      ·rw [if_pos c63] at H
                       have c63b0 : (t212 == 0) = true := beq_iff_eq.mpr c63
                       have c63b1 : (t212 != 0) = false := bne_eq_false_iff_eq.mpr c63
                       clear c63
                       have H' := XPrint.A0 H
                       clear H
                       obtain ⟨Ao64, co64, eo64⟩ := Kd.R_slice HO_8.out
                       subst eo64
                       have p220 : 0 ≤ (x11_4 : Int) := of_decide_eq_true (by first | (with_reducible assumption) | assumption)
                       have q220 : x11_4 < (t216.length : Int) := of_decide_eq_true (by first | (with_reducible assumption) | assumption)
                       obtain ⟨ad220, e220, hx220_0, hx220_1⟩ := at_T71 (Kd.R_reads' HO_8.out).2.2 x11_4 p220 q220
                       cases e220
                       replace p220 := eq_true p220
                       replace q220 := eq_true q220
                       have p221 : 0 ≤ (x11_4 : Int) := of_decide_eq_true (by first | (with_reducible assumption) | assumption)
                       have q221 : x11_4 < (t216.length : Int) := of_decide_eq_true (by first | (with_reducible assumption) | assumption)
                       obtain ⟨ad221, e221, hx221_0, hx221_1⟩ := at_T71 (Kd.R_reads' HO_8.out).2.2 x11_4 p221 q221
                       obtain rfl : ad220 = ad221 := (by injection e221)
                       replace p221 := eq_true p221
                       replace q221 := eq_true q221
                       have p222 : 0 ≤ (x11_4 : Int) := of_decide_eq_true (by first | (with_reducible assumption) | assumption)
                       have q222 : x11_4 < (t216.length : Int) := of_decide_eq_true (by first | (with_reducible assumption) | assumption)
                       obtain ⟨ad222, e222, hx222_0, hx222_1⟩ := at_T71 (Kd.R_reads' HO_8.out).2.2 x11_4 p222 q222
                       obtain rfl : ad220 = ad222 := (by injection e222)
                       replace p222 := eq_true p222
                       replace q222 := eq_true q222
                       have p223 : 0 ≤ (x11_4 : Int) := of_decide_eq_true (by first | (with_reducible assumption) | assumption)
                       have q223 : x11_4 < (l1.length : Int) := of_decide_eq_true (by first | (with_reducible assumption) | assumption)
                       obtain ⟨ad223, e223, hx223_0⟩ := Kd.at_int HR1.out x11_4 p223 q223
                       cases e223
                       replace hx223_0 := (HB.out.cell (World.block_lt_of_cell? w _ hx223_0)).trans hx223_0
                       replace p223 := eq_true p223
                       replace q223 := eq_true q223
                       have p245 : 0 ≤ (x11_4 : Int) := of_decide_eq_true (by first | (with_reducible assumption) | assumption)
                       have q245 : x11_4 < (l1.length : Int) := of_decide_eq_true (by first | (with_reducible assumption) | assumption)
                       obtain ⟨ad245, e245, hx245_0⟩ := Kd.at_int HR1.out x11_4 p245 q245
                       obtain rfl : ad223 = ad245 := (by injection e245)
                       replace hx245_0 := (HB.out.cell (World.block_lt_of_cell? w _ hx245_0)).trans hx245_0
                       replace p245 := eq_true p245
                       replace q245 := eq_true q245
                       have p246 : 0 ≤ (x11_4 : Int) := of_decide_eq_true (by first | (with_reducible assumption) | assumption)
                       have q246 : x11_4 < (l1.length : Int) := of_decide_eq_true (by first | (with_reducible assumption) | assumption)
                       obtain ⟨ad246, e246, hx246_0⟩ := Kd.at_int HR1.out x11_4 p246 q246
                       obtain rfl : ad223 = ad246 := (by injection e246)
                       replace hx246_0 := (HB.out.cell (World.block_lt_of_cell? w _ hx246_0)).trans hx246_0
                       replace p246 := eq_true p246
                       replace q246 := eq_true q246
                       have p247 : 0 ≤ (x11_4 : Int) := of_decide_eq_true (by first | (with_reducible assumption) | assumption)
                       have q247 : x11_4 < (t216.length : Int) := of_decide_eq_true (by first | (with_reducible assumption) | assumption)
                       obtain ⟨ad247, e247, hx247_0, hx247_1⟩ := at_T71 (Kd.R_reads' HO_8.out).2.2 x11_4 p247 q247
                       obtain rfl : ad220 = ad247 := (by injection e247)
                       replace p247 := eq_true p247
                       replace q247 := eq_true q247
                       go_wp2
                       repeat (go_quiet (fail); try go_wp2)
                       go_roundg k4
                       case measure => have := HJ3.out; have := HK2.out; have := HJ19.out; have := HK4.out; omega
                       case rel => exact ⟨((rd_T71 t216 x11_4).f1), (wrap64 (x11_4 + 1)), (by first | rfl | (simp; done) | (simp [*]; done)), (by first | rfl | (simp; done) | (simp [*]; done)), H', ⟨by have := HJ3.out; have := HK2.out; have := HJ19.out; have := HK4.out; omega⟩, ⟨by (with_reducible repeat (first | apply Kd.R_alloc | apply Kd.R_drewN | apply Kd.R_drew)); exact HO_8.out⟩, ⟨by (repeat with_reducible first | refine XPrint.d1 ?_ | refine XPrint.d2 ?_ _ | refine XPrint.d3 ?_ _); exact BK211.out⟩, ⟨by exact XPrint.bz HB.out⟩⟩
                      ·rw [if_neg c63] at H
                       have c63b0 : (t212 == 0) = false := beq_eq_false_iff_ne.mpr c63
                       have c63b1 : (t212 != 0) = true := bne_iff_ne.mpr c63
                       have H' := XPrint.A0 H
                       clear H
                       obtain ⟨Ao65, co65, eo65⟩ := Kd.R_slice HO_8.out
                       subst eo65
                       have p220 : 0 ≤ (x11_4 : Int) := of_decide_eq_true (by first | (with_reducible assumption) | assumption)
                       have q220 : x11_4 < (t216.length : Int) := of_decide_eq_true (by first | (with_reducible assumption) | assumption)
                       obtain ⟨ad220, e220, hx220_0, hx220_1⟩ := at_T71 (Kd.R_reads' HO_8.out).2.2 x11_4 p220 q220
                       cases e220
                       replace p220 := eq_true p220
                       replace q220 := eq_true q220
                       have p221 : 0 ≤ (x11_4 : Int) := of_decide_eq_true (by first | (with_reducible assumption) | assumption)
                       have q221 : x11_4 < (t216.length : Int) := of_decide_eq_true (by first | (with_reducible assumption) | assumption)
                       obtain ⟨ad221, e221, hx221_0, hx221_1⟩ := at_T71 (Kd.R_reads' HO_8.out).2.2 x11_4 p221 q221
                       obtain rfl : ad220 = ad221 := (by injection e221)
                       replace p221 := eq_true p221
                       replace q221 := eq_true q221
                       have p222 : 0 ≤ (x11_4 : Int) := of_decide_eq_true (by first | (with_reducible assumption) | assumption)
                       have q222 : x11_4 < (t216.length : Int) := of_decide_eq_true (by first | (with_reducible assumption) | assumption)
                       obtain ⟨ad222, e222, hx222_0, hx222_1⟩ := at_T71 (Kd.R_reads' HO_8.out).2.2 x11_4 p222 q222
                       obtain rfl : ad220 = ad222 := (by injection e222)
                       replace p222 := eq_true p222
                       replace q222 := eq_true q222
                       have p223 : 0 ≤ (x11_4 : Int) := of_decide_eq_true (by first | (with_reducible assumption) | assumption)
                       have q223 : x11_4 < (l1.length : Int) := of_decide_eq_true (by first | (with_reducible assumption) | assumption)
                       obtain ⟨ad223, e223, hx223_0⟩ := Kd.at_int HR1.out x11_4 p223 q223
                       cases e223
                       replace hx223_0 := (HB.out.cell (World.block_lt_of_cell? w _ hx223_0)).trans hx223_0
                       replace p223 := eq_true p223
                       replace q223 := eq_true q223
                       have p245 : 0 ≤ (x11_4 : Int) := of_decide_eq_true (by first | (with_reducible assumption) | assumption)
                       have q245 : x11_4 < (l1.length : Int) := of_decide_eq_true (by first | (with_reducible assumption) | assumption)
                       obtain ⟨ad245, e245, hx245_0⟩ := Kd.at_int HR1.out x11_4 p245 q245
                       obtain rfl : ad223 = ad245 := (by injection e245)
                       replace hx245_0 := (HB.out.cell (World.block_lt_of_cell? w _ hx245_0)).trans hx245_0
                       replace p245 := eq_true p245
                       replace q245 := eq_true q245
                       have p248 : 0 ≤ (x11_4 : Int) := of_decide_eq_true (by first | (with_reducible assumption) | assumption)
                       have q248 : x11_4 < (t216.length : Int) := of_decide_eq_true (by first | (with_reducible assumption) | assumption)
                       obtain ⟨ad248, e248, hx248_0, hx248_1⟩ := at_T71 (Kd.R_reads' HO_8.out).2.2 x11_4 p248 q248
                       obtain rfl : ad220 = ad248 := (by injection e248)
                       replace p248 := eq_true p248
                       replace q248 := eq_true q248
                       go_wp2
                       repeat (go_quiet (fail); try go_wp2)
                       go_roundg k4
                       case measure => have := HJ3.out; have := HK2.out; have := HJ19.out; have := HK4.out; omega
                       case rel => exact ⟨((rd_T71 t216 x11_4).f1), (wrap64 (x11_4 + 1)), (by first | rfl | (simp; done) | (simp [*]; done)), (by first | rfl | (simp; done) | (simp [*]; done)), H', ⟨by have := HJ3.out; have := HK2.out; have := HJ19.out; have := HK4.out; omega⟩, ⟨by (with_reducible repeat (first | apply Kd.R_alloc | apply Kd.R_drewN | apply Kd.R_drew)); exact HO_8.out⟩, ⟨by (repeat with_reducible first | refine XPrint.d1 ?_ | refine XPrint.d2 ?_ _ | refine XPrint.d3 ?_ _); exact BK211.out⟩, ⟨by exact XPrint.bz HB.out⟩⟩
                     ·rw [if_neg c62] at H
                      exact absurd H (by simp)
                    ·rw [if_neg c61] at H
                     have c61b0 : decide (x11_4 < (wrap64 ((t216.length : Int) - 1))) = false := decide_eq_false c61
                     clear c61
                     by_cases c66 : t212 = 0
                     ·rw [if_pos c66] at H
                      have c66b0 : (t212 == 0) = true := beq_iff_eq.mpr c66
                      have c66b1 : (t212 != 0) = false := bne_eq_false_iff_eq.mpr c66
                      clear c66
                      by_cases c67 : (wrap64 (((rd_T71 t216 x11_4).f1) - ((rd_T71 t216 x11_4).f0))) = (rd l1 x11_4)
                      ·rw [if_pos c67] at H
                       have c67b0 : ((wrap64 (((rd_T71 t216 x11_4).f1) - ((rd_T71 t216 x11_4).f0))) == (rd l1 x11_4)) = true := beq_iff_eq.mpr c67
                       have c67b1 : ((wrap64 (((rd_T71 t216 x11_4).f1) - ((rd_T71 t216 x11_4).f0))) != (rd l1 x11_4)) = false := bne_eq_false_iff_eq.mpr c67
                       clear c67
                       have H' := XPrint.A0 H
                       clear H
                       obtain ⟨Ao68, co68, eo68⟩ := Kd.R_slice HO_8.out
                       subst eo68
                       have p220 : 0 ≤ (x11_4 : Int) := of_decide_eq_true (by first | (with_reducible assumption) | assumption)
                       have q220 : x11_4 < (t216.length : Int) := of_decide_eq_true (by first | (with_reducible assumption) | assumption)
                       obtain ⟨ad220, e220, hx220_0, hx220_1⟩ := at_T71 (Kd.R_reads' HO_8.out).2.2 x11_4 p220 q220
                       cases e220
                       replace p220 := eq_true p220
                       replace q220 := eq_true q220
                       have p221 : 0 ≤ (x11_4 : Int) := of_decide_eq_true (by first | (with_reducible assumption) | assumption)
                       have q221 : x11_4 < (t216.length : Int) := of_decide_eq_true (by first | (with_reducible assumption) | assumption)
                       obtain ⟨ad221, e221, hx221_0, hx221_1⟩ := at_T71 (Kd.R_reads' HO_8.out).2.2 x11_4 p221 q221
                       obtain rfl : ad220 = ad221 := (by injection e221)
                       replace p221 := eq_true p221
                       replace q221 := eq_true q221
                       have p222 : 0 ≤ (x11_4 : Int) := of_decide_eq_true (by first | (with_reducible assumption) | assumption)
                       have q222 : x11_4 < (t216.length : Int) := of_decide_eq_true (by first | (with_reducible assumption) | assumption)
                       obtain ⟨ad222, e222, hx222_0, hx222_1⟩ := at_T71 (Kd.R_reads' HO_8.out).2.2 x11_4 p222 q222
                       obtain rfl : ad220 = ad222 := (by injection e222)
                       replace p222 := eq_true p222
                       replace q222 := eq_true q222
                       have p223 : 0 ≤ (x11_4 : Int) := of_decide_eq_true (by first | (with_reducible assumption) | assumption)
                       have q223 : x11_4 < (l1.length : Int) := of_decide_eq_true (by first | (with_reducible assumption) | assumption)
                       obtain ⟨ad223, e223, hx223_0⟩ := Kd.at_int HR1.out x11_4 p223 q223
                       cases e223
                       replace hx223_0 := (HB.out.cell (World.block_lt_of_cell? w _ hx223_0)).trans hx223_0
                       replace p223 := eq_true p223
                       replace q223 := eq_true q223
                       have p249 : 0 ≤ (x11_4 : Int) := of_decide_eq_true (by first | (with_reducible assumption) | assumption)
                       have q249 : x11_4 < (l1.length : Int) := of_decide_eq_true (by first | (with_reducible assumption) | assumption)
                       obtain ⟨ad249, e249, hx249_0⟩ := Kd.at_int HR1.out x11_4 p249 q249
                       obtain rfl : ad223 = ad249 := (by injection e249)
                       replace hx249_0 := (HB.out.cell (World.block_lt_of_cell? w _ hx249_0)).trans hx249_0
                       replace p249 := eq_true p249
                       replace q249 := eq_true q249
                       have p250 : 0 ≤ (x11_4 : Int) := of_decide_eq_true (by first | (with_reducible assumption) | assumption)
                       have q250 : x11_4 < (t216.length : Int) := of_decide_eq_true (by first | (with_reducible assumption) | assumption)
                       obtain ⟨ad250, e250, hx250_0, hx250_1⟩ := at_T71 (Kd.R_reads' HO_8.out).2.2 x11_4 p250 q250
                       obtain rfl : ad220 = ad250 := (by injection e250)
                       replace p250 := eq_true p250
                       replace q250 := eq_true q250
                       go_wp2
                       repeat (go_quiet (fail); try go_wp2)
                       go_roundg k4
                       case measure => have := HJ3.out; have := HK2.out; have := HJ19.out; have := HK4.out; omega
                       case rel => exact ⟨((rd_T71 t216 x11_4).f1), (wrap64 (x11_4 + 1)), (by first | rfl | (simp; done) | (simp [*]; done)), (by first | rfl | (simp; done) | (simp [*]; done)), H', ⟨by have := HJ3.out; have := HK2.out; have := HJ19.out; have := HK4.out; omega⟩, ⟨by (with_reducible repeat (first | apply Kd.R_alloc | apply Kd.R_drewN | apply Kd.R_drew)); exact HO_8.out⟩, ⟨by (repeat with_reducible first | refine XPrint.d1 ?_ | refine XPrint.d2 ?_ _ | refine XPrint.d3 ?_ _); exact BK211.out⟩, ⟨by exact XPrint.bz HB.out⟩⟩
                      ·rw [if_neg c67] at H
                       exact absurd H (by simp)
                     ·rw [if_neg c66] at H
                      have c66b0 : (t212 == 0) = false := beq_eq_false_iff_ne.mpr c66
                      have c66b1 : (t212 != 0) = true := bne_iff_ne.mpr c66
                      have H' := XPrint.A0 H
                      clear H
                      obtain ⟨Ao69, co69, eo69⟩ := Kd.R_slice HO_8.out
                      subst eo69
                      have p220 : 0 ≤ (x11_4 : Int) := of_decide_eq_true (by first | (with_reducible assumption) | assumption)
                      have q220 : x11_4 < (t216.length : Int) := of_decide_eq_true (by first | (with_reducible assumption) | assumption)
                      obtain ⟨ad220, e220, hx220_0, hx220_1⟩ := at_T71 (Kd.R_reads' HO_8.out).2.2 x11_4 p220 q220
                      cases e220
                      replace p220 := eq_true p220
                      replace q220 := eq_true q220
                      have p221 : 0 ≤ (x11_4 : Int) := of_decide_eq_true (by first | (with_reducible assumption) | assumption)
                      have q221 : x11_4 < (t216.length : Int) := of_decide_eq_true (by first | (with_reducible assumption) | assumption)
                      obtain ⟨ad221, e221, hx221_0, hx221_1⟩ := at_T71 (Kd.R_reads' HO_8.out).2.2 x11_4 p221 q221
                      obtain rfl : ad220 = ad221 := (by injection e221)
                      replace p221 := eq_true p221
                      replace q221 := eq_true q221
                      have p222 : 0 ≤ (x11_4 : Int) := of_decide_eq_true (by first | (with_reducible assumption) | assumption)
                      have q222 : x11_4 < (t216.length : Int) := of_decide_eq_true (by first | (with_reducible assumption) | assumption)
                      obtain ⟨ad222, e222, hx222_0, hx222_1⟩ := at_T71 (Kd.R_reads' HO_8.out).2.2 x11_4 p222 q222
                      obtain rfl : ad220 = ad222 := (by injection e222)
                      replace p222 := eq_true p222
                      replace q222 := eq_true q222
                      have p223 : 0 ≤ (x11_4 : Int) := of_decide_eq_true (by first | (with_reducible assumption) | assumption)
                      have q223 : x11_4 < (l1.length : Int) := of_decide_eq_true (by first | (with_reducible assumption) | assumption)
                      obtain ⟨ad223, e223, hx223_0⟩ := Kd.at_int HR1.out x11_4 p223 q223
                      cases e223
                      replace hx223_0 := (HB.out.cell (World.block_lt_of_cell? w _ hx223_0)).trans hx223_0
                      replace p223 := eq_true p223
                      replace q223 := eq_true q223
                      have p251 : 0 ≤ (x11_4 : Int) := of_decide_eq_true (by first | (with_reducible assumption) | assumption)
                      have q251 : x11_4 < (t216.length : Int) := of_decide_eq_true (by first | (with_reducible assumption) | assumption)
                      obtain ⟨ad251, e251, hx251_0, hx251_1⟩ := at_T71 (Kd.R_reads' HO_8.out).2.2 x11_4 p251 q251
                      obtain rfl : ad220 = ad251 := (by injection e251)
                      replace p251 := eq_true p251
                      replace q251 := eq_true q251
                      go_wp2
                      repeat (go_quiet (fail); try go_wp2)
                      go_roundg k4
                      case measure => have := HJ3.out; have := HK2.out; have := HJ19.out; have := HK4.out; omega
                      case rel => exact ⟨((rd_T71 t216 x11_4).f1), (wrap64 (x11_4 + 1)), (by first | rfl | (simp; done) | (simp [*]; done)), (by first | rfl | (simp; done) | (simp [*]; done)), H', ⟨by have := HJ3.out; have := HK2.out; have := HJ19.out; have := HK4.out; omega⟩, ⟨by (with_reducible repeat (first | apply Kd.R_alloc | apply Kd.R_drewN | apply Kd.R_drew)); exact HO_8.out⟩, ⟨by (repeat with_reducible first | refine XPrint.d1 ?_ | refine XPrint.d2 ?_ _ | refine XPrint.d3 ?_ _); exact BK211.out⟩, ⟨by exact XPrint.bz HB.out⟩⟩
                   ·rw [if_neg c60] at H
                    have c60b0 : (x7_2 == 1) = false := beq_eq_false_iff_ne.mpr c60
                    have c60b1 : (x7_2 != 1) = true := bne_iff_ne.mpr c60
                    by_cases c70 : t212 = 0
                    ·rw [if_pos c70] at H
                     have c70b0 : (t212 == 0) = true := beq_iff_eq.mpr c70
                     have c70b1 : (t212 != 0) = false := bne_eq_false_iff_eq.mpr c70
                     clear c70
                     by_cases c71 : (wrap64 (((rd_T71 t216 x11_4).f1) - ((rd_T71 t216 x11_4).f0))) = (rd l1 x11_4)
                     ·rw [if_pos c71] at H
                      have c71b0 : ((wrap64 (((rd_T71 t216 x11_4).f1) - ((rd_T71 t216 x11_4).f0))) == (rd l1 x11_4)) = true := beq_iff_eq.mpr c71
                      have c71b1 : ((wrap64 (((rd_T71 t216 x11_4).f1) - ((rd_T71 t216 x11_4).f0))) != (rd l1 x11_4)) = false := bne_eq_false_iff_eq.mpr c71
                      clear c71
                      have H' := XPrint.A0 H
                      clear H
                      obtain ⟨Ao72, co72, eo72⟩ := Kd.R_slice HO_8.out
                      subst eo72
                      have p220 : 0 ≤ (x11_4 : Int) := of_decide_eq_true (by first | (with_reducible assumption) | assumption)
                      have q220 : x11_4 < (t216.length : Int) := of_decide_eq_true (by first | (with_reducible assumption) | assumption)
                      obtain ⟨ad220, e220, hx220_0, hx220_1⟩ := at_T71 (Kd.R_reads' HO_8.out).2.2 x11_4 p220 q220
                      cases e220
                      replace p220 := eq_true p220
                      replace q220 := eq_true q220
                      have p221 : 0 ≤ (x11_4 : Int) := of_decide_eq_true (by first | (with_reducible assumption) | assumption)
                      have q221 : x11_4 < (t216.length : Int) := of_decide_eq_true (by first | (with_reducible assumption) | assumption)
                      obtain ⟨ad221, e221, hx221_0, hx221_1⟩ := at_T71 (Kd.R_reads' HO_8.out).2.2 x11_4 p221 q221
                      obtain rfl : ad220 = ad221 := (by injection e221)
                      replace p221 := eq_true p221
                      replace q221 := eq_true q221
                      have p222 : 0 ≤ (x11_4 : Int) := of_decide_eq_true (by first | (with_reducible assumption) | assumption)
                      have q222 : x11_4 < (t216.length : Int) := of_decide_eq_true (by first | (with_reducible assumption) | assumption)
                      obtain ⟨ad222, e222, hx222_0, hx222_1⟩ := at_T71 (Kd.R_reads' HO_8.out).2.2 x11_4 p222 q222
                      obtain rfl : ad220 = ad222 := (by injection e222)
                      replace p222 := eq_true p222
                      replace q222 := eq_true q222
                      have p223 : 0 ≤ (x11_4 : Int) := of_decide_eq_true (by first | (with_reducible assumption) | assumption)
                      have q223 : x11_4 < (l1.length : Int) := of_decide_eq_true (by first | (with_reducible assumption) | assumption)
                      obtain ⟨ad223, e223, hx223_0⟩ := Kd.at_int HR1.out x11_4 p223 q223
                      cases e223
                      replace hx223_0 := (HB.out.cell (World.block_lt_of_cell? w _ hx223_0)).trans hx223_0
                      replace p223 := eq_true p223
                      replace q223 := eq_true q223
                      have p252 : 0 ≤ (x11_4 : Int) := of_decide_eq_true (by first | (with_reducible assumption) | assumption)
                      have q252 : x11_4 < (l1.length : Int) := of_decide_eq_true (by first | (with_reducible assumption) | assumption)
                      obtain ⟨ad252, e252, hx252_0⟩ := Kd.at_int HR1.out x11_4 p252 q252
                      obtain rfl : ad223 = ad252 := (by injection e252)
                      replace hx252_0 := (HB.out.cell (World.block_lt_of_cell? w _ hx252_0)).trans hx252_0
                      replace p252 := eq_true p252
                      replace q252 := eq_true q252
                      have p253 : 0 ≤ (x11_4 : Int) := of_decide_eq_true (by first | (with_reducible assumption) | assumption)
                      have q253 : x11_4 < (t216.length : Int) := of_decide_eq_true (by first | (with_reducible assumption) | assumption)
                      obtain ⟨ad253, e253, hx253_0, hx253_1⟩ := at_T71 (Kd.R_reads' HO_8.out).2.2 x11_4 p253 q253
                      obtain rfl : ad220 = ad253 := (by injection e253)
                      replace p253 := eq_true p253
                      replace q253 := eq_true q253
                      go_wp2
                      repeat (go_quiet (fail); try go_wp2)
                      go_roundg k4
                      case measure => have := HJ3.out; have := HK2.out; have := HJ19.out; have := HK4.out; omega
                      case rel => exact ⟨((rd_T71 t216 x11_4).f1), (wrap64 (x11_4 + 1)), (by first | rfl | (simp; done) | (simp [*]; done)), (by first | rfl | (simp; done) | (simp [*]; done)), H', ⟨by have := HJ3.out; have := HK2.out; have := HJ19.out; have := HK4.out; omega⟩, ⟨by (with_reducible repeat (first | apply Kd.R_alloc | apply Kd.R_drewN | apply Kd.R_drew)); exact HO_8.out⟩, ⟨by (repeat with_reducible first | refine XPrint.d1 ?_ | refine XPrint.d2 ?_ _ | refine XPrint.d3 ?_ _); exact BK211.out⟩, ⟨by exact XPrint.bz HB.out⟩⟩
                     ·rw [if_neg c71] at H
                      exact absurd H (by simp)
                    ·rw [if_neg c70] at H
                     have c70b0 : (t212 == 0) = false := beq_eq_false_iff_ne.mpr c70
                     have c70b1 : (t212 != 0) = true := bne_iff_ne.mpr c70
                     have H' := XPrint.A0 H
                     clear H
                     obtain ⟨Ao73, co73, eo73⟩ := Kd.R_slice HO_8.out
                     subst eo73
                     have p220 : 0 ≤ (x11_4 : Int) := of_decide_eq_true (by first | (with_reducible assumption) | assumption)
                     have q220 : x11_4 < (t216.length : Int) := of_decide_eq_true (by first | (with_reducible assumption) | assumption)
                     obtain ⟨ad220, e220, hx220_0, hx220_1⟩ := at_T71 (Kd.R_reads' HO_8.out).2.2 x11_4 p220 q220
                     cases e220
                     replace p220 := eq_true p220
                     replace q220 := eq_true q220
                     have p221 : 0 ≤ (x11_4 : Int) := of_decide_eq_true (by first | (with_reducible assumption) | assumption)
                     have q221 : x11_4 < (t216.length : Int) := of_decide_eq_true (by first | (with_reducible assumption) | assumption)
                     obtain ⟨ad221, e221, hx221_0, hx221_1⟩ := at_T71 (Kd.R_reads' HO_8.out).2.2 x11_4 p221 q221
                     obtain rfl : ad220 = ad221 := (by injection e221)
                     replace p221 := eq_true p221
                     replace q221 := eq_true q221
                     have p222 : 0 ≤ (x11_4 : Int) := of_decide_eq_true (by first | (with_reducible assumption) | assumption)
                     have q222 : x11_4 < (t216.length : Int) := of_decide_eq_true (by first | (with_reducible assumption) | assumption)
                     obtain ⟨ad222, e222, hx222_0, hx222_1⟩ := at_T71 (Kd.R_reads' HO_8.out).2.2 x11_4 p222 q222
                     obtain rfl : ad220 = ad222 := (by injection e222)
                     replace p222 := eq_true p222
                     replace q222 := eq_true q222
                     have p223 : 0 ≤ (x11_4 : Int) := of_decide_eq_true (by first | (with_reducible assumption) | assumption)
                     have q223 : x11_4 < (l1.length : Int) := of_decide_eq_true (by first | (with_reducible assumption) | assumption)
                     obtain ⟨ad223, e223, hx223_0⟩ := Kd.at_int HR1.out x11_4 p223 q223
                     cases e223
                     replace hx223_0 := (HB.out.cell (World.block_lt_of_cell? w _ hx223_0)).trans hx223_0
                     replace p223 := eq_true p223
                     replace q223 := eq_true q223
                     have p254 : 0 ≤ (x11_4 : Int) := of_decide_eq_true (by first | (with_reducible assumption) | assumption)
                     have q254 : x11_4 < (t216.length : Int) := of_decide_eq_true (by first | (with_reducible assumption) | assumption)
                     obtain ⟨ad254, e254, hx254_0, hx254_1⟩ := at_T71 (Kd.R_reads' HO_8.out).2.2 x11_4 p254 q254
                     obtain rfl : ad220 = ad254 := (by injection e254)
                     replace p254 := eq_true p254
                     replace q254 := eq_true q254
                     go_wp2
                     repeat (go_quiet (fail); try go_wp2)
                     go_roundg k4
                     case measure => have := HJ3.out; have := HK2.out; have := HJ19.out; have := HK4.out; omega
                     case rel => exact ⟨((rd_T71 t216 x11_4).f1), (wrap64 (x11_4 + 1)), (by first | rfl | (simp; done) | (simp [*]; done)), (by first | rfl | (simp; done) | (simp [*]; done)), H', ⟨by have := HJ3.out; have := HK2.out; have := HJ19.out; have := HK4.out; omega⟩, ⟨by (with_reducible repeat (first | apply Kd.R_alloc | apply Kd.R_drewN | apply Kd.R_drew)); exact HO_8.out⟩, ⟨by (repeat with_reducible first | refine XPrint.d1 ?_ | refine XPrint.d2 ?_ _ | refine XPrint.d3 ?_ _); exact BK211.out⟩, ⟨by exact XPrint.bz HB.out⟩⟩
                ·rw [if_neg c30] at H
                 exact absurd H (by simp)
               ·rw [if_neg c29] at H
                exact absurd H (by simp)
              ·rw [if_neg c28] at H
               exact absurd H (by simp)
             ·rw [if_neg c27] at H
              have c27b0 : decide (x11_4 < (t216.length : Int)) = false := decide_eq_false c27
              clear c27
              by_cases c74 : x10_4 = a0_1
              ·rw [if_pos c74] at H
               have c74b0 : (x10_4 == a0_1) = true := beq_iff_eq.mpr c74
               have c74b1 : (x10_4 != a0_1) = false := bne_eq_false_iff_eq.mpr c74
               clear c74
               have H' := XPrint.A0 H
               clear H
               obtain ⟨Ao75, co75, eo75⟩ := Kd.R_slice HO_8.out
               subst eo75
               have hcz76_0 : wr.cell? ⟨gb211, 0, none⟩ = some (.int .i64 a0_0) := (blk_cell BK211.out 0).trans rfl
               have hcz76_1 : wr.cell? ⟨gb211, 1, none⟩ = some (.int .i64 a0_1) := (blk_cell BK211.out 1).trans rfl
               have hfz76_0 := blk_frozen BK211.out 0
               have hfz76_1 := blk_frozen BK211.out 1
               go_wp2
               repeat (go_quiet (fail); try go_wp2)
               go_roundg k4
               case measure => have := HJ3.out; have := HK2.out; have := HJ19.out; have := HK4.out; omega
               case rel => exact ⟨((x7_2 + 1) % 256), (by first | rfl | (simp; done) | (simp [*]; done)), H', ⟨by have := HJ3.out; have := HK2.out; have := HJ19.out; have := HK4.out; omega⟩, ⟨by (repeat with_reducible first | refine XPrint.d1 ?_ | refine XPrint.d2 ?_ _ | refine XPrint.d3 ?_ _); exact BK211.out⟩, ⟨by exact XPrint.bz HB.out⟩⟩
              ·rw [if_neg c74] at H
               exact absurd H (by simp)
      ·rw [if_neg c12] at H
       have c12b0 : decide (x7_2 < 3) = false := decide_eq_false c12
       clear c12
       replace H := Option.bind_eq_some_iff.mp H
       obtain ⟨t215, A770, H⟩ := H
       try set_option simprocs false in dsimp only at H
       have A77 := XPrint.A0 A770
       clear A770
       obtain rfl := Option.some.inj H
       go_wp2_with (first | (go_at_call 46; (with_reducible refine (liverylaw18_head.calls k2  t215 _ A77.out).mono ?_); rintro e w78 ⟨rfl, hb⟩; replace BK211 := XPrint.A0 (XPrint.ab BK211.out hb); replace HB := XPrint.A0 (below_step (by exact XPrint.bz HB.out) hb); (try clear hb); (try clear hb2); (try clear hk); (try clear hi)))
       repeat (go_quiet (first | (go_at_call 46; (with_reducible refine (liverylaw18_head.calls k2  t215 _ A77.out).mono ?_); rintro e w78 ⟨rfl, hb⟩; replace BK211 := XPrint.A0 (XPrint.ab BK211.out hb); replace HB := XPrint.A0 (below_step (by exact XPrint.bz HB.out) hb); (try clear hb); (try clear hb2); (try clear hk); (try clear hi))); try go_wp2_with (first | (go_at_call 46; (with_reducible refine (liverylaw18_head.calls k2  t215 _ A77.out).mono ?_); rintro e w78 ⟨rfl, hb⟩; replace BK211 := XPrint.A0 (XPrint.ab BK211.out hb); replace HB := XPrint.A0 (below_step (by exact XPrint.bz HB.out) hb); (try clear hb); (try clear hb2); (try clear hk); (try clear hi))))
       go_ret
       exact ⟨by first | rfl | (simp [errW_none, errW_some] <;> rfl) | (simp [*, errW_none, errW_some] <;> rfl), by exact XPrint.bz HB.out⟩

end Go.Proofs.Ytkaokiiooakleaa.PStageWhole
