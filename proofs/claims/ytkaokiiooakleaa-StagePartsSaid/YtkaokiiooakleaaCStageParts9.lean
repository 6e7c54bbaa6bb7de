-- printed by this session's own driver over the kit's printer: Lean checks it
import Derived.Test.YtkaokiiooakleaaCStageParts0
import Derived.Test.YtkaokiiooakleaaCStageParts6
namespace Go.Proofs.Ytkaokiiooakleaa.PStageParts
open Go.RowKit Go.Proofs.YtkaokiiooakleaaW.PrintWords Go.Proofs.YtkaokiiooakleaaW.PrintLast Go.Proofs.YtkaokiiooakleaaW.PrintMore
attribute [local go_sem] max2_int min2_int max_two min_two max_three min_three max_four min_four   -- for this text's walks alone
set_option linter.unusedVariables false
set_option linter.unusedSimpArgs false

/-! ### shape_Check: function 33 -/
def shape_Check.f (a0_0 : Int) (a0_1 : Int) (l0_2 : List (S65)) : Option (Int × Int) := if a0_0 < 0 then (some ((-1), 82)) else (if a0_1 ≤ a0_0 then (some ((-1), 82)) else (if a0_1 > 1099511627776 then (some ((-1), 82)) else (if (wrap64 (a0_1 - a0_0)) > 4096 then (some ((-1), 82)) else ((shape_tree.f l0_2).bind fun bt130 => (some (bt130.1, bt130.2))))))
set_option maxHeartbeats 8000000 in
set_option maxRecDepth 100000 in
theorem shape_Check.calls (a0_0 : Int) (a0_1 : Int) (A0_2 : Option Addr) (c0_2 : Nat) (l0_2 : List (S65)) (r1 : Int) (r2 : Int) (w : World) (hr0_2 : Kd.C k65 w A0_2 l0_2.length l0_2) (hc0_2 : l0_2.length ≤ c0_2) (h : shape_Check.f a0_0 a0_1 l0_2 = some (r1, r2)) :
  Calls Try.prog 33 #[.agg #[.int .i64 a0_0, .int .i64 a0_1, .slice A0_2 l0_2.length c0_2]] w fun e w' => e = .returned (.tuple #[.int .i64 r1, .int .i64 r2]) ∧ Below w.heap.size w w' := by
 have hu50 := Try.underlying50
 have HR0_2 := XPrint.A0 hr0_2
 have HC0_2 := XPrint.A0 hc0_2
 clear hr0_2 hc0_2
 have HB := XPrint.A0 (Below.refl w.heap.size w)
 have H : (if a0_0 < 0 then (some ((-1), 82)) else (if a0_1 ≤ a0_0 then (some ((-1), 82)) else (if a0_1 > 1099511627776 then (some ((-1), 82)) else (if (wrap64 (a0_1 - a0_0)) > 4096 then (some ((-1), 82)) else ((shape_tree.f l0_2).bind fun bt130 => (some (bt130.1, bt130.2))))))) = some (r1, r2) := h
 clear h
 by_cases c2 : a0_0 < 0
 ·rw [if_pos c2] at H
  have c2b0 : decide (a0_0 < 0) = true := decide_eq_true c2
  clear c2
  simp only [Option.some.injEq, Prod.mk.injEq] at H
  obtain ⟨rfl, rfl⟩ := H
  go_enter Try.func33, Try.ntmps33
  go_wp2_with (first | ((with_reducible refine gate_dst (N := 1) rfl ?_); refine box_event ?hg (N := 1) ?hd (cs := #[.int .i64 a0_0, .int .i64 a0_1, .slice A0_2 l0_2.length c0_2]) (t := 50) ?hr ?_; (case hd => rfl); (case hg => rfl); (case hr => first | (go_simp; done) | (go_simp; rfl)); intro gb129 hg w3 hbox hb; have BK129 := XPrint.A0 (hbox); have GW129 := XPrint.A0 (XPrint.gz HB.out hg); have GE129 := XPrint.A0 (XPrint.gz HB.out hg); replace HB := XPrint.A0 (below_step (by exact XPrint.bz HB.out) hb); clear hb hbox hg; have hcz4_0 : w3.cell? ⟨gb129, 0, none⟩ = some (.int .i64 a0_0) := (blk_cell BK129.out 0).trans rfl; have hcz4_1 : w3.cell? ⟨gb129, 1, none⟩ = some (.int .i64 a0_1) := (blk_cell BK129.out 1).trans rfl; have hcz4_2 : w3.cell? ⟨gb129, 2, none⟩ = some (.slice A0_2 l0_2.length c0_2) := (blk_cell BK129.out 2).trans rfl; have hfz4_0 := blk_frozen BK129.out 0; have hfz4_1 := blk_frozen BK129.out 1; have hfz4_2 := blk_frozen BK129.out 2))
  go_ret2
  exact ⟨by first | rfl | (simp [errW_none, errW_some] <;> rfl) | (simp [*, errW_none, errW_some] <;> rfl), by exact XPrint.bz HB.out⟩
 ·rw [if_neg c2] at H
  have c2b0 : decide (a0_0 < 0) = false := decide_eq_false c2
  clear c2
  by_cases c5 : a0_1 ≤ a0_0
  ·rw [if_pos c5] at H
   have c5b0 : decide (a0_1 ≤ a0_0) = true := decide_eq_true c5
   clear c5
   simp only [Option.some.injEq, Prod.mk.injEq] at H
   obtain ⟨rfl, rfl⟩ := H
   go_enter Try.func33, Try.ntmps33
   go_wp2_with (first | ((with_reducible refine gate_dst (N := 1) rfl ?_); refine box_event ?hg (N := 1) ?hd (cs := #[.int .i64 a0_0, .int .i64 a0_1, .slice A0_2 l0_2.length c0_2]) (t := 50) ?hr ?_; (case hd => rfl); (case hg => rfl); (case hr => first | (go_simp; done) | (go_simp; rfl)); intro gb129 hg w6 hbox hb; have BK129 := XPrint.A0 (hbox); have GW129 := XPrint.A0 (XPrint.gz HB.out hg); have GE129 := XPrint.A0 (XPrint.gz HB.out hg); replace HB := XPrint.A0 (below_step (by exact XPrint.bz HB.out) hb); clear hb hbox hg; have hcz7_0 : w6.cell? ⟨gb129, 0, none⟩ = some (.int .i64 a0_0) := (blk_cell BK129.out 0).trans rfl; have hcz7_1 : w6.cell? ⟨gb129, 1, none⟩ = some (.int .i64 a0_1) := (blk_cell BK129.out 1).trans rfl; have hcz7_2 : w6.cell? ⟨gb129, 2, none⟩ = some (.slice A0_2 l0_2.length c0_2) := (blk_cell BK129.out 2).trans rfl; have hfz7_0 := blk_frozen BK129.out 0; have hfz7_1 := blk_frozen BK129.out 1; have hfz7_2 := blk_frozen BK129.out 2))
   go_ret2
   exact ⟨by first | rfl | (simp [errW_none, errW_some] <;> rfl) | (simp [*, errW_none, errW_some] <;> rfl), by exact XPrint.bz HB.out⟩
  ·rw [if_neg c5] at H
   have c5b0 : decide (a0_1 ≤ a0_0) = false := decide_eq_false c5
   clear c5
   by_cases c8 : a0_1 > 1099511627776
   ·rw [if_pos c8] at H
    have c8b0 : decide (1099511627776 < a0_1) = true := decide_eq_true c8
    clear c8
    simp only [Option.some.injEq, Prod.mk.injEq] at H
    obtain ⟨rfl, rfl⟩ := H
    go_enter Try.func33, Try.ntmps33
    go_wp2_with (first | ((with_reducible refine gate_dst (N := 1) rfl ?_); refine box_event ?hg (N := 1) ?hd (cs := #[.int .i64 a0_0, .int .i64 a0_1, .slice A0_2 l0_2.length c0_2]) (t := 50) ?hr ?_; (case hd => rfl); (case hg => rfl); (case hr => first | (go_simp; done) | (go_simp; rfl)); intro gb129 hg w9 hbox hb; have BK129 := XPrint.A0 (hbox); have GW129 := XPrint.A0 (XPrint.gz HB.out hg); have GE129 := XPrint.A0 (XPrint.gz HB.out hg); replace HB := XPrint.A0 (below_step (by exact XPrint.bz HB.out) hb); clear hb hbox hg; have hcz10_0 : w9.cell? ⟨gb129, 0, none⟩ = some (.int .i64 a0_0) := (blk_cell BK129.out 0).trans rfl; have hcz10_1 : w9.cell? ⟨gb129, 1, none⟩ = some (.int .i64 a0_1) := (blk_cell BK129.out 1).trans rfl; have hcz10_2 : w9.cell? ⟨gb129, 2, none⟩ = some (.slice A0_2 l0_2.length c0_2) := (blk_cell BK129.out 2).trans rfl; have hfz10_0 := blk_frozen BK129.out 0; have hfz10_1 := blk_frozen BK129.out 1; have hfz10_2 := blk_frozen BK129.out 2))
    go_ret2
    exact ⟨by first | rfl | (simp [errW_none, errW_some] <;> rfl) | (simp [*, errW_none, errW_some] <;> rfl), by exact XPrint.bz HB.out⟩
   ·rw [if_neg c8] at H
    have c8b0 : decide (1099511627776 < a0_1) = false := decide_eq_false c8
    clear c8
    by_cases c11 : (wrap64 (a0_1 - a0_0)) > 4096
    ·rw [if_pos c11] at H
     have c11b0 : decide (4096 < (wrap64 (a0_1 - a0_0))) = true := decide_eq_true c11
     clear c11
     simp only [Option.some.injEq, Prod.mk.injEq] at H
     obtain ⟨rfl, rfl⟩ := H
     go_enter Try.func33, Try.ntmps33
     go_wp2_with (first | ((with_reducible refine gate_dst (N := 1) rfl ?_); refine box_event ?hg (N := 1) ?hd (cs := #[.int .i64 a0_0, .int .i64 a0_1, .slice A0_2 l0_2.length c0_2]) (t := 50) ?hr ?_; (case hd => rfl); (case hg => rfl); (case hr => first | (go_simp; done) | (go_simp; rfl)); intro gb129 hg w12 hbox hb; have BK129 := XPrint.A0 (hbox); have GW129 := XPrint.A0 (XPrint.gz HB.out hg); have GE129 := XPrint.A0 (XPrint.gz HB.out hg); replace HB := XPrint.A0 (below_step (by exact XPrint.bz HB.out) hb); clear hb hbox hg; have hcz13_0 : w12.cell? ⟨gb129, 0, none⟩ = some (.int .i64 a0_0) := (blk_cell BK129.out 0).trans rfl; have hcz13_1 : w12.cell? ⟨gb129, 1, none⟩ = some (.int .i64 a0_1) := (blk_cell BK129.out 1).trans rfl; have hcz13_2 : w12.cell? ⟨gb129, 2, none⟩ = some (.slice A0_2 l0_2.length c0_2) := (blk_cell BK129.out 2).trans rfl; have hfz13_0 := blk_frozen BK129.out 0; have hfz13_1 := blk_frozen BK129.out 1; have hfz13_2 := blk_frozen BK129.out 2))
     go_ret2
     exact ⟨by first | rfl | (simp [errW_none, errW_some] <;> rfl) | (simp [*, errW_none, errW_some] <;> rfl), by exact XPrint.bz HB.out⟩
    ·rw [if_neg c11] at H
     have c11b0 : decide (4096 < (wrap64 (a0_1 - a0_0))) = false := decide_eq_false c11
     clear c11
     replace H := Option.bind_eq_some_iff.mp H
     obtain ⟨⟨t130, t131⟩, A140, H⟩ := H
     replace H : (some (t130, t131)) = some (r1, r2) := H
     have A14 := XPrint.A0 A140
     clear A140
     simp only [Option.some.injEq, Prod.mk.injEq] at H
     obtain ⟨rfl, rfl⟩ := H
     go_enter Try.func33, Try.ntmps33
     go_wp2_with (first | ((with_reducible refine gate_dst (N := 1) rfl ?_); refine box_event ?hg (N := 1) ?hd (cs := #[.int .i64 a0_0, .int .i64 a0_1, .slice A0_2 l0_2.length c0_2]) (t := 50) ?hr ?_; (case hd => rfl); (case hg => rfl); (case hr => first | (go_simp; done) | (go_simp; rfl)); intro gb129 hg w15 hbox hb; have BK129 := XPrint.A0 (hbox); have GW129 := XPrint.A0 (XPrint.gz HB.out hg); have GE129 := XPrint.A0 (XPrint.gz HB.out hg); replace HB := XPrint.A0 (below_step (by exact XPrint.bz HB.out) hb); clear hb hbox hg; have hcz16_0 : w15.cell? ⟨gb129, 0, none⟩ = some (.int .i64 a0_0) := (blk_cell BK129.out 0).trans rfl; have hcz16_1 : w15.cell? ⟨gb129, 1, none⟩ = some (.int .i64 a0_1) := (blk_cell BK129.out 1).trans rfl; have hcz16_2 : w15.cell? ⟨gb129, 2, none⟩ = some (.slice A0_2 l0_2.length c0_2) := (blk_cell BK129.out 2).trans rfl; have hfz16_0 := blk_frozen BK129.out 0; have hfz16_1 := blk_frozen BK129.out 1; have hfz16_2 := blk_frozen BK129.out 2) | ((with_reducible refine gate_callee (f := 66) rfl ?_); refine XPrint.gl (some 29) Try.func66 #[.slice A0_2 l0_2.length c0_2] ?_; (with_reducible refine (shape_tree.calls _ _ l0_2 t130 t131 _ ?side1 ?side2 A14.out).mono ?_); (case side1 => repeat (first | exact (Kd.C_below HR0_2.out HB.out) | (with_reducible refine Kd.C_alloc ?_ _) | (with_reducible refine Kd.C_drewN ?_ _) | (with_reducible refine Kd.C_drew ?_))); (case side2 => exact HC0_2.out); rintro e w17 ⟨rfl, hb⟩; refine ⟨_, rfl, ?_⟩; replace BK129 := XPrint.A0 (XPrint.ab BK129.out hb); replace HB := XPrint.A0 (below_step (by exact XPrint.bz HB.out) hb); (try clear hb); (try clear hb2); (try clear hk); (try clear hi)))
     go_ret2
     exact ⟨by first | rfl | (simp [errW_none, errW_some] <;> rfl) | (simp [*, errW_none, errW_some] <;> rfl), by exact XPrint.bz HB.out⟩

/-! ### sat_check_1: function 92 -/
def sat_check_1.f (a0_0 : Int) (a0_1 : Int) : Option (Bool) := if a0_1 < (-1099511627776) then (some true) else (some (decide (a0_1 > 1099511627776)))
set_option maxHeartbeats 8000000 in
set_option maxRecDepth 100000 in
theorem sat_check_1.calls (a0_0 : Int) (a0_1 : Int) (r : Bool) (w : World) (h : sat_check_1.f a0_0 a0_1 = some r) :
  Calls Try.prog 92 #[.agg #[.int .i64 a0_0, .int .i64 a0_1]] w fun e w' => e = .returned (.bool r) ∧ Below w.heap.size w w' := by
 have hu139 := Try.underlying139
 have HB := XPrint.A0 (Below.refl w.heap.size w)
 have H : (if a0_1 < (-1099511627776) then (some true) else (some (decide (a0_1 > 1099511627776)))) = some r := h
 clear h
 by_cases c2 : a0_1 < (-1099511627776)
 ·rw [if_pos c2] at H
  have c2b0 : decide (a0_1 < (-1099511627776)) = true := decide_eq_true c2
  clear c2
  obtain rfl := Option.some.inj H
  go_enter Try.func92, Try.ntmps92
  go_wp2_with (first | ((with_reducible refine gate_dst (N := 1) rfl ?_); refine box_event ?hg (N := 1) ?hd (cs := #[.int .i64 a0_0, .int .i64 a0_1]) (t := 139) ?hr ?_; (case hd => rfl); (case hg => rfl); (case hr => first | (go_simp; done) | (go_simp; rfl)); intro gb132 hg w3 hbox hb; have BK132 := XPrint.A0 (hbox); have GW132 := XPrint.A0 (XPrint.gz HB.out hg); have GE132 := XPrint.A0 (XPrint.gz HB.out hg); replace HB := XPrint.A0 (below_step (by exact XPrint.bz HB.out) hb); clear hb hbox hg; have hcz4_0 : w3.cell? ⟨gb132, 0, none⟩ = some (.int .i64 a0_0) := (blk_cell BK132.out 0).trans rfl; have hcz4_1 : w3.cell? ⟨gb132, 1, none⟩ = some (.int .i64 a0_1) := (blk_cell BK132.out 1).trans rfl; have hfz4_0 := blk_frozen BK132.out 0; have hfz4_1 := blk_frozen BK132.out 1))
  go_ret
  exact ⟨by first | rfl | (simp [errW_none, errW_some] <;> rfl) | (simp [*, errW_none, errW_some] <;> rfl), by exact XPrint.bz HB.out⟩
 ·rw [if_neg c2] at H
  have c2b0 : decide (a0_1 < (-1099511627776)) = false := decide_eq_false c2
  clear c2
  obtain rfl := Option.some.inj H
  go_enter Try.func92, Try.ntmps92
  go_wp2_with (first | ((with_reducible refine gate_dst (N := 1) rfl ?_); refine box_event ?hg (N := 1) ?hd (cs := #[.int .i64 a0_0, .int .i64 a0_1]) (t := 139) ?hr ?_; (case hd => rfl); (case hg => rfl); (case hr => first | (go_simp; done) | (go_simp; rfl)); intro gb132 hg w5 hbox hb; have BK132 := XPrint.A0 (hbox); have GW132 := XPrint.A0 (XPrint.gz HB.out hg); have GE132 := XPrint.A0 (XPrint.gz HB.out hg); replace HB := XPrint.A0 (below_step (by exact XPrint.bz HB.out) hb); clear hb hbox hg; have hcz6_0 : w5.cell? ⟨gb132, 0, none⟩ = some (.int .i64 a0_0) := (blk_cell BK132.out 0).trans rfl; have hcz6_1 : w5.cell? ⟨gb132, 1, none⟩ = some (.int .i64 a0_1) := (blk_cell BK132.out 1).trans rfl; have hfz6_0 := blk_frozen BK132.out 0; have hfz6_1 := blk_frozen BK132.out 1))
  go_ret
  exact ⟨by first | rfl | (simp [errW_none, errW_some] <;> rfl) | (simp [*, errW_none, errW_some] <;> rfl), by exact XPrint.bz HB.out⟩

/-! ### api_Piece_at_sat_check_1_10095: function 10095 -/
def api_Piece_at_sat_check_1_10095.l0 : Nat → List (S139) → Int → Int → Option (Int)
 | 0, _, _, _ => none
 | k + 1, x0, x7, x8 => if x8 < x7 then (if 0 ≤ x8 then (if x8 < (x0.length : Int) then ((sat_check_1.f ((rd_T139 x0 x8).f0) ((rd_T139 x0 x8).f1)).bind fun t134 => (if t134 = true then (some x8) else (api_Piece_at_sat_check_1_10095.l0 k x0 x7 (wrap64 (x8 + 1))))) else (none)) else (none)) else (some (-1))
def api_Piece_at_sat_check_1_10095.f (k : Nat) (l0 : List (S139))  : Option (Int) := api_Piece_at_sat_check_1_10095.l0 k l0 (l0.length : Int) 0
theorem api_Piece_at_sat_check_1_10095.mono_l : ∀ k, (∀ y0 y1 y2, LeO (api_Piece_at_sat_check_1_10095.l0 k y0 y1 y2) (api_Piece_at_sat_check_1_10095.l0 (k + 1) y0 y1 y2))
 | 0 => fun _ _ _ r h => by simp [api_Piece_at_sat_check_1_10095.l0] at h
 | k + 1 => by
  have ih0 := api_Piece_at_sat_check_1_10095.mono_l k
  ·intro y0 y1 y2
   unfold api_Piece_at_sat_check_1_10095.l0
   repeat' first
   | (with_reducible exact ih0 _ _ _)
   | (with_reducible exact LeO.refl _)
   | (with_reducible exact LeO.none _)
   | (with_reducible refine LeO.ite ?_ ?_)
   | (with_reducible refine LeO.bind ?_ (fun _ => ?_))
   | exact ih0 _ _ _
   | exact LeO.none _
   | refine LeO.ite ?_ ?_
   | refine LeO.bind ?_ (fun _ => ?_)
theorem api_Piece_at_sat_check_1_10095.mono : ∀ a0 k, LeO (api_Piece_at_sat_check_1_10095.f k a0) (api_Piece_at_sat_check_1_10095.f (k + 1) a0) := by
 intro a0 k
 have ih0 := api_Piece_at_sat_check_1_10095.mono_l k
 unfold api_Piece_at_sat_check_1_10095.f
 repeat' first
   | (with_reducible exact ih0 _ _ _)
   | (with_reducible exact LeO.refl _)
   | (with_reducible exact LeO.none _)
   | (with_reducible refine LeO.ite ?_ ?_)
   | (with_reducible refine LeO.bind ?_ (fun _ => ?_))
   | exact ih0 _ _ _
   | exact LeO.none _
   | refine LeO.ite ?_ ?_
   | refine LeO.bind ?_ (fun _ => ?_)
set_option maxHeartbeats 8000000 in
set_option maxRecDepth 100000 in
theorem api_Piece_at_sat_check_1_10095.calls (k : Nat) (A0 : Option Addr) (c0 : Nat) (l0 : List (S139))  (r : Int) (w : World) (hr0 : Kd.C k139 w A0 l0.length l0) (hc0 : l0.length ≤ c0) (h : api_Piece_at_sat_check_1_10095.f k l0 = some r) :
  Calls Try.prog 95 #[.slice A0 l0.length c0, .func (.func 92) #[] #[]] w fun e w' => e = .returned (.int .i64 r) ∧ Below w.heap.size w w' := by
 have hu139 := Try.underlying139
 have HR0 := XPrint.A0 hr0
 have HC0 := XPrint.A0 hc0
 clear hr0 hc0
 have HB := XPrint.A0 (Below.refl w.heap.size w)
 have H : (api_Piece_at_sat_check_1_10095.l0 k l0 (l0.length : Int) 0) = some r := h
 clear h
 have H' := XPrint.A0 H
 clear H
 go_enter Try.func95, Try.ntmps95
 go_wp2
 go_loopg [8] k (fun kq v8 w' => ∃ (x8_1 : Int), v8 = .int .i64 x8_1 ∧ Aside0 (api_Piece_at_sat_check_1_10095.l0 kq l0 (l0.length : Int) x8_1 = some r) ∧ Aside0 (kq ≤ k) ∧ Aside0 (Below w.heap.size w w'))
 case atStart => exact ⟨(0), (by first | rfl | (simp; done) | (simp [*]; done)), H', ⟨Nat.le_refl _⟩, ⟨by exact XPrint.bz HB.out⟩⟩
 case round =>
  clear H'
  try clear p2
  obtain ⟨x8_1, rfl, HA, HK1, HB⟩ := hrel
  cases gk with
  | zero => exact absurd HA.out (by simp [api_Piece_at_sat_check_1_10095.l0])
  | succ k1 =>
   have H := HA.out
   clear HA
   simp only [api_Piece_at_sat_check_1_10095.l0] at H
   by_cases c3 : x8_1 < (l0.length : Int)
   ·rw [if_pos c3] at H
    have c3b0 : decide (x8_1 < (l0.length : Int)) = true := decide_eq_true c3
    clear c3
    by_cases c4 : 0 ≤ x8_1
    ·rw [if_pos c4] at H
     have c4b0 : decide (0 ≤ x8_1) = true := decide_eq_true c4
     clear c4
     by_cases c5 : x8_1 < (l0.length : Int)
     ·rw [if_pos c5] at H
      have c5b0 : decide (x8_1 < (l0.length : Int)) = true := decide_eq_true c5
      clear c5
      replace H := Option.bind_eq_some_iff.mp H
      obtain ⟨t134, A60, H⟩ := H
      try set_option simprocs false in dsimp only at H
      have A6 := XPrint.A0 A60
      clear A60
      by_cases c7 : t134 = true
      ·subst c7
       have H1 := H; rw [if_pos rfl] at H1
       clear H
       have H := H1
       clear H1
       obtain rfl := Option.some.inj H
       have p133 : 0 ≤ (x8_1 : Int) := of_decide_eq_true (by first | (with_reducible assumption) | assumption)
       have q133 : x8_1 < (l0.length : Int) := of_decide_eq_true (by first | (with_reducible assumption) | assumption)
       obtain ⟨ad133, e133, hx133_0, hx133_1⟩ := at_T139 HR0.out x8_1 p133 q133
       cases e133
       replace hx133_0 := (HB.out.cell (World.block_lt_of_cell? w _ hx133_0)).trans hx133_0
       replace hx133_1 := (HB.out.cell (World.block_lt_of_cell? w _ hx133_1)).trans hx133_1
       replace p133 := eq_true p133
       replace q133 := eq_true q133
       go_wp2_with (first | ((with_reducible refine gate_dst (N := 16) rfl ?_); refine XPrint.goesLV_ (x := .tmp 11) (by rfl) (some 16) rfl rfl Try.func92 (by kernel_rfl) rfl #[.agg #[.int .i64 ((rd_T139 l0 x8_1).f0), .int .i64 ((rd_T139 l0 x8_1).f1)]] rfl (by (try simp only [List.map_toArray, List.map_cons, List.map_nil]); first | done | rfl | (simp only [List.length_drop, List.length_take]; rfl)) ?_; (with_reducible refine (sat_check_1.calls ((rd_T139 l0 x8_1).f0) ((rd_T139 l0 x8_1).f1) true _ A6.out).mono ?_); rintro e w8 ⟨rfl, hb⟩; refine ⟨_, rfl, ?_⟩; replace HB := XPrint.A0 (below_step (by exact XPrint.bz HB.out) hb); (try clear hb); (try clear hb2); (try clear hk); (try clear hi)))
       go_ret
       exact ⟨by first | rfl | (simp [errW_none, errW_some] <;> rfl) | (simp [*, errW_none, errW_some] <;> rfl), by exact XPrint.bz HB.out⟩
      ·replace c7 := Bool.eq_false_iff.mpr c7
       subst c7
       have H1 := H; rw [if_neg (show ¬ (false = true) by decide)] at H1
       clear H
       have H := H1
       clear H1
       have H' := XPrint.A0 H
       clear H
       have p133 : 0 ≤ (x8_1 : Int) := of_decide_eq_true (by first | (with_reducible assumption) | assumption)
       have q133 : x8_1 < (l0.length : Int) := of_decide_eq_true (by first | (with_reducible assumption) | assumption)
       obtain ⟨ad133, e133, hx133_0, hx133_1⟩ := at_T139 HR0.out x8_1 p133 q133
       cases e133
       replace hx133_0 := (HB.out.cell (World.block_lt_of_cell? w _ hx133_0)).trans hx133_0
       replace hx133_1 := (HB.out.cell (World.block_lt_of_cell? w _ hx133_1)).trans hx133_1
       replace p133 := eq_true p133
       replace q133 := eq_true q133
       go_wp2_with (first | ((with_reducible refine gate_dst (N := 16) rfl ?_); refine XPrint.goesLV_ (x := .tmp 11) (by rfl) (some 16) rfl rfl Try.func92 (by kernel_rfl) rfl #[.agg #[.int .i64 ((rd_T139 l0 x8_1).f0), .int .i64 ((rd_T139 l0 x8_1).f1)]] rfl (by (try simp only [List.map_toArray, List.map_cons, List.map_nil]); first | done | rfl | (simp only [List.length_drop, List.length_take]; rfl)) ?_; (with_reducible refine (sat_check_1.calls ((rd_T139 l0 x8_1).f0) ((rd_T139 l0 x8_1).f1) false _ A6.out).mono ?_); rintro e w9 ⟨rfl, hb⟩; refine ⟨_, rfl, ?_⟩; replace HB := XPrint.A0 (below_step (by exact XPrint.bz HB.out) hb); (try clear hb); (try clear hb2); (try clear hk); (try clear hi)))
       go_roundg k1
       case measure => have := HK1.out; omega
       case rel => exact ⟨(wrap64 (x8_1 + 1)), (by first | rfl | (simp; done) | (simp [*]; done)), H', ⟨by have := HK1.out; omega⟩, ⟨by exact XPrint.bz HB.out⟩⟩
     ·rw [if_neg c5] at H
      exact absurd H (by simp)
    ·rw [if_neg c4] at H
     exact absurd H (by simp)
   ·rw [if_neg c3] at H
    have c3b0 : decide (x8_1 < (l0.length : Int)) = false := decide_eq_false c3
    clear c3
    obtain rfl := Option.some.inj H
    go_wp2
    go_ret
    exact ⟨by first | rfl | (simp [errW_none, errW_some] <;> rfl) | (simp [*, errW_none, errW_some] <;> rfl), by exact XPrint.bz HB.out⟩

/-! ### api_Piece_at_sat_check_1_10091: function 10091 -/
def api_Piece_at_sat_check_1_10091.f (k : Nat) (l0 : List (S139))  : Option (Bool) := (api_Piece_at_sat_check_1_10095.f k l0).bind fun t135 => (some (decide (t135 ≥ 0)))
theorem api_Piece_at_sat_check_1_10091.mono : ∀ a0 k, LeO (api_Piece_at_sat_check_1_10091.f k a0) (api_Piece_at_sat_check_1_10091.f (k + 1) a0) := by
 intro a0 k
 unfold api_Piece_at_sat_check_1_10091.f
 repeat' first
   | (with_reducible exact api_Piece_at_sat_check_1_10095.mono _ _)
   | (with_reducible exact LeO.refl _)
   | (with_reducible exact LeO.none _)
   | (with_reducible refine LeO.ite ?_ ?_)
   | (with_reducible refine LeO.bind ?_ (fun _ => ?_))
   | exact api_Piece_at_sat_check_1_10095.mono _ _
   | exact LeO.none _
   | refine LeO.ite ?_ ?_
   | refine LeO.bind ?_ (fun _ => ?_)
set_option maxHeartbeats 8000000 in
set_option maxRecDepth 100000 in
theorem api_Piece_at_sat_check_1_10091.calls (k : Nat) (A0 : Option Addr) (c0 : Nat) (l0 : List (S139))  (r : Bool) (w : World) (hr0 : Kd.C k139 w A0 l0.length l0) (hc0 : l0.length ≤ c0) (h : api_Piece_at_sat_check_1_10091.f k l0 = some r) :
  Calls Try.prog 91 #[.slice A0 l0.length c0, .func (.func 92) #[] #[]] w fun e w' => e = .returned (.bool r) ∧ Below w.heap.size w w' := by
 have HR0 := XPrint.A0 hr0
 have HC0 := XPrint.A0 hc0
 clear hr0 hc0
 have HB := XPrint.A0 (Below.refl w.heap.size w)
 have H : ((api_Piece_at_sat_check_1_10095.f k l0).bind fun t135 => (some (decide (t135 ≥ 0)))) = some r := h
 clear h
 replace H := Option.bind_eq_some_iff.mp H
 obtain ⟨t135, A30, H⟩ := H
 try set_option simprocs false in dsimp only at H
 have A3 := XPrint.A0 A30
 clear A30
 obtain rfl := Option.some.inj H
 go_enter Try.func91, Try.ntmps91
 go_wp2_with (first | ((with_reducible refine gate_callee (f := 95) rfl ?_); refine XPrint.gl (some 7) Try.func95 #[.slice A0 l0.length c0, (.func (.func 92) #[] #[])] ?_; (with_reducible refine (api_Piece_at_sat_check_1_10095.calls k _ _ l0  t135 _ ?side1 ?side2 A3.out).mono ?_); (case side1 => repeat (first | exact HR0.out | (with_reducible refine Kd.C_alloc ?_ _) | (with_reducible refine Kd.C_drewN ?_ _) | (with_reducible refine Kd.C_drew ?_))); (case side2 => exact HC0.out); rintro e w4 ⟨rfl, hb⟩; refine ⟨_, rfl, ?_⟩; replace HB := XPrint.A0 (below_step (by exact XPrint.bz HB.out) hb); (try clear hb); (try clear hb2); (try clear hk); (try clear hi)))
 go_ret
 exact ⟨by first | rfl | (simp [errW_none, errW_some] <;> rfl) | (simp [*, errW_none, errW_some] <;> rfl), by exact XPrint.bz HB.out⟩

/-! ### sat_check: function 78 -/
mutual
def sat_check.j0 : Nat → List (S139) → Bool → Int → Int → List (S65) → Option (Int)
 | 0, _, _, _, _, _ => none
 | k + 1, x1, x9, x137000, x137001, x137002 => sat_check.l0 k x1 x9 x1 (x1.length : Int) 0 x137000 x137001 x137002
def sat_check.l0 : Nat → List (S139) → Bool → List (S139) → Int → Int → Int → Int → List (S65) → Option (Int)
 | 0, _, _, _, _, _, _, _, _ => none
 | k + 1, x1, x9, x29, x30, x31, x137000, x137001, x137002 => if x31 < x30 then (if 0 ≤ x31 then (if x31 < (x29.length : Int) then (if x9 = true then (sat_check.l0 k x1 true x29 x30 (wrap64 (x31 + 1)) x137000 x137001 x137002) else (if ((rd_T139 x29 x31).f0) < 0 then (sat_check.l0 k x1 true x29 x30 (wrap64 (x31 + 1)) x137000 x137001 x137002) else (if ((rd_T139 x29 x31).f0) ≥ (x137002.length : Int) then (sat_check.l0 k x1 true x29 x30 (wrap64 (x31 + 1)) x137000 x137001 x137002) else (if 0 ≤ ((rd_T139 x29 x31).f0) then (if ((rd_T139 x29 x31).f0) < (x137002.length : Int) then (if ((rd_T65 x137002 ((rd_T139 x29 x31).f0)).f0) = 0 then (if x31 > 0 then (if 0 ≤ (wrap64 (x31 - 1)) then (if (wrap64 (x31 - 1)) < (x1.length : Int) then (sat_check.l0 k x1 (decide (((rd_T139 x1 (wrap64 (x31 - 1))).f0) ≥ ((rd_T139 x29 x31).f0))) x29 x30 (wrap64 (x31 + 1)) x137000 x137001 x137002) else (none)) else (none)) else (sat_check.l0 k x1 false x29 x30 (wrap64 (x31 + 1)) x137000 x137001 x137002)) else (sat_check.l0 k x1 true x29 x30 (wrap64 (x31 + 1)) x137000 x137001 x137002)) else (none)) else (none))))) else (none)) else (none)) else ((api_Piece_at_sat_check_1_10091.f k x1).bind fun t143 => (if x9 = true then (some 2) else (if t143 = true then (some 10) else (some 0))))
end
def sat_check.f (k : Nat) (a0_0 : Int) (a0_1 : Int) (l0_2 : List (S65)) (l1 : List (S139)) (a2 : Int) : Option (Int) := (shape_Check.f a0_0 a0_1 l0_2).bind fun bt137 => (if bt137.2 = 0 then (if a2 < 0 then (sat_check.j0 k l1 true a0_0 a0_1 l0_2) else (sat_check.j0 k l1 (decide (a2 ≥ (l0_2.length : Int))) a0_0 a0_1 l0_2)) else (some 81))
theorem sat_check.mono_l : ∀ k, (∀ y0 y1 y2 y3 y4, LeO (sat_check.j0 k y0 y1 y2 y3 y4) (sat_check.j0 (k + 1) y0 y1 y2 y3 y4)) ∧ (∀ y0 y1 y2 y3 y4 y5 y6 y7, LeO (sat_check.l0 k y0 y1 y2 y3 y4 y5 y6 y7) (sat_check.l0 (k + 1) y0 y1 y2 y3 y4 y5 y6 y7))
 | 0 => ⟨fun _ _ _ _ _ r h => by simp [sat_check.j0] at h, fun _ _ _ _ _ _ _ _ r h => by simp [sat_check.l0] at h⟩
 | k + 1 => by
  obtain ⟨ih0, ih1⟩ := sat_check.mono_l k
  refine ⟨?_, ?_⟩
  ·intro y0 y1 y2 y3 y4
   unfold sat_check.j0
   repeat' first
   | (with_reducible exact ih0 _ _ _ _ _)
   | (with_reducible exact ih1 _ _ _ _ _ _ _ _)
   | (with_reducible exact api_Piece_at_sat_check_1_10091.mono _ _)
   | (with_reducible exact LeO.refl _)
   | (with_reducible exact LeO.none _)
   | (with_reducible refine LeO.ite ?_ ?_)
   | (with_reducible refine LeO.bind ?_ (fun _ => ?_))
   | exact ih0 _ _ _ _ _
   | exact ih1 _ _ _ _ _ _ _ _
   | exact api_Piece_at_sat_check_1_10091.mono _ _
   | exact LeO.none _
   | refine LeO.ite ?_ ?_
   | refine LeO.bind ?_ (fun _ => ?_)
  ·intro y0 y1 y2 y3 y4 y5 y6 y7
   unfold sat_check.l0
   repeat' first
   | (with_reducible exact ih0 _ _ _ _ _)
   | (with_reducible exact ih1 _ _ _ _ _ _ _ _)
   | (with_reducible exact api_Piece_at_sat_check_1_10091.mono _ _)
   | (with_reducible exact LeO.refl _)
   | (with_reducible exact LeO.none _)
   | (with_reducible refine LeO.ite ?_ ?_)
   | (with_reducible refine LeO.bind ?_ (fun _ => ?_))
   | exact ih0 _ _ _ _ _
   | exact ih1 _ _ _ _ _ _ _ _
   | exact api_Piece_at_sat_check_1_10091.mono _ _
   | exact LeO.none _
   | refine LeO.ite ?_ ?_
   | refine LeO.bind ?_ (fun _ => ?_)
theorem sat_check.mono : ∀ a0 a1 a2 a3 a4 k, LeO (sat_check.f k a0 a1 a2 a3 a4) (sat_check.f (k + 1) a0 a1 a2 a3 a4) := by
 intro a0 a1 a2 a3 a4 k
 obtain ⟨ih0, ih1⟩ := sat_check.mono_l k
 unfold sat_check.f
 repeat' first
   | (with_reducible exact ih0 _ _ _ _ _)
   | (with_reducible exact ih1 _ _ _ _ _ _ _ _)
   | (with_reducible exact api_Piece_at_sat_check_1_10091.mono _ _)
   | (with_reducible exact LeO.refl _)
   | (with_reducible exact LeO.none _)
   | (with_reducible refine LeO.ite ?_ ?_)
   | (with_reducible refine LeO.bind ?_ (fun _ => ?_))
   | exact ih0 _ _ _ _ _
   | exact ih1 _ _ _ _ _ _ _ _
   | exact api_Piece_at_sat_check_1_10091.mono _ _
   | exact LeO.none _
   | refine LeO.ite ?_ ?_
   | refine LeO.bind ?_ (fun _ => ?_)
set_option maxHeartbeats 8000000 in
set_option maxRecDepth 100000 in
theorem sat_check.calls (k : Nat) (a0_0 : Int) (a0_1 : Int) (A0_2 : Option Addr) (c0_2 : Nat) (l0_2 : List (S65)) (A1 : Option Addr) (c1 : Nat) (l1 : List (S139)) (a2 : Int) (r : Int) (w : World) (hr0_2 : Kd.C k65 w A0_2 l0_2.length l0_2) (hc0_2 : l0_2.length ≤ c0_2) (hr1 : Kd.C k139 w A1 l1.length l1) (hc1 : l1.length ≤ c1) (h : sat_check.f k a0_0 a0_1 l0_2 l1 a2 = some r) :
  Calls Try.prog 78 #[.agg #[.int .i64 a0_0, .int .i64 a0_1, .slice A0_2 l0_2.length c0_2], .slice A1 l1.length c1, .int .i64 a2] w fun e w' => e = .returned (.int .i64 r) ∧ Below w.heap.size w w' := by
 have hu50 := Try.underlying50
 have hu139 := Try.underlying139
 have HR0_2 := XPrint.A0 hr0_2
 have HC0_2 := XPrint.A0 hc0_2
 clear hr0_2 hc0_2
 have HR1 := XPrint.A0 hr1
 have HC1 := XPrint.A0 hc1
 clear hr1 hc1
 have HB := XPrint.A0 (Below.refl w.heap.size w)
 have H : ((shape_Check.f a0_0 a0_1 l0_2).bind fun bt137 => (if bt137.2 = 0 then (if a2 < 0 then (sat_check.j0 k l1 true a0_0 a0_1 l0_2) else (sat_check.j0 k l1 (decide (a2 ≥ (l0_2.length : Int))) a0_0 a0_1 l0_2)) else (some 81))) = some r := h
 clear h
 replace H := Option.bind_eq_some_iff.mp H
 obtain ⟨⟨t137, t138⟩, A40, H⟩ := H
 replace H : (if t138 = 0 then (if a2 < 0 then (sat_check.j0 k l1 true a0_0 a0_1 l0_2) else (sat_check.j0 k l1 (decide (a2 ≥ (l0_2.length : Int))) a0_0 a0_1 l0_2)) else (some 81)) = some r := H
 have A4 := XPrint.A0 A40
 clear A40
 by_cases c5 : t138 = 0
 ·rw [if_pos c5] at H
  have c5b0 : (t138 == 0) = true := beq_iff_eq.mpr c5
  have c5b1 : (t138 != 0) = false := bne_eq_false_iff_eq.mpr c5
  clear c5
  have HC6 := XPrint.A0 H
  clear H
  go_enter Try.func78, Try.ntmps78
  go_upto_region 4 with (first | ((with_reducible refine gate_dst (N := 3) rfl ?_); (try (refine gate_guard (by rfl) ?_; dsimp only)); refine box_event ?hg (N := 3) ?hd (cs := #[.int .i64 a0_0, .int .i64 a0_1, .slice A0_2 l0_2.length c0_2]) (t := 50) ?hr ?_; (case hd => rfl); (case hg => rfl); (case hr => first | (go_simp; done) | (go_simp; rfl)); intro gb136 hg w7 hbox hb; have n0_ := XPrint.A0 (below_step (by exact XPrint.bz HB.out) hb); have n1_ := XPrint.A0 (hbox); have n2_ := XPrint.A0 (XPrint.gz HB.out hg); have n3_ := XPrint.A0 (XPrint.gz HB.out hg); clear HB; have HB := n0_; have BK136 := n1_; have GW136 := n2_; have GE136 := n3_; clear n0_ n1_ n2_ n3_; clear hb hbox hg; have hcz8_0 : w7.cell? ⟨gb136, 0, none⟩ = some (.int .i64 a0_0) := (blk_cell BK136.out 0).trans rfl; have hcz8_1 : w7.cell? ⟨gb136, 1, none⟩ = some (.int .i64 a0_1) := (blk_cell BK136.out 1).trans rfl; have hcz8_2 : w7.cell? ⟨gb136, 2, none⟩ = some (.slice A0_2 l0_2.length c0_2) := (blk_cell BK136.out 2).trans rfl; have hfz8_0 := blk_frozen BK136.out 0; have hfz8_1 := blk_frozen BK136.out 1; have hfz8_2 := blk_frozen BK136.out 2) | (go_at_call 33; (with_reducible refine (shape_Check.calls a0_0 a0_1 _ _ l0_2 t137 t138 _ ?side1 ?side2 A4.out).mono ?_); (case side1 => repeat (first | exact (Kd.C_below HR0_2.out HB.out) | (with_reducible refine Kd.C_alloc ?_ _) | (with_reducible refine Kd.C_drewN ?_ _) | (with_reducible refine Kd.C_drew ?_))); (case side2 => exact HC0_2.out); rintro e w9 ⟨rfl, hb⟩; have n0_ := XPrint.A0 (XPrint.ab BK136.out hb); have n1_ := XPrint.A0 (below_step (by exact XPrint.bz HB.out) hb); clear BK136; clear HB; have BK136 := n0_; have HB := n1_; clear n0_ n1_; (try clear hb); (try clear hb2); (try clear hk); (try clear hi)))
  repeat (go_quiet (first | ((with_reducible refine gate_dst (N := 3) rfl ?_); (try (refine gate_guard (by rfl) ?_; dsimp only)); refine box_event ?hg (N := 3) ?hd (cs := #[.int .i64 a0_0, .int .i64 a0_1, .slice A0_2 l0_2.length c0_2]) (t := 50) ?hr ?_; (case hd => rfl); (case hg => rfl); (case hr => first | (go_simp; done) | (go_simp; rfl)); intro gb136 hg w7 hbox hb; have n0_ := XPrint.A0 (below_step (by exact XPrint.bz HB.out) hb); have n1_ := XPrint.A0 (hbox); have n2_ := XPrint.A0 (XPrint.gz HB.out hg); have n3_ := XPrint.A0 (XPrint.gz HB.out hg); clear HB; have HB := n0_; have BK136 := n1_; have GW136 := n2_; have GE136 := n3_; clear n0_ n1_ n2_ n3_; clear hb hbox hg; have hcz8_0 : w7.cell? ⟨gb136, 0, none⟩ = some (.int .i64 a0_0) := (blk_cell BK136.out 0).trans rfl; have hcz8_1 : w7.cell? ⟨gb136, 1, none⟩ = some (.int .i64 a0_1) := (blk_cell BK136.out 1).trans rfl; have hcz8_2 : w7.cell? ⟨gb136, 2, none⟩ = some (.slice A0_2 l0_2.length c0_2) := (blk_cell BK136.out 2).trans rfl; have hfz8_0 := blk_frozen BK136.out 0; have hfz8_1 := blk_frozen BK136.out 1; have hfz8_2 := blk_frozen BK136.out 2) | (go_at_call 33; (with_reducible refine (shape_Check.calls a0_0 a0_1 _ _ l0_2 t137 t138 _ ?side1 ?side2 A4.out).mono ?_); (case side1 => repeat (first | exact (Kd.C_below HR0_2.out HB.out) | (with_reducible refine Kd.C_alloc ?_ _) | (with_reducible refine Kd.C_drewN ?_ _) | (with_reducible refine Kd.C_drew ?_))); (case side2 => exact HC0_2.out); rintro e w9 ⟨rfl, hb⟩; have n0_ := XPrint.A0 (XPrint.ab BK136.out hb); have n1_ := XPrint.A0 (below_step (by exact XPrint.bz HB.out) hb); clear BK136; clear HB; have BK136 := n0_; have HB := n1_; clear n0_ n1_; (try clear hb); (try clear hb2); (try clear hk); (try clear hi))); go_upto_region 4 with (first | ((with_reducible refine gate_dst (N := 3) rfl ?_); (try (refine gate_guard (by rfl) ?_; dsimp only)); refine box_event ?hg (N := 3) ?hd (cs := #[.int .i64 a0_0, .int .i64 a0_1, .slice A0_2 l0_2.length c0_2]) (t := 50) ?hr ?_; (case hd => rfl); (case hg => rfl); (case hr => first | (go_simp; done) | (go_simp; rfl)); intro gb136 hg w7 hbox hb; have n0_ := XPrint.A0 (below_step (by exact XPrint.bz HB.out) hb); have n1_ := XPrint.A0 (hbox); have n2_ := XPrint.A0 (XPrint.gz HB.out hg); have n3_ := XPrint.A0 (XPrint.gz HB.out hg); clear HB; have HB := n0_; have BK136 := n1_; have GW136 := n2_; have GE136 := n3_; clear n0_ n1_ n2_ n3_; clear hb hbox hg; have hcz8_0 : w7.cell? ⟨gb136, 0, none⟩ = some (.int .i64 a0_0) := (blk_cell BK136.out 0).trans rfl; have hcz8_1 : w7.cell? ⟨gb136, 1, none⟩ = some (.int .i64 a0_1) := (blk_cell BK136.out 1).trans rfl; have hcz8_2 : w7.cell? ⟨gb136, 2, none⟩ = some (.slice A0_2 l0_2.length c0_2) := (blk_cell BK136.out 2).trans rfl; have hfz8_0 := blk_frozen BK136.out 0; have hfz8_1 := blk_frozen BK136.out 1; have hfz8_2 := blk_frozen BK136.out 2) | (go_at_call 33; (with_reducible refine (shape_Check.calls a0_0 a0_1 _ _ l0_2 t137 t138 _ ?side1 ?side2 A4.out).mono ?_); (case side1 => repeat (first | exact (Kd.C_below HR0_2.out HB.out) | (with_reducible refine Kd.C_alloc ?_ _) | (with_reducible refine Kd.C_drewN ?_ _) | (with_reducible refine Kd.C_drew ?_))); (case side2 => exact HC0_2.out); rintro e w9 ⟨rfl, hb⟩; have n0_ := XPrint.A0 (XPrint.ab BK136.out hb); have n1_ := XPrint.A0 (below_step (by exact XPrint.bz HB.out) hb); clear BK136; clear HB; have BK136 := n0_; have HB := n1_; clear n0_ n1_; (try clear hb); (try clear hb2); (try clear hk); (try clear hi))))
  (try simp only [XPrint.pw])
  go_cut [9] (fun v9 wc => ∃ (kq : Nat) (x9_5 : Bool), v9 = .bool x9_5 ∧ Aside0 (sat_check.j0 kq l1 x9_5 a0_0 a0_1 l0_2 = some r) ∧ Aside0 (kq ≤ k) ∧ Aside0 (wc.heap[gb136]? = some (.cells #[.int .i64 a0_0, .int .i64 a0_1, (.slice A0_2 l0_2.length c0_2)] 50 (0, 0))) ∧ Aside0 (Below w.heap.size w wc))
  case first =>
   have H := HC6.out
   clear HC6
   by_cases c10 : a2 < 0
   ·rw [if_pos c10] at H
    have c10b0 : decide (a2 < 0) = true := decide_eq_true c10
    clear c10
    (first | rw [c10b0] | (simp only [i64_w, i32_w]; rw [c10b0]) | skip)
    have H' := XPrint.A0 H
    clear H
    go_wp2
    repeat (go_quiet (fail); try go_wp2)
    go_meet
    case rel => exact ⟨_, (true), (by first | rfl | (simp; done) | (simp [*]; done)), H', ⟨by first | omega | exact Nat.le_refl _⟩, ⟨by (repeat with_reducible first | refine XPrint.d1 ?_ | refine XPrint.d2 ?_ _ | refine XPrint.d3 ?_ _); exact BK136.out⟩, ⟨by exact XPrint.bz HB.out⟩⟩
   ·rw [if_neg c10] at H
    have c10b0 : decide (a2 < 0) = false := decide_eq_false c10
    clear c10
    (first | rw [c10b0] | (simp only [i64_w, i32_w]; rw [c10b0]) | skip)
    have H' := XPrint.A0 H
    clear H
    have hcz11_0 : w9.cell? ⟨gb136, 0, none⟩ = some (.int .i64 a0_0) := (blk_cell BK136.out 0).trans rfl
    have hcz11_1 : w9.cell? ⟨gb136, 1, none⟩ = some (.int .i64 a0_1) := (blk_cell BK136.out 1).trans rfl
    have hcz11_2 : w9.cell? ⟨gb136, 2, none⟩ = some (.slice A0_2 l0_2.length c0_2) := (blk_cell BK136.out 2).trans rfl
    have hfz11_0 := blk_frozen BK136.out 0
    have hfz11_1 := blk_frozen BK136.out 1
    have hfz11_2 := blk_frozen BK136.out 2
    go_wp2
    repeat (go_quiet (fail); try go_wp2)
    go_meet
    case rel => exact ⟨_, (decide (a2 ≥ (l0_2.length : Int))), (by first | rfl | (simp; done) | (simp [*]; done)), H', ⟨by first | omega | exact Nat.le_refl _⟩, ⟨by (repeat with_reducible first | refine XPrint.d1 ?_ | refine XPrint.d2 ?_ _ | refine XPrint.d3 ?_ _); exact BK136.out⟩, ⟨by exact XPrint.bz HB.out⟩⟩
  case rest =>
   clear HC6
   try clear c1
   try clear p2
   try clear c5
   try clear c5b0
   try clear c5b1
   try clear c7
   try clear c10
   try clear c10b0
   try clear hcz11_0
   try clear hcz11_1
   try clear hcz11_2
   try clear hcz8_0
   try clear hcz8_1
   try clear hcz8_2
   try clear hfz11_0
   try clear hfz11_1
   try clear hfz11_2
   try clear hfz8_0
   try clear hfz8_1
   try clear hfz8_2
   obtain ⟨kq, x9_5, rfl, HA, HJ5, BK136, HB⟩ := hcut
   cases kq with
   | zero => exact absurd HA.out (by simp [sat_check.j0])
   | succ kj5 =>
    have H := HA.out
    clear HA
    simp only [sat_check.j0] at H
    have H' := XPrint.A0 H
    clear H
    go_wp2
    repeat (go_quiet (fail); try go_wp2)
    go_loopg [9, 31] kj5 (fun kq v9 v31 w' => ∃ (x9_2 : Bool) (x31_2 : Int), v9 = .bool x9_2 ∧ v31 = .int .i64 x31_2 ∧ Aside0 (sat_check.l0 kq l1 x9_2 l1 (l1.length : Int) x31_2 a0_0 a0_1 l0_2 = some r) ∧ Aside0 (kq ≤ kj5) ∧ Aside0 (w'.heap[gb136]? = some (.cells #[.int .i64 a0_0, .int .i64 a0_1, (.slice A0_2 l0_2.length c0_2)] 50 (0, 0))) ∧ Aside0 (Below w.heap.size w w'))
    case atStart => exact ⟨(x9_5), (0), (by first | rfl | (simp; done) | (simp [*]; done)), (by first | rfl | (simp; done) | (simp [*]; done)), H', ⟨Nat.le_refl _⟩, ⟨by (repeat with_reducible first | refine XPrint.d1 ?_ | refine XPrint.d2 ?_ _ | refine XPrint.d3 ?_ _); exact BK136.out⟩, ⟨by exact XPrint.bz HB.out⟩⟩
    case round =>
     clear H'
     try clear c1
     try clear p2
     try clear c5
     try clear c5b0
     try clear c5b1
     try clear c7
     try clear c10
     try clear c10b0
     try clear hcz11_0
     try clear hcz11_1
     try clear hcz11_2
     try clear hcz8_0
     try clear hcz8_1
     try clear hcz8_2
     try clear hfz11_0
     try clear hfz11_1
     try clear hfz11_2
     try clear hfz8_0
     try clear hfz8_1
     try clear hfz8_2
     try clear p2
     obtain ⟨x9_2, x31_2, rfl, rfl, HA, HK2, BK136, HB⟩ := hrel
     cases gk with
     | zero => exact absurd HA.out (by simp [sat_check.l0])
     | succ k2 =>
      have H := HA.out
      clear HA
      simp only [sat_check.l0] at H
      by_cases c12 : x31_2 < (l1.length : Int)
      ·rw [if_pos c12] at H
       have c12b0 : decide (x31_2 < (l1.length : Int)) = true := decide_eq_true c12
       clear c12
       by_cases c13 : 0 ≤ x31_2
       ·rw [if_pos c13] at H
        have c13b0 : decide (0 ≤ x31_2) = true := decide_eq_true c13
        clear c13
        by_cases c14 : x31_2 < (l1.length : Int)
        ·rw [if_pos c14] at H
         have c14b0 : decide (x31_2 < (l1.length : Int)) = true := decide_eq_true c14
         clear c14
         by_cases c15 : x9_2 = true
         ·subst c15
          have H1 := H; rw [if_pos rfl] at H1
          clear H
          have H := H1
          clear H1
          have H' := XPrint.A0 H
          clear H
          have p139 : 0 ≤ (x31_2 : Int) := of_decide_eq_true (by first | (with_reducible assumption) | assumption)
          have q139 : x31_2 < (l1.length : Int) := of_decide_eq_true (by first | (with_reducible assumption) | assumption)
          obtain ⟨ad139, e139, hx139_0, hx139_1⟩ := at_T139 HR1.out x31_2 p139 q139
          cases e139
          replace hx139_0 := (HB.out.cell (World.block_lt_of_cell? w _ hx139_0)).trans hx139_0
          replace hx139_1 := (HB.out.cell (World.block_lt_of_cell? w _ hx139_1)).trans hx139_1
          replace p139 := eq_true p139
          replace q139 := eq_true q139
          go_wp2_with (first | ((with_reducible refine gate_dst (N := 11) rfl ?_); (try (refine gate_guard (by rfl) ?_; dsimp only)); refine box_event ?hg (N := 11) ?hd (cs := #[.int .i64 0, .int .i64 0]) (t := 139) ?hr ?_; (case hd => rfl); (case hg => rfl); (case hr => first | (go_simp; done) | (go_simp; rfl)); intro gb140 hg w16 hbox hb; have BK140 := XPrint.A0 (hbox); have GW140 := XPrint.A0 (XPrint.gz HB.out hg); have GE140 := XPrint.A0 (XPrint.gz HB.out hg); have NB136_140 := XPrint.A1 (by rw [hg]; exact Nat.ne_of_lt (XPrint.al BK136.out) : gb136 ≠ gb140); have NB140_136 := XPrint.A1 (by rw [hg]; exact Nat.ne_of_gt (XPrint.al BK136.out) : gb140 ≠ gb136); replace BK136 := XPrint.A0 (XPrint.ab BK136.out hb); replace HB := XPrint.A0 (below_step (by exact XPrint.bz HB.out) hb); clear hb hbox hg; have hnb17 := NB140_136.out; have hnc17 := NB136_140.out; have hcz18_0 : w16.cell? ⟨gb140, 0, none⟩ = some (.int .i64 0) := (blk_cell BK140.out 0).trans rfl; have hcz18_1 : w16.cell? ⟨gb140, 1, none⟩ = some (.int .i64 0) := (blk_cell BK140.out 1).trans rfl; have hfz18_0 := blk_frozen BK140.out 0; have hfz18_1 := blk_frozen BK140.out 1))
          repeat (go_quiet (first | ((with_reducible refine gate_dst (N := 11) rfl ?_); (try (refine gate_guard (by rfl) ?_; dsimp only)); refine box_event ?hg (N := 11) ?hd (cs := #[.int .i64 0, .int .i64 0]) (t := 139) ?hr ?_; (case hd => rfl); (case hg => rfl); (case hr => first | (go_simp; done) | (go_simp; rfl)); intro gb140 hg w16 hbox hb; have BK140 := XPrint.A0 (hbox); have GW140 := XPrint.A0 (XPrint.gz HB.out hg); have GE140 := XPrint.A0 (XPrint.gz HB.out hg); have NB136_140 := XPrint.A1 (by rw [hg]; exact Nat.ne_of_lt (XPrint.al BK136.out) : gb136 ≠ gb140); have NB140_136 := XPrint.A1 (by rw [hg]; exact Nat.ne_of_gt (XPrint.al BK136.out) : gb140 ≠ gb136); replace BK136 := XPrint.A0 (XPrint.ab BK136.out hb); replace HB := XPrint.A0 (below_step (by exact XPrint.bz HB.out) hb); clear hb hbox hg; have hnb17 := NB140_136.out; have hnc17 := NB136_140.out; have hcz18_0 : w16.cell? ⟨gb140, 0, none⟩ = some (.int .i64 0) := (blk_cell BK140.out 0).trans rfl; have hcz18_1 : w16.cell? ⟨gb140, 1, none⟩ = some (.int .i64 0) := (blk_cell BK140.out 1).trans rfl; have hfz18_0 := blk_frozen BK140.out 0; have hfz18_1 := blk_frozen BK140.out 1)); try go_wp2_with (first | ((with_reducible refine gate_dst (N := 11) rfl ?_); (try (refine gate_guard (by rfl) ?_; dsimp only)); refine box_event ?hg (N := 11) ?hd (cs := #[.int .i64 0, .int .i64 0]) (t := 139) ?hr ?_; (case hd => rfl); (case hg => rfl); (case hr => first | (go_simp; done) | (go_simp; rfl)); intro gb140 hg w16 hbox hb; have BK140 := XPrint.A0 (hbox); have GW140 := XPrint.A0 (XPrint.gz HB.out hg); have GE140 := XPrint.A0 (XPrint.gz HB.out hg); have NB136_140 := XPrint.A1 (by rw [hg]; exact Nat.ne_of_lt (XPrint.al BK136.out) : gb136 ≠ gb140); have NB140_136 := XPrint.A1 (by rw [hg]; exact Nat.ne_of_gt (XPrint.al BK136.out) : gb140 ≠ gb136); replace BK136 := XPrint.A0 (XPrint.ab BK136.out hb); replace HB := XPrint.A0 (below_step (by exact XPrint.bz HB.out) hb); clear hb hbox hg; have hnb17 := NB140_136.out; have hnc17 := NB136_140.out; have hcz18_0 : w16.cell? ⟨gb140, 0, none⟩ = some (.int .i64 0) := (blk_cell BK140.out 0).trans rfl; have hcz18_1 : w16.cell? ⟨gb140, 1, none⟩ = some (.int .i64 0) := (blk_cell BK140.out 1).trans rfl; have hfz18_0 := blk_frozen BK140.out 0; have hfz18_1 := blk_frozen BK140.out 1)))
          go_roundg k2
          case measure => have := HJ5.out; have := HK2.out; omega
          case rel => exact ⟨(true), (wrap64 (x31_2 + 1)), (by first | rfl | (simp; done) | (simp [*]; done)), (by first | rfl | (simp; done) | (simp [*]; done)), H', ⟨by have := HJ5.out; have := HK2.out; omega⟩, ⟨by (repeat with_reducible first | refine XPrint.d1 ?_ | refine XPrint.d2 ?_ _ | refine XPrint.d3 ?_ _); refine blk_far ?_ NB136_140.out _; (repeat with_reducible first | refine XPrint.d1 ?_ | refine XPrint.d2 ?_ _ | refine XPrint.d3 ?_ _); refine blk_far ?_ NB136_140.out _; (repeat with_reducible first | refine XPrint.d1 ?_ | refine XPrint.d2 ?_ _ | refine XPrint.d3 ?_ _); exact BK136.out⟩, ⟨by repeat (first | (with_reducible first | exact HB.out | apply below_alloc | apply pw_below_drewN | apply below_drew1 | refine below_set ?_ GE136.out | refine below_set ?_ GE140.out) | exact HB.out)⟩⟩
         ·replace c15 := Bool.eq_false_iff.mpr c15
          subst c15
          have H1 := H; rw [if_neg (show ¬ (false = true) by decide)] at H1
          clear H
          have H := H1
          clear H1
          by_cases c19 : ((rd_T139 l1 x31_2).f0) < 0
          ·rw [if_pos c19] at H
           have c19b0 : decide (((rd_T139 l1 x31_2).f0) < 0) = true := decide_eq_true c19
           clear c19
           have H' := XPrint.A0 H
           clear H
           have p139 : 0 ≤ (x31_2 : Int) := of_decide_eq_true (by first | (with_reducible assumption) | assumption)
           have q139 : x31_2 < (l1.length : Int) := of_decide_eq_true (by first | (with_reducible assumption) | assumption)
           obtain ⟨ad139, e139, hx139_0, hx139_1⟩ := at_T139 HR1.out x31_2 p139 q139
           cases e139
           replace hx139_0 := (HB.out.cell (World.block_lt_of_cell? w _ hx139_0)).trans hx139_0
           replace hx139_1 := (HB.out.cell (World.block_lt_of_cell? w _ hx139_1)).trans hx139_1
           replace p139 := eq_true p139
           replace q139 := eq_true q139
           go_wp2_with (first | ((with_reducible refine gate_dst (N := 11) rfl ?_); (try (refine gate_guard (by rfl) ?_; dsimp only)); refine box_event ?hg (N := 11) ?hd (cs := #[.int .i64 0, .int .i64 0]) (t := 139) ?hr ?_; (case hd => rfl); (case hg => rfl); (case hr => first | (go_simp; done) | (go_simp; rfl)); intro gb140 hg w20 hbox hb; have BK140 := XPrint.A0 (hbox); have GW140 := XPrint.A0 (XPrint.gz HB.out hg); have GE140 := XPrint.A0 (XPrint.gz HB.out hg); have NB136_140 := XPrint.A1 (by rw [hg]; exact Nat.ne_of_lt (XPrint.al BK136.out) : gb136 ≠ gb140); have NB140_136 := XPrint.A1 (by rw [hg]; exact Nat.ne_of_gt (XPrint.al BK136.out) : gb140 ≠ gb136); replace BK136 := XPrint.A0 (XPrint.ab BK136.out hb); replace HB := XPrint.A0 (below_step (by exact XPrint.bz HB.out) hb); clear hb hbox hg; have hnb21 := NB140_136.out; have hnc21 := NB136_140.out; have hcz22_0 : w20.cell? ⟨gb140, 0, none⟩ = some (.int .i64 0) := (blk_cell BK140.out 0).trans rfl; have hcz22_1 : w20.cell? ⟨gb140, 1, none⟩ = some (.int .i64 0) := (blk_cell BK140.out 1).trans rfl; have hfz22_0 := blk_frozen BK140.out 0; have hfz22_1 := blk_frozen BK140.out 1))
           repeat (go_quiet (first | ((with_reducible refine gate_dst (N := 11) rfl ?_); (try (refine gate_guard (by rfl) ?_; dsimp only)); refine box_event ?hg (N := 11) ?hd (cs := #[.int .i64 0, .int .i64 0]) (t := 139) ?hr ?_; (case hd => rfl); (case hg => rfl); (case hr => first | (go_simp; done) | (go_simp; rfl)); intro gb140 hg w20 hbox hb; have BK140 := XPrint.A0 (hbox); have GW140 := XPrint.A0 (XPrint.gz HB.out hg); have GE140 := XPrint.A0 (XPrint.gz HB.out hg); have NB136_140 := XPrint.A1 (by rw [hg]; exact Nat.ne_of_lt (XPrint.al BK136.out) : gb136 ≠ gb140); have NB140_136 := XPrint.A1 (by rw [hg]; exact Nat.ne_of_gt (XPrint.al BK136.out) : gb140 ≠ gb136); replace BK136 := XPrint.A0 (XPrint.ab BK136.out hb); replace HB := XPrint.A0 (below_step (by exact XPrint.bz HB.out) hb); clear hb hbox hg; have hnb21 := NB140_136.out; have hnc21 := NB136_140.out; have hcz22_0 : w20.cell? ⟨gb140, 0, none⟩ = some (.int .i64 0) := (blk_cell BK140.out 0).trans rfl; have hcz22_1 : w20.cell? ⟨gb140, 1, none⟩ = some (.int .i64 0) := (blk_cell BK140.out 1).trans rfl; have hfz22_0 := blk_frozen BK140.out 0; have hfz22_1 := blk_frozen BK140.out 1)); try go_wp2_with (first | ((with_reducible refine gate_dst (N := 11) rfl ?_); (try (refine gate_guard (by rfl) ?_; dsimp only)); refine box_event ?hg (N := 11) ?hd (cs := #[.int .i64 0, .int .i64 0]) (t := 139) ?hr ?_; (case hd => rfl); (case hg => rfl); (case hr => first | (go_simp; done) | (go_simp; rfl)); intro gb140 hg w20 hbox hb; have BK140 := XPrint.A0 (hbox); have GW140 := XPrint.A0 (XPrint.gz HB.out hg); have GE140 := XPrint.A0 (XPrint.gz HB.out hg); have NB136_140 := XPrint.A1 (by rw [hg]; exact Nat.ne_of_lt (XPrint.al BK136.out) : gb136 ≠ gb140); have NB140_136 := XPrint.A1 (by rw [hg]; exact Nat.ne_of_gt (XPrint.al BK136.out) : gb140 ≠ gb136); replace BK136 := XPrint.A0 (XPrint.ab BK136.out hb); replace HB := XPrint.A0 (below_step (by exact XPrint.bz HB.out) hb); clear hb hbox hg; have hnb21 := NB140_136.out; have hnc21 := NB136_140.out; have hcz22_0 : w20.cell? ⟨gb140, 0, none⟩ = some (.int .i64 0) := (blk_cell BK140.out 0).trans rfl; have hcz22_1 : w20.cell? ⟨gb140, 1, none⟩ = some (.int .i64 0) := (blk_cell BK140.out 1).trans rfl; have hfz22_0 := blk_frozen BK140.out 0; have hfz22_1 := blk_frozen BK140.out 1)))
           go_roundg k2
           case measure => have := HJ5.out; have := HK2.out; omega
           case rel => exact ⟨(true), (wrap64 (x31_2 + 1)), (by first | rfl | (simp; done) | (simp [*]; done)), (by first | rfl | (simp; done) | (simp [*]; done)), H', ⟨by have := HJ5.out; have := HK2.out; omega⟩, ⟨by (repeat with_reducible first | refine XPrint.d1 ?_ | refine XPrint.d2 ?_ _ | refine XPrint.d3 ?_ _); refine blk_far ?_ NB136_140.out _; (repeat with_reducible first | refine XPrint.d1 ?_ | refine XPrint.d2 ?_ _ | refine XPrint.d3 ?_ _); refine blk_far ?_ NB136_140.out _; (repeat with_reducible first | refine XPrint.d1 ?_ | refine XPrint.d2 ?_ _ | refine XPrint.d3 ?_ _); exact BK136.out⟩, ⟨by repeat (first | (with_reducible first | exact HB.out | apply below_alloc | apply pw_below_drewN | apply below_drew1 | refine below_set ?_ GE136.out | refine below_set ?_ GE140.out) | exact HB.out)⟩⟩
          ·rw [if_neg c19] at H
           have c19b0 : decide (((rd_T139 l1 x31_2).f0) < 0) = false := decide_eq_false c19
           clear c19
           by_cases c23 : ((rd_T139 l1 x31_2).f0) ≥ (l0_2.length : Int)
           ·rw [if_pos c23] at H
            have c23b0 : decide ((l0_2.length : Int) ≤ ((rd_T139 l1 x31_2).f0)) = true := decide_eq_true c23
            clear c23
            have H' := XPrint.A0 H
            clear H
            have p139 : 0 ≤ (x31_2 : Int) := of_decide_eq_true (by first | (with_reducible assumption) | assumption)
            have q139 : x31_2 < (l1.length : Int) := of_decide_eq_true (by first | (with_reducible assumption) | assumption)
            obtain ⟨ad139, e139, hx139_0, hx139_1⟩ := at_T139 HR1.out x31_2 p139 q139
            cases e139
            replace hx139_0 := (HB.out.cell (World.block_lt_of_cell? w _ hx139_0)).trans hx139_0
            replace hx139_1 := (HB.out.cell (World.block_lt_of_cell? w _ hx139_1)).trans hx139_1
            replace p139 := eq_true p139
            replace q139 := eq_true q139
            go_wp2_with (first | ((with_reducible refine gate_dst (N := 11) rfl ?_); (try (refine gate_guard (by rfl) ?_; dsimp only)); refine box_event ?hg (N := 11) ?hd (cs := #[.int .i64 0, .int .i64 0]) (t := 139) ?hr ?_; (case hd => rfl); (case hg => rfl); (case hr => first | (go_simp; done) | (go_simp; rfl)); intro gb140 hg w24 hbox hb; have BK140 := XPrint.A0 (hbox); have GW140 := XPrint.A0 (XPrint.gz HB.out hg); have GE140 := XPrint.A0 (XPrint.gz HB.out hg); have NB136_140 := XPrint.A1 (by rw [hg]; exact Nat.ne_of_lt (XPrint.al BK136.out) : gb136 ≠ gb140); have NB140_136 := XPrint.A1 (by rw [hg]; exact Nat.ne_of_gt (XPrint.al BK136.out) : gb140 ≠ gb136); replace BK136 := XPrint.A0 (XPrint.ab BK136.out hb); replace HB := XPrint.A0 (below_step (by exact XPrint.bz HB.out) hb); clear hb hbox hg; have hnb25 := NB140_136.out; have hnc25 := NB136_140.out; have hcz26_0 : w24.cell? ⟨gb140, 0, none⟩ = some (.int .i64 0) := (blk_cell BK140.out 0).trans rfl; have hcz26_1 : w24.cell? ⟨gb140, 1, none⟩ = some (.int .i64 0) := (blk_cell BK140.out 1).trans rfl; have hfz26_0 := blk_frozen BK140.out 0; have hfz26_1 := blk_frozen BK140.out 1; have hcz27_0 : w24.cell? ⟨gb136, 0, none⟩ = some (.int .i64 a0_0) := (blk_cell BK136.out 0).trans rfl; have hcz27_1 : w24.cell? ⟨gb136, 1, none⟩ = some (.int .i64 a0_1) := (blk_cell BK136.out 1).trans rfl; have hcz27_2 : w24.cell? ⟨gb136, 2, none⟩ = some (.slice A0_2 l0_2.length c0_2) := (blk_cell BK136.out 2).trans rfl; have hfz27_0 := blk_frozen BK136.out 0; have hfz27_1 := blk_frozen BK136.out 1; have hfz27_2 := blk_frozen BK136.out 2))
            repeat (go_quiet (first | ((with_reducible refine gate_dst (N := 11) rfl ?_); (try (refine gate_guard (by rfl) ?_; dsimp only)); refine box_event ?hg (N := 11) ?hd (cs := #[.int .i64 0, .int .i64 0]) (t := 139) ?hr ?_; (case hd => rfl); (case hg => rfl); (case hr => first | (go_simp; done) | (go_simp; rfl)); intro gb140 hg w24 hbox hb; have BK140 := XPrint.A0 (hbox); have GW140 := XPrint.A0 (XPrint.gz HB.out hg); have GE140 := XPrint.A0 (XPrint.gz HB.out hg); have NB136_140 := XPrint.A1 (by rw [hg]; exact Nat.ne_of_lt (XPrint.al BK136.out) : gb136 ≠ gb140); have NB140_136 := XPrint.A1 (by rw [hg]; exact Nat.ne_of_gt (XPrint.al BK136.out) : gb140 ≠ gb136); replace BK136 := XPrint.A0 (XPrint.ab BK136.out hb); replace HB := XPrint.A0 (below_step (by exact XPrint.bz HB.out) hb); clear hb hbox hg; have hnb25 := NB140_136.out; have hnc25 := NB136_140.out; have hcz26_0 : w24.cell? ⟨gb140, 0, none⟩ = some (.int .i64 0) := (blk_cell BK140.out 0).trans rfl; have hcz26_1 : w24.cell? ⟨gb140, 1, none⟩ = some (.int .i64 0) := (blk_cell BK140.out 1).trans rfl; have hfz26_0 := blk_frozen BK140.out 0; have hfz26_1 := blk_frozen BK140.out 1; have hcz27_0 : w24.cell? ⟨gb136, 0, none⟩ = some (.int .i64 a0_0) := (blk_cell BK136.out 0).trans rfl; have hcz27_1 : w24.cell? ⟨gb136, 1, none⟩ = some (.int .i64 a0_1) := (blk_cell BK136.out 1).trans rfl; have hcz27_2 : w24.cell? ⟨gb136, 2, none⟩ = some (.slice A0_2 l0_2.length c0_2) := (blk_cell BK136.out 2).trans rfl; have hfz27_0 := blk_frozen BK136.out 0; have hfz27_1 := blk_frozen BK136.out 1; have hfz27_2 := blk_frozen BK136.out 2)); try go_wp2_with (first | ((with_reducible refine gate_dst (N := 11) rfl ?_); (try (refine gate_guard (by rfl) ?_; dsimp only)); refine box_event ?hg (N := 11) ?hd (cs := #[.int .i64 0, .int .i64 0]) (t := 139) ?hr ?_; (case hd => rfl); (case hg => rfl); (case hr => first | (go_simp; done) | (go_simp; rfl)); intro gb140 hg w24 hbox hb; have BK140 := XPrint.A0 (hbox); have GW140 := XPrint.A0 (XPrint.gz HB.out hg); have GE140 := XPrint.A0 (XPrint.gz HB.out hg); have NB136_140 := XPrint.A1 (by rw [hg]; exact Nat.ne_of_lt (XPrint.al BK136.out) : gb136 ≠ gb140); have NB140_136 := XPrint.A1 (by rw [hg]; exact Nat.ne_of_gt (XPrint.al BK136.out) : gb140 ≠ gb136); replace BK136 := XPrint.A0 (XPrint.ab BK136.out hb); replace HB := XPrint.A0 (below_step (by exact XPrint.bz HB.out) hb); clear hb hbox hg; have hnb25 := NB140_136.out; have hnc25 := NB136_140.out; have hcz26_0 : w24.cell? ⟨gb140, 0, none⟩ = some (.int .i64 0) := (blk_cell BK140.out 0).trans rfl; have hcz26_1 : w24.cell? ⟨gb140, 1, none⟩ = some (.int .i64 0) := (blk_cell BK140.out 1).trans rfl; have hfz26_0 := blk_frozen BK140.out 0; have hfz26_1 := blk_frozen BK140.out 1; have hcz27_0 : w24.cell? ⟨gb136, 0, none⟩ = some (.int .i64 a0_0) := (blk_cell BK136.out 0).trans rfl; have hcz27_1 : w24.cell? ⟨gb136, 1, none⟩ = some (.int .i64 a0_1) := (blk_cell BK136.out 1).trans rfl; have hcz27_2 : w24.cell? ⟨gb136, 2, none⟩ = some (.slice A0_2 l0_2.length c0_2) := (blk_cell BK136.out 2).trans rfl; have hfz27_0 := blk_frozen BK136.out 0; have hfz27_1 := blk_frozen BK136.out 1; have hfz27_2 := blk_frozen BK136.out 2)))
            go_roundg k2
            case measure => have := HJ5.out; have := HK2.out; omega
            case rel => exact ⟨(true), (wrap64 (x31_2 + 1)), (by first | rfl | (simp; done) | (simp [*]; done)), (by first | rfl | (simp; done) | (simp [*]; done)), H', ⟨by have := HJ5.out; have := HK2.out; omega⟩, ⟨by (repeat with_reducible first | refine XPrint.d1 ?_ | refine XPrint.d2 ?_ _ | refine XPrint.d3 ?_ _); refine blk_far ?_ NB136_140.out _; (repeat with_reducible first | refine XPrint.d1 ?_ | refine XPrint.d2 ?_ _ | refine XPrint.d3 ?_ _); refine blk_far ?_ NB136_140.out _; (repeat with_reducible first | refine XPrint.d1 ?_ | refine XPrint.d2 ?_ _ | refine XPrint.d3 ?_ _); exact BK136.out⟩, ⟨by repeat (first | (with_reducible first | exact HB.out | apply below_alloc | apply pw_below_drewN | apply below_drew1 | refine below_set ?_ GE136.out | refine below_set ?_ GE140.out) | exact HB.out)⟩⟩
           ·rw [if_neg c23] at H
            have c23b0 : decide ((l0_2.length : Int) ≤ ((rd_T139 l1 x31_2).f0)) = false := decide_eq_false c23
            clear c23
            by_cases c28 : 0 ≤ ((rd_T139 l1 x31_2).f0)
            ·rw [if_pos c28] at H
             have c28b0 : decide (0 ≤ ((rd_T139 l1 x31_2).f0)) = true := decide_eq_true c28
             clear c28
             by_cases c29 : ((rd_T139 l1 x31_2).f0) < (l0_2.length : Int)
             ·rw [if_pos c29] at H
              have c29b0 : decide (((rd_T139 l1 x31_2).f0) < (l0_2.length : Int)) = true := decide_eq_true c29
              clear c29
              by_cases c30 : ((rd_T65 l0_2 ((rd_T139 l1 x31_2).f0)).f0) = 0
              ·rw [if_pos c30] at H
               have c30b0 : (((rd_T65 l0_2 ((rd_T139 l1 x31_2).f0)).f0) == 0) = true := beq_iff_eq.mpr c30
               have c30b1 : (((rd_T65 l0_2 ((rd_T139 l1 x31_2).f0)).f0) != 0) = false := bne_eq_false_iff_eq.mpr c30
               clear c30
               by_cases c31 : x31_2 > 0
               ·rw [if_pos c31] at H
                have c31b0 : decide (0 < x31_2) = true := decide_eq_true c31
                clear c31
                obtain ⟨ji32, hji32⟩ : ∃ j_ : Int, (wrap64 (x31_2 - 1)) = j_ := ⟨_, rfl⟩
                replace H : (if 0 ≤ (ji32) then (if (ji32) < (l1.length : Int) then (sat_check.l0 k2 l1 (decide (((rd_T139 l1 (ji32)).f0) ≥ ((rd_T139 l1 x31_2).f0))) l1 (l1.length : Int) (wrap64 (x31_2 + 1)) a0_0 a0_1 l0_2) else (none)) else (none)) = some r := by first | (rw [hji32] at H; exact H) | (simp only [hji32] at H ⊢; exact H)
                have hji32w : (IntKind.i64.wrap (x31_2 - 1)) = ji32 := (i64_w _).trans hji32
                by_cases c33 : 0 ≤ (ji32)
                ·rw [if_pos c33] at H
                 have c33b0 : decide (0 ≤ (ji32)) = true := decide_eq_true c33
                 clear c33
                 by_cases c34 : (ji32) < (l1.length : Int)
                 ·rw [if_pos c34] at H
                  have c34b0 : decide ((ji32) < (l1.length : Int)) = true := decide_eq_true c34
                  clear c34
                  have H' := XPrint.A0 H
                  clear H
                  have p139 : 0 ≤ (x31_2 : Int) := of_decide_eq_true (by first | (with_reducible assumption) | assumption)
                  have q139 : x31_2 < (l1.length : Int) := of_decide_eq_true (by first | (with_reducible assumption) | assumption)
                  obtain ⟨ad139, e139, hx139_0, hx139_1⟩ := at_T139 HR1.out x31_2 p139 q139
                  cases e139
                  replace hx139_0 := (HB.out.cell (World.block_lt_of_cell? w _ hx139_0)).trans hx139_0
                  replace hx139_1 := (HB.out.cell (World.block_lt_of_cell? w _ hx139_1)).trans hx139_1
                  replace p139 := eq_true p139
                  replace q139 := eq_true q139
                  go_wp2_with (first | ((with_reducible refine gate_dst (N := 11) rfl ?_); (try (refine gate_guard (by rfl) ?_; dsimp only)); refine box_event ?hg (N := 11) ?hd (cs := #[.int .i64 0, .int .i64 0]) (t := 139) ?hr ?_; (case hd => rfl); (case hg => rfl); (case hr => first | (go_simp; done) | (go_simp; rfl)); intro gb140 hg w35 hbox hb; have BK140 := XPrint.A0 (hbox); have GW140 := XPrint.A0 (XPrint.gz HB.out hg); have GE140 := XPrint.A0 (XPrint.gz HB.out hg); have NB136_140 := XPrint.A1 (by rw [hg]; exact Nat.ne_of_lt (XPrint.al BK136.out) : gb136 ≠ gb140); have NB140_136 := XPrint.A1 (by rw [hg]; exact Nat.ne_of_gt (XPrint.al BK136.out) : gb140 ≠ gb136); replace BK136 := XPrint.A0 (XPrint.ab BK136.out hb); replace HB := XPrint.A0 (below_step (by exact XPrint.bz HB.out) hb); clear hb hbox hg; have hnb36 := NB140_136.out; have hnc36 := NB136_140.out; have hcz37_0 : w35.cell? ⟨gb140, 0, none⟩ = some (.int .i64 0) := (blk_cell BK140.out 0).trans rfl; have hcz37_1 : w35.cell? ⟨gb140, 1, none⟩ = some (.int .i64 0) := (blk_cell BK140.out 1).trans rfl; have hfz37_0 := blk_frozen BK140.out 0; have hfz37_1 := blk_frozen BK140.out 1; have hcz38_0 : w35.cell? ⟨gb136, 0, none⟩ = some (.int .i64 a0_0) := (blk_cell BK136.out 0).trans rfl; have hcz38_1 : w35.cell? ⟨gb136, 1, none⟩ = some (.int .i64 a0_1) := (blk_cell BK136.out 1).trans rfl; have hcz38_2 : w35.cell? ⟨gb136, 2, none⟩ = some (.slice A0_2 l0_2.length c0_2) := (blk_cell BK136.out 2).trans rfl; have hfz38_0 := blk_frozen BK136.out 0; have hfz38_1 := blk_frozen BK136.out 1; have hfz38_2 := blk_frozen BK136.out 2; have p141 : 0 ≤ (((rd_T139 l1 x31_2).f0) : Int) := of_decide_eq_true (by first | (with_reducible assumption) | assumption); have q141 : ((rd_T139 l1 x31_2).f0) < (l0_2.length : Int) := of_decide_eq_true (by first | (with_reducible assumption) | assumption); obtain ⟨ad141, e141, hx141_0, hx141_1, hx141_2, hx141_3, hx141_4⟩ := at_T65 HR0_2.out ((rd_T139 l1 x31_2).f0) p141 q141; cases e141; have hn141_0 : ad141.block ≠ gb140 := Nat.ne_of_lt (Nat.lt_of_lt_of_le (by have := World.block_lt_of_cell? _ _ hx141_0; first | rwa [add_block] at this | exact this) GW140.out); have hn141_1 : ad141.block ≠ gb140 := Nat.ne_of_lt (Nat.lt_of_lt_of_le (by have := World.block_lt_of_cell? _ _ hx141_0; first | rwa [add_block] at this | exact this) GW140.out); replace hx141_0 := (HB.out.cell (World.block_lt_of_cell? w _ hx141_0)).trans hx141_0; replace hx141_1 := (HB.out.cell (World.block_lt_of_cell? w _ hx141_1)).trans hx141_1; replace hx141_2 := (HB.out.cell (World.block_lt_of_cell? w _ hx141_2)).trans hx141_2; replace hx141_3 := (HB.out.cell (World.block_lt_of_cell? w _ hx141_3)).trans hx141_3; replace hx141_4 := (HB.out.cell (World.block_lt_of_cell? w _ hx141_4)).trans hx141_4; replace hx141_0 := (cell_far (p := ⟨gb140, 0, none⟩) (by first | (rw [add_block]; exact hn141_0) | (show (Addr.add _ _).block ≠ _; rw [add_block]; exact hn141_0) | exact hn141_0) (.int .i64 ((rd_T139 l1 x31_2).f0))).trans hx141_0; replace hx141_1 := (cell_far (p := ⟨gb140, 0, none⟩) (by first | (rw [add_block]; exact hn141_0) | (show (Addr.add _ _).block ≠ _; rw [add_block]; exact hn141_0) | exact hn141_0) (.int .i64 ((rd_T139 l1 x31_2).f0))).trans hx141_1; replace hx141_2 := (cell_far (p := ⟨gb140, 0, none⟩) (by first | (rw [add_block]; exact hn141_0) | (show (Addr.add _ _).block ≠ _; rw [add_block]; exact hn141_0) | exact hn141_0) (.int .i64 ((rd_T139 l1 x31_2).f0))).trans hx141_2; replace hx141_3 := (cell_far (p := ⟨gb140, 0, none⟩) (by first | (rw [add_block]; exact hn141_0) | (show (Addr.add _ _).block ≠ _; rw [add_block]; exact hn141_0) | exact hn141_0) (.int .i64 ((rd_T139 l1 x31_2).f0))).trans hx141_3; replace hx141_4 := (cell_far (p := ⟨gb140, 0, none⟩) (by first | (rw [add_block]; exact hn141_0) | (show (Addr.add _ _).block ≠ _; rw [add_block]; exact hn141_0) | exact hn141_0) (.int .i64 ((rd_T139 l1 x31_2).f0))).trans hx141_4; replace hx141_0 := (cell_far (p := ⟨gb140, 1, none⟩) (by first | (rw [add_block]; exact hn141_1) | (show (Addr.add _ _).block ≠ _; rw [add_block]; exact hn141_1) | exact hn141_1) (.int .i64 ((rd_T139 l1 x31_2).f1))).trans hx141_0; replace hx141_1 := (cell_far (p := ⟨gb140, 1, none⟩) (by first | (rw [add_block]; exact hn141_1) | (show (Addr.add _ _).block ≠ _; rw [add_block]; exact hn141_1) | exact hn141_1) (.int .i64 ((rd_T139 l1 x31_2).f1))).trans hx141_1; replace hx141_2 := (cell_far (p := ⟨gb140, 1, none⟩) (by first | (rw [add_block]; exact hn141_1) | (show (Addr.add _ _).block ≠ _; rw [add_block]; exact hn141_1) | exact hn141_1) (.int .i64 ((rd_T139 l1 x31_2).f1))).trans hx141_2; replace hx141_3 := (cell_far (p := ⟨gb140, 1, none⟩) (by first | (rw [add_block]; exact hn141_1) | (show (Addr.add _ _).block ≠ _; rw [add_block]; exact hn141_1) | exact hn141_1) (.int .i64 ((rd_T139 l1 x31_2).f1))).trans hx141_3; replace hx141_4 := (cell_far (p := ⟨gb140, 1, none⟩) (by first | (rw [add_block]; exact hn141_1) | (show (Addr.add _ _).block ≠ _; rw [add_block]; exact hn141_1) | exact hn141_1) (.int .i64 ((rd_T139 l1 x31_2).f1))).trans hx141_4; (try have hy141_0 := fun (n_ : Nat) => (show ((((w35.drewN n_).setCell ⟨gb140, 0, none⟩ (.int .i64 ((rd_T139 l1 x31_2).f0))).setCell ⟨gb140, 1, none⟩ (.int .i64 ((rd_T139 l1 x31_2).f1)))).cell? _ = some _ from hx141_0)); (try have hy141_1 := fun (n_ : Nat) => (show ((((w35.drewN n_).setCell ⟨gb140, 0, none⟩ (.int .i64 ((rd_T139 l1 x31_2).f0))).setCell ⟨gb140, 1, none⟩ (.int .i64 ((rd_T139 l1 x31_2).f1)))).cell? _ = some _ from hx141_1)); (try have hy141_2 := fun (n_ : Nat) => (show ((((w35.drewN n_).setCell ⟨gb140, 0, none⟩ (.int .i64 ((rd_T139 l1 x31_2).f0))).setCell ⟨gb140, 1, none⟩ (.int .i64 ((rd_T139 l1 x31_2).f1)))).cell? _ = some _ from hx141_2)); (try have hy141_3 := fun (n_ : Nat) => (show ((((w35.drewN n_).setCell ⟨gb140, 0, none⟩ (.int .i64 ((rd_T139 l1 x31_2).f0))).setCell ⟨gb140, 1, none⟩ (.int .i64 ((rd_T139 l1 x31_2).f1)))).cell? _ = some _ from hx141_3)); (try have hy141_4 := fun (n_ : Nat) => (show ((((w35.drewN n_).setCell ⟨gb140, 0, none⟩ (.int .i64 ((rd_T139 l1 x31_2).f0))).setCell ⟨gb140, 1, none⟩ (.int .i64 ((rd_T139 l1 x31_2).f1)))).cell? _ = some _ from hx141_4)); clear hn141_0; clear hn141_1; replace p141 := eq_true p141; replace q141 := eq_true q141; have p142 : 0 ≤ ((ji32) : Int) := of_decide_eq_true (by first | (with_reducible assumption) | assumption); have q142 : (ji32) < (l1.length : Int) := of_decide_eq_true (by first | (with_reducible assumption) | assumption); obtain ⟨ad142, e142, hx142_0, hx142_1⟩ := at_T139 HR1.out (ji32) p142 q142; obtain rfl : ad139 = ad142 := (by injection e142); have hn142_0 : ad139.block ≠ gb140 := Nat.ne_of_lt (Nat.lt_of_lt_of_le (by have := World.block_lt_of_cell? _ _ hx142_0; first | rwa [add_block] at this | exact this) GW140.out); have hn142_1 : ad139.block ≠ gb140 := Nat.ne_of_lt (Nat.lt_of_lt_of_le (by have := World.block_lt_of_cell? _ _ hx142_0; first | rwa [add_block] at this | exact this) GW140.out); replace hx142_0 := (HB.out.cell (World.block_lt_of_cell? w _ hx142_0)).trans hx142_0; replace hx142_1 := (HB.out.cell (World.block_lt_of_cell? w _ hx142_1)).trans hx142_1; replace hx142_0 := (cell_far (p := ⟨gb140, 0, none⟩) (by first | (rw [add_block]; exact hn142_0) | (show (Addr.add _ _).block ≠ _; rw [add_block]; exact hn142_0) | exact hn142_0) (.int .i64 ((rd_T139 l1 x31_2).f0))).trans hx142_0; replace hx142_1 := (cell_far (p := ⟨gb140, 0, none⟩) (by first | (rw [add_block]; exact hn142_0) | (show (Addr.add _ _).block ≠ _; rw [add_block]; exact hn142_0) | exact hn142_0) (.int .i64 ((rd_T139 l1 x31_2).f0))).trans hx142_1; replace hx142_0 := (cell_far (p := ⟨gb140, 1, none⟩) (by first | (rw [add_block]; exact hn142_1) | (show (Addr.add _ _).block ≠ _; rw [add_block]; exact hn142_1) | exact hn142_1) (.int .i64 ((rd_T139 l1 x31_2).f1))).trans hx142_0; replace hx142_1 := (cell_far (p := ⟨gb140, 1, none⟩) (by first | (rw [add_block]; exact hn142_1) | (show (Addr.add _ _).block ≠ _; rw [add_block]; exact hn142_1) | exact hn142_1) (.int .i64 ((rd_T139 l1 x31_2).f1))).trans hx142_1; (try have hy142_0 := fun (n_ : Nat) => (show ((((w35.drewN n_).setCell ⟨gb140, 0, none⟩ (.int .i64 ((rd_T139 l1 x31_2).f0))).setCell ⟨gb140, 1, none⟩ (.int .i64 ((rd_T139 l1 x31_2).f1)))).cell? _ = some _ from hx142_0)); (try have hy142_1 := fun (n_ : Nat) => (show ((((w35.drewN n_).setCell ⟨gb140, 0, none⟩ (.int .i64 ((rd_T139 l1 x31_2).f0))).setCell ⟨gb140, 1, none⟩ (.int .i64 ((rd_T139 l1 x31_2).f1)))).cell? _ = some _ from hx142_1)); clear hn142_0; clear hn142_1; replace p142 := eq_true p142; replace q142 := eq_true q142))
                  repeat (go_quiet (first | ((with_reducible refine gate_dst (N := 11) rfl ?_); (try (refine gate_guard (by rfl) ?_; dsimp only)); refine box_event ?hg (N := 11) ?hd (cs := #[.int .i64 0, .int .i64 0]) (t := 139) ?hr ?_; (case hd => rfl); (case hg => rfl); (case hr => first | (go_simp; done) | (go_simp; rfl)); intro gb140 hg w35 hbox hb; have BK140 := XPrint.A0 (hbox); have GW140 := XPrint.A0 (XPrint.gz HB.out hg); have GE140 := XPrint.A0 (XPrint.gz HB.out hg); have NB136_140 := XPrint.A1 (by rw [hg]; exact Nat.ne_of_lt (XPrint.al BK136.out) : gb136 ≠ gb140); have NB140_136 := XPrint.A1 (by rw [hg]; exact Nat.ne_of_gt (XPrint.al BK136.out) : gb140 ≠ gb136); replace BK136 := XPrint.A0 (XPrint.ab BK136.out hb); replace HB := XPrint.A0 (below_step (by exact XPrint.bz HB.out) hb); clear hb hbox hg; have hnb36 := NB140_136.out; have hnc36 := NB136_140.out; have hcz37_0 : w35.cell? ⟨gb140, 0, none⟩ = some (.int .i64 0) := (blk_cell BK140.out 0).trans rfl; have hcz37_1 : w35.cell? ⟨gb140, 1, none⟩ = some (.int .i64 0) := (blk_cell BK140.out 1).trans rfl; have hfz37_0 := blk_frozen BK140.out 0; have hfz37_1 := blk_frozen BK140.out 1; have hcz38_0 : w35.cell? ⟨gb136, 0, none⟩ = some (.int .i64 a0_0) := (blk_cell BK136.out 0).trans rfl; have hcz38_1 : w35.cell? ⟨gb136, 1, none⟩ = some (.int .i64 a0_1) := (blk_cell BK136.out 1).trans rfl; have hcz38_2 : w35.cell? ⟨gb136, 2, none⟩ = some (.slice A0_2 l0_2.length c0_2) := (blk_cell BK136.out 2).trans rfl; have hfz38_0 := blk_frozen BK136.out 0; have hfz38_1 := blk_frozen BK136.out 1; have hfz38_2 := blk_frozen BK136.out 2; have p141 : 0 ≤ (((rd_T139 l1 x31_2).f0) : Int) := of_decide_eq_true (by first | (with_reducible assumption) | assumption); have q141 : ((rd_T139 l1 x31_2).f0) < (l0_2.length : Int) := of_decide_eq_true (by first | (with_reducible assumption) | assumption); obtain ⟨ad141, e141, hx141_0, hx141_1, hx141_2, hx141_3, hx141_4⟩ := at_T65 HR0_2.out ((rd_T139 l1 x31_2).f0) p141 q141; cases e141; have hn141_0 : ad141.block ≠ gb140 := Nat.ne_of_lt (Nat.lt_of_lt_of_le (by have := World.block_lt_of_cell? _ _ hx141_0; first | rwa [add_block] at this | exact this) GW140.out); have hn141_1 : ad141.block ≠ gb140 := Nat.ne_of_lt (Nat.lt_of_lt_of_le (by have := World.block_lt_of_cell? _ _ hx141_0; first | rwa [add_block] at this | exact this) GW140.out); replace hx141_0 := (HB.out.cell (World.block_lt_of_cell? w _ hx141_0)).trans hx141_0; replace hx141_1 := (HB.out.cell (World.block_lt_of_cell? w _ hx141_1)).trans hx141_1; replace hx141_2 := (HB.out.cell (World.block_lt_of_cell? w _ hx141_2)).trans hx141_2; replace hx141_3 := (HB.out.cell (World.block_lt_of_cell? w _ hx141_3)).trans hx141_3; replace hx141_4 := (HB.out.cell (World.block_lt_of_cell? w _ hx141_4)).trans hx141_4; replace hx141_0 := (cell_far (p := ⟨gb140, 0, none⟩) (by first | (rw [add_block]; exact hn141_0) | (show (Addr.add _ _).block ≠ _; rw [add_block]; exact hn141_0) | exact hn141_0) (.int .i64 ((rd_T139 l1 x31_2).f0))).trans hx141_0; replace hx141_1 := (cell_far (p := ⟨gb140, 0, none⟩) (by first | (rw [add_block]; exact hn141_0) | (show (Addr.add _ _).block ≠ _; rw [add_block]; exact hn141_0) | exact hn141_0) (.int .i64 ((rd_T139 l1 x31_2).f0))).trans hx141_1; replace hx141_2 := (cell_far (p := ⟨gb140, 0, none⟩) (by first | (rw [add_block]; exact hn141_0) | (show (Addr.add _ _).block ≠ _; rw [add_block]; exact hn141_0) | exact hn141_0) (.int .i64 ((rd_T139 l1 x31_2).f0))).trans hx141_2; replace hx141_3 := (cell_far (p := ⟨gb140, 0, none⟩) (by first | (rw [add_block]; exact hn141_0) | (show (Addr.add _ _).block ≠ _; rw [add_block]; exact hn141_0) | exact hn141_0) (.int .i64 ((rd_T139 l1 x31_2).f0))).trans hx141_3; replace hx141_4 := (cell_far (p := ⟨gb140, 0, none⟩) (by first | (rw [add_block]; exact hn141_0) | (show (Addr.add _ _).block ≠ _; rw [add_block]; exact hn141_0) | exact hn141_0) (.int .i64 ((rd_T139 l1 x31_2).f0))).trans hx141_4; replace hx141_0 := (cell_far (p := ⟨gb140, 1, none⟩) (by first | (rw [add_block]; exact hn141_1) | (show (Addr.add _ _).block ≠ _; rw [add_block]; exact hn141_1) | exact hn141_1) (.int .i64 ((rd_T139 l1 x31_2).f1))).trans hx141_0; replace hx141_1 := (cell_far (p := ⟨gb140, 1, none⟩) (by first | (rw [add_block]; exact hn141_1) | (show (Addr.add _ _).block ≠ _; rw [add_block]; exact hn141_1) | exact hn141_1) (.int .i64 ((rd_T139 l1 x31_2).f1))).trans hx141_1; replace hx141_2 := (cell_far (p := ⟨gb140, 1, none⟩) (by first | (rw [add_block]; exact hn141_1) | (show (Addr.add _ _).block ≠ _; rw [add_block]; exact hn141_1) | exact hn141_1) (.int .i64 ((rd_T139 l1 x31_2).f1))).trans hx141_2; replace hx141_3 := (cell_far (p := ⟨gb140, 1, none⟩) (by first | (rw [add_block]; exact hn141_1) | (show (Addr.add _ _).block ≠ _; rw [add_block]; exact hn141_1) | exact hn141_1) (.int .i64 ((rd_T139 l1 x31_2).f1))).trans hx141_3; replace hx141_4 := (cell_far (p := ⟨gb140, 1, none⟩) (by first | (rw [add_block]; exact hn141_1) | (show (Addr.add _ _).block ≠ _; rw [add_block]; exact hn141_1) | exact hn141_1) (.int .i64 ((rd_T139 l1 x31_2).f1))).trans hx141_4; (try have hy141_0 := fun (n_ : Nat) => (show ((((w35.drewN n_).setCell ⟨gb140, 0, none⟩ (.int .i64 ((rd_T139 l1 x31_2).f0))).setCell ⟨gb140, 1, none⟩ (.int .i64 ((rd_T139 l1 x31_2).f1)))).cell? _ = some _ from hx141_0)); (try have hy141_1 := fun (n_ : Nat) => (show ((((w35.drewN n_).setCell ⟨gb140, 0, none⟩ (.int .i64 ((rd_T139 l1 x31_2).f0))).setCell ⟨gb140, 1, none⟩ (.int .i64 ((rd_T139 l1 x31_2).f1)))).cell? _ = some _ from hx141_1)); (try have hy141_2 := fun (n_ : Nat) => (show ((((w35.drewN n_).setCell ⟨gb140, 0, none⟩ (.int .i64 ((rd_T139 l1 x31_2).f0))).setCell ⟨gb140, 1, none⟩ (.int .i64 ((rd_T139 l1 x31_2).f1)))).cell? _ = some _ from hx141_2)); (try have hy141_3 := fun (n_ : Nat) => (show ((((w35.drewN n_).setCell ⟨gb140, 0, none⟩ (.int .i64 ((rd_T139 l1 x31_2).f0))).setCell ⟨gb140, 1, none⟩ (.int .i64 ((rd_T139 l1 x31_2).f1)))).cell? _ = some _ from hx141_3)); (try have hy141_4 := fun (n_ : Nat) => (show ((((w35.drewN n_).setCell ⟨gb140, 0, none⟩ (.int .i64 ((rd_T139 l1 x31_2).f0))).setCell ⟨gb140, 1, none⟩ (.int .i64 ((rd_T139 l1 x31_2).f1)))).cell? _ = some _ from hx141_4)); clear hn141_0; clear hn141_1; replace p141 := eq_true p141; replace q141 := eq_true q141; have p142 : 0 ≤ ((ji32) : Int) := of_decide_eq_true (by first | (with_reducible assumption) | assumption); have q142 : (ji32) < (l1.length : Int) := of_decide_eq_true (by first | (with_reducible assumption) | assumption); obtain ⟨ad142, e142, hx142_0, hx142_1⟩ := at_T139 HR1.out (ji32) p142 q142; obtain rfl : ad139 = ad142 := (by injection e142); have hn142_0 : ad139.block ≠ gb140 := Nat.ne_of_lt (Nat.lt_of_lt_of_le (by have := World.block_lt_of_cell? _ _ hx142_0; first | rwa [add_block] at this | exact this) GW140.out); have hn142_1 : ad139.block ≠ gb140 := Nat.ne_of_lt (Nat.lt_of_lt_of_le (by have := World.block_lt_of_cell? _ _ hx142_0; first | rwa [add_block] at this | exact this) GW140.out); replace hx142_0 := (HB.out.cell (World.block_lt_of_cell? w _ hx142_0)).trans hx142_0; replace hx142_1 := (HB.out.cell (World.block_lt_of_cell? w _ hx142_1)).trans hx142_1; replace hx142_0 := (cell_far (p := ⟨gb140, 0, none⟩) (by first | (rw [add_block]; exact hn142_0) | (show (Addr.add _ _).block ≠ _; rw [add_block]; exact hn142_0) | exact hn142_0) (.int .i64 ((rd_T139 l1 x31_2).f0))).trans hx142_0; replace hx142_1 := (cell_far (p := ⟨gb140, 0, none⟩) (by first | (rw [add_block]; exact hn142_0) | (show (Addr.add _ _).block ≠ _; rw [add_block]; exact hn142_0) | exact hn142_0) (.int .i64 ((rd_T139 l1 x31_2).f0))).trans hx142_1; replace hx142_0 := (cell_far (p := ⟨gb140, 1, none⟩) (by first | (rw [add_block]; exact hn142_1) | (show (Addr.add _ _).block ≠ _; rw [add_block]; exact hn142_1) | exact hn142_1) (.int .i64 ((rd_T139 l1 x31_2).f1))).trans hx142_0; replace hx142_1 := (cell_far (p := ⟨gb140, 1, none⟩) (by first | (rw [add_block]; exact hn142_1) | (show (Addr.add _ _).block ≠ _; rw [add_block]; exact hn142_1) | exact hn142_1) (.int .i64 ((rd_T139 l1 x31_2).f1))).trans hx142_1; (try have hy142_0 := fun (n_ : Nat) => (show ((((w35.drewN n_).setCell ⟨gb140, 0, none⟩ (.int .i64 ((rd_T139 l1 x31_2).f0))).setCell ⟨gb140, 1, none⟩ (.int .i64 ((rd_T139 l1 x31_2).f1)))).cell? _ = some _ from hx142_0)); (try have hy142_1 := fun (n_ : Nat) => (show ((((w35.drewN n_).setCell ⟨gb140, 0, none⟩ (.int .i64 ((rd_T139 l1 x31_2).f0))).setCell ⟨gb140, 1, none⟩ (.int .i64 ((rd_T139 l1 x31_2).f1)))).cell? _ = some _ from hx142_1)); clear hn142_0; clear hn142_1; replace p142 := eq_true p142; replace q142 := eq_true q142)); try go_wp2_with (first | ((with_reducible refine gate_dst (N := 11) rfl ?_); (try (refine gate_guard (by rfl) ?_; dsimp only)); refine box_event ?hg (N := 11) ?hd (cs := #[.int .i64 0, .int .i64 0]) (t := 139) ?hr ?_; (case hd => rfl); (case hg => rfl); (case hr => first | (go_simp; done) | (go_simp; rfl)); intro gb140 hg w35 hbox hb; have BK140 := XPrint.A0 (hbox); have GW140 := XPrint.A0 (XPrint.gz HB.out hg); have GE140 := XPrint.A0 (XPrint.gz HB.out hg); have NB136_140 := XPrint.A1 (by rw [hg]; exact Nat.ne_of_lt (XPrint.al BK136.out) : gb136 ≠ gb140); have NB140_136 := XPrint.A1 (by rw [hg]; exact Nat.ne_of_gt (XPrint.al BK136.out) : gb140 ≠ gb136); replace BK136 := XPrint.A0 (XPrint.ab BK136.out hb); replace HB := XPrint.A0 (below_step (by exact XPrint.bz HB.out) hb); clear hb hbox hg; have hnb36 := NB140_136.out; have hnc36 := NB136_140.out; have hcz37_0 : w35.cell? ⟨gb140, 0, none⟩ = some (.int .i64 0) := (blk_cell BK140.out 0).trans rfl; have hcz37_1 : w35.cell? ⟨gb140, 1, none⟩ = some (.int .i64 0) := (blk_cell BK140.out 1).trans rfl; have hfz37_0 := blk_frozen BK140.out 0; have hfz37_1 := blk_frozen BK140.out 1; have hcz38_0 : w35.cell? ⟨gb136, 0, none⟩ = some (.int .i64 a0_0) := (blk_cell BK136.out 0).trans rfl; have hcz38_1 : w35.cell? ⟨gb136, 1, none⟩ = some (.int .i64 a0_1) := (blk_cell BK136.out 1).trans rfl; have hcz38_2 : w35.cell? ⟨gb136, 2, none⟩ = some (.slice A0_2 l0_2.length c0_2) := (blk_cell BK136.out 2).trans rfl; have hfz38_0 := blk_frozen BK136.out 0; have hfz38_1 := blk_frozen BK136.out 1; have hfz38_2 := blk_frozen BK136.out 2; have p141 : 0 ≤ (((rd_T139 l1 x31_2).f0) : Int) := of_decide_eq_true (by first | (with_reducible assumption) | assumption); have q141 : ((rd_T139 l1 x31_2).f0) < (l0_2.length : Int) := of_decide_eq_true (by first | (with_reducible assumption) | assumption); obtain ⟨ad141, e141, hx141_0, hx141_1, hx141_2, hx141_3, hx141_4⟩ := at_T65 HR0_2.out ((rd_T139 l1 x31_2).f0) p141 q141; cases e141; have hn141_0 : ad141.block ≠ gb140 := Nat.ne_of_lt (Nat.lt_of_lt_of_le (by have := World.block_lt_of_cell? _ _ hx141_0; first | rwa [add_block] at this | exact this) GW140.out); have hn141_1 : ad141.block ≠ gb140 := Nat.ne_of_lt (Nat.lt_of_lt_of_le (by have := World.block_lt_of_cell? _ _ hx141_0; first | rwa [add_block] at this | exact this) GW140.out); replace hx141_0 := (HB.out.cell (World.block_lt_of_cell? w _ hx141_0)).trans hx141_0; replace hx141_1 := (HB.out.cell (World.block_lt_of_cell? w _ hx141_1)).trans hx141_1; replace hx141_2 := (HB.out.cell (World.block_lt_of_cell? w _ hx141_2)).trans hx141_2; replace hx141_3 := (HB.out.cell (World.block_lt_of_cell? w _ hx141_3)).trans hx141_3; replace hx141_4 := (HB.out.cell (World.block_lt_of_cell? w _ hx141_4)).trans hx141_4; replace hx141_0 := (cell_far (p := ⟨gb140, 0, none⟩) (by first | (rw [add_block]; exact hn141_0) | (show (Addr.add _ _).block ≠ _; rw [add_block]; exact hn141_0) | exact hn141_0) (.int .i64 ((rd_T139 l1 x31_2).f0))).trans hx141_0; replace hx141_1 := (cell_far (p := ⟨gb140, 0, none⟩) (by first | (rw [add_block]; exact hn141_0) | (show (Addr.add _ _).block ≠ _; rw [add_block]; exact hn141_0) | exact hn141_0) (.int .i64 ((rd_T139 l1 x31_2).f0))).trans hx141_1; replace hx141_2 := (cell_far (p := ⟨gb140, 0, none⟩) (by first | (rw [add_block]; exact hn141_0) | (show (Addr.add _ _).block ≠ _; rw [add_block]; exact hn141_0) | exact hn141_0) (.int .i64 ((rd_T139 l1 x31_2).f0))).trans hx141_2; replace hx141_3 := (cell_far (p := ⟨gb140, 0, none⟩) (by first | (rw [add_block]; exact hn141_0) | (show (Addr.add _ _).block ≠ _; rw [add_block]; exact hn141_0) | exact hn141_0) (.int .i64 ((rd_T139 l1 x31_2).f0))).trans hx141_3; replace hx141_4 := (cell_far (p := ⟨gb140, 0, none⟩) (by first | (rw [add_block]; exact hn141_0) | (show (Addr.add _ _).block ≠ _; rw [add_block]; exact hn141_0) | exact hn141_0) (.int .i64 ((rd_T139 l1 x31_2).f0))).trans hx141_4; replace hx141_0 := (cell_far (p := ⟨gb140, 1, none⟩) (by first | (rw [add_block]; exact hn141_1) | (show (Addr.add _ _).block ≠ _; rw [add_block]; exact hn141_1) | exact hn141_1) (.int .i64 ((rd_T139 l1 x31_2).f1))).trans hx141_0; replace hx141_1 := (cell_far (p := ⟨gb140, 1, none⟩) (by first | (rw [add_block]; exact hn141_1) | (show (Addr.add _ _).block ≠ _; rw [add_block]; exact hn141_1) | exact hn141_1) (.int .i64 ((rd_T139 l1 x31_2).f1))).trans hx141_1; replace hx141_2 := (cell_far (p := ⟨gb140, 1, none⟩) (by first | (rw [add_block]; exact hn141_1) | (show (Addr.add _ _).block ≠ _; rw [add_block]; exact hn141_1) | exact hn141_1) (.int .i64 ((rd_T139 l1 x31_2).f1))).trans hx141_2; replace hx141_3 := (cell_far (p := ⟨gb140, 1, none⟩) (by first | (rw [add_block]; exact hn141_1) | (show (Addr.add _ _).block ≠ _; rw [add_block]; exact hn141_1) | exact hn141_1) (.int .i64 ((rd_T139 l1 x31_2).f1))).trans hx141_3; replace hx141_4 := (cell_far (p := ⟨gb140, 1, none⟩) (by first | (rw [add_block]; exact hn141_1) | (show (Addr.add _ _).block ≠ _; rw [add_block]; exact hn141_1) | exact hn141_1) (.int .i64 ((rd_T139 l1 x31_2).f1))).trans hx141_4; (try have hy141_0 := fun (n_ : Nat) => (show ((((w35.drewN n_).setCell ⟨gb140, 0, none⟩ (.int .i64 ((rd_T139 l1 x31_2).f0))).setCell ⟨gb140, 1, none⟩ (.int .i64 ((rd_T139 l1 x31_2).f1)))).cell? _ = some _ from hx141_0)); (try have hy141_1 := fun (n_ : Nat) => (show ((((w35.drewN n_).setCell ⟨gb140, 0, none⟩ (.int .i64 ((rd_T139 l1 x31_2).f0))).setCell ⟨gb140, 1, none⟩ (.int .i64 ((rd_T139 l1 x31_2).f1)))).cell? _ = some _ from hx141_1)); (try have hy141_2 := fun (n_ : Nat) => (show ((((w35.drewN n_).setCell ⟨gb140, 0, none⟩ (.int .i64 ((rd_T139 l1 x31_2).f0))).setCell ⟨gb140, 1, none⟩ (.int .i64 ((rd_T139 l1 x31_2).f1)))).cell? _ = some _ from hx141_2)); (try have hy141_3 := fun (n_ : Nat) => (show ((((w35.drewN n_).setCell ⟨gb140, 0, none⟩ (.int .i64 ((rd_T139 l1 x31_2).f0))).setCell ⟨gb140, 1, none⟩ (.int .i64 ((rd_T139 l1 x31_2).f1)))).cell? _ = some _ from hx141_3)); (try have hy141_4 := fun (n_ : Nat) => (show ((((w35.drewN n_).setCell ⟨gb140, 0, none⟩ (.int .i64 ((rd_T139 l1 x31_2).f0))).setCell ⟨gb140, 1, none⟩ (.int .i64 ((rd_T139 l1 x31_2).f1)))).cell? _ = some _ from hx141_4)); clear hn141_0; clear hn141_1; replace p141 := eq_true p141; replace q141 := eq_true q141; have p142 : 0 ≤ ((ji32) : Int) := of_decide_eq_true (by first | (with_reducible assumption) | assumption); have q142 : (ji32) < (l1.length : Int) := of_decide_eq_true (by first | (with_reducible assumption) | assumption); obtain ⟨ad142, e142, hx142_0, hx142_1⟩ := at_T139 HR1.out (ji32) p142 q142; obtain rfl : ad139 = ad142 := (by injection e142); have hn142_0 : ad139.block ≠ gb140 := Nat.ne_of_lt (Nat.lt_of_lt_of_le (by have := World.block_lt_of_cell? _ _ hx142_0; first | rwa [add_block] at this | exact this) GW140.out); have hn142_1 : ad139.block ≠ gb140 := Nat.ne_of_lt (Nat.lt_of_lt_of_le (by have := World.block_lt_of_cell? _ _ hx142_0; first | rwa [add_block] at this | exact this) GW140.out); replace hx142_0 := (HB.out.cell (World.block_lt_of_cell? w _ hx142_0)).trans hx142_0; replace hx142_1 := (HB.out.cell (World.block_lt_of_cell? w _ hx142_1)).trans hx142_1; replace hx142_0 := (cell_far (p := ⟨gb140, 0, none⟩) (by first | (rw [add_block]; exact hn142_0) | (show (Addr.add _ _).block ≠ _; rw [add_block]; exact hn142_0) | exact hn142_0) (.int .i64 ((rd_T139 l1 x31_2).f0))).trans hx142_0; replace hx142_1 := (cell_far (p := ⟨gb140, 0, none⟩) (by first | (rw [add_block]; exact hn142_0) | (show (Addr.add _ _).block ≠ _; rw [add_block]; exact hn142_0) | exact hn142_0) (.int .i64 ((rd_T139 l1 x31_2).f0))).trans hx142_1; replace hx142_0 := (cell_far (p := ⟨gb140, 1, none⟩) (by first | (rw [add_block]; exact hn142_1) | (show (Addr.add _ _).block ≠ _; rw [add_block]; exact hn142_1) | exact hn142_1) (.int .i64 ((rd_T139 l1 x31_2).f1))).trans hx142_0; replace hx142_1 := (cell_far (p := ⟨gb140, 1, none⟩) (by first | (rw [add_block]; exact hn142_1) | (show (Addr.add _ _).block ≠ _; rw [add_block]; exact hn142_1) | exact hn142_1) (.int .i64 ((rd_T139 l1 x31_2).f1))).trans hx142_1; (try have hy142_0 := fun (n_ : Nat) => (show ((((w35.drewN n_).setCell ⟨gb140, 0, none⟩ (.int .i64 ((rd_T139 l1 x31_2).f0))).setCell ⟨gb140, 1, none⟩ (.int .i64 ((rd_T139 l1 x31_2).f1)))).cell? _ = some _ from hx142_0)); (try have hy142_1 := fun (n_ : Nat) => (show ((((w35.drewN n_).setCell ⟨gb140, 0, none⟩ (.int .i64 ((rd_T139 l1 x31_2).f0))).setCell ⟨gb140, 1, none⟩ (.int .i64 ((rd_T139 l1 x31_2).f1)))).cell? _ = some _ from hx142_1)); clear hn142_0; clear hn142_1; replace p142 := eq_true p142; replace q142 := eq_true q142)))
                  go_roundg k2
                  case measure => have := HJ5.out; have := HK2.out; omega
                  case rel => exact ⟨(decide (((rd_T139 l1 (ji32)).f0) ≥ ((rd_T139 l1 x31_2).f0))), (wrap64 (x31_2 + 1)), (by first | rfl | (simp; done) | (simp only [← hji32] <;> (first | rfl | simp)) | (simp [*]; done)), (by first | rfl | (simp; done) | (simp [*]; done)), H', ⟨by have := HJ5.out; have := HK2.out; omega⟩, ⟨by (repeat with_reducible first | refine XPrint.d1 ?_ | refine XPrint.d2 ?_ _ | refine XPrint.d3 ?_ _); refine blk_far ?_ NB136_140.out _; (repeat with_reducible first | refine XPrint.d1 ?_ | refine XPrint.d2 ?_ _ | refine XPrint.d3 ?_ _); refine blk_far ?_ NB136_140.out _; (repeat with_reducible first | refine XPrint.d1 ?_ | refine XPrint.d2 ?_ _ | refine XPrint.d3 ?_ _); exact BK136.out⟩, ⟨by repeat (first | (with_reducible first | exact HB.out | apply below_alloc | apply pw_below_drewN | apply below_drew1 | refine below_set ?_ GE136.out | refine below_set ?_ GE140.out) | exact HB.out)⟩⟩
                 ·rw [if_neg c34] at H
                  exact absurd H (by simp)
                ·rw [if_neg c33] at H
                 exact absurd H (by simp)
               ·rw [if_neg c31] at H
                have c31b0 : decide (0 < x31_2) = false := decide_eq_false c31
                clear c31
                have H' := XPrint.A0 H
                clear H
                have p139 : 0 ≤ (x31_2 : Int) := of_decide_eq_true (by first | (with_reducible assumption) | assumption)
                have q139 : x31_2 < (l1.length : Int) := of_decide_eq_true (by first | (with_reducible assumption) | assumption)
                obtain ⟨ad139, e139, hx139_0, hx139_1⟩ := at_T139 HR1.out x31_2 p139 q139
                cases e139
                replace hx139_0 := (HB.out.cell (World.block_lt_of_cell? w _ hx139_0)).trans hx139_0
                replace hx139_1 := (HB.out.cell (World.block_lt_of_cell? w _ hx139_1)).trans hx139_1
                replace p139 := eq_true p139
                replace q139 := eq_true q139
                go_wp2_with (first | ((with_reducible refine gate_dst (N := 11) rfl ?_); (try (refine gate_guard (by rfl) ?_; dsimp only)); refine box_event ?hg (N := 11) ?hd (cs := #[.int .i64 0, .int .i64 0]) (t := 139) ?hr ?_; (case hd => rfl); (case hg => rfl); (case hr => first | (go_simp; done) | (go_simp; rfl)); intro gb140 hg w39 hbox hb; have BK140 := XPrint.A0 (hbox); have GW140 := XPrint.A0 (XPrint.gz HB.out hg); have GE140 := XPrint.A0 (XPrint.gz HB.out hg); have NB136_140 := XPrint.A1 (by rw [hg]; exact Nat.ne_of_lt (XPrint.al BK136.out) : gb136 ≠ gb140); have NB140_136 := XPrint.A1 (by rw [hg]; exact Nat.ne_of_gt (XPrint.al BK136.out) : gb140 ≠ gb136); replace BK136 := XPrint.A0 (XPrint.ab BK136.out hb); replace HB := XPrint.A0 (below_step (by exact XPrint.bz HB.out) hb); clear hb hbox hg; have hnb40 := NB140_136.out; have hnc40 := NB136_140.out; have hcz41_0 : w39.cell? ⟨gb140, 0, none⟩ = some (.int .i64 0) := (blk_cell BK140.out 0).trans rfl; have hcz41_1 : w39.cell? ⟨gb140, 1, none⟩ = some (.int .i64 0) := (blk_cell BK140.out 1).trans rfl; have hfz41_0 := blk_frozen BK140.out 0; have hfz41_1 := blk_frozen BK140.out 1; have hcz42_0 : w39.cell? ⟨gb136, 0, none⟩ = some (.int .i64 a0_0) := (blk_cell BK136.out 0).trans rfl; have hcz42_1 : w39.cell? ⟨gb136, 1, none⟩ = some (.int .i64 a0_1) := (blk_cell BK136.out 1).trans rfl; have hcz42_2 : w39.cell? ⟨gb136, 2, none⟩ = some (.slice A0_2 l0_2.length c0_2) := (blk_cell BK136.out 2).trans rfl; have hfz42_0 := blk_frozen BK136.out 0; have hfz42_1 := blk_frozen BK136.out 1; have hfz42_2 := blk_frozen BK136.out 2; have p141 : 0 ≤ (((rd_T139 l1 x31_2).f0) : Int) := of_decide_eq_true (by first | (with_reducible assumption) | assumption); have q141 : ((rd_T139 l1 x31_2).f0) < (l0_2.length : Int) := of_decide_eq_true (by first | (with_reducible assumption) | assumption); obtain ⟨ad141, e141, hx141_0, hx141_1, hx141_2, hx141_3, hx141_4⟩ := at_T65 HR0_2.out ((rd_T139 l1 x31_2).f0) p141 q141; cases e141; have hn141_0 : ad141.block ≠ gb140 := Nat.ne_of_lt (Nat.lt_of_lt_of_le (by have := World.block_lt_of_cell? _ _ hx141_0; first | rwa [add_block] at this | exact this) GW140.out); have hn141_1 : ad141.block ≠ gb140 := Nat.ne_of_lt (Nat.lt_of_lt_of_le (by have := World.block_lt_of_cell? _ _ hx141_0; first | rwa [add_block] at this | exact this) GW140.out); replace hx141_0 := (HB.out.cell (World.block_lt_of_cell? w _ hx141_0)).trans hx141_0; replace hx141_1 := (HB.out.cell (World.block_lt_of_cell? w _ hx141_1)).trans hx141_1; replace hx141_2 := (HB.out.cell (World.block_lt_of_cell? w _ hx141_2)).trans hx141_2; replace hx141_3 := (HB.out.cell (World.block_lt_of_cell? w _ hx141_3)).trans hx141_3; replace hx141_4 := (HB.out.cell (World.block_lt_of_cell? w _ hx141_4)).trans hx141_4; replace hx141_0 := (cell_far (p := ⟨gb140, 0, none⟩) (by first | (rw [add_block]; exact hn141_0) | (show (Addr.add _ _).block ≠ _; rw [add_block]; exact hn141_0) | exact hn141_0) (.int .i64 ((rd_T139 l1 x31_2).f0))).trans hx141_0; replace hx141_1 := (cell_far (p := ⟨gb140, 0, none⟩) (by first | (rw [add_block]; exact hn141_0) | (show (Addr.add _ _).block ≠ _; rw [add_block]; exact hn141_0) | exact hn141_0) (.int .i64 ((rd_T139 l1 x31_2).f0))).trans hx141_1; replace hx141_2 := (cell_far (p := ⟨gb140, 0, none⟩) (by first | (rw [add_block]; exact hn141_0) | (show (Addr.add _ _).block ≠ _; rw [add_block]; exact hn141_0) | exact hn141_0) (.int .i64 ((rd_T139 l1 x31_2).f0))).trans hx141_2; replace hx141_3 := (cell_far (p := ⟨gb140, 0, none⟩) (by first | (rw [add_block]; exact hn141_0) | (show (Addr.add _ _).block ≠ _; rw [add_block]; exact hn141_0) | exact hn141_0) (.int .i64 ((rd_T139 l1 x31_2).f0))).trans hx141_3; replace hx141_4 := (cell_far (p := ⟨gb140, 0, none⟩) (by first | (rw [add_block]; exact hn141_0) | (show (Addr.add _ _).block ≠ _; rw [add_block]; exact hn141_0) | exact hn141_0) (.int .i64 ((rd_T139 l1 x31_2).f0))).trans hx141_4; replace hx141_0 := (cell_far (p := ⟨gb140, 1, none⟩) (by first | (rw [add_block]; exact hn141_1) | (show (Addr.add _ _).block ≠ _; rw [add_block]; exact hn141_1) | exact hn141_1) (.int .i64 ((rd_T139 l1 x31_2).f1))).trans hx141_0; replace hx141_1 := (cell_far (p := ⟨gb140, 1, none⟩) (by first | (rw [add_block]; exact hn141_1) | (show (Addr.add _ _).block ≠ _; rw [add_block]; exact hn141_1) | exact hn141_1) (.int .i64 ((rd_T139 l1 x31_2).f1))).trans hx141_1; replace hx141_2 := (cell_far (p := ⟨gb140, 1, none⟩) (by first | (rw [add_block]; exact hn141_1) | (show (Addr.add _ _).block ≠ _; rw [add_block]; exact hn141_1) | exact hn141_1) (.int .i64 ((rd_T139 l1 x31_2).f1))).trans hx141_2; replace hx141_3 := (cell_far (p := ⟨gb140, 1, none⟩) (by first | (rw [add_block]; exact hn141_1) | (show (Addr.add _ _).block ≠ _; rw [add_block]; exact hn141_1) | exact hn141_1) (.int .i64 ((rd_T139 l1 x31_2).f1))).trans hx141_3; replace hx141_4 := (cell_far (p := ⟨gb140, 1, none⟩) (by first | (rw [add_block]; exact hn141_1) | (show (Addr.add _ _).block ≠ _; rw [add_block]; exact hn141_1) | exact hn141_1) (.int .i64 ((rd_T139 l1 x31_2).f1))).trans hx141_4; (try have hy141_0 := fun (n_ : Nat) => (show ((((w39.drewN n_).setCell ⟨gb140, 0, none⟩ (.int .i64 ((rd_T139 l1 x31_2).f0))).setCell ⟨gb140, 1, none⟩ (.int .i64 ((rd_T139 l1 x31_2).f1)))).cell? _ = some _ from hx141_0)); (try have hy141_1 := fun (n_ : Nat) => (show ((((w39.drewN n_).setCell ⟨gb140, 0, none⟩ (.int .i64 ((rd_T139 l1 x31_2).f0))).setCell ⟨gb140, 1, none⟩ (.int .i64 ((rd_T139 l1 x31_2).f1)))).cell? _ = some _ from hx141_1)); (try have hy141_2 := fun (n_ : Nat) => (show ((((w39.drewN n_).setCell ⟨gb140, 0, none⟩ (.int .i64 ((rd_T139 l1 x31_2).f0))).setCell ⟨gb140, 1, none⟩ (.int .i64 ((rd_T139 l1 x31_2).f1)))).cell? _ = some _ from hx141_2)); (try have hy141_3 := fun (n_ : Nat) => (show ((((w39.drewN n_).setCell ⟨gb140, 0, none⟩ (.int .i64 ((rd_T139 l1 x31_2).f0))).setCell ⟨gb140, 1, none⟩ (.int .i64 ((rd_T139 l1 x31_2).f1)))).cell? _ = some _ from hx141_3)); (try have hy141_4 := fun (n_ : Nat) => (show ((((w39.drewN n_).setCell ⟨gb140, 0, none⟩ (.int .i64 ((rd_T139 l1 x31_2).f0))).setCell ⟨gb140, 1, none⟩ (.int .i64 ((rd_T139 l1 x31_2).f1)))).cell? _ = some _ from hx141_4)); clear hn141_0; clear hn141_1; replace p141 := eq_true p141; replace q141 := eq_true q141))
                repeat (go_quiet (first | ((with_reducible refine gate_dst (N := 11) rfl ?_); (try (refine gate_guard (by rfl) ?_; dsimp only)); refine box_event ?hg (N := 11) ?hd (cs := #[.int .i64 0, .int .i64 0]) (t := 139) ?hr ?_; (case hd => rfl); (case hg => rfl); (case hr => first | (go_simp; done) | (go_simp; rfl)); intro gb140 hg w39 hbox hb; have BK140 := XPrint.A0 (hbox); have GW140 := XPrint.A0 (XPrint.gz HB.out hg); have GE140 := XPrint.A0 (XPrint.gz HB.out hg); have NB136_140 := XPrint.A1 (by rw [hg]; exact Nat.ne_of_lt (XPrint.al BK136.out) : gb136 ≠ gb140); have NB140_136 := XPrint.A1 (by rw [hg]; exact Nat.ne_of_gt (XPrint.al BK136.out) : gb140 ≠ gb136); replace BK136 := XPrint.A0 (XPrint.ab BK136.out hb); replace HB := XPrint.A0 (below_step (by exact XPrint.bz HB.out) hb); clear hb hbox hg; have hnb40 := NB140_136.out; have hnc40 := NB136_140.out; have hcz41_0 : w39.cell? ⟨gb140, 0, none⟩ = some (.int .i64 0) := (blk_cell BK140.out 0).trans rfl; have hcz41_1 : w39.cell? ⟨gb140, 1, none⟩ = some (.int .i64 0) := (blk_cell BK140.out 1).trans rfl; have hfz41_0 := blk_frozen BK140.out 0; have hfz41_1 := blk_frozen BK140.out 1; have hcz42_0 : w39.cell? ⟨gb136, 0, none⟩ = some (.int .i64 a0_0) := (blk_cell BK136.out 0).trans rfl; have hcz42_1 : w39.cell? ⟨gb136, 1, none⟩ = some (.int .i64 a0_1) := (blk_cell BK136.out 1).trans rfl; have hcz42_2 : w39.cell? ⟨gb136, 2, none⟩ = some (.slice A0_2 l0_2.length c0_2) := (blk_cell BK136.out 2).trans rfl; have hfz42_0 := blk_frozen BK136.out 0; have hfz42_1 := blk_frozen BK136.out 1; have hfz42_2 := blk_frozen BK136.out 2; have p141 : 0 ≤ (((rd_T139 l1 x31_2).f0) : Int) := of_decide_eq_true (by first | (with_reducible assumption) | assumption); have q141 : ((rd_T139 l1 x31_2).f0) < (l0_2.length : Int) := of_decide_eq_true (by first | (with_reducible assumption) | assumption); obtain ⟨ad141, e141, hx141_0, hx141_1, hx141_2, hx141_3, hx141_4⟩ := at_T65 HR0_2.out ((rd_T139 l1 x31_2).f0) p141 q141; cases e141; have hn141_0 : ad141.block ≠ gb140 := Nat.ne_of_lt (Nat.lt_of_lt_of_le (by have := World.block_lt_of_cell? _ _ hx141_0; first | rwa [add_block] at this | exact this) GW140.out); have hn141_1 : ad141.block ≠ gb140 := Nat.ne_of_lt (Nat.lt_of_lt_of_le (by have := World.block_lt_of_cell? _ _ hx141_0; first | rwa [add_block] at this | exact this) GW140.out); replace hx141_0 := (HB.out.cell (World.block_lt_of_cell? w _ hx141_0)).trans hx141_0; replace hx141_1 := (HB.out.cell (World.block_lt_of_cell? w _ hx141_1)).trans hx141_1; replace hx141_2 := (HB.out.cell (World.block_lt_of_cell? w _ hx141_2)).trans hx141_2; replace hx141_3 := (HB.out.cell (World.block_lt_of_cell? w _ hx141_3)).trans hx141_3; replace hx141_4 := (HB.out.cell (World.block_lt_of_cell? w _ hx141_4)).trans hx141_4; replace hx141_0 := (cell_far (p := ⟨gb140, 0, none⟩) (by first | (rw [add_block]; exact hn141_0) | (show (Addr.add _ _).block ≠ _; rw [add_block]; exact hn141_0) | exact hn141_0) (.int .i64 ((rd_T139 l1 x31_2).f0))).trans hx141_0; replace hx141_1 := (cell_far (p := ⟨gb140, 0, none⟩) (by first | (rw [add_block]; exact hn141_0) | (show (Addr.add _ _).block ≠ _; rw [add_block]; exact hn141_0) | exact hn141_0) (.int .i64 ((rd_T139 l1 x31_2).f0))).trans hx141_1; replace hx141_2 := (cell_far (p := ⟨gb140, 0, none⟩) (by first | (rw [add_block]; exact hn141_0) | (show (Addr.add _ _).block ≠ _; rw [add_block]; exact hn141_0) | exact hn141_0) (.int .i64 ((rd_T139 l1 x31_2).f0))).trans hx141_2; replace hx141_3 := (cell_far (p := ⟨gb140, 0, none⟩) (by first | (rw [add_block]; exact hn141_0) | (show (Addr.add _ _).block ≠ _; rw [add_block]; exact hn141_0) | exact hn141_0) (.int .i64 ((rd_T139 l1 x31_2).f0))).trans hx141_3; replace hx141_4 := (cell_far (p := ⟨gb140, 0, none⟩) (by first | (rw [add_block]; exact hn141_0) | (show (Addr.add _ _).block ≠ _; rw [add_block]; exact hn141_0) | exact hn141_0) (.int .i64 ((rd_T139 l1 x31_2).f0))).trans hx141_4; replace hx141_0 := (cell_far (p := ⟨gb140, 1, none⟩) (by first | (rw [add_block]; exact hn141_1) | (show (Addr.add _ _).block ≠ _; rw [add_block]; exact hn141_1) | exact hn141_1) (.int .i64 ((rd_T139 l1 x31_2).f1))).trans hx141_0; replace hx141_1 := (cell_far (p := ⟨gb140, 1, none⟩) (by first | (rw [add_block]; exact hn141_1) | (show (Addr.add _ _).block ≠ _; rw [add_block]; exact hn141_1) | exact hn141_1) (.int .i64 ((rd_T139 l1 x31_2).f1))).trans hx141_1; replace hx141_2 := (cell_far (p := ⟨gb140, 1, none⟩) (by first | (rw [add_block]; exact hn141_1) | (show (Addr.add _ _).block ≠ _; rw [add_block]; exact hn141_1) | exact hn141_1) (.int .i64 ((rd_T139 l1 x31_2).f1))).trans hx141_2; replace hx141_3 := (cell_far (p := ⟨gb140, 1, none⟩) (by first | (rw [add_block]; exact hn141_1) | (show (Addr.add _ _).block ≠ _; rw [add_block]; exact hn141_1) | exact hn141_1) (.int .i64 ((rd_T139 l1 x31_2).f1))).trans hx141_3; replace hx141_4 := (cell_far (p := ⟨gb140, 1, none⟩) (by first | (rw [add_block]; exact hn141_1) | (show (Addr.add _ _).block ≠ _; rw [add_block]; exact hn141_1) | exact hn141_1) (.int .i64 ((rd_T139 l1 x31_2).f1))).trans hx141_4; (try have hy141_0 := fun (n_ : Nat) => (show ((((w39.drewN n_).setCell ⟨gb140, 0, none⟩ (.int .i64 ((rd_T139 l1 x31_2).f0))).setCell ⟨gb140, 1, none⟩ (.int .i64 ((rd_T139 l1 x31_2).f1)))).cell? _ = some _ from hx141_0)); (try have hy141_1 := fun (n_ : Nat) => (show ((((w39.drewN n_).setCell ⟨gb140, 0, none⟩ (.int .i64 ((rd_T139 l1 x31_2).f0))).setCell ⟨gb140, 1, none⟩ (.int .i64 ((rd_T139 l1 x31_2).f1)))).cell? _ = some _ from hx141_1)); (try have hy141_2 := fun (n_ : Nat) => (show ((((w39.drewN n_).setCell ⟨gb140, 0, none⟩ (.int .i64 ((rd_T139 l1 x31_2).f0))).setCell ⟨gb140, 1, none⟩ (.int .i64 ((rd_T139 l1 x31_2).f1)))).cell? _ = some _ from hx141_2)); (try have hy141_3 := fun (n_ : Nat) => (show ((((w39.drewN n_).setCell ⟨gb140, 0, none⟩ (.int .i64 ((rd_T139 l1 x31_2).f0))).setCell ⟨gb140, 1, none⟩ (.int .i64 ((rd_T139 l1 x31_2).f1)))).cell? _ = some _ from hx141_3)); (try have hy141_4 := fun (n_ : Nat) => (show ((((w39.drewN n_).setCell ⟨gb140, 0, none⟩ (.int .i64 ((rd_T139 l1 x31_2).f0))).setCell ⟨gb140, 1, none⟩ (.int .i64 ((rd_T139 l1 x31_2).f1)))).cell? _ = some _ from hx141_4)); clear hn141_0; clear hn141_1; replace p141 := eq_true p141; replace q141 := eq_true q141)); try go_wp2_with (first | ((with_reducible refine gate_dst (N := 11) rfl ?_); (try (refine gate_guard (by rfl) ?_; dsimp only)); refine box_event ?hg (N := 11) ?hd (cs := #[.int .i64 0, .int .i64 0]) (t := 139) ?hr ?_; (case hd => rfl); (case hg => rfl); (case hr => first | (go_simp; done) | (go_simp; rfl)); intro gb140 hg w39 hbox hb; have BK140 := XPrint.A0 (hbox); have GW140 := XPrint.A0 (XPrint.gz HB.out hg); have GE140 := XPrint.A0 (XPrint.gz HB.out hg); have NB136_140 := XPrint.A1 (by rw [hg]; exact Nat.ne_of_lt (XPrint.al BK136.out) : gb136 ≠ gb140); have NB140_136 := XPrint.A1 (by rw [hg]; exact Nat.ne_of_gt (XPrint.al BK136.out) : gb140 ≠ gb136); replace BK136 := XPrint.A0 (XPrint.ab BK136.out hb); replace HB := XPrint.A0 (below_step (by exact XPrint.bz HB.out) hb); clear hb hbox hg; have hnb40 := NB140_136.out; have hnc40 := NB136_140.out; have hcz41_0 : w39.cell? ⟨gb140, 0, none⟩ = some (.int .i64 0) := (blk_cell BK140.out 0).trans rfl; have hcz41_1 : w39.cell? ⟨gb140, 1, none⟩ = some (.int .i64 0) := (blk_cell BK140.out 1).trans rfl; have hfz41_0 := blk_frozen BK140.out 0; have hfz41_1 := blk_frozen BK140.out 1; have hcz42_0 : w39.cell? ⟨gb136, 0, none⟩ = some (.int .i64 a0_0) := (blk_cell BK136.out 0).trans rfl; have hcz42_1 : w39.cell? ⟨gb136, 1, none⟩ = some (.int .i64 a0_1) := (blk_cell BK136.out 1).trans rfl; have hcz42_2 : w39.cell? ⟨gb136, 2, none⟩ = some (.slice A0_2 l0_2.length c0_2) := (blk_cell BK136.out 2).trans rfl; have hfz42_0 := blk_frozen BK136.out 0; have hfz42_1 := blk_frozen BK136.out 1; have hfz42_2 := blk_frozen BK136.out 2; have p141 : 0 ≤ (((rd_T139 l1 x31_2).f0) : Int) := of_decide_eq_true (by first | (with_reducible assumption) | assumption); have q141 : ((rd_T139 l1 x31_2).f0) < (l0_2.length : Int) := of_decide_eq_true (by first | (with_reducible assumption) | assumption); obtain ⟨ad141, e141, hx141_0, hx141_1, hx141_2, hx141_3, hx141_4⟩ := at_T65 HR0_2.out ((rd_T139 l1 x31_2).f0) p141 q141; cases e141; have hn141_0 : ad141.block ≠ gb140 := Nat.ne_of_lt (Nat.lt_of_lt_of_le (by have := World.block_lt_of_cell? _ _ hx141_0; first | rwa [add_block] at this | exact this) GW140.out); have hn141_1 : ad141.block ≠ gb140 := Nat.ne_of_lt (Nat.lt_of_lt_of_le (by have := World.block_lt_of_cell? _ _ hx141_0; first | rwa [add_block] at this | exact this) GW140.out); replace hx141_0 := (HB.out.cell (World.block_lt_of_cell? w _ hx141_0)).trans hx141_0; replace hx141_1 := (HB.out.cell (World.block_lt_of_cell? w _ hx141_1)).trans hx141_1; replace hx141_2 := (HB.out.cell (World.block_lt_of_cell? w _ hx141_2)).trans hx141_2; replace hx141_3 := (HB.out.cell (World.block_lt_of_cell? w _ hx141_3)).trans hx141_3; replace hx141_4 := (HB.out.cell (World.block_lt_of_cell? w _ hx141_4)).trans hx141_4; replace hx141_0 := (cell_far (p := ⟨gb140, 0, none⟩) (by first | (rw [add_block]; exact hn141_0) | (show (Addr.add _ _).block ≠ _; rw [add_block]; exact hn141_0) | exact hn141_0) (.int .i64 ((rd_T139 l1 x31_2).f0))).trans hx141_0; replace hx141_1 := (cell_far (p := ⟨gb140, 0, none⟩) (by first | (rw [add_block]; exact hn141_0) | (show (Addr.add _ _).block ≠ _; rw [add_block]; exact hn141_0) | exact hn141_0) (.int .i64 ((rd_T139 l1 x31_2).f0))).trans hx141_1; replace hx141_2 := (cell_far (p := ⟨gb140, 0, none⟩) (by first | (rw [add_block]; exact hn141_0) | (show (Addr.add _ _).block ≠ _; rw [add_block]; exact hn141_0) | exact hn141_0) (.int .i64 ((rd_T139 l1 x31_2).f0))).trans hx141_2; replace hx141_3 := (cell_far (p := ⟨gb140, 0, none⟩) (by first | (rw [add_block]; exact hn141_0) | (show (Addr.add _ _).block ≠ _; rw [add_block]; exact hn141_0) | exact hn141_0) (.int .i64 ((rd_T139 l1 x31_2).f0))).trans hx141_3; replace hx141_4 := (cell_far (p := ⟨gb140, 0, none⟩) (by first | (rw [add_block]; exact hn141_0) | (show (Addr.add _ _).block ≠ _; rw [add_block]; exact hn141_0) | exact hn141_0) (.int .i64 ((rd_T139 l1 x31_2).f0))).trans hx141_4; replace hx141_0 := (cell_far (p := ⟨gb140, 1, none⟩) (by first | (rw [add_block]; exact hn141_1) | (show (Addr.add _ _).block ≠ _; rw [add_block]; exact hn141_1) | exact hn141_1) (.int .i64 ((rd_T139 l1 x31_2).f1))).trans hx141_0; replace hx141_1 := (cell_far (p := ⟨gb140, 1, none⟩) (by first | (rw [add_block]; exact hn141_1) | (show (Addr.add _ _).block ≠ _; rw [add_block]; exact hn141_1) | exact hn141_1) (.int .i64 ((rd_T139 l1 x31_2).f1))).trans hx141_1; replace hx141_2 := (cell_far (p := ⟨gb140, 1, none⟩) (by first | (rw [add_block]; exact hn141_1) | (show (Addr.add _ _).block ≠ _; rw [add_block]; exact hn141_1) | exact hn141_1) (.int .i64 ((rd_T139 l1 x31_2).f1))).trans hx141_2; replace hx141_3 := (cell_far (p := ⟨gb140, 1, none⟩) (by first | (rw [add_block]; exact hn141_1) | (show (Addr.add _ _).block ≠ _; rw [add_block]; exact hn141_1) | exact hn141_1) (.int .i64 ((rd_T139 l1 x31_2).f1))).trans hx141_3; replace hx141_4 := (cell_far (p := ⟨gb140, 1, none⟩) (by first | (rw [add_block]; exact hn141_1) | (show (Addr.add _ _).block ≠ _; rw [add_block]; exact hn141_1) | exact hn141_1) (.int .i64 ((rd_T139 l1 x31_2).f1))).trans hx141_4; (try have hy141_0 := fun (n_ : Nat) => (show ((((w39.drewN n_).setCell ⟨gb140, 0, none⟩ (.int .i64 ((rd_T139 l1 x31_2).f0))).setCell ⟨gb140, 1, none⟩ (.int .i64 ((rd_T139 l1 x31_2).f1)))).cell? _ = some _ from hx141_0)); (try have hy141_1 := fun (n_ : Nat) => (show ((((w39.drewN n_).setCell ⟨gb140, 0, none⟩ (.int .i64 ((rd_T139 l1 x31_2).f0))).setCell ⟨gb140, 1, none⟩ (.int .i64 ((rd_T139 l1 x31_2).f1)))).cell? _ = some _ from hx141_1)); (try have hy141_2 := fun (n_ : Nat) => (show ((((w39.drewN n_).setCell ⟨gb140, 0, none⟩ (.int .i64 ((rd_T139 l1 x31_2).f0))).setCell ⟨gb140, 1, none⟩ (.int .i64 ((rd_T139 l1 x31_2).f1)))).cell? _ = some _ from hx141_2)); (try have hy141_3 := fun (n_ : Nat) => (show ((((w39.drewN n_).setCell ⟨gb140, 0, none⟩ (.int .i64 ((rd_T139 l1 x31_2).f0))).setCell ⟨gb140, 1, none⟩ (.int .i64 ((rd_T139 l1 x31_2).f1)))).cell? _ = some _ from hx141_3)); (try have hy141_4 := fun (n_ : Nat) => (show ((((w39.drewN n_).setCell ⟨gb140, 0, none⟩ (.int .i64 ((rd_T139 l1 x31_2).f0))).setCell ⟨gb140, 1, none⟩ (.int .i64 ((rd_T139 l1 x31_2).f1)))).cell? _ = some _ from hx141_4)); clear hn141_0; clear hn141_1; replace p141 := eq_true p141; replace q141 := eq_true q141)))
                go_roundg k2
                case measure => have := HJ5.out; have := HK2.out; omega
                case rel => exact ⟨(false), (wrap64 (x31_2 + 1)), (by first | rfl | (simp; done) | (simp [*]; done)), (by first | rfl | (simp; done) | (simp [*]; done)), H', ⟨by have := HJ5.out; have := HK2.out; omega⟩, ⟨by (repeat with_reducible first | refine XPrint.d1 ?_ | refine XPrint.d2 ?_ _ | refine XPrint.d3 ?_ _); refine blk_far ?_ NB136_140.out _; (repeat with_reducible first | refine XPrint.d1 ?_ | refine XPrint.d2 ?_ _ | refine XPrint.d3 ?_ _); refine blk_far ?_ NB136_140.out _; (repeat with_reducible first | refine XPrint.d1 ?_ | refine XPrint.d2 ?_ _ | refine XPrint.d3 ?_ _); exact BK136.out⟩, ⟨by repeat (first | (with_reducible first | exact HB.out | apply below_alloc | apply pw_below_drewN | apply below_drew1 | refine below_set ?_ GE136.out | refine below_set ?_ GE140.out) | exact HB.out)⟩⟩
              ·rw [if_neg c30] at H
               have c30b0 : (((rd_T65 l0_2 ((rd_T139 l1 x31_2).f0)).f0) == 0) = false := beq_eq_false_iff_ne.mpr c30
               have c30b1 : (((rd_T65 l0_2 ((rd_T139 l1 x31_2).f0)).f0) != 0) = true := bne_iff_ne.mpr c30
               have H' := XPrint.A0 H
               clear H
               have p139 : 0 ≤ (x31_2 : Int) := of_decide_eq_true (by first | (with_reducible assumption) | assumption)
               have q139 : x31_2 < (l1.length : Int) := of_decide_eq_true (by first | (with_reducible assumption) | assumption)
               obtain ⟨ad139, e139, hx139_0, hx139_1⟩ := at_T139 HR1.out x31_2 p139 q139
               cases e139
               replace hx139_0 := (HB.out.cell (World.block_lt_of_cell? w _ hx139_0)).trans hx139_0
               replace hx139_1 := (HB.out.cell (World.block_lt_of_cell? w _ hx139_1)).trans hx139_1
               replace p139 := eq_true p139
               replace q139 := eq_true q139
               go_wp2_with (first | ((with_reducible refine gate_dst (N := 11) rfl ?_); (try (refine gate_guard (by rfl) ?_; dsimp only)); refine box_event ?hg (N := 11) ?hd (cs := #[.int .i64 0, .int .i64 0]) (t := 139) ?hr ?_; (case hd => rfl); (case hg => rfl); (case hr => first | (go_simp; done) | (go_simp; rfl)); intro gb140 hg w43 hbox hb; have BK140 := XPrint.A0 (hbox); have GW140 := XPrint.A0 (XPrint.gz HB.out hg); have GE140 := XPrint.A0 (XPrint.gz HB.out hg); have NB136_140 := XPrint.A1 (by rw [hg]; exact Nat.ne_of_lt (XPrint.al BK136.out) : gb136 ≠ gb140); have NB140_136 := XPrint.A1 (by rw [hg]; exact Nat.ne_of_gt (XPrint.al BK136.out) : gb140 ≠ gb136); replace BK136 := XPrint.A0 (XPrint.ab BK136.out hb); replace HB := XPrint.A0 (below_step (by exact XPrint.bz HB.out) hb); clear hb hbox hg; have hnb44 := NB140_136.out; have hnc44 := NB136_140.out; have hcz45_0 : w43.cell? ⟨gb140, 0, none⟩ = some (.int .i64 0) := (blk_cell BK140.out 0).trans rfl; have hcz45_1 : w43.cell? ⟨gb140, 1, none⟩ = some (.int .i64 0) := (blk_cell BK140.out 1).trans rfl; have hfz45_0 := blk_frozen BK140.out 0; have hfz45_1 := blk_frozen BK140.out 1; have hcz46_0 : w43.cell? ⟨gb136, 0, none⟩ = some (.int .i64 a0_0) := (blk_cell BK136.out 0).trans rfl; have hcz46_1 : w43.cell? ⟨gb136, 1, none⟩ = some (.int .i64 a0_1) := (blk_cell BK136.out 1).trans rfl; have hcz46_2 : w43.cell? ⟨gb136, 2, none⟩ = some (.slice A0_2 l0_2.length c0_2) := (blk_cell BK136.out 2).trans rfl; have hfz46_0 := blk_frozen BK136.out 0; have hfz46_1 := blk_frozen BK136.out 1; have hfz46_2 := blk_frozen BK136.out 2; have p141 : 0 ≤ (((rd_T139 l1 x31_2).f0) : Int) := of_decide_eq_true (by first | (with_reducible assumption) | assumption); have q141 : ((rd_T139 l1 x31_2).f0) < (l0_2.length : Int) := of_decide_eq_true (by first | (with_reducible assumption) | assumption); obtain ⟨ad141, e141, hx141_0, hx141_1, hx141_2, hx141_3, hx141_4⟩ := at_T65 HR0_2.out ((rd_T139 l1 x31_2).f0) p141 q141; cases e141; have hn141_0 : ad141.block ≠ gb140 := Nat.ne_of_lt (Nat.lt_of_lt_of_le (by have := World.block_lt_of_cell? _ _ hx141_0; first | rwa [add_block] at this | exact this) GW140.out); have hn141_1 : ad141.block ≠ gb140 := Nat.ne_of_lt (Nat.lt_of_lt_of_le (by have := World.block_lt_of_cell? _ _ hx141_0; first | rwa [add_block] at this | exact this) GW140.out); replace hx141_0 := (HB.out.cell (World.block_lt_of_cell? w _ hx141_0)).trans hx141_0; replace hx141_1 := (HB.out.cell (World.block_lt_of_cell? w _ hx141_1)).trans hx141_1; replace hx141_2 := (HB.out.cell (World.block_lt_of_cell? w _ hx141_2)).trans hx141_2; replace hx141_3 := (HB.out.cell (World.block_lt_of_cell? w _ hx141_3)).trans hx141_3; replace hx141_4 := (HB.out.cell (World.block_lt_of_cell? w _ hx141_4)).trans hx141_4; replace hx141_0 := (cell_far (p := ⟨gb140, 0, none⟩) (by first | (rw [add_block]; exact hn141_0) | (show (Addr.add _ _).block ≠ _; rw [add_block]; exact hn141_0) | exact hn141_0) (.int .i64 ((rd_T139 l1 x31_2).f0))).trans hx141_0; replace hx141_1 := (cell_far (p := ⟨gb140, 0, none⟩) (by first | (rw [add_block]; exact hn141_0) | (show (Addr.add _ _).block ≠ _; rw [add_block]; exact hn141_0) | exact hn141_0) (.int .i64 ((rd_T139 l1 x31_2).f0))).trans hx141_1; replace hx141_2 := (cell_far (p := ⟨gb140, 0, none⟩) (by first | (rw [add_block]; exact hn141_0) | (show (Addr.add _ _).block ≠ _; rw [add_block]; exact hn141_0) | exact hn141_0) (.int .i64 ((rd_T139 l1 x31_2).f0))).trans hx141_2; replace hx141_3 := (cell_far (p := ⟨gb140, 0, none⟩) (by first | (rw [add_block]; exact hn141_0) | (show (Addr.add _ _).block ≠ _; rw [add_block]; exact hn141_0) | exact hn141_0) (.int .i64 ((rd_T139 l1 x31_2).f0))).trans hx141_3; replace hx141_4 := (cell_far (p := ⟨gb140, 0, none⟩) (by first | (rw [add_block]; exact hn141_0) | (show (Addr.add _ _).block ≠ _; rw [add_block]; exact hn141_0) | exact hn141_0) (.int .i64 ((rd_T139 l1 x31_2).f0))).trans hx141_4; replace hx141_0 := (cell_far (p := ⟨gb140, 1, none⟩) (by first | (rw [add_block]; exact hn141_1) | (show (Addr.add _ _).block ≠ _; rw [add_block]; exact hn141_1) | exact hn141_1) (.int .i64 ((rd_T139 l1 x31_2).f1))).trans hx141_0; replace hx141_1 := (cell_far (p := ⟨gb140, 1, none⟩) (by first | (rw [add_block]; exact hn141_1) | (show (Addr.add _ _).block ≠ _; rw [add_block]; exact hn141_1) | exact hn141_1) (.int .i64 ((rd_T139 l1 x31_2).f1))).trans hx141_1; replace hx141_2 := (cell_far (p := ⟨gb140, 1, none⟩) (by first | (rw [add_block]; exact hn141_1) | (show (Addr.add _ _).block ≠ _; rw [add_block]; exact hn141_1) | exact hn141_1) (.int .i64 ((rd_T139 l1 x31_2).f1))).trans hx141_2; replace hx141_3 := (cell_far (p := ⟨gb140, 1, none⟩) (by first | (rw [add_block]; exact hn141_1) | (show (Addr.add _ _).block ≠ _; rw [add_block]; exact hn141_1) | exact hn141_1) (.int .i64 ((rd_T139 l1 x31_2).f1))).trans hx141_3; replace hx141_4 := (cell_far (p := ⟨gb140, 1, none⟩) (by first | (rw [add_block]; exact hn141_1) | (show (Addr.add _ _).block ≠ _; rw [add_block]; exact hn141_1) | exact hn141_1) (.int .i64 ((rd_T139 l1 x31_2).f1))).trans hx141_4; (try have hy141_0 := fun (n_ : Nat) => (show ((((w43.drewN n_).setCell ⟨gb140, 0, none⟩ (.int .i64 ((rd_T139 l1 x31_2).f0))).setCell ⟨gb140, 1, none⟩ (.int .i64 ((rd_T139 l1 x31_2).f1)))).cell? _ = some _ from hx141_0)); (try have hy141_1 := fun (n_ : Nat) => (show ((((w43.drewN n_).setCell ⟨gb140, 0, none⟩ (.int .i64 ((rd_T139 l1 x31_2).f0))).setCell ⟨gb140, 1, none⟩ (.int .i64 ((rd_T139 l1 x31_2).f1)))).cell? _ = some _ from hx141_1)); (try have hy141_2 := fun (n_ : Nat) => (show ((((w43.drewN n_).setCell ⟨gb140, 0, none⟩ (.int .i64 ((rd_T139 l1 x31_2).f0))).setCell ⟨gb140, 1, none⟩ (.int .i64 ((rd_T139 l1 x31_2).f1)))).cell? _ = some _ from hx141_2)); (try have hy141_3 := fun (n_ : Nat) => (show ((((w43.drewN n_).setCell ⟨gb140, 0, none⟩ (.int .i64 ((rd_T139 l1 x31_2).f0))).setCell ⟨gb140, 1, none⟩ (.int .i64 ((rd_T139 l1 x31_2).f1)))).cell? _ = some _ from hx141_3)); (try have hy141_4 := fun (n_ : Nat) => (show ((((w43.drewN n_).setCell ⟨gb140, 0, none⟩ (.int .i64 ((rd_T139 l1 x31_2).f0))).setCell ⟨gb140, 1, none⟩ (.int .i64 ((rd_T139 l1 x31_2).f1)))).cell? _ = some _ from hx141_4)); clear hn141_0; clear hn141_1; replace p141 := eq_true p141; replace q141 := eq_true q141))
               repeat (go_quiet (first | ((with_reducible refine gate_dst (N := 11) rfl ?_); (try (refine gate_guard (by rfl) ?_; dsimp only)); refine box_event ?hg (N := 11) ?hd (cs := #[.int .i64 0, .int .i64 0]) (t := 139) ?hr ?_; (case hd => rfl); (case hg => rfl); (case hr => first | (go_simp; done) | (go_simp; rfl)); intro gb140 hg w43 hbox hb; have BK140 := XPrint.A0 (hbox); have GW140 := XPrint.A0 (XPrint.gz HB.out hg); have GE140 := XPrint.A0 (XPrint.gz HB.out hg); have NB136_140 := XPrint.A1 (by rw [hg]; exact Nat.ne_of_lt (XPrint.al BK136.out) : gb136 ≠ gb140); have NB140_136 := XPrint.A1 (by rw [hg]; exact Nat.ne_of_gt (XPrint.al BK136.out) : gb140 ≠ gb136); replace BK136 := XPrint.A0 (XPrint.ab BK136.out hb); replace HB := XPrint.A0 (below_step (by exact XPrint.bz HB.out) hb); clear hb hbox hg; have hnb44 := NB140_136.out; have hnc44 := NB136_140.out; have hcz45_0 : w43.cell? ⟨gb140, 0, none⟩ = some (.int .i64 0) := (blk_cell BK140.out 0).trans rfl; have hcz45_1 : w43.cell? ⟨gb140, 1, none⟩ = some (.int .i64 0) := (blk_cell BK140.out 1).trans rfl; have hfz45_0 := blk_frozen BK140.out 0; have hfz45_1 := blk_frozen BK140.out 1; have hcz46_0 : w43.cell? ⟨gb136, 0, none⟩ = some (.int .i64 a0_0) := (blk_cell BK136.out 0).trans rfl; have hcz46_1 : w43.cell? ⟨gb136, 1, none⟩ = some (.int .i64 a0_1) := (blk_cell BK136.out 1).trans rfl; have hcz46_2 : w43.cell? ⟨gb136, 2, none⟩ = some (.slice A0_2 l0_2.length c0_2) := (blk_cell BK136.out 2).trans rfl; have hfz46_0 := blk_frozen BK136.out 0; have hfz46_1 := blk_frozen BK136.out 1; have hfz46_2 := blk_frozen BK136.out 2; have p141 : 0 ≤ (((rd_T139 l1 x31_2).f0) : Int) := of_decide_eq_true (by first | (with_reducible assumption) | assumption); have q141 : ((rd_T139 l1 x31_2).f0) < (l0_2.length : Int) := of_decide_eq_true (by first | (with_reducible assumption) | assumption); obtain ⟨ad141, e141, hx141_0, hx141_1, hx141_2, hx141_3, hx141_4⟩ := at_T65 HR0_2.out ((rd_T139 l1 x31_2).f0) p141 q141; cases e141; have hn141_0 : ad141.block ≠ gb140 := Nat.ne_of_lt (Nat.lt_of_lt_of_le (by have := World.block_lt_of_cell? _ _ hx141_0; first | rwa [add_block] at this | exact this) GW140.out); have hn141_1 : ad141.block ≠ gb140 := Nat.ne_of_lt (Nat.lt_of_lt_of_le (by have := World.block_lt_of_cell? _ _ hx141_0; first | rwa [add_block] at this | exact this) GW140.out); replace hx141_0 := (HB.out.cell (World.block_lt_of_cell? w _ hx141_0)).trans hx141_0; replace hx141_1 := (HB.out.cell (World.block_lt_of_cell? w _ hx141_1)).trans hx141_1; replace hx141_2 := (HB.out.cell (World.block_lt_of_cell? w _ hx141_2)).trans hx141_2; replace hx141_3 := (HB.out.cell (World.block_lt_of_cell? w _ hx141_3)).trans hx141_3; replace hx141_4 := (HB.out.cell (World.block_lt_of_cell? w _ hx141_4)).trans hx141_4; replace hx141_0 := (cell_far (p := ⟨gb140, 0, none⟩) (by first | (rw [add_block]; exact hn141_0) | (show (Addr.add _ _).block ≠ _; rw [add_block]; exact hn141_0) | exact hn141_0) (.int .i64 ((rd_T139 l1 x31_2).f0))).trans hx141_0; replace hx141_1 := (cell_far (p := ⟨gb140, 0, none⟩) (by first | (rw [add_block]; exact hn141_0) | (show (Addr.add _ _).block ≠ _; rw [add_block]; exact hn141_0) | exact hn141_0) (.int .i64 ((rd_T139 l1 x31_2).f0))).trans hx141_1; replace hx141_2 := (cell_far (p := ⟨gb140, 0, none⟩) (by first | (rw [add_block]; exact hn141_0) | (show (Addr.add _ _).block ≠ _; rw [add_block]; exact hn141_0) | exact hn141_0) (.int .i64 ((rd_T139 l1 x31_2).f0))).trans hx141_2; replace hx141_3 := (cell_far (p := ⟨gb140, 0, none⟩) (by first | (rw [add_block]; exact hn141_0) | (show (Addr.add _ _).block ≠ _; rw [add_block]; exact hn141_0) | exact hn141_0) (.int .i64 ((rd_T139 l1 x31_2).f0))).trans hx141_3; replace hx141_4 := (cell_far (p := ⟨gb140, 0, none⟩) (by first | (rw [add_block]; exact hn141_0) | (show (Addr.add _ _).block ≠ _; rw [add_block]; exact hn141_0) | exact hn141_0) (.int .i64 ((rd_T139 l1 x31_2).f0))).trans hx141_4; replace hx141_0 := (cell_far (p := ⟨gb140, 1, none⟩) (by first | (rw [add_block]; exact hn141_1) | (show (Addr.add _ _).block ≠ _; rw [add_block]; exact hn141_1) | exact hn141_1) (.int .i64 ((rd_T139 l1 x31_2).f1))).trans hx141_0; replace hx141_1 := (cell_far (p := ⟨gb140, 1, none⟩) (by first | (rw [add_block]; exact hn141_1) | (show (Addr.add _ _).block ≠ _; rw [add_block]; exact hn141_1) | exact hn141_1) (.int .i64 ((rd_T139 l1 x31_2).f1))).trans hx141_1; replace hx141_2 := (cell_far (p := ⟨gb140, 1, none⟩) (by first | (rw [add_block]; exact hn141_1) | (show (Addr.add _ _).block ≠ _; rw [add_block]; exact hn141_1) | exact hn141_1) (.int .i64 ((rd_T139 l1 x31_2).f1))).trans hx141_2; replace hx141_3 := (cell_far (p := ⟨gb140, 1, none⟩) (by first | (rw [add_block]; exact hn141_1) | (show (Addr.add _ _).block ≠ _; rw [add_block]; exact hn141_1) | exact hn141_1) (.int .i64 ((rd_T139 l1 x31_2).f1))).trans hx141_3; replace hx141_4 := (cell_far (p := ⟨gb140, 1, none⟩) (by first | (rw [add_block]; exact hn141_1) | (show (Addr.add _ _).block ≠ _; rw [add_block]; exact hn141_1) | exact hn141_1) (.int .i64 ((rd_T139 l1 x31_2).f1))).trans hx141_4; (try have hy141_0 := fun (n_ : Nat) => (show ((((w43.drewN n_).setCell ⟨gb140, 0, none⟩ (.int .i64 ((rd_T139 l1 x31_2).f0))).setCell ⟨gb140, 1, none⟩ (.int .i64 ((rd_T139 l1 x31_2).f1)))).cell? _ = some _ from hx141_0)); (try have hy141_1 := fun (n_ : Nat) => (show ((((w43.drewN n_).setCell ⟨gb140, 0, none⟩ (.int .i64 ((rd_T139 l1 x31_2).f0))).setCell ⟨gb140, 1, none⟩ (.int .i64 ((rd_T139 l1 x31_2).f1)))).cell? _ = some _ from hx141_1)); (try have hy141_2 := fun (n_ : Nat) => (show ((((w43.drewN n_).setCell ⟨gb140, 0, none⟩ (.int .i64 ((rd_T139 l1 x31_2).f0))).setCell ⟨gb140, 1, none⟩ (.int .i64 ((rd_T139 l1 x31_2).f1)))).cell? _ = some _ from hx141_2)); (try have hy141_3 := fun (n_ : Nat) => (show ((((w43.drewN n_).setCell ⟨gb140, 0, none⟩ (.int .i64 ((rd_T139 l1 x31_2).f0))).setCell ⟨gb140, 1, none⟩ (.int .i64 ((rd_T139 l1 x31_2).f1)))).cell? _ = some _ from hx141_3)); (try have hy141_4 := fun (n_ : Nat) => (show ((((w43.drewN n_).setCell ⟨gb140, 0, none⟩ (.int .i64 ((rd_T139 l1 x31_2).f0))).setCell ⟨gb140, 1, none⟩ (.int .i64 ((rd_T139 l1 x31_2).f1)))).cell? _ = some _ from hx141_4)); clear hn141_0; clear hn141_1; replace p141 := eq_true p141; replace q141 := eq_true q141)); try go_wp2_with (first | ((with_reducible refine gate_dst (N := 11) rfl ?_); (try (refine gate_guard (by rfl) ?_; dsimp only)); refine box_event ?hg (N := 11) ?hd (cs := #[.int .i64 0, .int .i64 0]) (t := 139) ?hr ?_; (case hd => rfl); (case hg => rfl); (case hr => first | (go_simp; done) | (go_simp; rfl)); intro gb140 hg w43 hbox hb; have BK140 := XPrint.A0 (hbox); have GW140 := XPrint.A0 (XPrint.gz HB.out hg); have GE140 := XPrint.A0 (XPrint.gz HB.out hg); have NB136_140 := XPrint.A1 (by rw [hg]; exact Nat.ne_of_lt (XPrint.al BK136.out) : gb136 ≠ gb140); have NB140_136 := XPrint.A1 (by rw [hg]; exact Nat.ne_of_gt (XPrint.al BK136.out) : gb140 ≠ gb136); replace BK136 := XPrint.A0 (XPrint.ab BK136.out hb); replace HB := XPrint.A0 (below_step (by exact XPrint.bz HB.out) hb); clear hb hbox hg; have hnb44 := NB140_136.out; have hnc44 := NB136_140.out; have hcz45_0 : w43.cell? ⟨gb140, 0, none⟩ = some (.int .i64 0) := (blk_cell BK140.out 0).trans rfl; have hcz45_1 : w43.cell? ⟨gb140, 1, none⟩ = some (.int .i64 0) := (blk_cell BK140.out 1).trans rfl; have hfz45_0 := blk_frozen BK140.out 0; have hfz45_1 := blk_frozen BK140.out 1; have hcz46_0 : w43.cell? ⟨gb136, 0, none⟩ = some (.int .i64 a0_0) := (blk_cell BK136.out 0).trans rfl; have hcz46_1 : w43.cell? ⟨gb136, 1, none⟩ = some (.int .i64 a0_1) := (blk_cell BK136.out 1).trans rfl; have hcz46_2 : w43.cell? ⟨gb136, 2, none⟩ = some (.slice A0_2 l0_2.length c0_2) := (blk_cell BK136.out 2).trans rfl; have hfz46_0 := blk_frozen BK136.out 0; have hfz46_1 := blk_frozen BK136.out 1; have hfz46_2 := blk_frozen BK136.out 2; have p141 : 0 ≤ (((rd_T139 l1 x31_2).f0) : Int) := of_decide_eq_true (by first | (with_reducible assumption) | assumption); have q141 : ((rd_T139 l1 x31_2).f0) < (l0_2.length : Int) := of_decide_eq_true (by first | (with_reducible assumption) | assumption); obtain ⟨ad141, e141, hx141_0, hx141_1, hx141_2, hx141_3, hx141_4⟩ := at_T65 HR0_2.out ((rd_T139 l1 x31_2).f0) p141 q141; cases e141; have hn141_0 : ad141.block ≠ gb140 := Nat.ne_of_lt (Nat.lt_of_lt_of_le (by have := World.block_lt_of_cell? _ _ hx141_0; first | rwa [add_block] at this | exact this) GW140.out); have hn141_1 : ad141.block ≠ gb140 := Nat.ne_of_lt (Nat.lt_of_lt_of_le (by have := World.block_lt_of_cell? _ _ hx141_0; first | rwa [add_block] at this | exact this) GW140.out); replace hx141_0 := (HB.out.cell (World.block_lt_of_cell? w _ hx141_0)).trans hx141_0; replace hx141_1 := (HB.out.cell (World.block_lt_of_cell? w _ hx141_1)).trans hx141_1; replace hx141_2 := (HB.out.cell (World.block_lt_of_cell? w _ hx141_2)).trans hx141_2; replace hx141_3 := (HB.out.cell (World.block_lt_of_cell? w _ hx141_3)).trans hx141_3; replace hx141_4 := (HB.out.cell (World.block_lt_of_cell? w _ hx141_4)).trans hx141_4; replace hx141_0 := (cell_far (p := ⟨gb140, 0, none⟩) (by first | (rw [add_block]; exact hn141_0) | (show (Addr.add _ _).block ≠ _; rw [add_block]; exact hn141_0) | exact hn141_0) (.int .i64 ((rd_T139 l1 x31_2).f0))).trans hx141_0; replace hx141_1 := (cell_far (p := ⟨gb140, 0, none⟩) (by first | (rw [add_block]; exact hn141_0) | (show (Addr.add _ _).block ≠ _; rw [add_block]; exact hn141_0) | exact hn141_0) (.int .i64 ((rd_T139 l1 x31_2).f0))).trans hx141_1; replace hx141_2 := (cell_far (p := ⟨gb140, 0, none⟩) (by first | (rw [add_block]; exact hn141_0) | (show (Addr.add _ _).block ≠ _; rw [add_block]; exact hn141_0) | exact hn141_0) (.int .i64 ((rd_T139 l1 x31_2).f0))).trans hx141_2; replace hx141_3 := (cell_far (p := ⟨gb140, 0, none⟩) (by first | (rw [add_block]; exact hn141_0) | (show (Addr.add _ _).block ≠ _; rw [add_block]; exact hn141_0) | exact hn141_0) (.int .i64 ((rd_T139 l1 x31_2).f0))).trans hx141_3; replace hx141_4 := (cell_far (p := ⟨gb140, 0, none⟩) (by first | (rw [add_block]; exact hn141_0) | (show (Addr.add _ _).block ≠ _; rw [add_block]; exact hn141_0) | exact hn141_0) (.int .i64 ((rd_T139 l1 x31_2).f0))).trans hx141_4; replace hx141_0 := (cell_far (p := ⟨gb140, 1, none⟩) (by first | (rw [add_block]; exact hn141_1) | (show (Addr.add _ _).block ≠ _; rw [add_block]; exact hn141_1) | exact hn141_1) (.int .i64 ((rd_T139 l1 x31_2).f1))).trans hx141_0; replace hx141_1 := (cell_far (p := ⟨gb140, 1, none⟩) (by first | (rw [add_block]; exact hn141_1) | (show (Addr.add _ _).block ≠ _; rw [add_block]; exact hn141_1) | exact hn141_1) (.int .i64 ((rd_T139 l1 x31_2).f1))).trans hx141_1; replace hx141_2 := (cell_far (p := ⟨gb140, 1, none⟩) (by first | (rw [add_block]; exact hn141_1) | (show (Addr.add _ _).block ≠ _; rw [add_block]; exact hn141_1) | exact hn141_1) (.int .i64 ((rd_T139 l1 x31_2).f1))).trans hx141_2; replace hx141_3 := (cell_far (p := ⟨gb140, 1, none⟩) (by first | (rw [add_block]; exact hn141_1) | (show (Addr.add _ _).block ≠ _; rw [add_block]; exact hn141_1) | exact hn141_1) (.int .i64 ((rd_T139 l1 x31_2).f1))).trans hx141_3; replace hx141_4 := (cell_far (p := ⟨gb140, 1, none⟩) (by first | (rw [add_block]; exact hn141_1) | (show (Addr.add _ _).block ≠ _; rw [add_block]; exact hn141_1) | exact hn141_1) (.int .i64 ((rd_T139 l1 x31_2).f1))).trans hx141_4; (try have hy141_0 := fun (n_ : Nat) => (show ((((w43.drewN n_).setCell ⟨gb140, 0, none⟩ (.int .i64 ((rd_T139 l1 x31_2).f0))).setCell ⟨gb140, 1, none⟩ (.int .i64 ((rd_T139 l1 x31_2).f1)))).cell? _ = some _ from hx141_0)); (try have hy141_1 := fun (n_ : Nat) => (show ((((w43.drewN n_).setCell ⟨gb140, 0, none⟩ (.int .i64 ((rd_T139 l1 x31_2).f0))).setCell ⟨gb140, 1, none⟩ (.int .i64 ((rd_T139 l1 x31_2).f1)))).cell? _ = some _ from hx141_1)); (try have hy141_2 := fun (n_ : Nat) => (show ((((w43.drewN n_).setCell ⟨gb140, 0, none⟩ (.int .i64 ((rd_T139 l1 x31_2).f0))).setCell ⟨gb140, 1, none⟩ (.int .i64 ((rd_T139 l1 x31_2).f1)))).cell? _ = some _ from hx141_2)); (try have hy141_3 := fun (n_ : Nat) => (show ((((w43.drewN n_).setCell ⟨gb140, 0, none⟩ (.int .i64 ((rd_T139 l1 x31_2).f0))).setCell ⟨gb140, 1, none⟩ (.int .i64 ((rd_T139 l1 x31_2).f1)))).cell? _ = some _ from hx141_3)); (try have hy141_4 := fun (n_ : Nat) => (show ((((w43.drewN n_).setCell ⟨gb140, 0, none⟩ (.int .i64 ((rd_T139 l1 x31_2).f0))).setCell ⟨gb140, 1, none⟩ (.int .i64 ((rd_T139 l1 x31_2).f1)))).cell? _ = some _ from hx141_4)); clear hn141_0; clear hn141_1; replace p141 := eq_true p141; replace q141 := eq_true q141)))
               go_roundg k2
               case measure => have := HJ5.out; have := HK2.out; omega
               case rel => exact ⟨(true), (wrap64 (x31_2 + 1)), (by first | rfl | (simp; done) | (simp [*]; done)), (by first | rfl | (simp; done) | (simp [*]; done)), H', ⟨by have := HJ5.out; have := HK2.out; omega⟩, ⟨by (repeat with_reducible first | refine XPrint.d1 ?_ | refine XPrint.d2 ?_ _ | refine XPrint.d3 ?_ _); refine blk_far ?_ NB136_140.out _; (repeat with_reducible first | refine XPrint.d1 ?_ | refine XPrint.d2 ?_ _ | refine XPrint.d3 ?_ _); refine blk_far ?_ NB136_140.out _; (repeat with_reducible first | refine XPrint.d1 ?_ | refine XPrint.d2 ?_ _ | refine XPrint.d3 ?_ _); exact BK136.out⟩, ⟨by repeat (first | (with_reducible first | exact HB.out | apply below_alloc | apply pw_below_drewN | apply below_drew1 | refine below_set ?_ GE136.out | refine below_set ?_ GE140.out) | exact HB.out)⟩⟩
             ·rw [if_neg c29] at H
              exact absurd H (by simp)
            ·rw [if_neg c28] at H
             exact absurd H (by simp)
        ·rw [if_neg c14] at H
         exact absurd H (by simp)
       ·rw [if_neg c13] at H
        exact absurd H (by simp)
      ·rw [if_neg c12] at H
       have c12b0 : decide (x31_2 < (l1.length : Int)) = false := decide_eq_false c12
       clear c12
       replace H := Option.bind_eq_some_iff.mp H
       obtain ⟨t143, A470, H⟩ := H
       try set_option simprocs false in dsimp only at H
       have A47 := XPrint.A0 A470
       clear A470
       by_cases c48 : x9_2 = true
       ·subst c48
        have H1 := H; rw [if_pos rfl] at H1
        clear H
        have H := H1
        clear H1
        obtain rfl := Option.some.inj H
        go_wp2_with (first | (go_at_call 91; (with_reducible refine (api_Piece_at_sat_check_1_10091.calls k2 _ _ l1  t143 _ ?side1 ?side2 A47.out).mono ?_); (case side1 => repeat (first | exact (Kd.C_below HR1.out HB.out) | (with_reducible refine Kd.C_alloc ?_ _) | (with_reducible refine Kd.C_drewN ?_ _) | (with_reducible refine Kd.C_drew ?_))); (case side2 => exact HC1.out); rintro e w49 ⟨rfl, hb⟩; replace BK136 := XPrint.A0 (XPrint.ab BK136.out hb); replace HB := XPrint.A0 (below_step (by exact XPrint.bz HB.out) hb); (try clear hb); (try clear hb2); (try clear hk); (try clear hi)))
        repeat (go_quiet (first | (go_at_call 91; (with_reducible refine (api_Piece_at_sat_check_1_10091.calls k2 _ _ l1  t143 _ ?side1 ?side2 A47.out).mono ?_); (case side1 => repeat (first | exact (Kd.C_below HR1.out HB.out) | (with_reducible refine Kd.C_alloc ?_ _) | (with_reducible refine Kd.C_drewN ?_ _) | (with_reducible refine Kd.C_drew ?_))); (case side2 => exact HC1.out); rintro e w49 ⟨rfl, hb⟩; replace BK136 := XPrint.A0 (XPrint.ab BK136.out hb); replace HB := XPrint.A0 (below_step (by exact XPrint.bz HB.out) hb); (try clear hb); (try clear hb2); (try clear hk); (try clear hi))); try go_wp2_with (first | (go_at_call 91; (with_reducible refine (api_Piece_at_sat_check_1_10091.calls k2 _ _ l1  t143 _ ?side1 ?side2 A47.out).mono ?_); (case side1 => repeat (first | exact (Kd.C_below HR1.out HB.out) | (with_reducible refine Kd.C_alloc ?_ _) | (with_reducible refine Kd.C_drewN ?_ _) | (with_reducible refine Kd.C_drew ?_))); (case side2 => exact HC1.out); rintro e w49 ⟨rfl, hb⟩; replace BK136 := XPrint.A0 (XPrint.ab BK136.out hb); replace HB := XPrint.A0 (below_step (by exact XPrint.bz HB.out) hb); (try clear hb); (try clear hb2); (try clear hk); (try clear hi))))
        go_ret
        exact ⟨by first | rfl | (simp [errW_none, errW_some] <;> rfl) | (simp [*, errW_none, errW_some] <;> rfl), by exact XPrint.bz HB.out⟩
       ·replace c48 := Bool.eq_false_iff.mpr c48
        subst c48
        have H1 := H; rw [if_neg (show ¬ (false = true) by decide)] at H1
        clear H
        have H := H1
        clear H1
        by_cases c50 : t143 = true
        ·subst c50
         have H1 := H; rw [if_pos rfl] at H1
         clear H
         have H := H1
         clear H1
         obtain rfl := Option.some.inj H
         go_wp2_with (first | (go_at_call 91; (with_reducible refine (api_Piece_at_sat_check_1_10091.calls k2 _ _ l1  true _ ?side1 ?side2 A47.out).mono ?_); (case side1 => repeat (first | exact (Kd.C_below HR1.out HB.out) | (with_reducible refine Kd.C_alloc ?_ _) | (with_reducible refine Kd.C_drewN ?_ _) | (with_reducible refine Kd.C_drew ?_))); (case side2 => exact HC1.out); rintro e w51 ⟨rfl, hb⟩; replace BK136 := XPrint.A0 (XPrint.ab BK136.out hb); replace HB := XPrint.A0 (below_step (by exact XPrint.bz HB.out) hb); (try clear hb); (try clear hb2); (try clear hk); (try clear hi)))
         repeat (go_quiet (first | (go_at_call 91; (with_reducible refine (api_Piece_at_sat_check_1_10091.calls k2 _ _ l1  true _ ?side1 ?side2 A47.out).mono ?_); (case side1 => repeat (first | exact (Kd.C_below HR1.out HB.out) | (with_reducible refine Kd.C_alloc ?_ _) | (with_reducible refine Kd.C_drewN ?_ _) | (with_reducible refine Kd.C_drew ?_))); (case side2 => exact HC1.out); rintro e w51 ⟨rfl, hb⟩; replace BK136 := XPrint.A0 (XPrint.ab BK136.out hb); replace HB := XPrint.A0 (below_step (by exact XPrint.bz HB.out) hb); (try clear hb); (try clear hb2); (try clear hk); (try clear hi))); try go_wp2_with (first | (go_at_call 91; (with_reducible refine (api_Piece_at_sat_check_1_10091.calls k2 _ _ l1  true _ ?side1 ?side2 A47.out).mono ?_); (case side1 => repeat (first | exact (Kd.C_below HR1.out HB.out) | (with_reducible refine Kd.C_alloc ?_ _) | (with_reducible refine Kd.C_drewN ?_ _) | (with_reducible refine Kd.C_drew ?_))); (case side2 => exact HC1.out); rintro e w51 ⟨rfl, hb⟩; replace BK136 := XPrint.A0 (XPrint.ab BK136.out hb); replace HB := XPrint.A0 (below_step (by exact XPrint.bz HB.out) hb); (try clear hb); (try clear hb2); (try clear hk); (try clear hi))))
         go_ret
         exact ⟨by first | rfl | (simp [errW_none, errW_some] <;> rfl) | (simp [*, errW_none, errW_some] <;> rfl), by exact XPrint.bz HB.out⟩
        ·replace c50 := Bool.eq_false_iff.mpr c50
         subst c50
         have H1 := H; rw [if_neg (show ¬ (false = true) by decide)] at H1
         clear H
         have H := H1
         clear H1
         obtain rfl := Option.some.inj H
         go_wp2_with (first | (go_at_call 91; (with_reducible refine (api_Piece_at_sat_check_1_10091.calls k2 _ _ l1  false _ ?side1 ?side2 A47.out).mono ?_); (case side1 => repeat (first | exact (Kd.C_below HR1.out HB.out) | (with_reducible refine Kd.C_alloc ?_ _) | (with_reducible refine Kd.C_drewN ?_ _) | (with_reducible refine Kd.C_drew ?_))); (case side2 => exact HC1.out); rintro e w52 ⟨rfl, hb⟩; replace BK136 := XPrint.A0 (XPrint.ab BK136.out hb); replace HB := XPrint.A0 (below_step (by exact XPrint.bz HB.out) hb); (try clear hb); (try clear hb2); (try clear hk); (try clear hi)))
         repeat (go_quiet (first | (go_at_call 91; (with_reducible refine (api_Piece_at_sat_check_1_10091.calls k2 _ _ l1  false _ ?side1 ?side2 A47.out).mono ?_); (case side1 => repeat (first | exact (Kd.C_below HR1.out HB.out) | (with_reducible refine Kd.C_alloc ?_ _) | (with_reducible refine Kd.C_drewN ?_ _) | (with_reducible refine Kd.C_drew ?_))); (case side2 => exact HC1.out); rintro e w52 ⟨rfl, hb⟩; replace BK136 := XPrint.A0 (XPrint.ab BK136.out hb); replace HB := XPrint.A0 (below_step (by exact XPrint.bz HB.out) hb); (try clear hb); (try clear hb2); (try clear hk); (try clear hi))); try go_wp2_with (first | (go_at_call 91; (with_reducible refine (api_Piece_at_sat_check_1_10091.calls k2 _ _ l1  false _ ?side1 ?side2 A47.out).mono ?_); (case side1 => repeat (first | exact (Kd.C_below HR1.out HB.out) | (with_reducible refine Kd.C_alloc ?_ _) | (with_reducible refine Kd.C_drewN ?_ _) | (with_reducible refine Kd.C_drew ?_))); (case side2 => exact HC1.out); rintro e w52 ⟨rfl, hb⟩; replace BK136 := XPrint.A0 (XPrint.ab BK136.out hb); replace HB := XPrint.A0 (below_step (by exact XPrint.bz HB.out) hb); (try clear hb); (try clear hb2); (try clear hk); (try clear hi))))
         go_ret
         exact ⟨by first | rfl | (simp [errW_none, errW_some] <;> rfl) | (simp [*, errW_none, errW_some] <;> rfl), by exact XPrint.bz HB.out⟩
 ·rw [if_neg c5] at H
  have c5b0 : (t138 == 0) = false := beq_eq_false_iff_ne.mpr c5
  have c5b1 : (t138 != 0) = true := bne_iff_ne.mpr c5
  obtain rfl := Option.some.inj H
  go_enter Try.func78, Try.ntmps78
  go_wp2_with (first | ((with_reducible refine gate_dst (N := 3) rfl ?_); (try (refine gate_guard (by rfl) ?_; dsimp only)); refine box_event ?hg (N := 3) ?hd (cs := #[.int .i64 a0_0, .int .i64 a0_1, .slice A0_2 l0_2.length c0_2]) (t := 50) ?hr ?_; (case hd => rfl); (case hg => rfl); (case hr => first | (go_simp; done) | (go_simp; rfl)); intro gb136 hg w53 hbox hb; have BK136 := XPrint.A0 (hbox); have GW136 := XPrint.A0 (XPrint.gz HB.out hg); have GE136 := XPrint.A0 (XPrint.gz HB.out hg); replace HB := XPrint.A0 (below_step (by exact XPrint.bz HB.out) hb); clear hb hbox hg; have hcz54_0 : w53.cell? ⟨gb136, 0, none⟩ = some (.int .i64 a0_0) := (blk_cell BK136.out 0).trans rfl; have hcz54_1 : w53.cell? ⟨gb136, 1, none⟩ = some (.int .i64 a0_1) := (blk_cell BK136.out 1).trans rfl; have hcz54_2 : w53.cell? ⟨gb136, 2, none⟩ = some (.slice A0_2 l0_2.length c0_2) := (blk_cell BK136.out 2).trans rfl; have hfz54_0 := blk_frozen BK136.out 0; have hfz54_1 := blk_frozen BK136.out 1; have hfz54_2 := blk_frozen BK136.out 2) | (go_at_call 33; (with_reducible refine (shape_Check.calls a0_0 a0_1 _ _ l0_2 t137 t138 _ ?side1 ?side2 A4.out).mono ?_); (case side1 => repeat (first | exact (Kd.C_below HR0_2.out HB.out) | (with_reducible refine Kd.C_alloc ?_ _) | (with_reducible refine Kd.C_drewN ?_ _) | (with_reducible refine Kd.C_drew ?_))); (case side2 => exact HC0_2.out); rintro e w55 ⟨rfl, hb⟩; replace BK136 := XPrint.A0 (XPrint.ab BK136.out hb); replace HB := XPrint.A0 (below_step (by exact XPrint.bz HB.out) hb); (try clear hb); (try clear hb2); (try clear hk); (try clear hi)))
  repeat (go_quiet (first | ((with_reducible refine gate_dst (N := 3) rfl ?_); (try (refine gate_guard (by rfl) ?_; dsimp only)); refine box_event ?hg (N := 3) ?hd (cs := #[.int .i64 a0_0, .int .i64 a0_1, .slice A0_2 l0_2.length c0_2]) (t := 50) ?hr ?_; (case hd => rfl); (case hg => rfl); (case hr => first | (go_simp; done) | (go_simp; rfl)); intro gb136 hg w53 hbox hb; have BK136 := XPrint.A0 (hbox); have GW136 := XPrint.A0 (XPrint.gz HB.out hg); have GE136 := XPrint.A0 (XPrint.gz HB.out hg); replace HB := XPrint.A0 (below_step (by exact XPrint.bz HB.out) hb); clear hb hbox hg; have hcz54_0 : w53.cell? ⟨gb136, 0, none⟩ = some (.int .i64 a0_0) := (blk_cell BK136.out 0).trans rfl; have hcz54_1 : w53.cell? ⟨gb136, 1, none⟩ = some (.int .i64 a0_1) := (blk_cell BK136.out 1).trans rfl; have hcz54_2 : w53.cell? ⟨gb136, 2, none⟩ = some (.slice A0_2 l0_2.length c0_2) := (blk_cell BK136.out 2).trans rfl; have hfz54_0 := blk_frozen BK136.out 0; have hfz54_1 := blk_frozen BK136.out 1; have hfz54_2 := blk_frozen BK136.out 2) | (go_at_call 33; (with_reducible refine (shape_Check.calls a0_0 a0_1 _ _ l0_2 t137 t138 _ ?side1 ?side2 A4.out).mono ?_); (case side1 => repeat (first | exact (Kd.C_below HR0_2.out HB.out) | (with_reducible refine Kd.C_alloc ?_ _) | (with_reducible refine Kd.C_drewN ?_ _) | (with_reducible refine Kd.C_drew ?_))); (case side2 => exact HC0_2.out); rintro e w55 ⟨rfl, hb⟩; replace BK136 := XPrint.A0 (XPrint.ab BK136.out hb); replace HB := XPrint.A0 (below_step (by exact XPrint.bz HB.out) hb); (try clear hb); (try clear hb2); (try clear hk); (try clear hi))); try go_wp2_with (first | ((with_reducible refine gate_dst (N := 3) rfl ?_); (try (refine gate_guard (by rfl) ?_; dsimp only)); refine box_event ?hg (N := 3) ?hd (cs := #[.int .i64 a0_0, .int .i64 a0_1, .slice A0_2 l0_2.length c0_2]) (t := 50) ?hr ?_; (case hd => rfl); (case hg => rfl); (case hr => first | (go_simp; done) | (go_simp; rfl)); intro gb136 hg w53 hbox hb; have BK136 := XPrint.A0 (hbox); have GW136 := XPrint.A0 (XPrint.gz HB.out hg); have GE136 := XPrint.A0 (XPrint.gz HB.out hg); replace HB := XPrint.A0 (below_step (by exact XPrint.bz HB.out) hb); clear hb hbox hg; have hcz54_0 : w53.cell? ⟨gb136, 0, none⟩ = some (.int .i64 a0_0) := (blk_cell BK136.out 0).trans rfl; have hcz54_1 : w53.cell? ⟨gb136, 1, none⟩ = some (.int .i64 a0_1) := (blk_cell BK136.out 1).trans rfl; have hcz54_2 : w53.cell? ⟨gb136, 2, none⟩ = some (.slice A0_2 l0_2.length c0_2) := (blk_cell BK136.out 2).trans rfl; have hfz54_0 := blk_frozen BK136.out 0; have hfz54_1 := blk_frozen BK136.out 1; have hfz54_2 := blk_frozen BK136.out 2) | (go_at_call 33; (with_reducible refine (shape_Check.calls a0_0 a0_1 _ _ l0_2 t137 t138 _ ?side1 ?side2 A4.out).mono ?_); (case side1 => repeat (first | exact (Kd.C_below HR0_2.out HB.out) | (with_reducible refine Kd.C_alloc ?_ _) | (with_reducible refine Kd.C_drewN ?_ _) | (with_reducible refine Kd.C_drew ?_))); (case side2 => exact HC0_2.out); rintro e w55 ⟨rfl, hb⟩; replace BK136 := XPrint.A0 (XPrint.ab BK136.out hb); replace HB := XPrint.A0 (below_step (by exact XPrint.bz HB.out) hb); (try clear hb); (try clear hb2); (try clear hk); (try clear hi))))
  go_ret
  exact ⟨by first | rfl | (simp [errW_none, errW_some] <;> rfl) | (simp [*, errW_none, errW_some] <;> rfl), by exact XPrint.bz HB.out⟩

end Go.Proofs.Ytkaokiiooakleaa.PStageParts
