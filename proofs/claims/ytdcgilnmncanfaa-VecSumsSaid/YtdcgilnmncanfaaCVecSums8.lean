-- printed by this session's own driver over the kit's printer: Lean checks it
import Derived.Test.YtdcgilnmncanfaaCVecSums0
namespace Go.Proofs.Ytdcgilnmncanfaa.PVecSums
open Go.RowKit Go.Proofs.YtdcgilnmncanfaaW.PrintWords Go.Proofs.YtdcgilnmncanfaaW.PrintLast Go.Proofs.YtdcgilnmncanfaaW.PrintMore
attribute [local go_sem] max2_int min2_int max_two min_two max_three min_three max_four min_four   -- for this text's walks alone
set_option linter.unusedVariables false
set_option linter.unusedSimpArgs false

/-! ### liveryref01_May: function 21 -/
def liveryref01_May.f (a0_0 : Int) (a0_1 : Int) : Option (Bool) := if a0_0 ≥ (-1125899906842624) then (if a0_0 ≤ 1125899906842624 then (if a0_1 ≥ (-1125899906842624) then (some (decide (a0_1 ≤ 1125899906842624))) else (some false)) else (some false)) else (some false)
set_option maxHeartbeats 8000000 in
set_option maxRecDepth 100000 in
theorem liveryref01_May.calls (a0_0 : Int) (a0_1 : Int) (r : Bool) (w : World) (h : liveryref01_May.f a0_0 a0_1 = some r) :
  Calls Try.prog 21 #[.agg #[.int .i64 a0_0, .int .i64 a0_1]] w fun e w' => e = .returned (.bool r) ∧ Below w.heap.size w w' := by
 have hu23 := Try.underlying23
 have HB := XPrint.A0 (Below.refl w.heap.size w)
 have H : (if a0_0 ≥ (-1125899906842624) then (if a0_0 ≤ 1125899906842624 then (if a0_1 ≥ (-1125899906842624) then (some (decide (a0_1 ≤ 1125899906842624))) else (some false)) else (some false)) else (some false)) = some r := h
 clear h
 by_cases c2 : a0_0 ≥ (-1125899906842624)
 ·rw [if_pos c2] at H
  have c2b0 : decide ((-1125899906842624) ≤ a0_0) = true := decide_eq_true c2
  clear c2
  by_cases c3 : a0_0 ≤ 1125899906842624
  ·rw [if_pos c3] at H
   have c3b0 : decide (a0_0 ≤ 1125899906842624) = true := decide_eq_true c3
   clear c3
   by_cases c4 : a0_1 ≥ (-1125899906842624)
   ·rw [if_pos c4] at H
    have c4b0 : decide ((-1125899906842624) ≤ a0_1) = true := decide_eq_true c4
    clear c4
    obtain rfl := Option.some.inj H
    go_enter Try.func21, Try.ntmps21
    go_wp2_with (first | ((with_reducible refine gate_dst (N := 1) rfl ?_); refine box_event ?hg (N := 1) ?hd (cs := #[.int .i64 a0_0, .int .i64 a0_1]) (t := 23) ?hr ?_; (case hd => rfl); (case hg => rfl); (case hr => first | (go_simp; done) | (go_simp; rfl)); intro gb299 hg w5 hbox hb; have n0_ := XPrint.A0 (below_step (by exact XPrint.bz HB.out) hb); have n1_ := XPrint.A0 (hbox); have n2_ := XPrint.A0 ((by rw [hg]; exact (below_size (by exact XPrint.bz HB.out)) : w.heap.size ≤ gb299)); have n3_ := XPrint.A0 ((by rw [hg]; exact (below_size (by exact XPrint.bz HB.out)) : w.heap.size ≤ gb299)); clear HB; have HB := n0_; have BK299 := n1_; have GW299 := n2_; have GE299 := n3_; clear n0_ n1_ n2_ n3_; clear hb hbox hg; have hcz6_0 : w5.cell? ⟨gb299, 0, none⟩ = some (.int .i64 a0_0) := (blk_cell BK299.out 0).trans rfl; have hcz6_1 : w5.cell? ⟨gb299, 1, none⟩ = some (.int .i64 a0_1) := (blk_cell BK299.out 1).trans rfl; have hfz6_0 := blk_frozen BK299.out 0; have hfz6_1 := blk_frozen BK299.out 1))
    go_ret
    exact ⟨by first | rfl | (simp [errW_none, errW_some] <;> rfl) | (simp [*, errW_none, errW_some] <;> rfl), by exact XPrint.bz HB.out⟩
   ·rw [if_neg c4] at H
    have c4b0 : decide ((-1125899906842624) ≤ a0_1) = false := decide_eq_false c4
    clear c4
    obtain rfl := Option.some.inj H
    go_enter Try.func21, Try.ntmps21
    go_wp2_with (first | ((with_reducible refine gate_dst (N := 1) rfl ?_); refine box_event ?hg (N := 1) ?hd (cs := #[.int .i64 a0_0, .int .i64 a0_1]) (t := 23) ?hr ?_; (case hd => rfl); (case hg => rfl); (case hr => first | (go_simp; done) | (go_simp; rfl)); intro gb299 hg w7 hbox hb; have n0_ := XPrint.A0 (below_step (by exact XPrint.bz HB.out) hb); have n1_ := XPrint.A0 (hbox); have n2_ := XPrint.A0 ((by rw [hg]; exact (below_size (by exact XPrint.bz HB.out)) : w.heap.size ≤ gb299)); have n3_ := XPrint.A0 ((by rw [hg]; exact (below_size (by exact XPrint.bz HB.out)) : w.heap.size ≤ gb299)); clear HB; have HB := n0_; have BK299 := n1_; have GW299 := n2_; have GE299 := n3_; clear n0_ n1_ n2_ n3_; clear hb hbox hg; have hcz8_0 : w7.cell? ⟨gb299, 0, none⟩ = some (.int .i64 a0_0) := (blk_cell BK299.out 0).trans rfl; have hcz8_1 : w7.cell? ⟨gb299, 1, none⟩ = some (.int .i64 a0_1) := (blk_cell BK299.out 1).trans rfl; have hfz8_0 := blk_frozen BK299.out 0; have hfz8_1 := blk_frozen BK299.out 1))
    go_ret
    exact ⟨by first | rfl | (simp [errW_none, errW_some] <;> rfl) | (simp [*, errW_none, errW_some] <;> rfl), by exact XPrint.bz HB.out⟩
  ·rw [if_neg c3] at H
   have c3b0 : decide (a0_0 ≤ 1125899906842624) = false := decide_eq_false c3
   clear c3
   obtain rfl := Option.some.inj H
   go_enter Try.func21, Try.ntmps21
   go_wp2_with (first | ((with_reducible refine gate_dst (N := 1) rfl ?_); refine box_event ?hg (N := 1) ?hd (cs := #[.int .i64 a0_0, .int .i64 a0_1]) (t := 23) ?hr ?_; (case hd => rfl); (case hg => rfl); (case hr => first | (go_simp; done) | (go_simp; rfl)); intro gb299 hg w9 hbox hb; have n0_ := XPrint.A0 (below_step (by exact XPrint.bz HB.out) hb); have n1_ := XPrint.A0 (hbox); have n2_ := XPrint.A0 ((by rw [hg]; exact (below_size (by exact XPrint.bz HB.out)) : w.heap.size ≤ gb299)); have n3_ := XPrint.A0 ((by rw [hg]; exact (below_size (by exact XPrint.bz HB.out)) : w.heap.size ≤ gb299)); clear HB; have HB := n0_; have BK299 := n1_; have GW299 := n2_; have GE299 := n3_; clear n0_ n1_ n2_ n3_; clear hb hbox hg; have hcz10_0 : w9.cell? ⟨gb299, 0, none⟩ = some (.int .i64 a0_0) := (blk_cell BK299.out 0).trans rfl; have hcz10_1 : w9.cell? ⟨gb299, 1, none⟩ = some (.int .i64 a0_1) := (blk_cell BK299.out 1).trans rfl; have hfz10_0 := blk_frozen BK299.out 0; have hfz10_1 := blk_frozen BK299.out 1))
   go_ret
   exact ⟨by first | rfl | (simp [errW_none, errW_some] <;> rfl) | (simp [*, errW_none, errW_some] <;> rfl), by exact XPrint.bz HB.out⟩
 ·rw [if_neg c2] at H
  have c2b0 : decide ((-1125899906842624) ≤ a0_0) = false := decide_eq_false c2
  clear c2
  obtain rfl := Option.some.inj H
  go_enter Try.func21, Try.ntmps21
  go_wp2_with (first | ((with_reducible refine gate_dst (N := 1) rfl ?_); refine box_event ?hg (N := 1) ?hd (cs := #[.int .i64 a0_0, .int .i64 a0_1]) (t := 23) ?hr ?_; (case hd => rfl); (case hg => rfl); (case hr => first | (go_simp; done) | (go_simp; rfl)); intro gb299 hg w11 hbox hb; have n0_ := XPrint.A0 (below_step (by exact XPrint.bz HB.out) hb); have n1_ := XPrint.A0 (hbox); have n2_ := XPrint.A0 ((by rw [hg]; exact (below_size (by exact XPrint.bz HB.out)) : w.heap.size ≤ gb299)); have n3_ := XPrint.A0 ((by rw [hg]; exact (below_size (by exact XPrint.bz HB.out)) : w.heap.size ≤ gb299)); clear HB; have HB := n0_; have BK299 := n1_; have GW299 := n2_; have GE299 := n3_; clear n0_ n1_ n2_ n3_; clear hb hbox hg; have hcz12_0 : w11.cell? ⟨gb299, 0, none⟩ = some (.int .i64 a0_0) := (blk_cell BK299.out 0).trans rfl; have hcz12_1 : w11.cell? ⟨gb299, 1, none⟩ = some (.int .i64 a0_1) := (blk_cell BK299.out 1).trans rfl; have hfz12_0 := blk_frozen BK299.out 0; have hfz12_1 := blk_frozen BK299.out 1))
  go_ret
  exact ⟨by first | rfl | (simp [errW_none, errW_some] <;> rfl) | (simp [*, errW_none, errW_some] <;> rfl), by exact XPrint.bz HB.out⟩

/-! ### liveryref01_told: function 80 -/
def liveryref01_told.f (a0_0 : Int) (a0_1 : Int) : Option (Int × Int × Int) := (liveryref01_May.f a0_0 a0_1).bind fun t302 => (if t302 = true then (some (a0_0, a0_1, 0)) else (some (0, 0, 10)))
set_option maxHeartbeats 8000000 in
set_option maxRecDepth 100000 in
theorem liveryref01_told.calls (a0_0 : Int) (a0_1 : Int) (r1 : Int) (r2 : Int) (r3 : Int) (w : World) (h : liveryref01_told.f a0_0 a0_1 = some (r1, r2, r3)) :
  Calls Try.prog 80 #[.agg #[.int .i64 a0_0, .int .i64 a0_1]] w fun e w' => e = .returned (.tuple #[.agg #[.int .i64 r1, .int .i64 r2], .int .i64 r3]) ∧ Below w.heap.size w w' := by
 have hu23 := Try.underlying23
 have HB := XPrint.A0 (Below.refl w.heap.size w)
 have H : ((liveryref01_May.f a0_0 a0_1).bind fun t302 => (if t302 = true then (some (a0_0, a0_1, 0)) else (some (0, 0, 10)))) = some (r1, r2, r3) := h
 clear h
 replace H := Option.bind_eq_some_iff.mp H
 obtain ⟨t302, A20, H⟩ := H
 replace H : (if t302 = true then (some (a0_0, a0_1, 0)) else (some (0, 0, 10))) = some (r1, r2, r3) := H
 have A2 := XPrint.A0 A20
 clear A20
 by_cases c3 : t302 = true
 ·subst c3
  have H1 : (some (a0_0, a0_1, 0)) = some (r1, r2, r3) := by rw [if_pos rfl] at H; exact H
  clear H
  have H := H1
  clear H1
  simp only [Option.some.injEq, Prod.mk.injEq] at H
  obtain ⟨rfl, rfl, rfl⟩ := H
  go_enter Try.func80, Try.ntmps80
  go_wp2_with (first | ((with_reducible refine gate_dst (N := 1) rfl ?_); refine box_event ?hg (N := 1) ?hd (cs := #[.int .i64 a0_0, .int .i64 a0_1]) (t := 23) ?hr ?_; (case hd => rfl); (case hg => rfl); (case hr => first | (go_simp; done) | (go_simp; rfl)); intro gb300 hg w4 hbox hb; have n0_ := XPrint.A0 (below_step (by exact XPrint.bz HB.out) hb); have n1_ := XPrint.A0 (hbox); have n2_ := XPrint.A0 ((by rw [hg]; exact (below_size (by exact XPrint.bz HB.out)) : w.heap.size ≤ gb300)); have n3_ := XPrint.A0 ((by rw [hg]; exact (below_size (by exact XPrint.bz HB.out)) : w.heap.size ≤ gb300)); clear HB; have HB := n0_; have BK300 := n1_; have GW300 := n2_; have GE300 := n3_; clear n0_ n1_ n2_ n3_; clear hb hbox hg) | ((with_reducible refine gate_dst (N := 2) rfl ?_); refine box_event ?hg (N := 2) ?hd (cs := #[.int .i64 0, .int .i64 0]) (t := 23) ?hr ?_; (case hd => rfl); (case hg => rfl); (case hr => first | (go_simp; done) | (go_simp; rfl)); intro gb301 hg w5 hbox hb; have n0_ := XPrint.A0 (XPrint.bb BK300.out hb); have n1_ := XPrint.A0 (below_step (by exact XPrint.bz HB.out) hb); have n2_ := XPrint.A0 (hbox); have n3_ := XPrint.A0 ((by rw [hg]; exact (below_size (by exact XPrint.bz HB.out)) : w.heap.size ≤ gb301)); have n4_ := XPrint.A0 ((by rw [hg]; exact (below_size (by exact XPrint.bz HB.out)) : w.heap.size ≤ gb301)); have n5_ := XPrint.A0 ((by rw [hg]; exact Nat.ne_of_lt (XPrint.bl BK300.out) : gb300 ≠ gb301)); have n6_ := XPrint.A0 ((by rw [hg]; exact Nat.ne_of_gt (XPrint.bl BK300.out) : gb301 ≠ gb300)); clear BK300; clear HB; have BK300 := n0_; have HB := n1_; have BK301 := n2_; have GW301 := n3_; have GE301 := n4_; have NB300_301 := n5_; have NB301_300 := n6_; clear n0_ n1_ n2_ n3_ n4_ n5_ n6_; clear hb hbox hg; have hnb6 := NB300_301.out; have hnc6 := NB301_300.out; have hcz7_0 : w5.cell? ⟨gb300, 0, none⟩ = some (.int .i64 a0_0) := (blk_cell BK300.out 0).trans rfl; have hcz7_1 : w5.cell? ⟨gb300, 1, none⟩ = some (.int .i64 a0_1) := (blk_cell BK300.out 1).trans rfl; have hfz7_0 := blk_frozen BK300.out 0; have hfz7_1 := blk_frozen BK300.out 1) | ((with_reducible refine gate_callee (f := 21) rfl ?_); refine goesL_ (some 5) rfl rfl Try.func21 (by kernel_rfl) rfl #[.agg #[.int .i64 a0_0, .int .i64 a0_1]] rfl (by (try simp only [List.map_toArray, List.map_cons, List.map_nil]); first | done | rfl | (simp only [List.length_drop, List.length_take]; rfl)) ?_; (with_reducible refine (liveryref01_May.calls a0_0 a0_1 true _ A2.out).mono ?_); rintro e w8 ⟨rfl, hb⟩; refine ⟨_, rfl, ?_⟩; have n0_ := XPrint.A0 (XPrint.bb BK300.out hb); have n1_ := XPrint.A0 (XPrint.bb BK301.out hb); have n2_ := XPrint.A0 (below_step (by exact XPrint.bz HB.out) hb); clear BK300; clear BK301; clear HB; have BK300 := n0_; have BK301 := n1_; have HB := n2_; clear n0_ n1_ n2_; (try clear hb); (try clear hb2); (try clear hk); (try clear hi); have hcz9_0 : w8.cell? ⟨gb300, 0, none⟩ = some (.int .i64 a0_0) := (blk_cell BK300.out 0).trans rfl; have hcz9_1 : w8.cell? ⟨gb300, 1, none⟩ = some (.int .i64 a0_1) := (blk_cell BK300.out 1).trans rfl; have hfz9_0 := blk_frozen BK300.out 0; have hfz9_1 := blk_frozen BK300.out 1; have hcz10_0 : w8.cell? ⟨gb301, 0, none⟩ = some (.int .i64 0) := (blk_cell BK301.out 0).trans rfl; have hcz10_1 : w8.cell? ⟨gb301, 1, none⟩ = some (.int .i64 0) := (blk_cell BK301.out 1).trans rfl; have hfz10_0 := blk_frozen BK301.out 0; have hfz10_1 := blk_frozen BK301.out 1))
  refine bodyPost_ret (results_ct rfl _ _ gb301 23 #[.int .i64 a0_0, .int .i64 a0_1] (0, 0) _ rfl (by (with_reducible repeat (first | refine blk_drewN ?_ _ | refine blk_drew ?_ | refine blk_alloc ?_ _)); refine blk_put (cs := #[.int .i64 a0_0, .int .i64 0]) ?_ 1 _ rfl; (with_reducible repeat (first | refine blk_drewN ?_ _ | refine blk_drew ?_ | refine blk_alloc ?_ _)); refine blk_put (cs := #[.int .i64 0, .int .i64 0]) ?_ 0 _ rfl; (with_reducible repeat (first | refine blk_drewN ?_ _ | refine blk_drew ?_ | refine blk_alloc ?_ _)); exact BK301.out) Try.underlying23 rfl (by kernel_rfl)) rfl ?_
  exact ⟨by first | rfl | (simp [errW_none, errW_some] <;> rfl) | (simp [*, errW_none, errW_some] <;> rfl), by repeat (first | (with_reducible first | exact HB.out | apply below_alloc | apply pw_below_drewN | apply below_drew1 | refine below_set ?_ GE300.out | refine below_set ?_ GE301.out) | exact HB.out)⟩
 ·replace c3 := Bool.eq_false_iff.mpr c3
  subst c3
  have H1 : (some (0, 0, 10)) = some (r1, r2, r3) := by rw [if_neg (show ¬ (false = true) by decide)] at H; exact H
  clear H
  have H := H1
  clear H1
  simp only [Option.some.injEq, Prod.mk.injEq] at H
  obtain ⟨rfl, rfl, rfl⟩ := H
  go_enter Try.func80, Try.ntmps80
  go_wp2_with (first | ((with_reducible refine gate_dst (N := 1) rfl ?_); refine box_event ?hg (N := 1) ?hd (cs := #[.int .i64 a0_0, .int .i64 a0_1]) (t := 23) ?hr ?_; (case hd => rfl); (case hg => rfl); (case hr => first | (go_simp; done) | (go_simp; rfl)); intro gb300 hg w11 hbox hb; have n0_ := XPrint.A0 (below_step (by exact XPrint.bz HB.out) hb); have n1_ := XPrint.A0 (hbox); have n2_ := XPrint.A0 ((by rw [hg]; exact (below_size (by exact XPrint.bz HB.out)) : w.heap.size ≤ gb300)); have n3_ := XPrint.A0 ((by rw [hg]; exact (below_size (by exact XPrint.bz HB.out)) : w.heap.size ≤ gb300)); clear HB; have HB := n0_; have BK300 := n1_; have GW300 := n2_; have GE300 := n3_; clear n0_ n1_ n2_ n3_; clear hb hbox hg) | ((with_reducible refine gate_dst (N := 2) rfl ?_); refine box_event ?hg (N := 2) ?hd (cs := #[.int .i64 0, .int .i64 0]) (t := 23) ?hr ?_; (case hd => rfl); (case hg => rfl); (case hr => first | (go_simp; done) | (go_simp; rfl)); intro gb301 hg w12 hbox hb; have n0_ := XPrint.A0 (XPrint.bb BK300.out hb); have n1_ := XPrint.A0 (below_step (by exact XPrint.bz HB.out) hb); have n2_ := XPrint.A0 (hbox); have n3_ := XPrint.A0 ((by rw [hg]; exact (below_size (by exact XPrint.bz HB.out)) : w.heap.size ≤ gb301)); have n4_ := XPrint.A0 ((by rw [hg]; exact (below_size (by exact XPrint.bz HB.out)) : w.heap.size ≤ gb301)); have n5_ := XPrint.A0 ((by rw [hg]; exact Nat.ne_of_lt (XPrint.bl BK300.out) : gb300 ≠ gb301)); have n6_ := XPrint.A0 ((by rw [hg]; exact Nat.ne_of_gt (XPrint.bl BK300.out) : gb301 ≠ gb300)); clear BK300; clear HB; have BK300 := n0_; have HB := n1_; have BK301 := n2_; have GW301 := n3_; have GE301 := n4_; have NB300_301 := n5_; have NB301_300 := n6_; clear n0_ n1_ n2_ n3_ n4_ n5_ n6_; clear hb hbox hg; have hnb13 := NB300_301.out; have hnc13 := NB301_300.out; have hcz14_0 : w12.cell? ⟨gb300, 0, none⟩ = some (.int .i64 a0_0) := (blk_cell BK300.out 0).trans rfl; have hcz14_1 : w12.cell? ⟨gb300, 1, none⟩ = some (.int .i64 a0_1) := (blk_cell BK300.out 1).trans rfl; have hfz14_0 := blk_frozen BK300.out 0; have hfz14_1 := blk_frozen BK300.out 1) | ((with_reducible refine gate_callee (f := 21) rfl ?_); refine goesL_ (some 5) rfl rfl Try.func21 (by kernel_rfl) rfl #[.agg #[.int .i64 a0_0, .int .i64 a0_1]] rfl (by (try simp only [List.map_toArray, List.map_cons, List.map_nil]); first | done | rfl | (simp only [List.length_drop, List.length_take]; rfl)) ?_; (with_reducible refine (liveryref01_May.calls a0_0 a0_1 false _ A2.out).mono ?_); rintro e w15 ⟨rfl, hb⟩; refine ⟨_, rfl, ?_⟩; have n0_ := XPrint.A0 (XPrint.bb BK300.out hb); have n1_ := XPrint.A0 (XPrint.bb BK301.out hb); have n2_ := XPrint.A0 (below_step (by exact XPrint.bz HB.out) hb); clear BK300; clear BK301; clear HB; have BK300 := n0_; have BK301 := n1_; have HB := n2_; clear n0_ n1_ n2_; (try clear hb); (try clear hb2); (try clear hk); (try clear hi); have hcz16_0 : w15.cell? ⟨gb301, 0, none⟩ = some (.int .i64 0) := (blk_cell BK301.out 0).trans rfl; have hcz16_1 : w15.cell? ⟨gb301, 1, none⟩ = some (.int .i64 0) := (blk_cell BK301.out 1).trans rfl; have hfz16_0 := blk_frozen BK301.out 0; have hfz16_1 := blk_frozen BK301.out 1))
  refine bodyPost_ret (results_ct rfl _ _ gb301 23 #[.int .i64 0, .int .i64 0] (0, 0) _ rfl (by (with_reducible repeat (first | refine blk_drewN ?_ _ | refine blk_drew ?_ | refine blk_alloc ?_ _)); refine blk_put (cs := #[.int .i64 0, .int .i64 0]) ?_ 1 _ rfl; (with_reducible repeat (first | refine blk_drewN ?_ _ | refine blk_drew ?_ | refine blk_alloc ?_ _)); refine blk_put (cs := #[.int .i64 0, .int .i64 0]) ?_ 0 _ rfl; (with_reducible repeat (first | refine blk_drewN ?_ _ | refine blk_drew ?_ | refine blk_alloc ?_ _)); exact BK301.out) Try.underlying23 rfl (by kernel_rfl)) rfl ?_
  exact ⟨by first | rfl | (simp [errW_none, errW_some] <;> rfl) | (simp [*, errW_none, errW_some] <;> rfl), by repeat (first | (with_reducible first | exact HB.out | apply below_alloc | apply pw_below_drewN | apply below_drew1 | refine below_set ?_ GE300.out | refine below_set ?_ GE301.out) | exact HB.out)⟩

/-! ### liveryref01_Add: function 54 -/
def liveryref01_Add.f (a0_0 : Int) (a0_1 : Int) (a1_0 : Int) (a1_1 : Int) : Option (Int × Int × Int) := (liveryref01_May.f a0_0 a0_1).bind fun t306 => (if t306 = true then ((liveryref01_May.f a1_0 a1_1).bind fun t307 => (if t307 = true then ((liveryref01_told.f (wrap64 (a0_0 + a1_0)) (wrap64 (a0_1 + a1_1))).bind fun bt308 => (some (bt308.1, bt308.2.1, bt308.2.2))) else (some (0, 0, 10)))) else (some (0, 0, 10)))
set_option maxHeartbeats 8000000 in
set_option maxRecDepth 100000 in
theorem liveryref01_Add.calls (a0_0 : Int) (a0_1 : Int) (a1_0 : Int) (a1_1 : Int) (r1 : Int) (r2 : Int) (r3 : Int) (w : World) (h : liveryref01_Add.f a0_0 a0_1 a1_0 a1_1 = some (r1, r2, r3)) :
  Calls Try.prog 54 #[.agg #[.int .i64 a0_0, .int .i64 a0_1], .agg #[.int .i64 a1_0, .int .i64 a1_1]] w fun e w' => e = .returned (.tuple #[.agg #[.int .i64 r1, .int .i64 r2], .int .i64 r3]) ∧ Below w.heap.size w w' := by
 have hu23 := Try.underlying23
 have HB := XPrint.A0 (Below.refl w.heap.size w)
 have H : ((liveryref01_May.f a0_0 a0_1).bind fun t306 => (if t306 = true then ((liveryref01_May.f a1_0 a1_1).bind fun t307 => (if t307 = true then ((liveryref01_told.f (wrap64 (a0_0 + a1_0)) (wrap64 (a0_1 + a1_1))).bind fun bt308 => (some (bt308.1, bt308.2.1, bt308.2.2))) else (some (0, 0, 10)))) else (some (0, 0, 10)))) = some (r1, r2, r3) := h
 clear h
 replace H := Option.bind_eq_some_iff.mp H
 obtain ⟨t306, A30, H⟩ := H
 replace H : (if t306 = true then ((liveryref01_May.f a1_0 a1_1).bind fun t307 => (if t307 = true then ((liveryref01_told.f (wrap64 (a0_0 + a1_0)) (wrap64 (a0_1 + a1_1))).bind fun bt308 => (some (bt308.1, bt308.2.1, bt308.2.2))) else (some (0, 0, 10)))) else (some (0, 0, 10))) = some (r1, r2, r3) := H
 have A3 := XPrint.A0 A30
 clear A30
 by_cases c4 : t306 = true
 ·subst c4
  have H1 : ((liveryref01_May.f a1_0 a1_1).bind fun t307 => (if t307 = true then ((liveryref01_told.f (wrap64 (a0_0 + a1_0)) (wrap64 (a0_1 + a1_1))).bind fun bt308 => (some (bt308.1, bt308.2.1, bt308.2.2))) else (some (0, 0, 10)))) = some (r1, r2, r3) := by rw [if_pos rfl] at H; exact H
  clear H
  have H := H1
  clear H1
  replace H := Option.bind_eq_some_iff.mp H
  obtain ⟨t307, A50, H⟩ := H
  replace H : (if t307 = true then ((liveryref01_told.f (wrap64 (a0_0 + a1_0)) (wrap64 (a0_1 + a1_1))).bind fun bt308 => (some (bt308.1, bt308.2.1, bt308.2.2))) else (some (0, 0, 10))) = some (r1, r2, r3) := H
  have A5 := XPrint.A0 A50
  clear A50
  by_cases c6 : t307 = true
  ·subst c6
   have H1 : ((liveryref01_told.f (wrap64 (a0_0 + a1_0)) (wrap64 (a0_1 + a1_1))).bind fun bt308 => (some (bt308.1, bt308.2.1, bt308.2.2))) = some (r1, r2, r3) := by rw [if_pos rfl] at H; exact H
   clear H
   have H := H1
   clear H1
   replace H := Option.bind_eq_some_iff.mp H
   obtain ⟨⟨t308, t309, t310⟩, A70, H⟩ := H
   replace H : (some (t308, t309, t310)) = some (r1, r2, r3) := H
   have A7 := XPrint.A0 A70
   clear A70
   simp only [Option.some.injEq, Prod.mk.injEq] at H
   obtain ⟨rfl, rfl, rfl⟩ := H
   go_enter Try.func54, Try.ntmps54
   go_wp2_with (first | ((with_reducible refine gate_dst (N := 2) rfl ?_); refine box_event ?hg (N := 2) ?hd (cs := #[.int .i64 a0_0, .int .i64 a0_1]) (t := 23) ?hr ?_; (case hd => rfl); (case hg => rfl); (case hr => first | (go_simp; done) | (go_simp; rfl)); intro gb303 hg w8 hbox hb; have n0_ := XPrint.A0 (below_step (by exact XPrint.bz HB.out) hb); have n1_ := XPrint.A0 (hbox); have n2_ := XPrint.A0 ((by rw [hg]; exact (below_size (by exact XPrint.bz HB.out)) : w.heap.size ≤ gb303)); have n3_ := XPrint.A0 ((by rw [hg]; exact (below_size (by exact XPrint.bz HB.out)) : w.heap.size ≤ gb303)); clear HB; have HB := n0_; have BK303 := n1_; have GW303 := n2_; have GE303 := n3_; clear n0_ n1_ n2_ n3_; clear hb hbox hg) | ((with_reducible refine gate_dst (N := 3) rfl ?_); refine box_event ?hg (N := 3) ?hd (cs := #[.int .i64 a1_0, .int .i64 a1_1]) (t := 23) ?hr ?_; (case hd => rfl); (case hg => rfl); (case hr => first | (go_simp; done) | (go_simp; rfl)); intro gb304 hg w9 hbox hb; have n0_ := XPrint.A0 (XPrint.bb BK303.out hb); have n1_ := XPrint.A0 (below_step (by exact XPrint.bz HB.out) hb); have n2_ := XPrint.A0 (hbox); have n3_ := XPrint.A0 ((by rw [hg]; exact (below_size (by exact XPrint.bz HB.out)) : w.heap.size ≤ gb304)); have n4_ := XPrint.A0 ((by rw [hg]; exact (below_size (by exact XPrint.bz HB.out)) : w.heap.size ≤ gb304)); have n5_ := XPrint.A0 ((by rw [hg]; exact Nat.ne_of_lt (XPrint.bl BK303.out) : gb303 ≠ gb304)); have n6_ := XPrint.A0 ((by rw [hg]; exact Nat.ne_of_gt (XPrint.bl BK303.out) : gb304 ≠ gb303)); clear BK303; clear HB; have BK303 := n0_; have HB := n1_; have BK304 := n2_; have GW304 := n3_; have GE304 := n4_; have NB303_304 := n5_; have NB304_303 := n6_; clear n0_ n1_ n2_ n3_ n4_ n5_ n6_; clear hb hbox hg) | ((with_reducible refine gate_dst (N := 4) rfl ?_); refine box_event ?hg (N := 4) ?hd (cs := #[.int .i64 0, .int .i64 0]) (t := 23) ?hr ?_; (case hd => rfl); (case hg => rfl); (case hr => first | (go_simp; done) | (go_simp; rfl)); intro gb305 hg w10 hbox hb; have n0_ := XPrint.A0 (XPrint.bb BK303.out hb); have n1_ := XPrint.A0 (XPrint.bb BK304.out hb); have n2_ := XPrint.A0 (below_step (by exact XPrint.bz HB.out) hb); have n3_ := XPrint.A0 (hbox); have n4_ := XPrint.A0 ((by rw [hg]; exact (below_size (by exact XPrint.bz HB.out)) : w.heap.size ≤ gb305)); have n5_ := XPrint.A0 ((by rw [hg]; exact (below_size (by exact XPrint.bz HB.out)) : w.heap.size ≤ gb305)); have n6_ := XPrint.A0 ((by rw [hg]; exact Nat.ne_of_lt (XPrint.bl BK303.out) : gb303 ≠ gb305)); have n7_ := XPrint.A0 ((by rw [hg]; exact Nat.ne_of_gt (XPrint.bl BK303.out) : gb305 ≠ gb303)); have n8_ := XPrint.A0 ((by rw [hg]; exact Nat.ne_of_lt (XPrint.bl BK304.out) : gb304 ≠ gb305)); have n9_ := XPrint.A0 ((by rw [hg]; exact Nat.ne_of_gt (XPrint.bl BK304.out) : gb305 ≠ gb304)); clear BK303; clear BK304; clear HB; have BK303 := n0_; have BK304 := n1_; have HB := n2_; have BK305 := n3_; have GW305 := n4_; have GE305 := n5_; have NB303_305 := n6_; have NB305_303 := n7_; have NB304_305 := n8_; have NB305_304 := n9_; clear n0_ n1_ n2_ n3_ n4_ n5_ n6_ n7_ n8_ n9_; clear hb hbox hg; have hnb11 := NB303_304.out; have hnc11 := NB304_303.out; have hnb12 := NB303_305.out; have hnc12 := NB305_303.out; have hcz13_0 : w10.cell? ⟨gb303, 0, none⟩ = some (.int .i64 a0_0) := (blk_cell BK303.out 0).trans rfl; have hcz13_1 : w10.cell? ⟨gb303, 1, none⟩ = some (.int .i64 a0_1) := (blk_cell BK303.out 1).trans rfl; have hfz13_0 := blk_frozen BK303.out 0; have hfz13_1 := blk_frozen BK303.out 1) | ((with_reducible refine gate_callee (f := 21) rfl ?_); refine goesL_ (some 7) rfl rfl Try.func21 (by kernel_rfl) rfl #[.agg #[.int .i64 a0_0, .int .i64 a0_1]] rfl (by (try simp only [List.map_toArray, List.map_cons, List.map_nil]); first | done | rfl | (simp only [List.length_drop, List.length_take]; rfl)) ?_; (with_reducible refine (liveryref01_May.calls a0_0 a0_1 true _ A3.out).mono ?_); rintro e w14 ⟨rfl, hb⟩; refine ⟨_, rfl, ?_⟩; have n0_ := XPrint.A0 (XPrint.bb BK303.out hb); have n1_ := XPrint.A0 (XPrint.bb BK304.out hb); have n2_ := XPrint.A0 (XPrint.bb BK305.out hb); have n3_ := XPrint.A0 (below_step (by exact XPrint.bz HB.out) hb); clear BK303; clear BK304; clear BK305; clear HB; have BK303 := n0_; have BK304 := n1_; have BK305 := n2_; have HB := n3_; clear n0_ n1_ n2_ n3_; (try clear hb); (try clear hb2); (try clear hk); (try clear hi); have hnb15 := NB304_305.out; have hnc15 := NB305_304.out; have hcz16_0 : w14.cell? ⟨gb304, 0, none⟩ = some (.int .i64 a1_0) := (blk_cell BK304.out 0).trans rfl; have hcz16_1 : w14.cell? ⟨gb304, 1, none⟩ = some (.int .i64 a1_1) := (blk_cell BK304.out 1).trans rfl; have hfz16_0 := blk_frozen BK304.out 0; have hfz16_1 := blk_frozen BK304.out 1) | (go_at_call 21; (with_reducible refine (liveryref01_May.calls a1_0 a1_1 true _ A5.out).mono ?_); rintro e w17 ⟨rfl, hb⟩; have n0_ := XPrint.A0 (XPrint.bb BK303.out hb); have n1_ := XPrint.A0 (XPrint.bb BK304.out hb); have n2_ := XPrint.A0 (XPrint.bb BK305.out hb); have n3_ := XPrint.A0 (below_step (by exact XPrint.bz HB.out) hb); clear BK303; clear BK304; clear BK305; clear HB; have BK303 := n0_; have BK304 := n1_; have BK305 := n2_; have HB := n3_; clear n0_ n1_ n2_ n3_; (try clear hb); (try clear hb2); (try clear hk); (try clear hi); have hcz18_0 : w17.cell? ⟨gb303, 0, none⟩ = some (.int .i64 a0_0) := (blk_cell BK303.out 0).trans rfl; have hcz18_1 : w17.cell? ⟨gb303, 1, none⟩ = some (.int .i64 a0_1) := (blk_cell BK303.out 1).trans rfl; have hfz18_0 := blk_frozen BK303.out 0; have hfz18_1 := blk_frozen BK303.out 1; have hcz19_0 : w17.cell? ⟨gb304, 0, none⟩ = some (.int .i64 a1_0) := (blk_cell BK304.out 0).trans rfl; have hcz19_1 : w17.cell? ⟨gb304, 1, none⟩ = some (.int .i64 a1_1) := (blk_cell BK304.out 1).trans rfl; have hfz19_0 := blk_frozen BK304.out 0; have hfz19_1 := blk_frozen BK304.out 1) | ((with_reducible refine gate_callee (f := 80) rfl ?_); refine goesL_ (some 26) rfl rfl Try.func80 (by kernel_rfl) rfl #[.agg #[.int .i64 (wrap64 (a0_0 + a1_0)), .int .i64 (wrap64 (a0_1 + a1_1))]] rfl (by (try simp only [List.map_toArray, List.map_cons, List.map_nil]); first | done | rfl | (simp only [List.length_drop, List.length_take]; rfl)) ?_; (with_reducible refine (liveryref01_told.calls (wrap64 (a0_0 + a1_0)) (wrap64 (a0_1 + a1_1)) t308 t309 t310 _ A7.out).mono ?_); rintro e w20 ⟨rfl, hb⟩; refine ⟨_, rfl, ?_⟩; have n0_ := XPrint.A0 (XPrint.bb BK303.out hb); have n1_ := XPrint.A0 (XPrint.bb BK304.out hb); have n2_ := XPrint.A0 (XPrint.bb BK305.out hb); have n3_ := XPrint.A0 (below_step (by exact XPrint.bz HB.out) hb); clear BK303; clear BK304; clear BK305; clear HB; have BK303 := n0_; have BK304 := n1_; have BK305 := n2_; have HB := n3_; clear n0_ n1_ n2_ n3_; (try clear hb); (try clear hb2); (try clear hk); (try clear hi); have hcz21_0 : w20.cell? ⟨gb305, 0, none⟩ = some (.int .i64 0) := (blk_cell BK305.out 0).trans rfl; have hcz21_1 : w20.cell? ⟨gb305, 1, none⟩ = some (.int .i64 0) := (blk_cell BK305.out 1).trans rfl; have hfz21_0 := blk_frozen BK305.out 0; have hfz21_1 := blk_frozen BK305.out 1))
   refine bodyPost_ret (results_ct rfl _ _ gb305 23 #[.int .i64 t308, .int .i64 t309] (0, 0) _ rfl (by (with_reducible repeat (first | refine blk_drewN ?_ _ | refine blk_drew ?_ | refine blk_alloc ?_ _)); refine blk_put (cs := #[.int .i64 t308, .int .i64 0]) ?_ 1 _ rfl; (with_reducible repeat (first | refine blk_drewN ?_ _ | refine blk_drew ?_ | refine blk_alloc ?_ _)); refine blk_put (cs := #[.int .i64 0, .int .i64 0]) ?_ 0 _ rfl; (with_reducible repeat (first | refine blk_drewN ?_ _ | refine blk_drew ?_ | refine blk_alloc ?_ _)); exact BK305.out) Try.underlying23 rfl (by kernel_rfl)) rfl ?_
   exact ⟨by first | rfl | (simp [errW_none, errW_some] <;> rfl) | (simp [*, errW_none, errW_some] <;> rfl), by repeat (first | (with_reducible first | exact HB.out | apply below_alloc | apply pw_below_drewN | apply below_drew1 | refine below_set ?_ GE303.out | refine below_set ?_ GE304.out | refine below_set ?_ GE305.out) | exact HB.out)⟩
  ·replace c6 := Bool.eq_false_iff.mpr c6
   subst c6
   have H1 : (some (0, 0, 10)) = some (r1, r2, r3) := by rw [if_neg (show ¬ (false = true) by decide)] at H; exact H
   clear H
   have H := H1
   clear H1
   simp only [Option.some.injEq, Prod.mk.injEq] at H
   obtain ⟨rfl, rfl, rfl⟩ := H
   go_enter Try.func54, Try.ntmps54
   go_wp2_with (first | ((with_reducible refine gate_dst (N := 2) rfl ?_); refine box_event ?hg (N := 2) ?hd (cs := #[.int .i64 a0_0, .int .i64 a0_1]) (t := 23) ?hr ?_; (case hd => rfl); (case hg => rfl); (case hr => first | (go_simp; done) | (go_simp; rfl)); intro gb303 hg w22 hbox hb; have n0_ := XPrint.A0 (below_step (by exact XPrint.bz HB.out) hb); have n1_ := XPrint.A0 (hbox); have n2_ := XPrint.A0 ((by rw [hg]; exact (below_size (by exact XPrint.bz HB.out)) : w.heap.size ≤ gb303)); have n3_ := XPrint.A0 ((by rw [hg]; exact (below_size (by exact XPrint.bz HB.out)) : w.heap.size ≤ gb303)); clear HB; have HB := n0_; have BK303 := n1_; have GW303 := n2_; have GE303 := n3_; clear n0_ n1_ n2_ n3_; clear hb hbox hg) | ((with_reducible refine gate_dst (N := 3) rfl ?_); refine box_event ?hg (N := 3) ?hd (cs := #[.int .i64 a1_0, .int .i64 a1_1]) (t := 23) ?hr ?_; (case hd => rfl); (case hg => rfl); (case hr => first | (go_simp; done) | (go_simp; rfl)); intro gb304 hg w23 hbox hb; have n0_ := XPrint.A0 (XPrint.bb BK303.out hb); have n1_ := XPrint.A0 (below_step (by exact XPrint.bz HB.out) hb); have n2_ := XPrint.A0 (hbox); have n3_ := XPrint.A0 ((by rw [hg]; exact (below_size (by exact XPrint.bz HB.out)) : w.heap.size ≤ gb304)); have n4_ := XPrint.A0 ((by rw [hg]; exact (below_size (by exact XPrint.bz HB.out)) : w.heap.size ≤ gb304)); have n5_ := XPrint.A0 ((by rw [hg]; exact Nat.ne_of_lt (XPrint.bl BK303.out) : gb303 ≠ gb304)); have n6_ := XPrint.A0 ((by rw [hg]; exact Nat.ne_of_gt (XPrint.bl BK303.out) : gb304 ≠ gb303)); clear BK303; clear HB; have BK303 := n0_; have HB := n1_; have BK304 := n2_; have GW304 := n3_; have GE304 := n4_; have NB303_304 := n5_; have NB304_303 := n6_; clear n0_ n1_ n2_ n3_ n4_ n5_ n6_; clear hb hbox hg) | ((with_reducible refine gate_dst (N := 4) rfl ?_); refine box_event ?hg (N := 4) ?hd (cs := #[.int .i64 0, .int .i64 0]) (t := 23) ?hr ?_; (case hd => rfl); (case hg => rfl); (case hr => first | (go_simp; done) | (go_simp; rfl)); intro gb305 hg w24 hbox hb; have n0_ := XPrint.A0 (XPrint.bb BK303.out hb); have n1_ := XPrint.A0 (XPrint.bb BK304.out hb); have n2_ := XPrint.A0 (below_step (by exact XPrint.bz HB.out) hb); have n3_ := XPrint.A0 (hbox); have n4_ := XPrint.A0 ((by rw [hg]; exact (below_size (by exact XPrint.bz HB.out)) : w.heap.size ≤ gb305)); have n5_ := XPrint.A0 ((by rw [hg]; exact (below_size (by exact XPrint.bz HB.out)) : w.heap.size ≤ gb305)); have n6_ := XPrint.A0 ((by rw [hg]; exact Nat.ne_of_lt (XPrint.bl BK303.out) : gb303 ≠ gb305)); have n7_ := XPrint.A0 ((by rw [hg]; exact Nat.ne_of_gt (XPrint.bl BK303.out) : gb305 ≠ gb303)); have n8_ := XPrint.A0 ((by rw [hg]; exact Nat.ne_of_lt (XPrint.bl BK304.out) : gb304 ≠ gb305)); have n9_ := XPrint.A0 ((by rw [hg]; exact Nat.ne_of_gt (XPrint.bl BK304.out) : gb305 ≠ gb304)); clear BK303; clear BK304; clear HB; have BK303 := n0_; have BK304 := n1_; have HB := n2_; have BK305 := n3_; have GW305 := n4_; have GE305 := n5_; have NB303_305 := n6_; have NB305_303 := n7_; have NB304_305 := n8_; have NB305_304 := n9_; clear n0_ n1_ n2_ n3_ n4_ n5_ n6_ n7_ n8_ n9_; clear hb hbox hg; have hnb25 := NB303_304.out; have hnc25 := NB304_303.out; have hnb26 := NB303_305.out; have hnc26 := NB305_303.out; have hcz27_0 : w24.cell? ⟨gb303, 0, none⟩ = some (.int .i64 a0_0) := (blk_cell BK303.out 0).trans rfl; have hcz27_1 : w24.cell? ⟨gb303, 1, none⟩ = some (.int .i64 a0_1) := (blk_cell BK303.out 1).trans rfl; have hfz27_0 := blk_frozen BK303.out 0; have hfz27_1 := blk_frozen BK303.out 1) | ((with_reducible refine gate_callee (f := 21) rfl ?_); refine goesL_ (some 7) rfl rfl Try.func21 (by kernel_rfl) rfl #[.agg #[.int .i64 a0_0, .int .i64 a0_1]] rfl (by (try simp only [List.map_toArray, List.map_cons, List.map_nil]); first | done | rfl | (simp only [List.length_drop, List.length_take]; rfl)) ?_; (with_reducible refine (liveryref01_May.calls a0_0 a0_1 true _ A3.out).mono ?_); rintro e w28 ⟨rfl, hb⟩; refine ⟨_, rfl, ?_⟩; have n0_ := XPrint.A0 (XPrint.bb BK303.out hb); have n1_ := XPrint.A0 (XPrint.bb BK304.out hb); have n2_ := XPrint.A0 (XPrint.bb BK305.out hb); have n3_ := XPrint.A0 (below_step (by exact XPrint.bz HB.out) hb); clear BK303; clear BK304; clear BK305; clear HB; have BK303 := n0_; have BK304 := n1_; have BK305 := n2_; have HB := n3_; clear n0_ n1_ n2_ n3_; (try clear hb); (try clear hb2); (try clear hk); (try clear hi); have hnb29 := NB304_305.out; have hnc29 := NB305_304.out; have hcz30_0 : w28.cell? ⟨gb304, 0, none⟩ = some (.int .i64 a1_0) := (blk_cell BK304.out 0).trans rfl; have hcz30_1 : w28.cell? ⟨gb304, 1, none⟩ = some (.int .i64 a1_1) := (blk_cell BK304.out 1).trans rfl; have hfz30_0 := blk_frozen BK304.out 0; have hfz30_1 := blk_frozen BK304.out 1) | (go_at_call 21; (with_reducible refine (liveryref01_May.calls a1_0 a1_1 false _ A5.out).mono ?_); rintro e w31 ⟨rfl, hb⟩; have n0_ := XPrint.A0 (XPrint.bb BK303.out hb); have n1_ := XPrint.A0 (XPrint.bb BK304.out hb); have n2_ := XPrint.A0 (XPrint.bb BK305.out hb); have n3_ := XPrint.A0 (below_step (by exact XPrint.bz HB.out) hb); clear BK303; clear BK304; clear BK305; clear HB; have BK303 := n0_; have BK304 := n1_; have BK305 := n2_; have HB := n3_; clear n0_ n1_ n2_ n3_; (try clear hb); (try clear hb2); (try clear hk); (try clear hi); have hcz32_0 : w31.cell? ⟨gb305, 0, none⟩ = some (.int .i64 0) := (blk_cell BK305.out 0).trans rfl; have hcz32_1 : w31.cell? ⟨gb305, 1, none⟩ = some (.int .i64 0) := (blk_cell BK305.out 1).trans rfl; have hfz32_0 := blk_frozen BK305.out 0; have hfz32_1 := blk_frozen BK305.out 1))
   refine bodyPost_ret (results_ct rfl _ _ gb305 23 #[.int .i64 0, .int .i64 0] (0, 0) _ rfl (by (with_reducible repeat (first | refine blk_drewN ?_ _ | refine blk_drew ?_ | refine blk_alloc ?_ _)); refine blk_put (cs := #[.int .i64 0, .int .i64 0]) ?_ 1 _ rfl; (with_reducible repeat (first | refine blk_drewN ?_ _ | refine blk_drew ?_ | refine blk_alloc ?_ _)); refine blk_put (cs := #[.int .i64 0, .int .i64 0]) ?_ 0 _ rfl; (with_reducible repeat (first | refine blk_drewN ?_ _ | refine blk_drew ?_ | refine blk_alloc ?_ _)); exact BK305.out) Try.underlying23 rfl (by kernel_rfl)) rfl ?_
   exact ⟨by first | rfl | (simp [errW_none, errW_some] <;> rfl) | (simp [*, errW_none, errW_some] <;> rfl), by repeat (first | (with_reducible first | exact HB.out | apply below_alloc | apply pw_below_drewN | apply below_drew1 | refine below_set ?_ GE303.out | refine below_set ?_ GE304.out | refine below_set ?_ GE305.out) | exact HB.out)⟩
 ·replace c4 := Bool.eq_false_iff.mpr c4
  subst c4
  have H1 : (some (0, 0, 10)) = some (r1, r2, r3) := by rw [if_neg (show ¬ (false = true) by decide)] at H; exact H
  clear H
  have H := H1
  clear H1
  simp only [Option.some.injEq, Prod.mk.injEq] at H
  obtain ⟨rfl, rfl, rfl⟩ := H
  go_enter Try.func54, Try.ntmps54
  go_wp2_with (first | ((with_reducible refine gate_dst (N := 2) rfl ?_); refine box_event ?hg (N := 2) ?hd (cs := #[.int .i64 a0_0, .int .i64 a0_1]) (t := 23) ?hr ?_; (case hd => rfl); (case hg => rfl); (case hr => first | (go_simp; done) | (go_simp; rfl)); intro gb303 hg w33 hbox hb; have n0_ := XPrint.A0 (below_step (by exact XPrint.bz HB.out) hb); have n1_ := XPrint.A0 (hbox); have n2_ := XPrint.A0 ((by rw [hg]; exact (below_size (by exact XPrint.bz HB.out)) : w.heap.size ≤ gb303)); have n3_ := XPrint.A0 ((by rw [hg]; exact (below_size (by exact XPrint.bz HB.out)) : w.heap.size ≤ gb303)); clear HB; have HB := n0_; have BK303 := n1_; have GW303 := n2_; have GE303 := n3_; clear n0_ n1_ n2_ n3_; clear hb hbox hg) | ((with_reducible refine gate_dst (N := 3) rfl ?_); refine box_event ?hg (N := 3) ?hd (cs := #[.int .i64 a1_0, .int .i64 a1_1]) (t := 23) ?hr ?_; (case hd => rfl); (case hg => rfl); (case hr => first | (go_simp; done) | (go_simp; rfl)); intro gb304 hg w34 hbox hb; have n0_ := XPrint.A0 (XPrint.bb BK303.out hb); have n1_ := XPrint.A0 (below_step (by exact XPrint.bz HB.out) hb); have n2_ := XPrint.A0 (hbox); have n3_ := XPrint.A0 ((by rw [hg]; exact (below_size (by exact XPrint.bz HB.out)) : w.heap.size ≤ gb304)); have n4_ := XPrint.A0 ((by rw [hg]; exact (below_size (by exact XPrint.bz HB.out)) : w.heap.size ≤ gb304)); have n5_ := XPrint.A0 ((by rw [hg]; exact Nat.ne_of_lt (XPrint.bl BK303.out) : gb303 ≠ gb304)); have n6_ := XPrint.A0 ((by rw [hg]; exact Nat.ne_of_gt (XPrint.bl BK303.out) : gb304 ≠ gb303)); clear BK303; clear HB; have BK303 := n0_; have HB := n1_; have BK304 := n2_; have GW304 := n3_; have GE304 := n4_; have NB303_304 := n5_; have NB304_303 := n6_; clear n0_ n1_ n2_ n3_ n4_ n5_ n6_; clear hb hbox hg) | ((with_reducible refine gate_dst (N := 4) rfl ?_); refine box_event ?hg (N := 4) ?hd (cs := #[.int .i64 0, .int .i64 0]) (t := 23) ?hr ?_; (case hd => rfl); (case hg => rfl); (case hr => first | (go_simp; done) | (go_simp; rfl)); intro gb305 hg w35 hbox hb; have n0_ := XPrint.A0 (XPrint.bb BK303.out hb); have n1_ := XPrint.A0 (XPrint.bb BK304.out hb); have n2_ := XPrint.A0 (below_step (by exact XPrint.bz HB.out) hb); have n3_ := XPrint.A0 (hbox); have n4_ := XPrint.A0 ((by rw [hg]; exact (below_size (by exact XPrint.bz HB.out)) : w.heap.size ≤ gb305)); have n5_ := XPrint.A0 ((by rw [hg]; exact (below_size (by exact XPrint.bz HB.out)) : w.heap.size ≤ gb305)); have n6_ := XPrint.A0 ((by rw [hg]; exact Nat.ne_of_lt (XPrint.bl BK303.out) : gb303 ≠ gb305)); have n7_ := XPrint.A0 ((by rw [hg]; exact Nat.ne_of_gt (XPrint.bl BK303.out) : gb305 ≠ gb303)); have n8_ := XPrint.A0 ((by rw [hg]; exact Nat.ne_of_lt (XPrint.bl BK304.out) : gb304 ≠ gb305)); have n9_ := XPrint.A0 ((by rw [hg]; exact Nat.ne_of_gt (XPrint.bl BK304.out) : gb305 ≠ gb304)); clear BK303; clear BK304; clear HB; have BK303 := n0_; have BK304 := n1_; have HB := n2_; have BK305 := n3_; have GW305 := n4_; have GE305 := n5_; have NB303_305 := n6_; have NB305_303 := n7_; have NB304_305 := n8_; have NB305_304 := n9_; clear n0_ n1_ n2_ n3_ n4_ n5_ n6_ n7_ n8_ n9_; clear hb hbox hg; have hnb36 := NB303_304.out; have hnc36 := NB304_303.out; have hnb37 := NB303_305.out; have hnc37 := NB305_303.out; have hcz38_0 : w35.cell? ⟨gb303, 0, none⟩ = some (.int .i64 a0_0) := (blk_cell BK303.out 0).trans rfl; have hcz38_1 : w35.cell? ⟨gb303, 1, none⟩ = some (.int .i64 a0_1) := (blk_cell BK303.out 1).trans rfl; have hfz38_0 := blk_frozen BK303.out 0; have hfz38_1 := blk_frozen BK303.out 1) | ((with_reducible refine gate_callee (f := 21) rfl ?_); refine goesL_ (some 7) rfl rfl Try.func21 (by kernel_rfl) rfl #[.agg #[.int .i64 a0_0, .int .i64 a0_1]] rfl (by (try simp only [List.map_toArray, List.map_cons, List.map_nil]); first | done | rfl | (simp only [List.length_drop, List.length_take]; rfl)) ?_; (with_reducible refine (liveryref01_May.calls a0_0 a0_1 false _ A3.out).mono ?_); rintro e w39 ⟨rfl, hb⟩; refine ⟨_, rfl, ?_⟩; have n0_ := XPrint.A0 (XPrint.bb BK303.out hb); have n1_ := XPrint.A0 (XPrint.bb BK304.out hb); have n2_ := XPrint.A0 (XPrint.bb BK305.out hb); have n3_ := XPrint.A0 (below_step (by exact XPrint.bz HB.out) hb); clear BK303; clear BK304; clear BK305; clear HB; have BK303 := n0_; have BK304 := n1_; have BK305 := n2_; have HB := n3_; clear n0_ n1_ n2_ n3_; (try clear hb); (try clear hb2); (try clear hk); (try clear hi); have hnb40 := NB305_304.out; have hnc40 := NB304_305.out; have hcz41_0 : w39.cell? ⟨gb305, 0, none⟩ = some (.int .i64 0) := (blk_cell BK305.out 0).trans rfl; have hcz41_1 : w39.cell? ⟨gb305, 1, none⟩ = some (.int .i64 0) := (blk_cell BK305.out 1).trans rfl; have hfz41_0 := blk_frozen BK305.out 0; have hfz41_1 := blk_frozen BK305.out 1))
  refine bodyPost_ret (results_ct rfl _ _ gb305 23 #[.int .i64 0, .int .i64 0] (0, 0) _ rfl (by (with_reducible repeat (first | refine blk_drewN ?_ _ | refine blk_drew ?_ | refine blk_alloc ?_ _)); refine blk_put (cs := #[.int .i64 0, .int .i64 0]) ?_ 1 _ rfl; (with_reducible repeat (first | refine blk_drewN ?_ _ | refine blk_drew ?_ | refine blk_alloc ?_ _)); refine blk_put (cs := #[.int .i64 0, .int .i64 0]) ?_ 0 _ rfl; (with_reducible repeat (first | refine blk_drewN ?_ _ | refine blk_drew ?_ | refine blk_alloc ?_ _)); exact BK305.out) Try.underlying23 rfl (by kernel_rfl)) rfl ?_
  exact ⟨by first | rfl | (simp [errW_none, errW_some] <;> rfl) | (simp [*, errW_none, errW_some] <;> rfl), by repeat (first | (with_reducible first | exact HB.out | apply below_alloc | apply pw_below_drewN | apply below_drew1 | refine below_set ?_ GE303.out | refine below_set ?_ GE304.out | refine below_set ?_ GE305.out) | exact HB.out)⟩

/-! ### liveryref01_Sum: function 30 -/
def liveryref01_Sum.l0 : Nat → List (S23) → Int → Int → Int → Option (Int × Int × Int)
 | 0, _, _, _, _ => none
 | k + 1, x0, x5, x313000, x313001 => if x5 < (x0.length : Int) then (if 0 ≤ x5 then ((liveryref01_Add.f x313000 x313001 ((rd_T23 x0 x5).f0) ((rd_T23 x0 x5).f1)).bind fun bt314 => (if bt314.2.2 = 0 then (liveryref01_Sum.l0 k x0 (wrap64 (x5 + 1)) bt314.1 bt314.2.1) else (some (0, 0, bt314.2.2)))) else (none)) else (some (x313000, x313001, 0))
def liveryref01_Sum.f (k : Nat) (l0 : List (S23)) : Option (Int × Int × Int) := liveryref01_Sum.l0 k l0 0 0 0
theorem liveryref01_Sum.mono_l : ∀ k, (∀ y0 y1 y2 y3, LeO (liveryref01_Sum.l0 k y0 y1 y2 y3) (liveryref01_Sum.l0 (k + 1) y0 y1 y2 y3))
 | 0 => fun _ _ _ _ r h => by simp [liveryref01_Sum.l0] at h
 | k + 1 => by
  have ih0 := liveryref01_Sum.mono_l k
  ·intro y0 y1 y2 y3
   unfold liveryref01_Sum.l0
   repeat' first
   | (with_reducible exact ih0 _ _ _ _)
   | (with_reducible exact LeO.refl _)
   | (with_reducible exact LeO.none _)
   | (with_reducible refine LeO.ite ?_ ?_)
   | (with_reducible refine LeO.bind ?_ (fun _ => ?_))
   | exact ih0 _ _ _ _
   | exact LeO.none _
   | refine LeO.ite ?_ ?_
   | refine LeO.bind ?_ (fun _ => ?_)
theorem liveryref01_Sum.mono : ∀ a0 k, LeO (liveryref01_Sum.f k a0) (liveryref01_Sum.f (k + 1) a0) := by
 intro a0 k
 have ih0 := liveryref01_Sum.mono_l k
 unfold liveryref01_Sum.f
 repeat' first
   | (with_reducible exact ih0 _ _ _ _)
   | (with_reducible exact LeO.refl _)
   | (with_reducible exact LeO.none _)
   | (with_reducible refine LeO.ite ?_ ?_)
   | (with_reducible refine LeO.bind ?_ (fun _ => ?_))
   | exact ih0 _ _ _ _
   | exact LeO.none _
   | refine LeO.ite ?_ ?_
   | refine LeO.bind ?_ (fun _ => ?_)
def liveryref01_Sum.T5 : Bool × List (List Nat × List Nat) := (true, [([], []), ([], []), ([], []), ([1, 2], [1, 2]), ([3], [3]), ([0, 4], [0, 4]), ([5], [5]), ([6], [6]), ([6], [6]), ([], []), ([9, 7, 5, 0, 1, 2, 3, 4, 5, 6, 7, 9], [7, 9]), ([8, 10, 0, 1, 2, 3, 4, 5, 6, 7, 8, 9, 10], [8])])
def liveryref01_Sum.B5 : List Nat := [0, 0, 0, 6, 14, 31, 63, 127, 127, 0, 767, 2047]
theorem liveryref01_Sum.tab5 : rtab .any (opsOf Try.f30 5) = liveryref01_Sum.T5 := by kernel_rfl
theorem liveryref01_Sum.bits5 : waitsOk liveryref01_Sum.T5.2 liveryref01_Sum.B5 = true := by kernel_rfl
set_option maxHeartbeats 8000000 in
set_option maxRecDepth 100000 in
theorem liveryref01_Sum.calls (k : Nat) (A0 : Option Addr) (c0 : Nat) (l0 : List (S23)) (r1 : Int) (r2 : Int) (r3 : Int) (w : World) (hr0 : Kd.C k23 w A0 l0.length l0) (hc0 : l0.length ≤ c0) (h : liveryref01_Sum.f k l0 = some (r1, r2, r3)) :
  Calls Try.prog 30 #[.slice A0 l0.length c0] w fun e w' => e = .returned (.tuple #[.agg #[.int .i64 r1, .int .i64 r2], .int .i64 r3]) ∧ Below w.heap.size w w' := by
 have hu23 := Try.underlying23
 have HR0 := XPrint.A0 hr0
 have HC0 := XPrint.A0 hc0
 clear hr0 hc0
 have HB := XPrint.A0 (Below.refl w.heap.size w)
 have H : (liveryref01_Sum.l0 k l0 0 0 0) = some (r1, r2, r3) := h
 clear h
 have H' := XPrint.A0 H
 clear H
 go_enter Try.func30, Try.ntmps30
 go_wp2_with (first | ((with_reducible refine gate_dst (N := 2) rfl ?_); refine box_event ?hg (N := 2) ?hd (cs := #[.int .i64 0, .int .i64 0]) (t := 23) ?hr ?_; (case hd => rfl); (case hg => rfl); (case hr => first | (go_simp; done) | (go_simp; rfl)); intro gb311 hg w2 hbox hb; have n0_ := XPrint.A0 (below_step (by exact XPrint.bz HB.out) hb); have n1_ := XPrint.A0 (hbox); have n2_ := XPrint.A0 ((by rw [hg]; exact (below_size (by exact XPrint.bz HB.out)) : w.heap.size ≤ gb311)); have n3_ := XPrint.A0 ((by rw [hg]; exact (below_size (by exact XPrint.bz HB.out)) : w.heap.size ≤ gb311)); clear HB; have HB := n0_; have BK311 := n1_; have GW311 := n2_; have GE311 := n3_; clear n0_ n1_ n2_ n3_; clear hb hbox hg) | ((with_reducible refine gate_dst (N := 4) rfl ?_); refine box_event ?hg (N := 4) ?hd (cs := #[.int .i64 0, .int .i64 0]) (t := 23) ?hr ?_; (case hd => rfl); (case hg => rfl); (case hr => first | (go_simp; done) | (go_simp; rfl)); intro gb312 hg w3 hbox hb; have n0_ := XPrint.A0 (XPrint.bb BK311.out hb); have n1_ := XPrint.A0 (below_step (by exact XPrint.bz HB.out) hb); have n2_ := XPrint.A0 (hbox); have n3_ := XPrint.A0 ((by rw [hg]; exact (below_size (by exact XPrint.bz HB.out)) : w.heap.size ≤ gb312)); have n4_ := XPrint.A0 ((by rw [hg]; exact (below_size (by exact XPrint.bz HB.out)) : w.heap.size ≤ gb312)); have n5_ := XPrint.A0 ((by rw [hg]; exact Nat.ne_of_lt (XPrint.bl BK311.out) : gb311 ≠ gb312)); have n6_ := XPrint.A0 ((by rw [hg]; exact Nat.ne_of_gt (XPrint.bl BK311.out) : gb312 ≠ gb311)); clear BK311; clear HB; have BK311 := n0_; have HB := n1_; have BK312 := n2_; have GW312 := n3_; have GE312 := n4_; have NB311_312 := n5_; have NB312_311 := n6_; clear n0_ n1_ n2_ n3_ n4_ n5_ n6_; clear hb hbox hg; have hnb4 := NB312_311.out; have hnc4 := NB311_312.out; have hcz5_0 : w3.cell? ⟨gb312, 0, none⟩ = some (.int .i64 0) := (blk_cell BK312.out 0).trans rfl; have hcz5_1 : w3.cell? ⟨gb312, 1, none⟩ = some (.int .i64 0) := (blk_cell BK312.out 1).trans rfl; have hfz5_0 := blk_frozen BK312.out 0; have hfz5_1 := blk_frozen BK312.out 1))
 go_loopg [5] k (fun kq v5 w' => ∃ (x5_1 : Int) (x312000_1 : Int) (x312001_1 : Int) (x313000_1 : Int) (x313001_1 : Int), v5 = .int .i64 x5_1 ∧ Aside0 (liveryref01_Sum.l0 kq l0 x5_1 x313000_1 x313001_1 = some (r1, r2, r3)) ∧ Aside0 (kq ≤ k) ∧ Aside0 (w'.heap[gb311]? = some (.cells #[.int .i64 x312000_1, .int .i64 x312001_1] 23 (0, 0))) ∧ Aside0 (w'.heap[gb312]? = some (.cells #[.int .i64 x313000_1, .int .i64 x313001_1] 23 (0, 0))) ∧ Aside0 (Below w.heap.size w w'))
 case atStart => exact ⟨(0), (0), (0), (0), (0), (by first | rfl | (simp; done) | (simp [*]; done)), H', ⟨Nat.le_refl _⟩, ⟨by (with_reducible repeat (first | refine blk_drewN ?_ _ | refine blk_drew ?_ | refine blk_alloc ?_ _)); refine blk_far ?_ NB311_312.out _; (with_reducible repeat (first | refine blk_drewN ?_ _ | refine blk_drew ?_ | refine blk_alloc ?_ _)); refine blk_far ?_ NB311_312.out _; (with_reducible repeat (first | refine blk_drewN ?_ _ | refine blk_drew ?_ | refine blk_alloc ?_ _)); exact BK311.out⟩, ⟨by (with_reducible repeat (first | refine blk_drewN ?_ _ | refine blk_drew ?_ | refine blk_alloc ?_ _)); refine blk_put (cs := #[.int .i64 0, .int .i64 0]) ?_ 1 _ rfl; (with_reducible repeat (first | refine blk_drewN ?_ _ | refine blk_drew ?_ | refine blk_alloc ?_ _)); refine blk_put (cs := #[.int .i64 0, .int .i64 0]) ?_ 0 _ rfl; (with_reducible repeat (first | refine blk_drewN ?_ _ | refine blk_drew ?_ | refine blk_alloc ?_ _)); exact BK312.out⟩, ⟨by repeat (first | (with_reducible first | exact HB.out | apply below_alloc | apply pw_below_drewN | apply below_drew1 | refine below_set ?_ GE311.out | refine below_set ?_ GE312.out) | exact HB.out)⟩⟩
 case round =>
  clear H'
  try clear p2
  try clear c3
  try clear c4
  try clear hcz5_0
  try clear hcz5_1
  try clear hfz5_0
  try clear hfz5_1
  obtain ⟨x5_1, x312000_1, x312001_1, x313000_1, x313001_1, rfl, HA, HK1, BK311, BK312, HB⟩ := hrel
  cases gk with
  | zero => exact absurd HA.out (by simp [liveryref01_Sum.l0])
  | succ k1 =>
   have H := HA.out
   clear HA
   simp only [liveryref01_Sum.l0] at H
   by_cases c6 : x5_1 < (l0.length : Int)
   ·rw [if_pos c6] at H
    have c6b0 : decide (x5_1 < (l0.length : Int)) = true := decide_eq_true c6
    clear c6
    by_cases c7 : 0 ≤ x5_1
    ·rw [if_pos c7] at H
     have c7b0 : decide (0 ≤ x5_1) = true := decide_eq_true c7
     clear c7
     replace H := Option.bind_eq_some_iff.mp H
     obtain ⟨⟨t314, t315, t316⟩, A80, H⟩ := H
     replace H : (if t316 = 0 then (liveryref01_Sum.l0 k1 l0 (wrap64 (x5_1 + 1)) t314 t315) else (some (0, 0, t316))) = some (r1, r2, r3) := H
     have A8 := XPrint.A0 A80
     clear A80
     by_cases c9 : t316 = 0
     ·rw [if_pos c9] at H
      have c9b0 : (t316 == 0) = true := beq_iff_eq.mpr c9
      have c9b1 : (t316 != 0) = false := bne_eq_false_iff_eq.mpr c9
      clear c9
      have H' := XPrint.A0 H
      clear H
      try go_wp2
      have n0_ := XPrint.A0 (blk_drew BK311.out)
      have n1_ := XPrint.A0 (blk_drew BK312.out)
      have n2_ := XPrint.A0 (below_drew1 HB.out)
      clear BK311 BK312 HB
      have BK311 := n0_; have BK312 := n1_; have HB := n2_
      clear n0_ n1_ n2_
      have p313 : 0 ≤ (x5_1 : Int) := of_decide_eq_true (by first | (with_reducible assumption) | assumption)
      have q313 : x5_1 < (l0.length : Int) := of_decide_eq_true (by first | (with_reducible assumption) | assumption)
      obtain ⟨ad313, e313, hx313_0, hx313_1⟩ := at_T23 HR0.out x5_1 p313 q313
      have hw313_1 := hx313_1
      have hw313_0 := hx313_0
      cases e313
      replace hx313_0 := (HB.out.cell (World.block_lt_of_cell? w _ hx313_0)).trans hx313_0
      replace hx313_1 := (HB.out.cell (World.block_lt_of_cell? w _ hx313_1)).trans hx313_1
      replace p313 := eq_true p313
      replace q313 := eq_true q313
      refine start_ (n := 12) (S := fun w' => w'.cell? ⟨gb312, 0, none⟩ = some (.int .i64 x313000_1) ∧ w'.cell? ⟨gb312, 1, none⟩ = some (.int .i64 x313001_1) ∧ w'.cell? (ad313.add ((x5_1).toNat * 2)) = some (.int .i64 ((rd_T23 l0 x5_1).f0)) ∧ w'.cell? ⟨(ad313.add ((x5_1).toNat * 2)).block, (ad313.add ((x5_1).toNat * 2)).off + 1, none⟩ = some (.int .i64 ((rd_T23 l0 x5_1).f1))) (ds := []) #[false, false, false, false, false, false, false, false, false, false, false, false] (by kernel_rfl) rfl rfl ⟨(blk_cell BK312.out 0).trans rfl, (blk_cell BK312.out 1).trans rfl, ((HB.out.cell (World.block_lt_of_cell? w _ hw313_0)).trans hw313_0), ((HB.out.cell (World.block_lt_of_cell? w _ hw313_1)).trans hw313_1)⟩ (fun hHeld => ?_); refine with_tabW liveryref01_Sum.tab5 liveryref01_Sum.bits5 (fun HT_ HW_ => ?_)
      generalize wr.drew = w10 at BK311 BK312 HB hx313_0 hx313_1 hHeld ⊢
      refine pure_ (i := 1) (N := some 17) (v := ?_) (a' := ?_) #[false, true, false, false, false, false, false, false, false, false, false, false] rfl rfl (any_of HT_.out (by kernel_rfl)) (fun _ _ _ h => h) (Or.inl ⟨by rfl, ?_⟩) ?_ ?_
      rotate_left
      ·intro w'
       go_simp
       with_reducible rfl
      rotate_left
      ·simp only [Act.put, List.setIfInBounds_toArray, List.set_cons_zero, List.set_cons_succ, i64_w, i32_w]
       rfl
      refine pure_ (i := 2) (N := some 18) (v := ?_) (a' := ?_) #[false, true, true, false, false, false, false, false, false, false, false, false] rfl rfl (any_of HT_.out (by kernel_rfl)) (fun _ _ _ h => h) (Or.inl ⟨by rfl, ?_⟩) ?_ ?_
      rotate_left
      ·intro w'
       go_simp
       with_reducible rfl
      rotate_left
      ·simp only [Act.put, List.setIfInBounds_toArray, List.set_cons_zero, List.set_cons_succ, i64_w, i32_w]
       rfl
      refine pure_ (i := 3) (N := some 19) (v := ?_) (a' := ?_) #[false, true, true, true, false, false, false, false, false, false, false, false] rfl rfl (any_of HT_.out (by kernel_rfl)) (fun _ _ _ h => h) (Or.inl ⟨by rfl, ?_⟩) ?_ ?_
      rotate_left
      ·intro w'
       go_simp
       with_reducible rfl
      rotate_left
      ·simp only [Act.put, List.setIfInBounds_toArray, List.set_cons_zero, List.set_cons_succ, i64_w, i32_w]
       rfl
      refine take_ (i := 0) (N := some 16) (v := ?_) (a' := ?_) #[true, true, true, true, false, false, false, false, false, false, false, false] rfl rfl (take_ofW HT_.out HW_.out (by kernel_rfl)) (fun _ _ _ h => h) (Or.inl ⟨by rfl, ?_⟩) hHeld ?_ ?_
      rotate_left
      ·rintro w' ⟨s0, s1, s2, s3⟩
       go_simp
       with_reducible rfl
      rotate_left
      ·simp only [Act.put, List.setIfInBounds_toArray, List.set_cons_zero, List.set_cons_succ, i64_w, i32_w]
       rfl
      refine take_ (i := 4) (N := some 20) (v := ?_) (a' := ?_) #[true, true, true, true, true, false, false, false, false, false, false, false] rfl rfl (take_ofW HT_.out HW_.out (by kernel_rfl)) (fun _ _ _ h => h) (Or.inl ⟨by rfl, ?_⟩) hHeld ?_ ?_
      rotate_left
      ·rintro w' ⟨s0, s1, s2, s3⟩
       go_simp
       with_reducible rfl
      rotate_left
      ·simp only [Act.put, List.setIfInBounds_toArray, List.set_cons_zero, List.set_cons_succ, i64_w, i32_w]
       rfl
      refine join_ (σ := Nat) 2 #[true, true, true, true, true, true, true, true, true, true, false, false] (fun s_ => [(21, .tuple #[.agg #[.int .i64 t314, .int .i64 t315], .int .i64 t316]), (6, .pointer (some ⟨s_, 0, none⟩)), (15, .tuple #[.agg #[.int .i64 t314, .int .i64 t315], .int .i64 t316]), (22, .agg #[.int .i64 t314, .int .i64 t315]), (23, .int .i64 t316)]) (fun s_ w' => (w'.cell? ⟨gb312, 0, none⟩ = some (.int .i64 x313000_1) ∧ w'.cell? ⟨gb312, 1, none⟩ = some (.int .i64 x313001_1) ∧ w'.cell? (ad313.add ((x5_1).toNat * 2)) = some (.int .i64 ((rd_T23 l0 x5_1).f0)) ∧ w'.cell? ⟨(ad313.add ((x5_1).toNat * 2)).block, (ad313.add ((x5_1).toNat * 2)).off + 1, none⟩ = some (.int .i64 ((rd_T23 l0 x5_1).f1))) ∧ (w'.heap[gb311]? = some (.cells #[.int .i64 x312000_1, .int .i64 x312001_1] 23 (0, 0))) ∧ (w'.heap[gb312]? = some (.cells #[.int .i64 x313000_1, .int .i64 x313001_1] 23 (0, 0))) ∧ (w'.heap[s_]? = some (.cells #[.int .i64 0, .int .i64 0] 23 (0, 0))) ∧ (w.heap.size ≤ s_) ∧ (w.heap.size ≤ s_) ∧ (gb311 ≠ s_) ∧ (s_ ≠ gb311) ∧ (gb312 ≠ s_) ∧ (s_ ≠ gb312) ∧ (Below w.heap.size w w')) ?_ ?_
      rotate_left
      ·intro hCont
       refine two_ (i := 5) (j := 9) (Ni := some 21) (Nj := some 6) #[true, true, true, true, true, true, false, false, false, false, false, false] #[true, true, true, true, true, false, false, false, false, true, false, false] rfl rfl rfl rfl (two_of HT_.out (by kernel_rfl)) (by decide) (by decide) (fun K hK => ?_) (fun K hK => ?_)
       ·skip
        refine goes_ Try.func54 (by kernel_rfl) rfl #[.agg #[.int .i64 x313000_1, .int .i64 x313001_1], .agg #[.int .i64 ((rd_T23 l0 x5_1).f0), .int .i64 ((rd_T23 l0 x5_1).f1)]] (by rfl) rfl rfl (by (try simp only [List.map_toArray, List.map_cons, List.map_nil]); first | done | rfl | (simp only [List.length_drop, List.length_take]; rfl)) ?_
        with_reducible refine (liveryref01_Add.calls x313000_1 x313001_1 ((rd_T23 l0 x5_1).f0) ((rd_T23 l0 x5_1).f1) t314 t315 t316 _ A8.out).mono ?_
        rintro e w11 ⟨rfl, hb⟩
        refine ⟨_, rfl, ?_⟩
        have n0_ := XPrint.A0 (XPrint.bb BK311.out hb)
        have n1_ := XPrint.A0 (XPrint.bb BK312.out hb)
        have n2_ := XPrint.A0 (below_step (by exact XPrint.bz HB.out) hb)
        clear BK311 BK312 HB
        have BK311 := n0_; have BK312 := n1_; have HB := n2_
        clear n0_ n1_ n2_
        (try clear hb)
        (try clear hb2)
        (try clear hk)
        (try clear hi)
        refine hK.out _ _ ⟨(blk_cell BK312.out 0).trans rfl, (blk_cell BK312.out 1).trans rfl, ((HB.out.cell (World.block_lt_of_cell? w _ hw313_0)).trans hw313_0), ((HB.out.cell (World.block_lt_of_cell? w _ hw313_1)).trans hw313_1)⟩ (fun hHeld => ?_)
        clear hK K
        refine norm_ (a' := ?_) ?_ ?_
        rotate_left
        ·show Act.put _ (some 21) _ = _
         simp only [Act.put, List.setIfInBounds_toArray, List.set_cons_zero, List.set_cons_succ, i64_w, i32_w]
         rfl
        refine pure_ (i := 6) (N := some 15) (v := ?_) (a' := ?_) #[true, true, true, true, true, true, true, false, false, false, false, false] rfl rfl (any_of HT_.out (by kernel_rfl)) (fun _ _ _ h => h) (Or.inl ⟨by rfl, ?_⟩) ?_ ?_
        rotate_left
        ·intro w'
         go_simp
         with_reducible rfl
        rotate_left
        ·simp only [Act.put, List.setIfInBounds_toArray, List.set_cons_zero, List.set_cons_succ, i64_w, i32_w]
         rfl
        refine pure_ (i := 7) (N := some 22) (v := ?_) (a' := ?_) #[true, true, true, true, true, true, true, true, false, false, false, false] rfl rfl (any_of HT_.out (by kernel_rfl)) (fun _ _ _ h => h) (Or.inl ⟨by rfl, ?_⟩) ?_ ?_
        rotate_left
        ·intro w'
         go_simp
         with_reducible rfl
        rotate_left
        ·simp only [Act.put, List.setIfInBounds_toArray, List.set_cons_zero, List.set_cons_succ, i64_w, i32_w]
         rfl
        refine pure_ (i := 8) (N := some 23) (v := ?_) (a' := ?_) #[true, true, true, true, true, true, true, true, true, false, false, false] rfl rfl (any_of HT_.out (by kernel_rfl)) (fun _ _ _ h => h) (Or.inl ⟨by rfl, ?_⟩) ?_ ?_
        rotate_left
        ·intro w'
         go_simp
         with_reducible rfl
        rotate_left
        ·simp only [Act.put, List.setIfInBounds_toArray, List.set_cons_zero, List.set_cons_succ, i64_w, i32_w]
         rfl
        refine one_ (i := 9) (N := some 6) #[true, true, true, true, true, true, true, true, true, true, false, false] rfl rfl (one_of HT_.out (by kernel_rfl)) (by decide) (fun K hK => ?_)
        refine box_step ?hg (N := 6) ?hd (cs := #[.int .i64 0, .int .i64 0]) (t := 23) ?hr ?_; (case hd => rfl); (case hg => rfl); (case hr => first | (go_simp; done) | (go_simp; rfl))
        intro gb317 hg w12 hbox hb
        have n0_ := XPrint.A0 (XPrint.bb BK311.out hb)
        have n1_ := XPrint.A0 (XPrint.bb BK312.out hb)
        have n2_ := XPrint.A0 (below_step (by exact XPrint.bz HB.out) hb)
        have n3_ := XPrint.A0 (hbox)
        have n4_ := XPrint.A0 ((by rw [hg]; exact (below_size (by exact XPrint.bz HB.out)) : w.heap.size ≤ gb317))
        have n5_ := XPrint.A0 ((by rw [hg]; exact (below_size (by exact XPrint.bz HB.out)) : w.heap.size ≤ gb317))
        have n6_ := XPrint.A0 ((by rw [hg]; exact Nat.ne_of_lt (XPrint.bl BK311.out) : gb311 ≠ gb317))
        have n7_ := XPrint.A0 ((by rw [hg]; exact Nat.ne_of_gt (XPrint.bl BK311.out) : gb317 ≠ gb311))
        have n8_ := XPrint.A0 ((by rw [hg]; exact Nat.ne_of_lt (XPrint.bl BK312.out) : gb312 ≠ gb317))
        have n9_ := XPrint.A0 ((by rw [hg]; exact Nat.ne_of_gt (XPrint.bl BK312.out) : gb317 ≠ gb312))
        clear BK311 BK312 HB
        have BK311 := n0_; have BK312 := n1_; have HB := n2_; have BK317 := n3_; have GW317 := n4_; have GE317 := n5_; have NB311_317 := n6_; have NB317_311 := n7_; have NB312_317 := n8_; have NB317_312 := n9_
        clear n0_ n1_ n2_ n3_ n4_ n5_ n6_ n7_ n8_ n9_ hb hbox hg
        refine hK.out _ _ ⟨(blk_cell BK312.out 0).trans rfl, (blk_cell BK312.out 1).trans rfl, ((HB.out.cell (World.block_lt_of_cell? w _ hw313_0)).trans hw313_0), ((HB.out.cell (World.block_lt_of_cell? w _ hw313_1)).trans hw313_1)⟩ (fun hHeld => ?_)
        clear hK K
        refine norm_ (a' := ?_) ?_ ?_
        rotate_left
        ·show Act.put _ (some 6) _ = _
         simp only [Act.put, List.setIfInBounds_toArray, List.set_cons_zero, List.set_cons_succ, i64_w, i32_w]
         rfl
        exact norm_ (by simp only [putAll, Act.put, List.setIfInBounds_toArray, List.set_cons_zero, List.set_cons_succ]) (hCont (gb317) _ ⟨hHeld, (XPrint.bk BK311.out), (XPrint.bk BK312.out), (XPrint.bk BK317.out), GW317.out, GE317.out, NB311_317.out, NB317_311.out, NB312_317.out, NB317_312.out, (by exact XPrint.bz HB.out)⟩)
       ·skip
        refine box_step ?hg (N := 6) ?hd (cs := #[.int .i64 0, .int .i64 0]) (t := 23) ?hr ?_; (case hd => rfl); (case hg => rfl); (case hr => first | (go_simp; done) | (go_simp; rfl))
        intro gb317 hg w11 hbox hb
        have n0_ := XPrint.A0 (XPrint.bb BK311.out hb)
        have n1_ := XPrint.A0 (XPrint.bb BK312.out hb)
        have n2_ := XPrint.A0 (below_step (by exact XPrint.bz HB.out) hb)
        have n3_ := XPrint.A0 (hbox)
        have n4_ := XPrint.A0 ((by rw [hg]; exact (below_size (by exact XPrint.bz HB.out)) : w.heap.size ≤ gb317))
        have n5_ := XPrint.A0 ((by rw [hg]; exact (below_size (by exact XPrint.bz HB.out)) : w.heap.size ≤ gb317))
        have n6_ := XPrint.A0 ((by rw [hg]; exact Nat.ne_of_lt (XPrint.bl BK311.out) : gb311 ≠ gb317))
        have n7_ := XPrint.A0 ((by rw [hg]; exact Nat.ne_of_gt (XPrint.bl BK311.out) : gb317 ≠ gb311))
        have n8_ := XPrint.A0 ((by rw [hg]; exact Nat.ne_of_lt (XPrint.bl BK312.out) : gb312 ≠ gb317))
        have n9_ := XPrint.A0 ((by rw [hg]; exact Nat.ne_of_gt (XPrint.bl BK312.out) : gb317 ≠ gb312))
        clear BK311 BK312 HB
        have BK311 := n0_; have BK312 := n1_; have HB := n2_; have BK317 := n3_; have GW317 := n4_; have GE317 := n5_; have NB311_317 := n6_; have NB317_311 := n7_; have NB312_317 := n8_; have NB317_312 := n9_
        clear n0_ n1_ n2_ n3_ n4_ n5_ n6_ n7_ n8_ n9_ hb hbox hg
        refine hK.out _ _ ⟨(blk_cell BK312.out 0).trans rfl, (blk_cell BK312.out 1).trans rfl, ((HB.out.cell (World.block_lt_of_cell? w _ hw313_0)).trans hw313_0), ((HB.out.cell (World.block_lt_of_cell? w _ hw313_1)).trans hw313_1)⟩ (fun hHeld => ?_)
        clear hK K
        refine norm_ (a' := ?_) ?_ ?_
        rotate_left
        ·show Act.put _ (some 6) _ = _
         simp only [Act.put, List.setIfInBounds_toArray, List.set_cons_zero, List.set_cons_succ, i64_w, i32_w]
         rfl
        refine one_ (i := 5) (N := some 21) #[true, true, true, true, true, true, false, false, false, true, false, false] rfl rfl (one_of HT_.out (by kernel_rfl)) (by decide) (fun K hK => ?_)
        refine goes_ Try.func54 (by kernel_rfl) rfl #[.agg #[.int .i64 x313000_1, .int .i64 x313001_1], .agg #[.int .i64 ((rd_T23 l0 x5_1).f0), .int .i64 ((rd_T23 l0 x5_1).f1)]] (by rfl) rfl rfl (by (try simp only [List.map_toArray, List.map_cons, List.map_nil]); first | done | rfl | (simp only [List.length_drop, List.length_take]; rfl)) ?_
        with_reducible refine (liveryref01_Add.calls x313000_1 x313001_1 ((rd_T23 l0 x5_1).f0) ((rd_T23 l0 x5_1).f1) t314 t315 t316 _ A8.out).mono ?_
        rintro e w12 ⟨rfl, hb⟩
        refine ⟨_, rfl, ?_⟩
        have n0_ := XPrint.A0 (XPrint.bb BK311.out hb)
        have n1_ := XPrint.A0 (XPrint.bb BK312.out hb)
        have n2_ := XPrint.A0 (XPrint.bb BK317.out hb)
        have n3_ := XPrint.A0 (below_step (by exact XPrint.bz HB.out) hb)
        clear BK311 BK312 BK317 HB
        have BK311 := n0_; have BK312 := n1_; have BK317 := n2_; have HB := n3_
        clear n0_ n1_ n2_ n3_
        (try clear hb)
        (try clear hb2)
        (try clear hk)
        (try clear hi)
        refine hK.out _ _ ⟨(blk_cell BK312.out 0).trans rfl, (blk_cell BK312.out 1).trans rfl, ((HB.out.cell (World.block_lt_of_cell? w _ hw313_0)).trans hw313_0), ((HB.out.cell (World.block_lt_of_cell? w _ hw313_1)).trans hw313_1)⟩ (fun hHeld => ?_)
        clear hK K
        refine norm_ (a' := ?_) ?_ ?_
        rotate_left
        ·show Act.put _ (some 21) _ = _
         simp only [Act.put, List.setIfInBounds_toArray, List.set_cons_zero, List.set_cons_succ, i64_w, i32_w]
         rfl
        refine pure_ (i := 6) (N := some 15) (v := ?_) (a' := ?_) #[true, true, true, true, true, true, true, false, false, true, false, false] rfl rfl (any_of HT_.out (by kernel_rfl)) (fun _ _ _ h => h) (Or.inl ⟨by rfl, ?_⟩) ?_ ?_
        rotate_left
        ·intro w'
         go_simp
         with_reducible rfl
        rotate_left
        ·simp only [Act.put, List.setIfInBounds_toArray, List.set_cons_zero, List.set_cons_succ, i64_w, i32_w]
         rfl
        refine pure_ (i := 7) (N := some 22) (v := ?_) (a' := ?_) #[true, true, true, true, true, true, true, true, false, true, false, false] rfl rfl (any_of HT_.out (by kernel_rfl)) (fun _ _ _ h => h) (Or.inl ⟨by rfl, ?_⟩) ?_ ?_
        rotate_left
        ·intro w'
         go_simp
         with_reducible rfl
        rotate_left
        ·simp only [Act.put, List.setIfInBounds_toArray, List.set_cons_zero, List.set_cons_succ, i64_w, i32_w]
         rfl
        refine pure_ (i := 8) (N := some 23) (v := ?_) (a' := ?_) #[true, true, true, true, true, true, true, true, true, true, false, false] rfl rfl (any_of HT_.out (by kernel_rfl)) (fun _ _ _ h => h) (Or.inl ⟨by rfl, ?_⟩) ?_ ?_
        rotate_left
        ·intro w'
         go_simp
         with_reducible rfl
        rotate_left
        ·simp only [Act.put, List.setIfInBounds_toArray, List.set_cons_zero, List.set_cons_succ, i64_w, i32_w]
         rfl
        exact norm_ (by simp only [putAll, Act.put, List.setIfInBounds_toArray, List.set_cons_zero, List.set_cons_succ]) (hCont (gb317) _ ⟨hHeld, (XPrint.bk BK311.out), (XPrint.bk BK312.out), (XPrint.bk BK317.out), GW317.out, GE317.out, NB311_317.out, NB317_311.out, NB312_317.out, NB317_312.out, (by exact XPrint.bz HB.out)⟩)
      rintro gb317 w13 ⟨hS_, h0_, h1_, h2_, h3_, h4_, h5_, h6_, h7_, h8_, h9_⟩
      have n0_ : Aside0 (w13.heap[gb311]? = some (.cells #[.int .i64 x312000_1, .int .i64 x312001_1] 23 (0, 0))) := ⟨h0_⟩
      have n1_ : Aside0 (w13.heap[gb312]? = some (.cells #[.int .i64 x313000_1, .int .i64 x313001_1] 23 (0, 0))) := ⟨h1_⟩
      have n2_ : Aside0 (w13.heap[gb317]? = some (.cells #[.int .i64 0, .int .i64 0] 23 (0, 0))) := ⟨h2_⟩
      have n3_ : Aside0 (w.heap.size ≤ gb317) := ⟨h3_⟩
      have n4_ : Aside0 (w.heap.size ≤ gb317) := ⟨h4_⟩
      have n5_ : Aside0 (gb311 ≠ gb317) := ⟨h5_⟩
      have n6_ : Aside0 (gb317 ≠ gb311) := ⟨h6_⟩
      have n7_ : Aside0 (gb312 ≠ gb317) := ⟨h7_⟩
      have n8_ : Aside0 (gb317 ≠ gb312) := ⟨h8_⟩
      have n9_ : Aside0 (Below w.heap.size w w13) := ⟨h9_⟩
      clear BK311 BK312 HB h0_ h1_ h2_ h3_ h4_ h5_ h6_ h7_ h8_ h9_
      have BK311 := n0_; have BK312 := n1_; have BK317 := n2_; have GW317 := n3_; have GE317 := n4_; have NB311_317 := n5_; have NB317_311 := n6_; have NB312_317 := n7_; have NB317_312 := n8_; have HB := n9_
      clear n0_ n1_ n2_ n3_ n4_ n5_ n6_ n7_ n8_ n9_
      have hHeld : w13.cell? ⟨gb312, 0, none⟩ = some (.int .i64 x313000_1) ∧ w13.cell? ⟨gb312, 1, none⟩ = some (.int .i64 x313001_1) ∧ w13.cell? (ad313.add ((x5_1).toNat * 2)) = some (.int .i64 ((rd_T23 l0 x5_1).f0)) ∧ w13.cell? ⟨(ad313.add ((x5_1).toNat * 2)).block, (ad313.add ((x5_1).toNat * 2)).off + 1, none⟩ = some (.int .i64 ((rd_T23 l0 x5_1).f1)) := hS_
      refine norm_ (a' := ?_) ?_ ?_
      rotate_left
      ·simp only [putAll, Act.put, List.setIfInBounds_toArray, List.set_cons_zero, List.set_cons_succ]
       rfl
      refine one_ (i := 10) (N := none) #[true, true, true, true, true, true, true, true, true, true, true, false] rfl rfl (one_of HT_.out (by kernel_rfl)) (by decide) (fun K hK => ?_)
      have hs14 : w13.cell? ⟨gb317, 0, none⟩ = some (.int .i64 0) := (blk_cell BK317.out 0).trans rfl
      have hfs14 := blk_frozen BK317.out 0
      have hns14_0 := NB311_317.out
      have hns14_1 := NB312_317.out
      have hms14_0 := NB317_311.out
      have hms14_1 := NB317_312.out
      have hs15 : w13.cell? ⟨gb317, 1, none⟩ = some (.int .i64 0) := (blk_cell BK317.out 1).trans rfl
      have hfs15 := blk_frozen BK317.out 1
      have hns15_0 := NB311_317.out
      have hns15_1 := NB312_317.out
      have hms15_0 := NB317_311.out
      have hms15_1 := NB317_312.out
      refine skip_ (w1 := ?_) (by rfl) rfl ?_ ?_
      rotate_left
      ·go_simp
       rfl
      refine hK.out _ _ ⟨((cell_far (p := ⟨gb317, _, none⟩) NB312_317.out _).trans (((cell_far (p := ⟨gb317, _, none⟩) NB312_317.out _).trans (hHeld.1)))), ((cell_far (p := ⟨gb317, _, none⟩) NB312_317.out _).trans (((cell_far (p := ⟨gb317, _, none⟩) NB312_317.out _).trans (hHeld.2.1)))), ((cell_far (p := ⟨gb317, _, none⟩) (by first | exact Nat.ne_of_lt (Nat.lt_of_lt_of_le (by have := World.block_lt_of_cell? _ _ hw313_0; first | rwa [add_block] at this | exact this) GW317.out) | (rw [add_block]; exact Nat.ne_of_lt (Nat.lt_of_lt_of_le (by have := World.block_lt_of_cell? _ _ hw313_0; first | rwa [add_block] at this | exact this) GW317.out)) | (show (Addr.add _ _).block ≠ _; rw [add_block]; exact Nat.ne_of_lt (Nat.lt_of_lt_of_le (by have := World.block_lt_of_cell? _ _ hw313_0; first | rwa [add_block] at this | exact this) GW317.out)) | (dsimp only; exact Nat.ne_of_lt (Nat.lt_of_lt_of_le (by have := World.block_lt_of_cell? _ _ hw313_0; first | rwa [add_block] at this | exact this) GW317.out))) _).trans (((cell_far (p := ⟨gb317, _, none⟩) (by first | exact Nat.ne_of_lt (Nat.lt_of_lt_of_le (by have := World.block_lt_of_cell? _ _ hw313_0; first | rwa [add_block] at this | exact this) GW317.out) | (rw [add_block]; exact Nat.ne_of_lt (Nat.lt_of_lt_of_le (by have := World.block_lt_of_cell? _ _ hw313_0; first | rwa [add_block] at this | exact this) GW317.out)) | (show (Addr.add _ _).block ≠ _; rw [add_block]; exact Nat.ne_of_lt (Nat.lt_of_lt_of_le (by have := World.block_lt_of_cell? _ _ hw313_0; first | rwa [add_block] at this | exact this) GW317.out)) | (dsimp only; exact Nat.ne_of_lt (Nat.lt_of_lt_of_le (by have := World.block_lt_of_cell? _ _ hw313_0; first | rwa [add_block] at this | exact this) GW317.out))) _).trans (hHeld.2.2.1)))), ((cell_far (p := ⟨gb317, _, none⟩) (by first | exact Nat.ne_of_lt (Nat.lt_of_lt_of_le (by have := World.block_lt_of_cell? _ _ hw313_1; first | rwa [add_block] at this | exact this) GW317.out) | (rw [add_block]; exact Nat.ne_of_lt (Nat.lt_of_lt_of_le (by have := World.block_lt_of_cell? _ _ hw313_1; first | rwa [add_block] at this | exact this) GW317.out)) | (show (Addr.add _ _).block ≠ _; rw [add_block]; exact Nat.ne_of_lt (Nat.lt_of_lt_of_le (by have := World.block_lt_of_cell? _ _ hw313_1; first | rwa [add_block] at this | exact this) GW317.out)) | (dsimp only; exact Nat.ne_of_lt (Nat.lt_of_lt_of_le (by have := World.block_lt_of_cell? _ _ hw313_1; first | rwa [add_block] at this | exact this) GW317.out))) _).trans (((cell_far (p := ⟨gb317, _, none⟩) (by first | exact Nat.ne_of_lt (Nat.lt_of_lt_of_le (by have := World.block_lt_of_cell? _ _ hw313_1; first | rwa [add_block] at this | exact this) GW317.out) | (rw [add_block]; exact Nat.ne_of_lt (Nat.lt_of_lt_of_le (by have := World.block_lt_of_cell? _ _ hw313_1; first | rwa [add_block] at this | exact this) GW317.out)) | (show (Addr.add _ _).block ≠ _; rw [add_block]; exact Nat.ne_of_lt (Nat.lt_of_lt_of_le (by have := World.block_lt_of_cell? _ _ hw313_1; first | rwa [add_block] at this | exact this) GW317.out)) | (dsimp only; exact Nat.ne_of_lt (Nat.lt_of_lt_of_le (by have := World.block_lt_of_cell? _ _ hw313_1; first | rwa [add_block] at this | exact this) GW317.out))) _).trans (hHeld.2.2.2))))⟩ (fun hHeld => ?_)
      clear hK K
      refine pure_ (i := 11) (N := some 7) (v := ?_) (a' := ?_) #[true, true, true, true, true, true, true, true, true, true, true, true] rfl rfl (any_of HT_.out (by kernel_rfl)) (fun _ _ _ h => h) (Or.inl ⟨by rfl, ?_⟩) ?_ ?_
      rotate_left
      ·intro w'
       go_simp
       with_reducible rfl
      rotate_left
      ·simp only [Act.put, List.setIfInBounds_toArray, List.set_cons_zero, List.set_cons_succ, i64_w, i32_w]
       rfl
      refine done_ (done_of HT_.out (by kernel_rfl)) ?_
      have hnb16 := NB317_311.out
      have hnc16 := NB311_317.out
      have hnb17 := NB317_312.out
      have hnc17 := NB312_317.out
      have hcz18_0 : w13.cell? ⟨gb317, 0, none⟩ = some (.int .i64 0) := (blk_cell BK317.out 0).trans rfl
      have hcz18_1 : w13.cell? ⟨gb317, 1, none⟩ = some (.int .i64 0) := (blk_cell BK317.out 1).trans rfl
      have hfz18_0 := blk_frozen BK317.out 0
      have hfz18_1 := blk_frozen BK317.out 1
      have hnb19 := NB312_311.out
      have hnc19 := NB311_312.out
      have hcz20_0 : w13.cell? ⟨gb312, 0, none⟩ = some (.int .i64 x313000_1) := (blk_cell BK312.out 0).trans rfl
      have hcz20_1 : w13.cell? ⟨gb312, 1, none⟩ = some (.int .i64 x313001_1) := (blk_cell BK312.out 1).trans rfl
      have hfz20_0 := blk_frozen BK312.out 0
      have hfz20_1 := blk_frozen BK312.out 1
      try go_wp2
      go_roundg k1
      case measure => have := HK1.out; omega
      case rel => exact ⟨(wrap64 (x5_1 + 1)), (x312000_1), (x312001_1), (t314), (t315), (by first | rfl | (simp; done) | (simp [*]; done)), H', ⟨by have := HK1.out; omega⟩, ⟨by (with_reducible repeat (first | refine blk_drewN ?_ _ | refine blk_drew ?_ | refine blk_alloc ?_ _)); refine blk_far ?_ NB311_312.out _; (with_reducible repeat (first | refine blk_drewN ?_ _ | refine blk_drew ?_ | refine blk_alloc ?_ _)); refine blk_far ?_ NB311_312.out _; (with_reducible repeat (first | refine blk_drewN ?_ _ | refine blk_drew ?_ | refine blk_alloc ?_ _)); refine blk_far ?_ NB311_317.out _; (with_reducible repeat (first | refine blk_drewN ?_ _ | refine blk_drew ?_ | refine blk_alloc ?_ _)); refine blk_far ?_ NB311_317.out _; (with_reducible repeat (first | refine blk_drewN ?_ _ | refine blk_drew ?_ | refine blk_alloc ?_ _)); exact BK311.out⟩, ⟨by (with_reducible repeat (first | refine blk_drewN ?_ _ | refine blk_drew ?_ | refine blk_alloc ?_ _)); refine blk_put (cs := #[.int .i64 t314, .int .i64 x313001_1]) ?_ 1 _ rfl; (with_reducible repeat (first | refine blk_drewN ?_ _ | refine blk_drew ?_ | refine blk_alloc ?_ _)); refine blk_put (cs := #[.int .i64 x313000_1, .int .i64 x313001_1]) ?_ 0 _ rfl; (with_reducible repeat (first | refine blk_drewN ?_ _ | refine blk_drew ?_ | refine blk_alloc ?_ _)); refine blk_far ?_ NB312_317.out _; (with_reducible repeat (first | refine blk_drewN ?_ _ | refine blk_drew ?_ | refine blk_alloc ?_ _)); refine blk_far ?_ NB312_317.out _; (with_reducible repeat (first | refine blk_drewN ?_ _ | refine blk_drew ?_ | refine blk_alloc ?_ _)); exact BK312.out⟩, ⟨by repeat (first | (with_reducible first | exact HB.out | apply below_alloc | apply pw_below_drewN | apply below_drew1 | refine below_set ?_ GE311.out | refine below_set ?_ GE312.out | refine below_set ?_ GE317.out) | exact HB.out)⟩⟩
     ·rw [if_neg c9] at H
      have c9b0 : (t316 == 0) = false := beq_eq_false_iff_ne.mpr c9
      have c9b1 : (t316 != 0) = true := bne_iff_ne.mpr c9
      simp only [Option.some.injEq, Prod.mk.injEq] at H
      obtain ⟨rfl, rfl, rfl⟩ := H
      try go_wp2
      have n0_ := XPrint.A0 (blk_drew BK311.out)
      have n1_ := XPrint.A0 (blk_drew BK312.out)
      have n2_ := XPrint.A0 (below_drew1 HB.out)
      clear BK311 BK312 HB
      have BK311 := n0_; have BK312 := n1_; have HB := n2_
      clear n0_ n1_ n2_
      have p313 : 0 ≤ (x5_1 : Int) := of_decide_eq_true (by first | (with_reducible assumption) | assumption)
      have q313 : x5_1 < (l0.length : Int) := of_decide_eq_true (by first | (with_reducible assumption) | assumption)
      obtain ⟨ad313, e313, hx313_0, hx313_1⟩ := at_T23 HR0.out x5_1 p313 q313
      have hw313_1 := hx313_1
      have hw313_0 := hx313_0
      cases e313
      replace hx313_0 := (HB.out.cell (World.block_lt_of_cell? w _ hx313_0)).trans hx313_0
      replace hx313_1 := (HB.out.cell (World.block_lt_of_cell? w _ hx313_1)).trans hx313_1
      replace p313 := eq_true p313
      replace q313 := eq_true q313
      refine start_ (n := 12) (S := fun w' => w'.cell? ⟨gb312, 0, none⟩ = some (.int .i64 x313000_1) ∧ w'.cell? ⟨gb312, 1, none⟩ = some (.int .i64 x313001_1) ∧ w'.cell? (ad313.add ((x5_1).toNat * 2)) = some (.int .i64 ((rd_T23 l0 x5_1).f0)) ∧ w'.cell? ⟨(ad313.add ((x5_1).toNat * 2)).block, (ad313.add ((x5_1).toNat * 2)).off + 1, none⟩ = some (.int .i64 ((rd_T23 l0 x5_1).f1))) (ds := []) #[false, false, false, false, false, false, false, false, false, false, false, false] (by kernel_rfl) rfl rfl ⟨(blk_cell BK312.out 0).trans rfl, (blk_cell BK312.out 1).trans rfl, ((HB.out.cell (World.block_lt_of_cell? w _ hw313_0)).trans hw313_0), ((HB.out.cell (World.block_lt_of_cell? w _ hw313_1)).trans hw313_1)⟩ (fun hHeld => ?_); refine with_tabW liveryref01_Sum.tab5 liveryref01_Sum.bits5 (fun HT_ HW_ => ?_)
      generalize wr.drew = w21 at BK311 BK312 HB hx313_0 hx313_1 hHeld ⊢
      refine pure_ (i := 1) (N := some 17) (v := ?_) (a' := ?_) #[false, true, false, false, false, false, false, false, false, false, false, false] rfl rfl (any_of HT_.out (by kernel_rfl)) (fun _ _ _ h => h) (Or.inl ⟨by rfl, ?_⟩) ?_ ?_
      rotate_left
      ·intro w'
       go_simp
       with_reducible rfl
      rotate_left
      ·simp only [Act.put, List.setIfInBounds_toArray, List.set_cons_zero, List.set_cons_succ, i64_w, i32_w]
       rfl
      refine pure_ (i := 2) (N := some 18) (v := ?_) (a' := ?_) #[false, true, true, false, false, false, false, false, false, false, false, false] rfl rfl (any_of HT_.out (by kernel_rfl)) (fun _ _ _ h => h) (Or.inl ⟨by rfl, ?_⟩) ?_ ?_
      rotate_left
      ·intro w'
       go_simp
       with_reducible rfl
      rotate_left
      ·simp only [Act.put, List.setIfInBounds_toArray, List.set_cons_zero, List.set_cons_succ, i64_w, i32_w]
       rfl
      refine pure_ (i := 3) (N := some 19) (v := ?_) (a' := ?_) #[false, true, true, true, false, false, false, false, false, false, false, false] rfl rfl (any_of HT_.out (by kernel_rfl)) (fun _ _ _ h => h) (Or.inl ⟨by rfl, ?_⟩) ?_ ?_
      rotate_left
      ·intro w'
       go_simp
       with_reducible rfl
      rotate_left
      ·simp only [Act.put, List.setIfInBounds_toArray, List.set_cons_zero, List.set_cons_succ, i64_w, i32_w]
       rfl
      refine take_ (i := 0) (N := some 16) (v := ?_) (a' := ?_) #[true, true, true, true, false, false, false, false, false, false, false, false] rfl rfl (take_ofW HT_.out HW_.out (by kernel_rfl)) (fun _ _ _ h => h) (Or.inl ⟨by rfl, ?_⟩) hHeld ?_ ?_
      rotate_left
      ·rintro w' ⟨s0, s1, s2, s3⟩
       go_simp
       with_reducible rfl
      rotate_left
      ·simp only [Act.put, List.setIfInBounds_toArray, List.set_cons_zero, List.set_cons_succ, i64_w, i32_w]
       rfl
      refine take_ (i := 4) (N := some 20) (v := ?_) (a' := ?_) #[true, true, true, true, true, false, false, false, false, false, false, false] rfl rfl (take_ofW HT_.out HW_.out (by kernel_rfl)) (fun _ _ _ h => h) (Or.inl ⟨by rfl, ?_⟩) hHeld ?_ ?_
      rotate_left
      ·rintro w' ⟨s0, s1, s2, s3⟩
       go_simp
       with_reducible rfl
      rotate_left
      ·simp only [Act.put, List.setIfInBounds_toArray, List.set_cons_zero, List.set_cons_succ, i64_w, i32_w]
       rfl
      refine join_ (σ := Nat) 2 #[true, true, true, true, true, true, true, true, true, true, false, false] (fun s_ => [(21, .tuple #[.agg #[.int .i64 t314, .int .i64 t315], .int .i64 t316]), (6, .pointer (some ⟨s_, 0, none⟩)), (15, .tuple #[.agg #[.int .i64 t314, .int .i64 t315], .int .i64 t316]), (22, .agg #[.int .i64 t314, .int .i64 t315]), (23, .int .i64 t316)]) (fun s_ w' => (w'.cell? ⟨gb312, 0, none⟩ = some (.int .i64 x313000_1) ∧ w'.cell? ⟨gb312, 1, none⟩ = some (.int .i64 x313001_1) ∧ w'.cell? (ad313.add ((x5_1).toNat * 2)) = some (.int .i64 ((rd_T23 l0 x5_1).f0)) ∧ w'.cell? ⟨(ad313.add ((x5_1).toNat * 2)).block, (ad313.add ((x5_1).toNat * 2)).off + 1, none⟩ = some (.int .i64 ((rd_T23 l0 x5_1).f1))) ∧ (w'.heap[gb311]? = some (.cells #[.int .i64 x312000_1, .int .i64 x312001_1] 23 (0, 0))) ∧ (w'.heap[gb312]? = some (.cells #[.int .i64 x313000_1, .int .i64 x313001_1] 23 (0, 0))) ∧ (w'.heap[s_]? = some (.cells #[.int .i64 0, .int .i64 0] 23 (0, 0))) ∧ (w.heap.size ≤ s_) ∧ (w.heap.size ≤ s_) ∧ (gb311 ≠ s_) ∧ (s_ ≠ gb311) ∧ (gb312 ≠ s_) ∧ (s_ ≠ gb312) ∧ (Below w.heap.size w w')) ?_ ?_
      rotate_left
      ·intro hCont
       refine two_ (i := 5) (j := 9) (Ni := some 21) (Nj := some 6) #[true, true, true, true, true, true, false, false, false, false, false, false] #[true, true, true, true, true, false, false, false, false, true, false, false] rfl rfl rfl rfl (two_of HT_.out (by kernel_rfl)) (by decide) (by decide) (fun K hK => ?_) (fun K hK => ?_)
       ·skip
        refine goes_ Try.func54 (by kernel_rfl) rfl #[.agg #[.int .i64 x313000_1, .int .i64 x313001_1], .agg #[.int .i64 ((rd_T23 l0 x5_1).f0), .int .i64 ((rd_T23 l0 x5_1).f1)]] (by rfl) rfl rfl (by (try simp only [List.map_toArray, List.map_cons, List.map_nil]); first | done | rfl | (simp only [List.length_drop, List.length_take]; rfl)) ?_
        with_reducible refine (liveryref01_Add.calls x313000_1 x313001_1 ((rd_T23 l0 x5_1).f0) ((rd_T23 l0 x5_1).f1) t314 t315 t316 _ A8.out).mono ?_
        rintro e w22 ⟨rfl, hb⟩
        refine ⟨_, rfl, ?_⟩
        have n0_ := XPrint.A0 (XPrint.bb BK311.out hb)
        have n1_ := XPrint.A0 (XPrint.bb BK312.out hb)
        have n2_ := XPrint.A0 (below_step (by exact XPrint.bz HB.out) hb)
        clear BK311 BK312 HB
        have BK311 := n0_; have BK312 := n1_; have HB := n2_
        clear n0_ n1_ n2_
        (try clear hb)
        (try clear hb2)
        (try clear hk)
        (try clear hi)
        refine hK.out _ _ ⟨(blk_cell BK312.out 0).trans rfl, (blk_cell BK312.out 1).trans rfl, ((HB.out.cell (World.block_lt_of_cell? w _ hw313_0)).trans hw313_0), ((HB.out.cell (World.block_lt_of_cell? w _ hw313_1)).trans hw313_1)⟩ (fun hHeld => ?_)
        clear hK K
        refine norm_ (a' := ?_) ?_ ?_
        rotate_left
        ·show Act.put _ (some 21) _ = _
         simp only [Act.put, List.setIfInBounds_toArray, List.set_cons_zero, List.set_cons_succ, i64_w, i32_w]
         rfl
        refine pure_ (i := 6) (N := some 15) (v := ?_) (a' := ?_) #[true, true, true, true, true, true, true, false, false, false, false, false] rfl rfl (any_of HT_.out (by kernel_rfl)) (fun _ _ _ h => h) (Or.inl ⟨by rfl, ?_⟩) ?_ ?_
        rotate_left
        ·intro w'
         go_simp
         with_reducible rfl
        rotate_left
        ·simp only [Act.put, List.setIfInBounds_toArray, List.set_cons_zero, List.set_cons_succ, i64_w, i32_w]
         rfl
        refine pure_ (i := 7) (N := some 22) (v := ?_) (a' := ?_) #[true, true, true, true, true, true, true, true, false, false, false, false] rfl rfl (any_of HT_.out (by kernel_rfl)) (fun _ _ _ h => h) (Or.inl ⟨by rfl, ?_⟩) ?_ ?_
        rotate_left
        ·intro w'
         go_simp
         with_reducible rfl
        rotate_left
        ·simp only [Act.put, List.setIfInBounds_toArray, List.set_cons_zero, List.set_cons_succ, i64_w, i32_w]
         rfl
        refine pure_ (i := 8) (N := some 23) (v := ?_) (a' := ?_) #[true, true, true, true, true, true, true, true, true, false, false, false] rfl rfl (any_of HT_.out (by kernel_rfl)) (fun _ _ _ h => h) (Or.inl ⟨by rfl, ?_⟩) ?_ ?_
        rotate_left
        ·intro w'
         go_simp
         with_reducible rfl
        rotate_left
        ·simp only [Act.put, List.setIfInBounds_toArray, List.set_cons_zero, List.set_cons_succ, i64_w, i32_w]
         rfl
        refine one_ (i := 9) (N := some 6) #[true, true, true, true, true, true, true, true, true, true, false, false] rfl rfl (one_of HT_.out (by kernel_rfl)) (by decide) (fun K hK => ?_)
        refine box_step ?hg (N := 6) ?hd (cs := #[.int .i64 0, .int .i64 0]) (t := 23) ?hr ?_; (case hd => rfl); (case hg => rfl); (case hr => first | (go_simp; done) | (go_simp; rfl))
        intro gb317 hg w23 hbox hb
        have n0_ := XPrint.A0 (XPrint.bb BK311.out hb)
        have n1_ := XPrint.A0 (XPrint.bb BK312.out hb)
        have n2_ := XPrint.A0 (below_step (by exact XPrint.bz HB.out) hb)
        have n3_ := XPrint.A0 (hbox)
        have n4_ := XPrint.A0 ((by rw [hg]; exact (below_size (by exact XPrint.bz HB.out)) : w.heap.size ≤ gb317))
        have n5_ := XPrint.A0 ((by rw [hg]; exact (below_size (by exact XPrint.bz HB.out)) : w.heap.size ≤ gb317))
        have n6_ := XPrint.A0 ((by rw [hg]; exact Nat.ne_of_lt (XPrint.bl BK311.out) : gb311 ≠ gb317))
        have n7_ := XPrint.A0 ((by rw [hg]; exact Nat.ne_of_gt (XPrint.bl BK311.out) : gb317 ≠ gb311))
        have n8_ := XPrint.A0 ((by rw [hg]; exact Nat.ne_of_lt (XPrint.bl BK312.out) : gb312 ≠ gb317))
        have n9_ := XPrint.A0 ((by rw [hg]; exact Nat.ne_of_gt (XPrint.bl BK312.out) : gb317 ≠ gb312))
        clear BK311 BK312 HB
        have BK311 := n0_; have BK312 := n1_; have HB := n2_; have BK317 := n3_; have GW317 := n4_; have GE317 := n5_; have NB311_317 := n6_; have NB317_311 := n7_; have NB312_317 := n8_; have NB317_312 := n9_
        clear n0_ n1_ n2_ n3_ n4_ n5_ n6_ n7_ n8_ n9_ hb hbox hg
        refine hK.out _ _ ⟨(blk_cell BK312.out 0).trans rfl, (blk_cell BK312.out 1).trans rfl, ((HB.out.cell (World.block_lt_of_cell? w _ hw313_0)).trans hw313_0), ((HB.out.cell (World.block_lt_of_cell? w _ hw313_1)).trans hw313_1)⟩ (fun hHeld => ?_)
        clear hK K
        refine norm_ (a' := ?_) ?_ ?_
        rotate_left
        ·show Act.put _ (some 6) _ = _
         simp only [Act.put, List.setIfInBounds_toArray, List.set_cons_zero, List.set_cons_succ, i64_w, i32_w]
         rfl
        exact norm_ (by simp only [putAll, Act.put, List.setIfInBounds_toArray, List.set_cons_zero, List.set_cons_succ]) (hCont (gb317) _ ⟨hHeld, (XPrint.bk BK311.out), (XPrint.bk BK312.out), (XPrint.bk BK317.out), GW317.out, GE317.out, NB311_317.out, NB317_311.out, NB312_317.out, NB317_312.out, (by exact XPrint.bz HB.out)⟩)
       ·skip
        refine box_step ?hg (N := 6) ?hd (cs := #[.int .i64 0, .int .i64 0]) (t := 23) ?hr ?_; (case hd => rfl); (case hg => rfl); (case hr => first | (go_simp; done) | (go_simp; rfl))
        intro gb317 hg w22 hbox hb
        have n0_ := XPrint.A0 (XPrint.bb BK311.out hb)
        have n1_ := XPrint.A0 (XPrint.bb BK312.out hb)
        have n2_ := XPrint.A0 (below_step (by exact XPrint.bz HB.out) hb)
        have n3_ := XPrint.A0 (hbox)
        have n4_ := XPrint.A0 ((by rw [hg]; exact (below_size (by exact XPrint.bz HB.out)) : w.heap.size ≤ gb317))
        have n5_ := XPrint.A0 ((by rw [hg]; exact (below_size (by exact XPrint.bz HB.out)) : w.heap.size ≤ gb317))
        have n6_ := XPrint.A0 ((by rw [hg]; exact Nat.ne_of_lt (XPrint.bl BK311.out) : gb311 ≠ gb317))
        have n7_ := XPrint.A0 ((by rw [hg]; exact Nat.ne_of_gt (XPrint.bl BK311.out) : gb317 ≠ gb311))
        have n8_ := XPrint.A0 ((by rw [hg]; exact Nat.ne_of_lt (XPrint.bl BK312.out) : gb312 ≠ gb317))
        have n9_ := XPrint.A0 ((by rw [hg]; exact Nat.ne_of_gt (XPrint.bl BK312.out) : gb317 ≠ gb312))
        clear BK311 BK312 HB
        have BK311 := n0_; have BK312 := n1_; have HB := n2_; have BK317 := n3_; have GW317 := n4_; have GE317 := n5_; have NB311_317 := n6_; have NB317_311 := n7_; have NB312_317 := n8_; have NB317_312 := n9_
        clear n0_ n1_ n2_ n3_ n4_ n5_ n6_ n7_ n8_ n9_ hb hbox hg
        refine hK.out _ _ ⟨(blk_cell BK312.out 0).trans rfl, (blk_cell BK312.out 1).trans rfl, ((HB.out.cell (World.block_lt_of_cell? w _ hw313_0)).trans hw313_0), ((HB.out.cell (World.block_lt_of_cell? w _ hw313_1)).trans hw313_1)⟩ (fun hHeld => ?_)
        clear hK K
        refine norm_ (a' := ?_) ?_ ?_
        rotate_left
        ·show Act.put _ (some 6) _ = _
         simp only [Act.put, List.setIfInBounds_toArray, List.set_cons_zero, List.set_cons_succ, i64_w, i32_w]
         rfl
        refine one_ (i := 5) (N := some 21) #[true, true, true, true, true, true, false, false, false, true, false, false] rfl rfl (one_of HT_.out (by kernel_rfl)) (by decide) (fun K hK => ?_)
        refine goes_ Try.func54 (by kernel_rfl) rfl #[.agg #[.int .i64 x313000_1, .int .i64 x313001_1], .agg #[.int .i64 ((rd_T23 l0 x5_1).f0), .int .i64 ((rd_T23 l0 x5_1).f1)]] (by rfl) rfl rfl (by (try simp only [List.map_toArray, List.map_cons, List.map_nil]); first | done | rfl | (simp only [List.length_drop, List.length_take]; rfl)) ?_
        with_reducible refine (liveryref01_Add.calls x313000_1 x313001_1 ((rd_T23 l0 x5_1).f0) ((rd_T23 l0 x5_1).f1) t314 t315 t316 _ A8.out).mono ?_
        rintro e w23 ⟨rfl, hb⟩
        refine ⟨_, rfl, ?_⟩
        have n0_ := XPrint.A0 (XPrint.bb BK311.out hb)
        have n1_ := XPrint.A0 (XPrint.bb BK312.out hb)
        have n2_ := XPrint.A0 (XPrint.bb BK317.out hb)
        have n3_ := XPrint.A0 (below_step (by exact XPrint.bz HB.out) hb)
        clear BK311 BK312 BK317 HB
        have BK311 := n0_; have BK312 := n1_; have BK317 := n2_; have HB := n3_
        clear n0_ n1_ n2_ n3_
        (try clear hb)
        (try clear hb2)
        (try clear hk)
        (try clear hi)
        refine hK.out _ _ ⟨(blk_cell BK312.out 0).trans rfl, (blk_cell BK312.out 1).trans rfl, ((HB.out.cell (World.block_lt_of_cell? w _ hw313_0)).trans hw313_0), ((HB.out.cell (World.block_lt_of_cell? w _ hw313_1)).trans hw313_1)⟩ (fun hHeld => ?_)
        clear hK K
        refine norm_ (a' := ?_) ?_ ?_
        rotate_left
        ·show Act.put _ (some 21) _ = _
         simp only [Act.put, List.setIfInBounds_toArray, List.set_cons_zero, List.set_cons_succ, i64_w, i32_w]
         rfl
        refine pure_ (i := 6) (N := some 15) (v := ?_) (a' := ?_) #[true, true, true, true, true, true, true, false, false, true, false, false] rfl rfl (any_of HT_.out (by kernel_rfl)) (fun _ _ _ h => h) (Or.inl ⟨by rfl, ?_⟩) ?_ ?_
        rotate_left
        ·intro w'
         go_simp
         with_reducible rfl
        rotate_left
        ·simp only [Act.put, List.setIfInBounds_toArray, List.set_cons_zero, List.set_cons_succ, i64_w, i32_w]
         rfl
        refine pure_ (i := 7) (N := some 22) (v := ?_) (a' := ?_) #[true, true, true, true, true, true, true, true, false, true, false, false] rfl rfl (any_of HT_.out (by kernel_rfl)) (fun _ _ _ h => h) (Or.inl ⟨by rfl, ?_⟩) ?_ ?_
        rotate_left
        ·intro w'
         go_simp
         with_reducible rfl
        rotate_left
        ·simp only [Act.put, List.setIfInBounds_toArray, List.set_cons_zero, List.set_cons_succ, i64_w, i32_w]
         rfl
        refine pure_ (i := 8) (N := some 23) (v := ?_) (a' := ?_) #[true, true, true, true, true, true, true, true, true, true, false, false] rfl rfl (any_of HT_.out (by kernel_rfl)) (fun _ _ _ h => h) (Or.inl ⟨by rfl, ?_⟩) ?_ ?_
        rotate_left
        ·intro w'
         go_simp
         with_reducible rfl
        rotate_left
        ·simp only [Act.put, List.setIfInBounds_toArray, List.set_cons_zero, List.set_cons_succ, i64_w, i32_w]
         rfl
        exact norm_ (by simp only [putAll, Act.put, List.setIfInBounds_toArray, List.set_cons_zero, List.set_cons_succ]) (hCont (gb317) _ ⟨hHeld, (XPrint.bk BK311.out), (XPrint.bk BK312.out), (XPrint.bk BK317.out), GW317.out, GE317.out, NB311_317.out, NB317_311.out, NB312_317.out, NB317_312.out, (by exact XPrint.bz HB.out)⟩)
      rintro gb317 w24 ⟨hS_, h0_, h1_, h2_, h3_, h4_, h5_, h6_, h7_, h8_, h9_⟩
      have n0_ : Aside0 (w24.heap[gb311]? = some (.cells #[.int .i64 x312000_1, .int .i64 x312001_1] 23 (0, 0))) := ⟨h0_⟩
      have n1_ : Aside0 (w24.heap[gb312]? = some (.cells #[.int .i64 x313000_1, .int .i64 x313001_1] 23 (0, 0))) := ⟨h1_⟩
      have n2_ : Aside0 (w24.heap[gb317]? = some (.cells #[.int .i64 0, .int .i64 0] 23 (0, 0))) := ⟨h2_⟩
      have n3_ : Aside0 (w.heap.size ≤ gb317) := ⟨h3_⟩
      have n4_ : Aside0 (w.heap.size ≤ gb317) := ⟨h4_⟩
      have n5_ : Aside0 (gb311 ≠ gb317) := ⟨h5_⟩
      have n6_ : Aside0 (gb317 ≠ gb311) := ⟨h6_⟩
      have n7_ : Aside0 (gb312 ≠ gb317) := ⟨h7_⟩
      have n8_ : Aside0 (gb317 ≠ gb312) := ⟨h8_⟩
      have n9_ : Aside0 (Below w.heap.size w w24) := ⟨h9_⟩
      clear BK311 BK312 HB h0_ h1_ h2_ h3_ h4_ h5_ h6_ h7_ h8_ h9_
      have BK311 := n0_; have BK312 := n1_; have BK317 := n2_; have GW317 := n3_; have GE317 := n4_; have NB311_317 := n5_; have NB317_311 := n6_; have NB312_317 := n7_; have NB317_312 := n8_; have HB := n9_
      clear n0_ n1_ n2_ n3_ n4_ n5_ n6_ n7_ n8_ n9_
      have hHeld : w24.cell? ⟨gb312, 0, none⟩ = some (.int .i64 x313000_1) ∧ w24.cell? ⟨gb312, 1, none⟩ = some (.int .i64 x313001_1) ∧ w24.cell? (ad313.add ((x5_1).toNat * 2)) = some (.int .i64 ((rd_T23 l0 x5_1).f0)) ∧ w24.cell? ⟨(ad313.add ((x5_1).toNat * 2)).block, (ad313.add ((x5_1).toNat * 2)).off + 1, none⟩ = some (.int .i64 ((rd_T23 l0 x5_1).f1)) := hS_
      refine norm_ (a' := ?_) ?_ ?_
      rotate_left
      ·simp only [putAll, Act.put, List.setIfInBounds_toArray, List.set_cons_zero, List.set_cons_succ]
       rfl
      refine one_ (i := 10) (N := none) #[true, true, true, true, true, true, true, true, true, true, true, false] rfl rfl (one_of HT_.out (by kernel_rfl)) (by decide) (fun K hK => ?_)
      have hs25 : w24.cell? ⟨gb317, 0, none⟩ = some (.int .i64 0) := (blk_cell BK317.out 0).trans rfl
      have hfs25 := blk_frozen BK317.out 0
      have hns25_0 := NB311_317.out
      have hns25_1 := NB312_317.out
      have hms25_0 := NB317_311.out
      have hms25_1 := NB317_312.out
      have hs26 : w24.cell? ⟨gb317, 1, none⟩ = some (.int .i64 0) := (blk_cell BK317.out 1).trans rfl
      have hfs26 := blk_frozen BK317.out 1
      have hns26_0 := NB311_317.out
      have hns26_1 := NB312_317.out
      have hms26_0 := NB317_311.out
      have hms26_1 := NB317_312.out
      refine skip_ (w1 := ?_) (by rfl) rfl ?_ ?_
      rotate_left
      ·go_simp
       rfl
      refine hK.out _ _ ⟨((cell_far (p := ⟨gb317, _, none⟩) NB312_317.out _).trans (((cell_far (p := ⟨gb317, _, none⟩) NB312_317.out _).trans (hHeld.1)))), ((cell_far (p := ⟨gb317, _, none⟩) NB312_317.out _).trans (((cell_far (p := ⟨gb317, _, none⟩) NB312_317.out _).trans (hHeld.2.1)))), ((cell_far (p := ⟨gb317, _, none⟩) (by first | exact Nat.ne_of_lt (Nat.lt_of_lt_of_le (by have := World.block_lt_of_cell? _ _ hw313_0; first | rwa [add_block] at this | exact this) GW317.out) | (rw [add_block]; exact Nat.ne_of_lt (Nat.lt_of_lt_of_le (by have := World.block_lt_of_cell? _ _ hw313_0; first | rwa [add_block] at this | exact this) GW317.out)) | (show (Addr.add _ _).block ≠ _; rw [add_block]; exact Nat.ne_of_lt (Nat.lt_of_lt_of_le (by have := World.block_lt_of_cell? _ _ hw313_0; first | rwa [add_block] at this | exact this) GW317.out)) | (dsimp only; exact Nat.ne_of_lt (Nat.lt_of_lt_of_le (by have := World.block_lt_of_cell? _ _ hw313_0; first | rwa [add_block] at this | exact this) GW317.out))) _).trans (((cell_far (p := ⟨gb317, _, none⟩) (by first | exact Nat.ne_of_lt (Nat.lt_of_lt_of_le (by have := World.block_lt_of_cell? _ _ hw313_0; first | rwa [add_block] at this | exact this) GW317.out) | (rw [add_block]; exact Nat.ne_of_lt (Nat.lt_of_lt_of_le (by have := World.block_lt_of_cell? _ _ hw313_0; first | rwa [add_block] at this | exact this) GW317.out)) | (show (Addr.add _ _).block ≠ _; rw [add_block]; exact Nat.ne_of_lt (Nat.lt_of_lt_of_le (by have := World.block_lt_of_cell? _ _ hw313_0; first | rwa [add_block] at this | exact this) GW317.out)) | (dsimp only; exact Nat.ne_of_lt (Nat.lt_of_lt_of_le (by have := World.block_lt_of_cell? _ _ hw313_0; first | rwa [add_block] at this | exact this) GW317.out))) _).trans (hHeld.2.2.1)))), ((cell_far (p := ⟨gb317, _, none⟩) (by first | exact Nat.ne_of_lt (Nat.lt_of_lt_of_le (by have := World.block_lt_of_cell? _ _ hw313_1; first | rwa [add_block] at this | exact this) GW317.out) | (rw [add_block]; exact Nat.ne_of_lt (Nat.lt_of_lt_of_le (by have := World.block_lt_of_cell? _ _ hw313_1; first | rwa [add_block] at this | exact this) GW317.out)) | (show (Addr.add _ _).block ≠ _; rw [add_block]; exact Nat.ne_of_lt (Nat.lt_of_lt_of_le (by have := World.block_lt_of_cell? _ _ hw313_1; first | rwa [add_block] at this | exact this) GW317.out)) | (dsimp only; exact Nat.ne_of_lt (Nat.lt_of_lt_of_le (by have := World.block_lt_of_cell? _ _ hw313_1; first | rwa [add_block] at this | exact this) GW317.out))) _).trans (((cell_far (p := ⟨gb317, _, none⟩) (by first | exact Nat.ne_of_lt (Nat.lt_of_lt_of_le (by have := World.block_lt_of_cell? _ _ hw313_1; first | rwa [add_block] at this | exact this) GW317.out) | (rw [add_block]; exact Nat.ne_of_lt (Nat.lt_of_lt_of_le (by have := World.block_lt_of_cell? _ _ hw313_1; first | rwa [add_block] at this | exact this) GW317.out)) | (show (Addr.add _ _).block ≠ _; rw [add_block]; exact Nat.ne_of_lt (Nat.lt_of_lt_of_le (by have := World.block_lt_of_cell? _ _ hw313_1; first | rwa [add_block] at this | exact this) GW317.out)) | (dsimp only; exact Nat.ne_of_lt (Nat.lt_of_lt_of_le (by have := World.block_lt_of_cell? _ _ hw313_1; first | rwa [add_block] at this | exact this) GW317.out))) _).trans (hHeld.2.2.2))))⟩ (fun hHeld => ?_)
      clear hK K
      refine pure_ (i := 11) (N := some 7) (v := ?_) (a' := ?_) #[true, true, true, true, true, true, true, true, true, true, true, true] rfl rfl (any_of HT_.out (by kernel_rfl)) (fun _ _ _ h => h) (Or.inl ⟨by rfl, ?_⟩) ?_ ?_
      rotate_left
      ·intro w'
       go_simp
       with_reducible rfl
      rotate_left
      ·simp only [Act.put, List.setIfInBounds_toArray, List.set_cons_zero, List.set_cons_succ, i64_w, i32_w]
       rfl
      refine done_ (done_of HT_.out (by kernel_rfl)) ?_
      have hnb27 := NB311_312.out
      have hnc27 := NB312_311.out
      have hnb28 := NB311_317.out
      have hnc28 := NB317_311.out
      have hcz29_0 : w24.cell? ⟨gb311, 0, none⟩ = some (.int .i64 x312000_1) := (blk_cell BK311.out 0).trans rfl
      have hcz29_1 : w24.cell? ⟨gb311, 1, none⟩ = some (.int .i64 x312001_1) := (blk_cell BK311.out 1).trans rfl
      have hfz29_0 := blk_frozen BK311.out 0
      have hfz29_1 := blk_frozen BK311.out 1
      try go_wp2
      refine bodyPost_ret (results_ct rfl _ _ gb311 23 #[.int .i64 0, .int .i64 0] (0, 0) _ rfl (by (with_reducible repeat (first | refine blk_drewN ?_ _ | refine blk_drew ?_ | refine blk_alloc ?_ _)); refine blk_put (cs := #[.int .i64 0, .int .i64 x312001_1]) ?_ 1 _ rfl; (with_reducible repeat (first | refine blk_drewN ?_ _ | refine blk_drew ?_ | refine blk_alloc ?_ _)); refine blk_put (cs := #[.int .i64 x312000_1, .int .i64 x312001_1]) ?_ 0 _ rfl; (with_reducible repeat (first | refine blk_drewN ?_ _ | refine blk_drew ?_ | refine blk_alloc ?_ _)); refine blk_far ?_ NB311_317.out _; (with_reducible repeat (first | refine blk_drewN ?_ _ | refine blk_drew ?_ | refine blk_alloc ?_ _)); refine blk_far ?_ NB311_317.out _; (with_reducible repeat (first | refine blk_drewN ?_ _ | refine blk_drew ?_ | refine blk_alloc ?_ _)); exact BK311.out) Try.underlying23 rfl (by kernel_rfl)) rfl ?_
      exact ⟨by first | rfl | (simp [errW_none, errW_some] <;> rfl) | (simp [*, errW_none, errW_some] <;> rfl), by repeat (first | (with_reducible first | exact HB.out | apply below_alloc | apply pw_below_drewN | apply below_drew1 | refine below_set ?_ GE311.out | refine below_set ?_ GE312.out | refine below_set ?_ GE317.out) | exact HB.out)⟩
    ·rw [if_neg c7] at H
     exact absurd H (by simp)
   ·rw [if_neg c6] at H
    have c6b0 : decide (x5_1 < (l0.length : Int)) = false := decide_eq_false c6
    clear c6
    simp only [Option.some.injEq, Prod.mk.injEq] at H
    obtain ⟨rfl, rfl, rfl⟩ := H
    have hnb30 := NB312_311.out
    have hnc30 := NB311_312.out
    have hcz31_0 : wr.cell? ⟨gb312, 0, none⟩ = some (.int .i64 x313000_1) := (blk_cell BK312.out 0).trans rfl
    have hcz31_1 : wr.cell? ⟨gb312, 1, none⟩ = some (.int .i64 x313001_1) := (blk_cell BK312.out 1).trans rfl
    have hfz31_0 := blk_frozen BK312.out 0
    have hfz31_1 := blk_frozen BK312.out 1
    have hcz32_0 : wr.cell? ⟨gb311, 0, none⟩ = some (.int .i64 x312000_1) := (blk_cell BK311.out 0).trans rfl
    have hcz32_1 : wr.cell? ⟨gb311, 1, none⟩ = some (.int .i64 x312001_1) := (blk_cell BK311.out 1).trans rfl
    have hfz32_0 := blk_frozen BK311.out 0
    have hfz32_1 := blk_frozen BK311.out 1
    go_wp2
    refine bodyPost_ret (results_ct rfl _ _ gb311 23 #[.int .i64 x313000_1, .int .i64 x313001_1] (0, 0) _ rfl (by (with_reducible repeat (first | refine blk_drewN ?_ _ | refine blk_drew ?_ | refine blk_alloc ?_ _)); refine blk_put (cs := #[.int .i64 x313000_1, .int .i64 x312001_1]) ?_ 1 _ rfl; (with_reducible repeat (first | refine blk_drewN ?_ _ | refine blk_drew ?_ | refine blk_alloc ?_ _)); refine blk_put (cs := #[.int .i64 x312000_1, .int .i64 x312001_1]) ?_ 0 _ rfl; (with_reducible repeat (first | refine blk_drewN ?_ _ | refine blk_drew ?_ | refine blk_alloc ?_ _)); exact BK311.out) Try.underlying23 rfl (by kernel_rfl)) rfl ?_
    exact ⟨by first | rfl | (simp [errW_none, errW_some] <;> rfl) | (simp [*, errW_none, errW_some] <;> rfl), by repeat (first | (with_reducible first | exact HB.out | apply below_alloc | apply pw_below_drewN | apply below_drew1 | refine below_set ?_ GE311.out | refine below_set ?_ GE312.out) | exact HB.out)⟩

end Go.Proofs.Ytdcgilnmncanfaa.PVecSums
