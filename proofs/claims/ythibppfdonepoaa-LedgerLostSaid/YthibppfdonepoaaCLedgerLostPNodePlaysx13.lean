
import Derived.Test.YthibppfdonepoaaCLedgerLostPNodePlaysx0
import Derived.Test.YthibppfdonepoaaCLedgerLostPNodePlaysx12
namespace Go.Proofs.Ythibppfdonepoaa.PNodePlays
open Go.RowKit Go.Proofs.YthibppfdonepoaaW.PrintWords Go.Proofs.YthibppfdonepoaaW.PrintLast Go.Proofs.YthibppfdonepoaaW.PrintMore
attribute [local go_sem] max2_int min2_int max_two min_two max_three min_three max_four min_four
set_option linter.unusedVariables false
set_option linter.unusedSimpArgs false
def liveryref22_Lose.f (k : Nat) (a0_0 : Int) (a0_1 : Int) (l0_2 : List (S39)) (a1 : Int) : Option (Int × Int × (List (S39)) × Int × Int × Int × Int) := (liveryref22_At.f k a0_0 a0_1 l0_2 a1).bind fun t336 => (if t336 < 0 then (some (a0_0, a0_1, l0_2, 0, 0, 0, 7)) else (if 0 ≤ t336 then (if t336 < (l0_2.length : Int) then ((some (([] : List (S39)) : List (S39))).bind fun y339 => (if t336 ≤ (l0_2.length : Int) then ((some (l0_2.take (t336 : Int).toNat : List (S39))).bind fun y342 => (if y339.length + y342.length < 5864062014805 then ((some (y339 ++ y342 : List (S39))).bind fun y346 => (if 0 ≤ (wrap64 (t336 + 1)) then (if (wrap64 (t336 + 1)) ≤ (l0_2.length : Int) then ((some (l0_2.drop ((wrap64 (t336 + 1)) : Int).toNat : List (S39))).bind fun y349 => (if y346.length + y349.length < 5864062014805 then (some (a0_0, a0_1, (y346 ++ y349), (rd_T39 l0_2 t336).f0, (rd_T39 l0_2 t336).f1.f0, (rd_T39 l0_2 t336).f1.f1, 0)) else (none))) else (none)) else (none))) else (none))) else (none))) else (none)) else (none)))
def liveryref22_Lose.T5 : Bool × List (List Nat × List Nat) := (true, [([], []), ([], []), ([1], [1]), ([], []), ([2, 3], [2, 3]), ([0, 4], [0, 4]), ([], []), ([6], [6]), ([], []), ([8], [8]), ([7, 9], [7, 9]), ([5, 10, 5], [5, 10]), ([0, 1, 2, 3, 4, 5, 6, 7, 8, 9, 10, 11], []), ([12, 11, 11, 0, 1, 2, 3, 4, 5, 6, 7, 8, 9, 10, 11], [11, 12])])
def liveryref22_Lose.B5 : List Nat := [0, 0, 2, 0, 14, 31, 0, 64, 0, 256, 960, 2047, 4095, 8191]
theorem liveryref22_Lose.tab5 : rtab .any (opsOf Try.f68 5) = liveryref22_Lose.T5 := by kernel_rfl
theorem liveryref22_Lose.bits5 : waitsOk liveryref22_Lose.T5.2 liveryref22_Lose.B5 = true := by kernel_rfl
set_option maxHeartbeats 8000000 in
set_option maxRecDepth 100000 in
theorem liveryref22_Lose.calls (k : Nat) (a0_0 : Int) (a0_1 : Int) (P0_2_ : Nat → Prop) (u9000_ : Value) (l0_2 : List (S39)) (a1 : Int) (r1 : Int) (r2 : Int) (r3 : List (S39)) (r4 : Int) (r5 : Int) (r6 : Int) (r7 : Int) (w0 w : World) (hB : Below w0.heap.size w0 w) (ho0_2 : Kd.R k39 39 w w0.heap.size P0_2_ u9000_ l0_2) (h : liveryref22_Lose.f k a0_0 a0_1 l0_2 a1 = some (r1, r2, r3, r4, r5, r6, r7)) :
  Calls Try.prog 68 #[.agg #[.int .i64 a0_0, .int .i64 a0_1, u9000_], .int .u32 a1] w fun e w' => ∃ v2_ : Value, e = .returned (.tuple #[.agg #[.int .i64 r1, .int .i64 r2, v2_], .agg #[.int .u32 r4, .int .i64 r5, .int .i64 r6], .int .i64 r7]) ∧ Kd.R k39 39 w' w0.heap.size (fun k_ => (P0_2_ k_ ∨ w.heap.size ≤ k_)) v2_ r3 ∧ Below w0.heap.size w0 w' ∧ Kept w w' (fun k_ => P0_2_ k_) := by
 have hu31 := Try.underlying31
 have hu39 := Try.underlying39
 have HO0_2 := XPrint.A0 (show Kd.R k39 39 w w0.heap.size (fun k_ => (P0_2_ k_ ∨ w.heap.size ≤ k_)) u9000_ l0_2 from Kd.R_mono ho0_2 (fun k_ hk => (.inl hk)))
 have HK := XPrint.A0 (Kept.refl w (fun k_ => P0_2_ k_))
 have HW0 := XPrint.A0 hB.size
 have HB := XPrint.A0 hB
 clear hB
 have H : ((liveryref22_At.f k a0_0 a0_1 l0_2 a1).bind fun t336 => (if t336 < 0 then (some (a0_0, a0_1, l0_2, 0, 0, 0, 7)) else (if 0 ≤ t336 then (if t336 < (l0_2.length : Int) then ((some (([] : List (S39)) : List (S39))).bind fun y339 => (if t336 ≤ (l0_2.length : Int) then ((some (l0_2.take (t336 : Int).toNat : List (S39))).bind fun y342 => (if y339.length + y342.length < 5864062014805 then ((some (y339 ++ y342 : List (S39))).bind fun y346 => (if 0 ≤ (wrap64 (t336 + 1)) then (if (wrap64 (t336 + 1)) ≤ (l0_2.length : Int) then ((some (l0_2.drop ((wrap64 (t336 + 1)) : Int).toNat : List (S39))).bind fun y349 => (if y346.length + y349.length < 5864062014805 then (some (a0_0, a0_1, (y346 ++ y349), (rd_T39 l0_2 t336).f0, (rd_T39 l0_2 t336).f1.f0, (rd_T39 l0_2 t336).f1.f1, 0)) else (none))) else (none)) else (none))) else (none))) else (none))) else (none)) else (none)))) = some (r1, r2, r3, r4, r5, r6, r7) := h
 clear h
 replace H := Option.bind_eq_some_iff.mp H
 obtain ⟨t336, A30, H⟩ := H
 replace H : (if t336 < 0 then (some (a0_0, a0_1, l0_2, 0, 0, 0, 7)) else (if 0 ≤ t336 then (if t336 < (l0_2.length : Int) then ((some (([] : List (S39)) : List (S39))).bind fun y339 => (if t336 ≤ (l0_2.length : Int) then ((some (l0_2.take (t336 : Int).toNat : List (S39))).bind fun y342 => (if y339.length + y342.length < 5864062014805 then ((some (y339 ++ y342 : List (S39))).bind fun y346 => (if 0 ≤ (wrap64 (t336 + 1)) then (if (wrap64 (t336 + 1)) ≤ (l0_2.length : Int) then ((some (l0_2.drop ((wrap64 (t336 + 1)) : Int).toNat : List (S39))).bind fun y349 => (if y346.length + y349.length < 5864062014805 then (some (a0_0, a0_1, (y346 ++ y349), (rd_T39 l0_2 t336).f0, (rd_T39 l0_2 t336).f1.f0, (rd_T39 l0_2 t336).f1.f1, 0)) else (none))) else (none)) else (none))) else (none))) else (none))) else (none)) else (none))) = some (r1, r2, r3, r4, r5, r6, r7) := H
 have A3 := XPrint.A0 A30
 clear A30
 by_cases c4 : t336 < 0
 ·rw [if_pos c4] at H
  have c4b0 : decide (t336 < 0) = true := decide_eq_true c4
  clear c4
  simp only [Option.some.injEq, Prod.mk.injEq] at H
  obtain ⟨rfl, rfl, rfl, rfl, rfl, rfl, rfl⟩ := H
  obtain ⟨Ao5, co5, eo5⟩ := Kd.R_slice HO0_2.out
  subst eo5
  go_enter Try.func68, Try.ntmps68
  go_wp2_with (first | ((with_reducible refine gate_dst (N := 2) rfl ?_); refine box_event ?hg (N := 2) ?hd (cs := #[.int .i64 a0_0, .int .i64 a0_1, .slice Ao5 l0_2.length co5]) (t := 31) ?hr ?_; (case hd => rfl); (case hg => rfl); (case hr => first | (go_simp; done) | (go_simp; rfl)); intro gb333 hg w6 hbox hb; have BK333 := XPrint.A0 (hbox); have GW333 := XPrint.A0 ((by rw [hg]; exact (by first | exact HK.out.1 | exact (show Kept w _ (fun k_ => P0_2_ k_) from by repeat (first | (with_reducible first | exact HK.out | apply Kept.alloc | apply Kept.drewN | apply Kept.drew) | exact HK.out)).1) : w.heap.size ≤ gb333)); have GE333 := XPrint.A0 ((by rw [hg]; exact (below_size (by exact XPrint.bz HB.out)) : w0.heap.size ≤ gb333)); replace HO0_2 := XPrint.A0 (Kd.R_below (by (with_reducible repeat (first | apply Kd.R_alloc | apply Kd.R_drewN | apply Kd.R_drew)); exact HO0_2.out) hb); replace HK := XPrint.A0 (Kept.below (S := (fun k_ => P0_2_ k_)) (by repeat (first | (with_reducible first | exact HK.out | apply Kept.alloc | apply Kept.drewN | apply Kept.drew) | exact HK.out)) hb); replace HB := XPrint.A0 (below_step (by exact XPrint.bz HB.out) hb); clear hb hbox hg) | ((with_reducible refine gate_dst (N := 4) rfl ?_); refine box_event ?hg (N := 4) ?hd (cs := #[.int .i64 0, .int .i64 0, .slice none 0 0]) (t := 31) ?hr ?_; (case hd => rfl); (case hg => rfl); (case hr => first | (go_simp; done) | (go_simp; rfl)); intro gb334 hg w7 hbox hb; have BK334 := XPrint.A0 (hbox); have GW334 := XPrint.A0 ((by rw [hg]; exact (by first | exact HK.out.1 | exact (show Kept w _ (fun k_ => P0_2_ k_) from by repeat (first | (with_reducible first | exact HK.out | apply Kept.alloc | apply Kept.drewN | apply Kept.drew | refine Kept.setCell ?_ (.inr GW333.out) _) | exact HK.out)).1) : w.heap.size ≤ gb334)); have GE334 := XPrint.A0 ((by rw [hg]; exact (below_size (by exact XPrint.bz HB.out)) : w0.heap.size ≤ gb334)); have NB333_334 := XPrint.A1 (by rw [hg]; exact Nat.ne_of_lt (XPrint.al BK333.out) : gb333 ≠ gb334); have NB334_333 := XPrint.A1 (by rw [hg]; exact Nat.ne_of_gt (XPrint.al BK333.out) : gb334 ≠ gb333); replace HO0_2 := XPrint.A0 (Kd.R_below (by (with_reducible repeat (first | apply Kd.R_alloc | apply Kd.R_drewN | apply Kd.R_drew)); exact HO0_2.out) hb); replace BK333 := XPrint.A0 (XPrint.ab BK333.out hb); replace HK := XPrint.A0 (Kept.below (S := (fun k_ => P0_2_ k_)) (by repeat (first | (with_reducible first | exact HK.out | apply Kept.alloc | apply Kept.drewN | apply Kept.drew | refine Kept.setCell ?_ (.inr GW333.out) _) | exact HK.out)) hb); replace HB := XPrint.A0 (below_step (by exact XPrint.bz HB.out) hb); clear hb hbox hg) | ((with_reducible refine gate_dst (N := 5) rfl ?_); refine box_event ?hg (N := 5) ?hd (cs := #[.int .u32 0, .int .i64 0, .int .i64 0]) (t := 39) ?hr ?_; (case hd => rfl); (case hg => rfl); (case hr => first | (go_simp; done) | (go_simp; rfl)); intro gb335 hg w8 hbox hb; have BK335 := XPrint.A0 (hbox); have GW335 := XPrint.A0 ((by rw [hg]; exact (by first | exact HK.out.1 | exact (show Kept w _ (fun k_ => P0_2_ k_) from by repeat (first | (with_reducible first | exact HK.out | apply Kept.alloc | apply Kept.drewN | apply Kept.drew | refine Kept.setCell ?_ (.inr GW333.out) _ | refine Kept.setCell ?_ (.inr GW334.out) _) | exact HK.out)).1) : w.heap.size ≤ gb335)); have GE335 := XPrint.A0 ((by rw [hg]; exact (below_size (by exact XPrint.bz HB.out)) : w0.heap.size ≤ gb335)); have NB333_335 := XPrint.A1 (by rw [hg]; exact Nat.ne_of_lt (XPrint.al BK333.out) : gb333 ≠ gb335); have NB335_333 := XPrint.A1 (by rw [hg]; exact Nat.ne_of_gt (XPrint.al BK333.out) : gb335 ≠ gb333); have NB334_335 := XPrint.A1 (by rw [hg]; exact Nat.ne_of_lt (XPrint.al BK334.out) : gb334 ≠ gb335); have NB335_334 := XPrint.A1 (by rw [hg]; exact Nat.ne_of_gt (XPrint.al BK334.out) : gb335 ≠ gb334); replace HO0_2 := XPrint.A0 (Kd.R_below (Kd.R_elderB (by (with_reducible repeat (first | apply Kd.R_alloc | apply Kd.R_drewN | apply Kd.R_drew)); exact HO0_2.out) gb335 (Nat.le_of_eq hg.symm)) hb); replace BK333 := XPrint.A0 (XPrint.ab BK333.out hb); replace BK334 := XPrint.A0 (XPrint.ab BK334.out hb); replace HK := XPrint.A0 (Kept.below (S := (fun k_ => P0_2_ k_)) (by repeat (first | (with_reducible first | exact HK.out | apply Kept.alloc | apply Kept.drewN | apply Kept.drew | refine Kept.setCell ?_ (.inr GW333.out) _ | refine Kept.setCell ?_ (.inr GW334.out) _) | exact HK.out)) hb); replace HB := XPrint.A0 (below_step (by exact XPrint.bz HB.out) hb); clear hb hbox hg; have hnb9 := NB333_334.out; have hnc9 := NB334_333.out; have hnb10 := NB333_335.out; have hnc10 := NB335_333.out; have hcz11_0 : w8.cell? ⟨gb333, 0, none⟩ = some (.int .i64 a0_0) := (blk_cell BK333.out 0).trans rfl; have hcz11_1 : w8.cell? ⟨gb333, 1, none⟩ = some (.int .i64 a0_1) := (blk_cell BK333.out 1).trans rfl; have hcz11_2 : w8.cell? ⟨gb333, 2, none⟩ = some (.slice Ao5 l0_2.length co5) := (blk_cell BK333.out 2).trans rfl; have hfz11_0 := blk_frozen BK333.out 0; have hfz11_1 := blk_frozen BK333.out 1; have hfz11_2 := blk_frozen BK333.out 2) | ((with_reducible refine gate_callee (f := 122) rfl ?_); refine XPrint.gl (some 11) Try.func122 #[.agg #[.int .i64 a0_0, .int .i64 a0_1, .slice Ao5 l0_2.length co5], .int .u32 a1] ?_; (with_reducible refine (liveryref22_At.calls k a0_0 a0_1 _ _ l0_2 a1 t336 _ ?side1 ?side2 A3.out).mono ?_); (case side1 => repeat (first | exact (Kd.R_reads' HO0_2.out).2.2 | (with_reducible refine Kd.C_alloc ?_ _) | (with_reducible refine Kd.C_drewN ?_ _) | (with_reducible refine Kd.C_drew ?_))); (case side2 => exact (Kd.R_reads' HO0_2.out).2.1); rintro e w12 ⟨rfl, hb⟩; refine ⟨_, rfl, ?_⟩; replace HO0_2 := XPrint.A0 (Kd.R_below (by (with_reducible repeat (first | apply Kd.R_alloc | apply Kd.R_drewN | apply Kd.R_drew)); exact HO0_2.out) hb); replace BK333 := XPrint.A0 (XPrint.ab BK333.out hb); replace BK334 := XPrint.A0 (XPrint.ab BK334.out hb); replace BK335 := XPrint.A0 (XPrint.ab BK335.out hb); replace HK := XPrint.A0 (Kept.below (S := (fun k_ => P0_2_ k_)) (by repeat (first | (with_reducible first | exact HK.out | apply Kept.alloc | apply Kept.drewN | apply Kept.drew | refine Kept.setCell ?_ (.inr GW333.out) _ | refine Kept.setCell ?_ (.inr GW334.out) _ | refine Kept.setCell ?_ (.inr GW335.out) _) | exact HK.out)) hb); replace HB := XPrint.A0 (below_step (by exact XPrint.bz HB.out) hb); (try clear hb); (try clear hb2); (try clear hk); (try clear hi); have hcz13_0 : w12.cell? ⟨gb333, 0, none⟩ = some (.int .i64 a0_0) := (blk_cell BK333.out 0).trans rfl; have hcz13_1 : w12.cell? ⟨gb333, 1, none⟩ = some (.int .i64 a0_1) := (blk_cell BK333.out 1).trans rfl; have hcz13_2 : w12.cell? ⟨gb333, 2, none⟩ = some (.slice Ao5 l0_2.length co5) := (blk_cell BK333.out 2).trans rfl; have hfz13_0 := blk_frozen BK333.out 0; have hfz13_1 := blk_frozen BK333.out 1; have hfz13_2 := blk_frozen BK333.out 2; have hnb14 := NB334_335.out; have hnc14 := NB335_334.out; have hcz15_0 : w12.cell? ⟨gb334, 0, none⟩ = some (.int .i64 0) := (blk_cell BK334.out 0).trans rfl; have hcz15_1 : w12.cell? ⟨gb334, 1, none⟩ = some (.int .i64 0) := (blk_cell BK334.out 1).trans rfl; have hcz15_2 : w12.cell? ⟨gb334, 2, none⟩ = some (.slice none 0 0) := (blk_cell BK334.out 2).trans rfl; have hfz15_0 := blk_frozen BK334.out 0; have hfz15_1 := blk_frozen BK334.out 1; have hfz15_2 := blk_frozen BK334.out 2; have hcz16_0 : w12.cell? ⟨gb335, 0, none⟩ = some (.int .u32 0) := (blk_cell BK335.out 0).trans rfl; have hcz16_1 : w12.cell? ⟨gb335, 1, none⟩ = some (.int .i64 0) := (blk_cell BK335.out 1).trans rfl; have hcz16_2 : w12.cell? ⟨gb335, 2, none⟩ = some (.int .i64 0) := (blk_cell BK335.out 2).trans rfl; have hfz16_0 := blk_frozen BK335.out 0; have hfz16_1 := blk_frozen BK335.out 1; have hfz16_2 := blk_frozen BK335.out 2))
  refine bodyPost_ret (results_list (rs := [.cell 4 31, .cell 5 39, .tmp 6]) rfl (by simp) (.cell gb334 31 #[.int .i64 a0_0, .int .i64 a0_1, .slice Ao5 l0_2.length co5] (0, 0) _ rfl (by (repeat with_reducible first | refine XPrint.d1 ?_ | refine XPrint.d2 ?_ _ | refine XPrint.d3 ?_ _); refine blk_far ?_ NB334_335.out _; (repeat with_reducible first | refine XPrint.d1 ?_ | refine XPrint.d2 ?_ _ | refine XPrint.d3 ?_ _); refine blk_far ?_ NB334_335.out _; (repeat with_reducible first | refine XPrint.d1 ?_ | refine XPrint.d2 ?_ _ | refine XPrint.d3 ?_ _); refine blk_far ?_ NB334_335.out _; (repeat with_reducible first | refine XPrint.d1 ?_ | refine XPrint.d2 ?_ _ | refine XPrint.d3 ?_ _); refine blk_put (cs := #[.int .i64 a0_0, .int .i64 a0_1, .slice none 0 0]) ?_ 2 _ rfl; (repeat with_reducible first | refine XPrint.d1 ?_ | refine XPrint.d2 ?_ _ | refine XPrint.d3 ?_ _); refine blk_put (cs := #[.int .i64 a0_0, .int .i64 0, .slice none 0 0]) ?_ 1 _ rfl; (repeat with_reducible first | refine XPrint.d1 ?_ | refine XPrint.d2 ?_ _ | refine XPrint.d3 ?_ _); refine blk_put (cs := #[.int .i64 0, .int .i64 0, .slice none 0 0]) ?_ 0 _ rfl; (repeat with_reducible first | refine XPrint.d1 ?_ | refine XPrint.d2 ?_ _ | refine XPrint.d3 ?_ _); exact BK334.out) Try.underlying31 rfl (by kernel_rfl) (.cell gb335 39 #[.int .u32 0, .int .i64 0, .int .i64 0] (0, 0) _ rfl (by (repeat with_reducible first | refine XPrint.d1 ?_ | refine XPrint.d2 ?_ _ | refine XPrint.d3 ?_ _); refine blk_put (cs := #[.int .u32 0, .int .i64 0, .int .i64 0]) ?_ 2 _ rfl; (repeat with_reducible first | refine XPrint.d1 ?_ | refine XPrint.d2 ?_ _ | refine XPrint.d3 ?_ _); refine blk_put (cs := #[.int .u32 0, .int .i64 0, .int .i64 0]) ?_ 1 _ rfl; (repeat with_reducible first | refine XPrint.d1 ?_ | refine XPrint.d2 ?_ _ | refine XPrint.d3 ?_ _); refine blk_put (cs := #[.int .u32 0, .int .i64 0, .int .i64 0]) ?_ 0 _ rfl; (repeat with_reducible first | refine XPrint.d1 ?_ | refine XPrint.d2 ?_ _ | refine XPrint.d3 ?_ _); refine blk_far ?_ NB335_334.out _; (repeat with_reducible first | refine XPrint.d1 ?_ | refine XPrint.d2 ?_ _ | refine XPrint.d3 ?_ _); refine blk_far ?_ NB335_334.out _; (repeat with_reducible first | refine XPrint.d1 ?_ | refine XPrint.d2 ?_ _ | refine XPrint.d3 ?_ _); refine blk_far ?_ NB335_334.out _; (repeat with_reducible first | refine XPrint.d1 ?_ | refine XPrint.d2 ?_ _ | refine XPrint.d3 ?_ _); exact BK335.out) Try.underlying39 rfl (by kernel_rfl) (.tmp .nil)))) rfl ?_
  exact ⟨_, by first | rfl | (simp [errW_none, errW_some] <;> rfl) | (simp [*, errW_none, errW_some] <;> rfl), by (with_reducible repeat (first | apply Kd.R_alloc | apply Kd.R_drewN | apply Kd.R_drew)); exact Kd.R_mono (Kd.R_far (p := ⟨gb335, 2, none⟩) (Kd.R_far (p := ⟨gb335, 1, none⟩) (Kd.R_far (p := ⟨gb335, 0, none⟩) (Kd.R_far (p := ⟨gb334, 2, none⟩) (Kd.R_far (p := ⟨gb334, 1, none⟩) (Kd.R_far (p := ⟨gb334, 0, none⟩) (Kd.R_mono (Kd.R_types HO0_2.out BK334.out (by decide)) (fun k_ hk => (⟨hk, hk.1.2⟩ : _ ∧ k_ ≠ gb335))) (fun _ hk => hk.1.2) (.int .i64 a0_0)) (fun _ hk => hk.1.2) (.int .i64 a0_1)) (fun _ hk => hk.1.2) (.slice Ao5 l0_2.length co5)) (fun _ hk => hk.2) (.int .u32 0)) (fun _ hk => hk.2) (.int .i64 0)) (fun _ hk => hk.2) (.int .i64 0)) (fun _ hk => hk.1.1.1), by repeat (first | (with_reducible first | exact HB.out | apply below_alloc | apply pw_below_drewN | apply below_drew1 | refine below_set ?_ GE333.out | refine below_set ?_ GE334.out | refine below_set ?_ GE335.out) | exact HB.out), by repeat (first | (with_reducible first | exact HK.out | apply Kept.alloc | apply Kept.drewN | apply Kept.drew | refine Kept.setCell ?_ (.inr GW333.out) _ | refine Kept.setCell ?_ (.inr GW334.out) _ | refine Kept.setCell ?_ (.inr GW335.out) _) | exact HK.out)⟩
 ·rw [if_neg c4] at H
  have c4b0 : decide (t336 < 0) = false := decide_eq_false c4
  clear c4
  by_cases c17 : 0 ≤ t336
  ·rw [if_pos c17] at H
   have c17b0 : decide (0 ≤ t336) = true := decide_eq_true c17
   clear c17
   by_cases c18 : t336 < (l0_2.length : Int)
   ·rw [if_pos c18] at H
    have c18b0 : decide (t336 < (l0_2.length : Int)) = true := decide_eq_true c18
    clear c18
    obtain ⟨y339, hy339⟩ : ∃ y_ : List (S39), y_ = (([] : List (S39))) := ⟨_, rfl⟩
    replace H : (if t336 ≤ (l0_2.length : Int) then ((some (l0_2.take (t336 : Int).toNat : List (S39))).bind fun y342 => (if y339.length + y342.length < 5864062014805 then ((some (y339 ++ y342 : List (S39))).bind fun y346 => (if 0 ≤ (wrap64 (t336 + 1)) then (if (wrap64 (t336 + 1)) ≤ (l0_2.length : Int) then ((some (l0_2.drop ((wrap64 (t336 + 1)) : Int).toNat : List (S39))).bind fun y349 => (if y346.length + y349.length < 5864062014805 then (some (a0_0, a0_1, (y346 ++ y349), (rd_T39 l0_2 t336).f0, (rd_T39 l0_2 t336).f1.f0, (rd_T39 l0_2 t336).f1.f1, 0)) else (none))) else (none)) else (none))) else (none))) else (none)) = some (r1, r2, r3, r4, r5, r6, r7) := by first | (rw [hy339]; with_reducible exact H) | (have H2_ := (Option.bind_some _ _).symm.trans H; rw [hy339]; with_reducible exact H2_) | (have H2_ := (Option.bind_some _ _).symm.trans H; with_reducible exact H2_) | with_reducible exact H | (rw [hy339]; exact H) | exact H
    have Ny339 := XPrint.A0 hy339
    clear hy339
    have c19b0 := eq_true (of_decide_eq_true (by first | (with_reducible assumption) | assumption) : 0 ≤ t336)
    by_cases c20 : t336 ≤ (l0_2.length : Int)
    ·rw [if_pos c20] at H
     have c20b0 := eq_true c20
     have c20b1 : decide (t336 ≤ (l0_2.length : Int)) = true := decide_eq_true c20
     clear c20
     obtain ⟨y342, hy342⟩ : ∃ y_ : List (S39), y_ = (l0_2.take (t336 : Int).toNat) := ⟨_, rfl⟩
     replace H : (if y339.length + y342.length < 5864062014805 then ((some (y339 ++ y342 : List (S39))).bind fun y346 => (if 0 ≤ (wrap64 (t336 + 1)) then (if (wrap64 (t336 + 1)) ≤ (l0_2.length : Int) then ((some (l0_2.drop ((wrap64 (t336 + 1)) : Int).toNat : List (S39))).bind fun y349 => (if y346.length + y349.length < 5864062014805 then (some (a0_0, a0_1, (y346 ++ y349), (rd_T39 l0_2 t336).f0, (rd_T39 l0_2 t336).f1.f0, (rd_T39 l0_2 t336).f1.f1, 0)) else (none))) else (none)) else (none))) else (none)) = some (r1, r2, r3, r4, r5, r6, r7) := by first | (rw [hy342]; with_reducible exact H) | (have H2_ := (Option.bind_some _ _).symm.trans H; rw [hy342]; with_reducible exact H2_) | (have H2_ := (Option.bind_some _ _).symm.trans H; with_reducible exact H2_) | with_reducible exact H | (rw [hy342]; exact H) | exact H
     have Ny342 := XPrint.A0 hy342
     clear hy342
     by_cases c21 : y339.length + y342.length < 5864062014805
     ·rw [if_pos c21] at H
      have LMc21 := XPrint.A0 c21
      clear c21
      obtain ⟨y346, hy346⟩ : ∃ y_ : List (S39), y_ = (y339 ++ y342) := ⟨_, rfl⟩
      replace H : (if 0 ≤ (wrap64 (t336 + 1)) then (if (wrap64 (t336 + 1)) ≤ (l0_2.length : Int) then ((some (l0_2.drop ((wrap64 (t336 + 1)) : Int).toNat : List (S39))).bind fun y349 => (if y346.length + y349.length < 5864062014805 then (some (a0_0, a0_1, (y346 ++ y349), (rd_T39 l0_2 t336).f0, (rd_T39 l0_2 t336).f1.f0, (rd_T39 l0_2 t336).f1.f1, 0)) else (none))) else (none)) else (none)) = some (r1, r2, r3, r4, r5, r6, r7) := by first | (rw [hy346]; with_reducible exact H) | (have H2_ := (Option.bind_some _ _).symm.trans H; rw [hy346]; with_reducible exact H2_) | (have H2_ := (Option.bind_some _ _).symm.trans H; with_reducible exact H2_) | with_reducible exact H | (rw [hy346]; exact H) | exact H
      have Ny346 := XPrint.A0 hy346
      clear hy346
      obtain ⟨ji22, hji22⟩ : ∃ j_ : Int, (wrap64 (t336 + 1)) = j_ := ⟨_, rfl⟩
      replace H : (if 0 ≤ (ji22) then (if (ji22) ≤ (l0_2.length : Int) then ((some (l0_2.drop ((ji22) : Int).toNat : List (S39))).bind fun y349 => (if y346.length + y349.length < 5864062014805 then (some (a0_0, a0_1, (y346 ++ y349), (rd_T39 l0_2 t336).f0, (rd_T39 l0_2 t336).f1.f0, (rd_T39 l0_2 t336).f1.f1, 0)) else (none))) else (none)) else (none)) = some (r1, r2, r3, r4, r5, r6, r7) := by first | (rw [hji22] at H; exact H) | (simp only [hji22] at H ⊢; exact H)
      (try rw [hji22] at A3)
      have hji22w : (IntKind.i64.wrap (t336 + 1)) = ji22 := (i64_w _).trans hji22
      by_cases c23 : 0 ≤ (ji22)
      ·rw [if_pos c23] at H
       have c23b0 := eq_true c23
       have c23b1 : decide (0 ≤ (ji22)) = true := decide_eq_true c23
       clear c23
       by_cases c24 : (ji22) ≤ (l0_2.length : Int)
       ·rw [if_pos c24] at H
        have c24b0 := eq_true c24
        have c24b1 : decide ((ji22) ≤ (l0_2.length : Int)) = true := decide_eq_true c24
        clear c24
        obtain ⟨y349, hy349⟩ : ∃ y_ : List (S39), y_ = (l0_2.drop ((ji22) : Int).toNat) := ⟨_, rfl⟩
        replace H : (if y346.length + y349.length < 5864062014805 then (some (a0_0, a0_1, (y346 ++ y349), (rd_T39 l0_2 t336).f0, (rd_T39 l0_2 t336).f1.f0, (rd_T39 l0_2 t336).f1.f1, 0)) else (none)) = some (r1, r2, r3, r4, r5, r6, r7) := by first | (rw [hy349]; with_reducible exact H) | (have H2_ := (Option.bind_some _ _).symm.trans H; rw [hy349]; with_reducible exact H2_) | (have H2_ := (Option.bind_some _ _).symm.trans H; with_reducible exact H2_) | with_reducible exact H | (rw [hy349]; exact H) | exact H
        have Ny349 := XPrint.A0 hy349
        clear hy349
        by_cases c25 : y346.length + y349.length < 5864062014805
        ·rw [if_pos c25] at H
         have LMc25 := XPrint.A0 c25
         clear c25
         obtain ⟨y353, hy353⟩ : ∃ y_ : List (S39), y_ = (y346 ++ y349) := ⟨_, rfl⟩
         replace H : (some (a0_0, a0_1, y353, (rd_T39 l0_2 t336).f0, (rd_T39 l0_2 t336).f1.f0, (rd_T39 l0_2 t336).f1.f1, 0)) = some (r1, r2, r3, r4, r5, r6, r7) := by first | (rw [hy353]; with_reducible exact H) | (have H2_ := (Option.bind_some _ _).symm.trans H; rw [hy353]; with_reducible exact H2_) | (have H2_ := (Option.bind_some _ _).symm.trans H; with_reducible exact H2_) | with_reducible exact H | (rw [hy353]; exact H) | exact H
         have Ny353 := XPrint.A0 hy353
         clear hy353
         simp only [Option.some.injEq, Prod.mk.injEq] at H
         obtain ⟨rfl, rfl, rfl, rfl, rfl, rfl, rfl⟩ := H
         obtain ⟨Ao26, co26, eo26⟩ := Kd.R_slice HO0_2.out
         subst eo26
         go_enter Try.func68, Try.ntmps68
         try go_wp2_with (first | ((with_reducible refine gate_dst (N := 2) rfl ?_); refine box_event ?hg (N := 2) ?hd (cs := #[.int .i64 a0_0, .int .i64 a0_1, .slice Ao26 l0_2.length co26]) (t := 31) ?hr ?_; (case hd => rfl); (case hg => rfl); (case hr => first | (go_simp; done) | (go_simp; rfl)); intro gb333 hg w27 hbox hb; have BK333 := XPrint.A0 (hbox); have GW333 := XPrint.A0 ((by rw [hg]; exact (by first | exact HK.out.1 | exact (show Kept w _ (fun k_ => P0_2_ k_) from by repeat (first | (with_reducible first | exact HK.out | apply Kept.alloc | apply Kept.drewN | apply Kept.drew) | exact HK.out)).1) : w.heap.size ≤ gb333)); have GE333 := XPrint.A0 ((by rw [hg]; exact (below_size (by exact XPrint.bz HB.out)) : w0.heap.size ≤ gb333)); replace HO0_2 := XPrint.A0 (Kd.R_below (by (with_reducible repeat (first | apply Kd.R_alloc | apply Kd.R_drewN | apply Kd.R_drew)); exact HO0_2.out) hb); replace HK := XPrint.A0 (Kept.below (S := (fun k_ => P0_2_ k_)) (by repeat (first | (with_reducible first | exact HK.out | apply Kept.alloc | apply Kept.drewN | apply Kept.drew) | exact HK.out)) hb); replace HB := XPrint.A0 (below_step (by exact XPrint.bz HB.out) hb); clear hb hbox hg) | ((with_reducible refine gate_dst (N := 4) rfl ?_); refine box_event ?hg (N := 4) ?hd (cs := #[.int .i64 0, .int .i64 0, .slice none 0 0]) (t := 31) ?hr ?_; (case hd => rfl); (case hg => rfl); (case hr => first | (go_simp; done) | (go_simp; rfl)); intro gb334 hg w28 hbox hb; have BK334 := XPrint.A0 (hbox); have GW334 := XPrint.A0 ((by rw [hg]; exact (by first | exact HK.out.1 | exact (show Kept w _ (fun k_ => P0_2_ k_) from by repeat (first | (with_reducible first | exact HK.out | apply Kept.alloc | apply Kept.drewN | apply Kept.drew | refine Kept.setCell ?_ (.inr GW333.out) _) | exact HK.out)).1) : w.heap.size ≤ gb334)); have GE334 := XPrint.A0 ((by rw [hg]; exact (below_size (by exact XPrint.bz HB.out)) : w0.heap.size ≤ gb334)); have NB333_334 := XPrint.A1 (by rw [hg]; exact Nat.ne_of_lt (XPrint.al BK333.out) : gb333 ≠ gb334); have NB334_333 := XPrint.A1 (by rw [hg]; exact Nat.ne_of_gt (XPrint.al BK333.out) : gb334 ≠ gb333); replace HO0_2 := XPrint.A0 (Kd.R_below (by (with_reducible repeat (first | apply Kd.R_alloc | apply Kd.R_drewN | apply Kd.R_drew)); exact HO0_2.out) hb); replace BK333 := XPrint.A0 (XPrint.ab BK333.out hb); replace HK := XPrint.A0 (Kept.below (S := (fun k_ => P0_2_ k_)) (by repeat (first | (with_reducible first | exact HK.out | apply Kept.alloc | apply Kept.drewN | apply Kept.drew | refine Kept.setCell ?_ (.inr GW333.out) _) | exact HK.out)) hb); replace HB := XPrint.A0 (below_step (by exact XPrint.bz HB.out) hb); clear hb hbox hg) | ((with_reducible refine gate_dst (N := 5) rfl ?_); refine box_event ?hg (N := 5) ?hd (cs := #[.int .u32 0, .int .i64 0, .int .i64 0]) (t := 39) ?hr ?_; (case hd => rfl); (case hg => rfl); (case hr => first | (go_simp; done) | (go_simp; rfl)); intro gb335 hg w29 hbox hb; have BK335 := XPrint.A0 (hbox); have GW335 := XPrint.A0 ((by rw [hg]; exact (by first | exact HK.out.1 | exact (show Kept w _ (fun k_ => P0_2_ k_) from by repeat (first | (with_reducible first | exact HK.out | apply Kept.alloc | apply Kept.drewN | apply Kept.drew | refine Kept.setCell ?_ (.inr GW333.out) _ | refine Kept.setCell ?_ (.inr GW334.out) _) | exact HK.out)).1) : w.heap.size ≤ gb335)); have GE335 := XPrint.A0 ((by rw [hg]; exact (below_size (by exact XPrint.bz HB.out)) : w0.heap.size ≤ gb335)); have NB333_335 := XPrint.A1 (by rw [hg]; exact Nat.ne_of_lt (XPrint.al BK333.out) : gb333 ≠ gb335); have NB335_333 := XPrint.A1 (by rw [hg]; exact Nat.ne_of_gt (XPrint.al BK333.out) : gb335 ≠ gb333); have NB334_335 := XPrint.A1 (by rw [hg]; exact Nat.ne_of_lt (XPrint.al BK334.out) : gb334 ≠ gb335); have NB335_334 := XPrint.A1 (by rw [hg]; exact Nat.ne_of_gt (XPrint.al BK334.out) : gb335 ≠ gb334); replace HO0_2 := XPrint.A0 (Kd.R_below (Kd.R_elderB (by (with_reducible repeat (first | apply Kd.R_alloc | apply Kd.R_drewN | apply Kd.R_drew)); exact HO0_2.out) gb335 (Nat.le_of_eq hg.symm)) hb); replace BK333 := XPrint.A0 (XPrint.ab BK333.out hb); replace BK334 := XPrint.A0 (XPrint.ab BK334.out hb); replace HK := XPrint.A0 (Kept.below (S := (fun k_ => P0_2_ k_)) (by repeat (first | (with_reducible first | exact HK.out | apply Kept.alloc | apply Kept.drewN | apply Kept.drew | refine Kept.setCell ?_ (.inr GW333.out) _ | refine Kept.setCell ?_ (.inr GW334.out) _) | exact HK.out)) hb); replace HB := XPrint.A0 (below_step (by exact XPrint.bz HB.out) hb); clear hb hbox hg; have hnb30 := NB333_334.out; have hnc30 := NB334_333.out; have hnb31 := NB333_335.out; have hnc31 := NB335_333.out; have hcz32_0 : w29.cell? ⟨gb333, 0, none⟩ = some (.int .i64 a0_0) := (blk_cell BK333.out 0).trans rfl; have hcz32_1 : w29.cell? ⟨gb333, 1, none⟩ = some (.int .i64 a0_1) := (blk_cell BK333.out 1).trans rfl; have hcz32_2 : w29.cell? ⟨gb333, 2, none⟩ = some (.slice Ao26 l0_2.length co26) := (blk_cell BK333.out 2).trans rfl; have hfz32_0 := blk_frozen BK333.out 0; have hfz32_1 := blk_frozen BK333.out 1; have hfz32_2 := blk_frozen BK333.out 2) | ((with_reducible refine gate_callee (f := 122) rfl ?_); refine XPrint.gl (some 11) Try.func122 #[.agg #[.int .i64 a0_0, .int .i64 a0_1, .slice Ao26 l0_2.length co26], .int .u32 a1] ?_; (with_reducible refine (liveryref22_At.calls k a0_0 a0_1 _ _ l0_2 a1 t336 _ ?side1 ?side2 A3.out).mono ?_); (case side1 => repeat (first | exact (Kd.R_reads' HO0_2.out).2.2 | (with_reducible refine Kd.C_alloc ?_ _) | (with_reducible refine Kd.C_drewN ?_ _) | (with_reducible refine Kd.C_drew ?_))); (case side2 => exact (Kd.R_reads' HO0_2.out).2.1); rintro e w33 ⟨rfl, hb⟩; refine ⟨_, rfl, ?_⟩; replace HO0_2 := XPrint.A0 (Kd.R_below (by (with_reducible repeat (first | apply Kd.R_alloc | apply Kd.R_drewN | apply Kd.R_drew)); exact HO0_2.out) hb); replace BK333 := XPrint.A0 (XPrint.ab BK333.out hb); replace BK334 := XPrint.A0 (XPrint.ab BK334.out hb); replace BK335 := XPrint.A0 (XPrint.ab BK335.out hb); replace HK := XPrint.A0 (Kept.below (S := (fun k_ => P0_2_ k_)) (by repeat (first | (with_reducible first | exact HK.out | apply Kept.alloc | apply Kept.drewN | apply Kept.drew | refine Kept.setCell ?_ (.inr GW333.out) _ | refine Kept.setCell ?_ (.inr GW334.out) _ | refine Kept.setCell ?_ (.inr GW335.out) _) | exact HK.out)) hb); replace HB := XPrint.A0 (below_step (by exact XPrint.bz HB.out) hb); (try clear hb); (try clear hb2); (try clear hk); (try clear hi); have hcz34_0 : w33.cell? ⟨gb333, 0, none⟩ = some (.int .i64 a0_0) := (blk_cell BK333.out 0).trans rfl; have hcz34_1 : w33.cell? ⟨gb333, 1, none⟩ = some (.int .i64 a0_1) := (blk_cell BK333.out 1).trans rfl; have hcz34_2 : w33.cell? ⟨gb333, 2, none⟩ = some (.slice Ao26 l0_2.length co26) := (blk_cell BK333.out 2).trans rfl; have hfz34_0 := blk_frozen BK333.out 0; have hfz34_1 := blk_frozen BK333.out 1; have hfz34_2 := blk_frozen BK333.out 2; have p337 : 0 ≤ (t336 : Int) := of_decide_eq_true (by first | (with_reducible assumption) | assumption); have q337 : t336 < (l0_2.length : Int) := of_decide_eq_true (by first | (with_reducible assumption) | assumption); obtain ⟨ad337, e337, hx337_0, hx337_1, hx337_2⟩ := at_T39 (Kd.R_reads' HO0_2.out).2.2 t336 p337 q337; cases e337; replace p337 := eq_true p337; replace q337 := eq_true q337) | ((with_reducible refine gate_dst (N := 8) rfl ?_); refine box_event ?hg (N := 8) ?hd (cs := #[.int .u32 0, .int .i64 0, .int .i64 0]) (t := 39) ?hr ?_; (case hd => rfl); (case hg => rfl); (case hr => first | (go_simp; done) | (go_simp; rfl)); intro gb338 hg w35 hbox hb; have BK338 := XPrint.A0 (hbox); have GW338 := XPrint.A0 ((by rw [hg]; exact (by first | exact HK.out.1 | exact (show Kept w _ (fun k_ => P0_2_ k_) from by repeat (first | (with_reducible first | exact HK.out | apply Kept.alloc | apply Kept.drewN | apply Kept.drew | refine Kept.setCell ?_ (.inr GW333.out) _ | refine Kept.setCell ?_ (.inr GW334.out) _ | refine Kept.setCell ?_ (.inr GW335.out) _) | exact HK.out)).1) : w.heap.size ≤ gb338)); have GE338 := XPrint.A0 ((by rw [hg]; exact (below_size (by exact XPrint.bz HB.out)) : w0.heap.size ≤ gb338)); have NB333_338 := XPrint.A1 (by rw [hg]; exact Nat.ne_of_lt (XPrint.al BK333.out) : gb333 ≠ gb338); have NB338_333 := XPrint.A1 (by rw [hg]; exact Nat.ne_of_gt (XPrint.al BK333.out) : gb338 ≠ gb333); have NB334_338 := XPrint.A1 (by rw [hg]; exact Nat.ne_of_lt (XPrint.al BK334.out) : gb334 ≠ gb338); have NB338_334 := XPrint.A1 (by rw [hg]; exact Nat.ne_of_gt (XPrint.al BK334.out) : gb338 ≠ gb334); have NB335_338 := XPrint.A1 (by rw [hg]; exact Nat.ne_of_lt (XPrint.al BK335.out) : gb335 ≠ gb338); have NB338_335 := XPrint.A1 (by rw [hg]; exact Nat.ne_of_gt (XPrint.al BK335.out) : gb338 ≠ gb335); replace HO0_2 := XPrint.A0 (Kd.R_below (Kd.R_elderB (by (with_reducible repeat (first | apply Kd.R_alloc | apply Kd.R_drewN | apply Kd.R_drew)); exact HO0_2.out) gb338 (Nat.le_of_eq hg.symm)) hb); replace BK333 := XPrint.A0 (XPrint.ab BK333.out hb); replace BK334 := XPrint.A0 (XPrint.ab BK334.out hb); replace BK335 := XPrint.A0 (XPrint.ab BK335.out hb); replace HK := XPrint.A0 (Kept.below (S := (fun k_ => P0_2_ k_)) (by repeat (first | (with_reducible first | exact HK.out | apply Kept.alloc | apply Kept.drewN | apply Kept.drew | refine Kept.setCell ?_ (.inr GW333.out) _ | refine Kept.setCell ?_ (.inr GW334.out) _ | refine Kept.setCell ?_ (.inr GW335.out) _) | exact HK.out)) hb); replace HB := XPrint.A0 (below_step (by exact XPrint.bz HB.out) hb); clear hb hbox hg; have hnb36 := NB338_333.out; have hnc36 := NB333_338.out; have hnb37 := NB338_334.out; have hnc37 := NB334_338.out; have hnb38 := NB338_335.out; have hnc38 := NB335_338.out; have hcz39_0 : w35.cell? ⟨gb338, 0, none⟩ = some (.int .u32 0) := (blk_cell BK338.out 0).trans rfl; have hcz39_1 : w35.cell? ⟨gb338, 1, none⟩ = some (.int .i64 0) := (blk_cell BK338.out 1).trans rfl; have hcz39_2 : w35.cell? ⟨gb338, 2, none⟩ = some (.int .i64 0) := (blk_cell BK338.out 2).trans rfl; have hfz39_0 := blk_frozen BK338.out 0; have hfz39_1 := blk_frozen BK338.out 1; have hfz39_2 := blk_frozen BK338.out 2))
         have n0_ : Aside0 (Kd.R k39 39 (((w35.setCell ⟨gb338, 0, none⟩ (.int .u32 ((rd_T39 l0_2 t336).f0))).setCell ⟨gb338, 1, none⟩ (.int .i64 ((rd_T39 l0_2 t336).f1.f0))).setCell ⟨gb338, 2, none⟩ (.int .i64 ((rd_T39 l0_2 t336).f1.f1))) w0.heap.size (fun k_ => (P0_2_ k_ ∨ w.heap.size ≤ k_) ∧ k_ ≠ gb335 ∧ k_ ≠ gb338) (.slice (some ad337) l0_2.length co26) l0_2) := ⟨by (with_reducible repeat (first | apply Kd.R_alloc | apply Kd.R_drewN | apply Kd.R_drew)); exact Kd.R_mono (Kd.R_far (p := ⟨gb338, 2, none⟩) (Kd.R_far (p := ⟨gb338, 1, none⟩) (Kd.R_far (p := ⟨gb338, 0, none⟩) (Kd.R_mono HO0_2.out (fun k_ hk => (⟨hk, hk.2⟩ : _ ∧ k_ ≠ gb338))) (fun _ hk => hk.2) (.int .u32 ((rd_T39 l0_2 t336).f0))) (fun _ hk => hk.2) (.int .i64 ((rd_T39 l0_2 t336).f1.f0))) (fun _ hk => hk.2) (.int .i64 ((rd_T39 l0_2 t336).f1.f1))) (fun _ hk => ⟨hk.1.1.1, ⟨hk.1.1.2, hk.1.2⟩⟩)⟩
         have n1_ : Aside0 ((((w35.setCell ⟨gb338, 0, none⟩ (.int .u32 ((rd_T39 l0_2 t336).f0))).setCell ⟨gb338, 1, none⟩ (.int .i64 ((rd_T39 l0_2 t336).f1.f0))).setCell ⟨gb338, 2, none⟩ (.int .i64 ((rd_T39 l0_2 t336).f1.f1))).heap[gb333]? = some (.cells #[.int .i64 a0_0, .int .i64 a0_1, .slice (some ad337) l0_2.length co26] 31 (0, 0))) := ⟨by (repeat with_reducible first | refine XPrint.d1 ?_ | refine XPrint.d2 ?_ _ | refine XPrint.d3 ?_ _); refine blk_far ?_ NB333_338.out _; (repeat with_reducible first | refine XPrint.d1 ?_ | refine XPrint.d2 ?_ _ | refine XPrint.d3 ?_ _); refine blk_far ?_ NB333_338.out _; (repeat with_reducible first | refine XPrint.d1 ?_ | refine XPrint.d2 ?_ _ | refine XPrint.d3 ?_ _); refine blk_far ?_ NB333_338.out _; (repeat with_reducible first | refine XPrint.d1 ?_ | refine XPrint.d2 ?_ _ | refine XPrint.d3 ?_ _); exact BK333.out⟩
         have n2_ : Aside0 ((((w35.setCell ⟨gb338, 0, none⟩ (.int .u32 ((rd_T39 l0_2 t336).f0))).setCell ⟨gb338, 1, none⟩ (.int .i64 ((rd_T39 l0_2 t336).f1.f0))).setCell ⟨gb338, 2, none⟩ (.int .i64 ((rd_T39 l0_2 t336).f1.f1))).heap[gb334]? = some (.cells #[.int .i64 0, .int .i64 0, .slice none 0 0] 31 (0, 0))) := ⟨by (repeat with_reducible first | refine XPrint.d1 ?_ | refine XPrint.d2 ?_ _ | refine XPrint.d3 ?_ _); refine blk_far ?_ NB334_338.out _; (repeat with_reducible first | refine XPrint.d1 ?_ | refine XPrint.d2 ?_ _ | refine XPrint.d3 ?_ _); refine blk_far ?_ NB334_338.out _; (repeat with_reducible first | refine XPrint.d1 ?_ | refine XPrint.d2 ?_ _ | refine XPrint.d3 ?_ _); refine blk_far ?_ NB334_338.out _; (repeat with_reducible first | refine XPrint.d1 ?_ | refine XPrint.d2 ?_ _ | refine XPrint.d3 ?_ _); exact BK334.out⟩
         have n3_ : Aside0 ((((w35.setCell ⟨gb338, 0, none⟩ (.int .u32 ((rd_T39 l0_2 t336).f0))).setCell ⟨gb338, 1, none⟩ (.int .i64 ((rd_T39 l0_2 t336).f1.f0))).setCell ⟨gb338, 2, none⟩ (.int .i64 ((rd_T39 l0_2 t336).f1.f1))).heap[gb335]? = some (.cells #[.int .u32 0, .int .i64 0, .int .i64 0] 39 (0, 0))) := ⟨by (repeat with_reducible first | refine XPrint.d1 ?_ | refine XPrint.d2 ?_ _ | refine XPrint.d3 ?_ _); refine blk_far ?_ NB335_338.out _; (repeat with_reducible first | refine XPrint.d1 ?_ | refine XPrint.d2 ?_ _ | refine XPrint.d3 ?_ _); refine blk_far ?_ NB335_338.out _; (repeat with_reducible first | refine XPrint.d1 ?_ | refine XPrint.d2 ?_ _ | refine XPrint.d3 ?_ _); refine blk_far ?_ NB335_338.out _; (repeat with_reducible first | refine XPrint.d1 ?_ | refine XPrint.d2 ?_ _ | refine XPrint.d3 ?_ _); exact BK335.out⟩
         have n4_ : Aside0 ((((w35.setCell ⟨gb338, 0, none⟩ (.int .u32 ((rd_T39 l0_2 t336).f0))).setCell ⟨gb338, 1, none⟩ (.int .i64 ((rd_T39 l0_2 t336).f1.f0))).setCell ⟨gb338, 2, none⟩ (.int .i64 ((rd_T39 l0_2 t336).f1.f1))).heap[gb338]? = some (.cells #[.int .u32 ((rd_T39 l0_2 t336).f0), .int .i64 ((rd_T39 l0_2 t336).f1.f0), .int .i64 ((rd_T39 l0_2 t336).f1.f1)] 39 (0, 0))) := ⟨by (repeat with_reducible first | refine XPrint.d1 ?_ | refine XPrint.d2 ?_ _ | refine XPrint.d3 ?_ _); refine blk_put (cs := #[.int .u32 ((rd_T39 l0_2 t336).f0), .int .i64 ((rd_T39 l0_2 t336).f1.f0), .int .i64 0]) ?_ 2 _ rfl; (repeat with_reducible first | refine XPrint.d1 ?_ | refine XPrint.d2 ?_ _ | refine XPrint.d3 ?_ _); refine blk_put (cs := #[.int .u32 ((rd_T39 l0_2 t336).f0), .int .i64 0, .int .i64 0]) ?_ 1 _ rfl; (repeat with_reducible first | refine XPrint.d1 ?_ | refine XPrint.d2 ?_ _ | refine XPrint.d3 ?_ _); refine blk_put (cs := #[.int .u32 0, .int .i64 0, .int .i64 0]) ?_ 0 _ rfl; (repeat with_reducible first | refine XPrint.d1 ?_ | refine XPrint.d2 ?_ _ | refine XPrint.d3 ?_ _); exact BK338.out⟩
         have n5_ : Aside0 (Kept w (((w35.setCell ⟨gb338, 0, none⟩ (.int .u32 ((rd_T39 l0_2 t336).f0))).setCell ⟨gb338, 1, none⟩ (.int .i64 ((rd_T39 l0_2 t336).f1.f0))).setCell ⟨gb338, 2, none⟩ (.int .i64 ((rd_T39 l0_2 t336).f1.f1))) (fun k_ => P0_2_ k_)) := ⟨by repeat (first | (with_reducible first | exact HK.out | apply Kept.alloc | apply Kept.drewN | apply Kept.drew | refine Kept.setCell ?_ (.inr GW333.out) _ | refine Kept.setCell ?_ (.inr GW334.out) _ | refine Kept.setCell ?_ (.inr GW335.out) _ | refine Kept.setCell ?_ (.inr GW338.out) _) | exact HK.out)⟩
         have n6_ : Aside0 (Below w0.heap.size w0 (((w35.setCell ⟨gb338, 0, none⟩ (.int .u32 ((rd_T39 l0_2 t336).f0))).setCell ⟨gb338, 1, none⟩ (.int .i64 ((rd_T39 l0_2 t336).f1.f0))).setCell ⟨gb338, 2, none⟩ (.int .i64 ((rd_T39 l0_2 t336).f1.f1)))) := ⟨by repeat (first | (with_reducible first | exact HB.out | apply below_alloc | apply pw_below_drewN | apply below_drew1 | refine below_set ?_ GE333.out | refine below_set ?_ GE334.out | refine below_set ?_ GE335.out | refine below_set ?_ GE338.out) | exact HB.out)⟩
         (try clear HO0_2)
         (try clear BK333)
         (try clear BK334)
         (try clear BK335)
         (try clear BK338)
         (try clear HK)
         (try clear HB)
         generalize (((w35.setCell ⟨gb338, 0, none⟩ (.int .u32 ((rd_T39 l0_2 t336).f0))).setCell ⟨gb338, 1, none⟩ (.int .i64 ((rd_T39 l0_2 t336).f1.f0))).setCell ⟨gb338, 2, none⟩ (.int .i64 ((rd_T39 l0_2 t336).f1.f1))) = w40 at n0_ n1_ n2_ n3_ n4_ n5_ n6_ ⊢
         have HO0_2 := n0_
         have BK333 := n1_
         have BK334 := n2_
         have BK335 := n3_
         have BK338 := n4_
         have HK := n5_
         have HB := n6_
         clear n0_ n1_ n2_ n3_ n4_ n5_ n6_
         replace HO0_2 := XPrint.A0 (Kd.R_drew HO0_2.out)
         replace BK333 := XPrint.A0 (blk_drew BK333.out)
         replace BK334 := XPrint.A0 (blk_drew BK334.out)
         replace BK335 := XPrint.A0 (blk_drew BK335.out)
         replace BK338 := XPrint.A0 (blk_drew BK338.out)
         replace HK := XPrint.A0 (Kept.drew HK.out)
         replace HB := XPrint.A0 (below_drew1 HB.out)
         have q42 : (t336 : Int) ≤ ((l0_2.length : Int) : Int) := of_decide_eq_true (by first | (with_reducible assumption) | assumption)
         obtain ⟨i042, hi042, _, hsz42, _⟩ := info_parts info39
         have hroom42 : l0_2.length ≤ co26 := (Kd.R_reads' HO0_2.out).2.1
         have hC42 : Kd.C k39 _ (some ad337) l0_2.length l0_2 := (Kd.R_reads' HO0_2.out).2.2
         have hcut42 := cut_to (P := Try.prog) 29 39 .i64 Try.underlying29 hi042 (some ad337) l0_2.length co26 t336 (of_decide_eq_true (by first | (with_reducible assumption) | assumption)) q42 hroom42
         have hr42 := Kd.C_take (m := (t336 : Int).toNat) hC42 (by omega)
         have hy42 : y342.length = (t336 : Int).toNat := (by rw [Ny342.out, List.length_take]; omega)
         rw [← Ny342.out] at hr42
         rw [← hy42] at hcut42
         have HR345 := XPrint.A0 hr42
         have HC345 := XPrint.A0 (show y342.length ≤ co26 from by omega)
         clear hr42 hC42 hroom42 hi042 hsz42
         have KY42 := XPrint.A0 hy42
         clear hy42
         have KL42 := XPrint.A0 (show (t336 : Int).toNat ≤ l0_2.length from by omega)
         replace q42 := eq_true q42
         have q43 : ((ji22) : Int) ≤ ((l0_2.length : Int) : Int) := of_decide_eq_true (by first | (with_reducible assumption) | assumption)
         obtain ⟨i043, hi043, _, hsz43, _⟩ := info_parts info39
         have hroom43 : l0_2.length ≤ co26 := (Kd.R_reads' HO0_2.out).2.1
         have hC43 : Kd.C k39 _ (some ad337) l0_2.length l0_2 := (Kd.R_reads' HO0_2.out).2.2
         have q043 : (0 : Int) ≤ ((ji22) : Int) := of_decide_eq_true (by first | (with_reducible assumption) | assumption)
         have hcut43 := cut_from (P := Try.prog) 29 39 .i64 Try.underlying29 hi043 3 hsz43 (some ad337) l0_2.length co26 (ji22) q043 q43
         have hr43 := Kd.C_drop (m := ((ji22) : Int).toNat) (c := co26) hC43 (by omega) hroom43
         obtain ⟨A43, hA43⟩ : ∃ A1, A1 = (if co26 = ((ji22) : Int).toNat then (some ad337) else ((some ad337) : Option Addr).map (·.add (((ji22) : Int).toNat * 3))) := ⟨_, rfl⟩
         obtain ⟨c43, hc43⟩ : ∃ c1, c1 = co26 - ((ji22) : Int).toNat := ⟨_, rfl⟩
         have hy43 : y349.length = l0_2.length - ((ji22) : Int).toNat := (by rw [Ny349.out, List.length_drop] <;> omega)
         rw [show (l0_2).drop ((ji22) : Int).toNat = y349 from Ny349.out.symm] at hr43
         replace hr43 : Kd.C k39 _ A43 y349.length y349 := (by rw [hA43]; exact hr43)
         rw [← hy43, ← hA43, ← hc43] at hcut43
         have HR352 := XPrint.A0 hr43
         have HC352 := XPrint.A0 (show y349.length ≤ c43 from by rw [hy43, hc43]; exact Nat.sub_le_sub_right hroom43 _)
         clear hr43 hC43 hroom43 hi043 hsz43 hc43
         have KY43 := XPrint.A0 hy43
         have KA43 := XPrint.A0 hA43
         clear hy43 hA43
         have KL43 := XPrint.A0 (show ((ji22) : Int).toNat ≤ l0_2.length from by omega)
         replace q43 := eq_true q43
         refine start_ (n := 14) (S := fun w' => w'.cell? ⟨gb333, 0, none⟩ = some (.int .i64 a0_0) ∧ w'.cell? ⟨gb333, 1, none⟩ = some (.int .i64 a0_1) ∧ w'.cell? ⟨gb333, 2, none⟩ = some (.slice (some ad337) l0_2.length co26)) (ds := [13]) #[false, false, false, false, false, false, false, false, false, false, false, false, false, false] (by kernel_rfl) rfl rfl ⟨(blk_cell BK333.out 0).trans rfl, (blk_cell BK333.out 1).trans rfl, (blk_cell BK333.out 2).trans rfl⟩ (fun hHeld => ?_); refine with_tabW liveryref22_Lose.tab5 liveryref22_Lose.bits5 (fun HT_ HW_ => ?_)
         generalize w40.drew = w41 at HO0_2 BK333 BK334 BK335 BK338 HK HB HR345 HR352 hHeld ⊢
         refine XPrint.pu 1 22 (XPrint.L 14 2) HT_.out (v := ?_) (a' := ?_) ?_ ?_ ?_
         rotate_left
         ·intro w'
          go_simp
          with_reducible rfl
         rotate_left
         ·simp only [XPrint.pw, i64_w, i32_w]
          rfl
         refine XPrint.pu 3 24 (XPrint.L 14 10) HT_.out (v := ?_) (a' := ?_) ?_ ?_ ?_
         rotate_left
         ·intro w'
          go_simp
          with_reducible rfl
         rotate_left
         ·simp only [XPrint.pw, i64_w, i32_w]
          rfl
         refine XPrint.pu 6 27 (XPrint.L 14 74) HT_.out (v := ?_) (a' := ?_) ?_ ?_ ?_
         rotate_left
         ·intro w'
          go_simp
          with_reducible rfl
         rotate_left
         ·simp only [XPrint.pw, i64_w, i32_w]
          rfl
         refine XPrint.pu 8 29 (XPrint.L 14 330) HT_.out (v := ?_) (a' := ?_) ?_ ?_ ?_
         rotate_left
         ·intro w'
          go_simp
          with_reducible rfl
         rotate_left
         ·simp only [XPrint.pw, i64_w, i32_w]
          rfl
         refine XPrint.pu 9 30 (XPrint.L 14 842) HT_.out (v := ?_) (a' := ?_) ?_ ?_ ?_
         rotate_left
         ·intro w'
          go_simp
          with_reducible rfl
         rotate_left
         ·simp only [XPrint.pw, i64_w, i32_w]
          rfl
         refine XPrint.ta 2 23 (XPrint.L 14 846) HT_.out HW_.out (v := ?_) (a' := ?_) ?_ hHeld ?_ ?_
         rotate_left
         ·rintro w' ⟨s0, s1, s2⟩
          go_simp
          with_reducible rfl
         rotate_left
         ·simp only [XPrint.pw, i64_w, i32_w]
          rfl
         refine XPrint.pu 4 25 (XPrint.L 14 862) HT_.out (v := ?_) (a' := ?_) ?_ ?_ ?_
         rotate_left
         ·intro w'
          go_simp
          with_reducible rfl
         rotate_left
         ·simp only [XPrint.pw, i64_w, i32_w]
          rfl
         refine XPrint.ta 7 28 (XPrint.L 14 990) HT_.out HW_.out (v := ?_) (a' := ?_) ?_ hHeld ?_ ?_
         rotate_left
         ·rintro w' ⟨s0, s1, s2⟩
          go_simp
          with_reducible rfl
         rotate_left
         ·simp only [XPrint.pw, i64_w, i32_w]
          rfl
         refine XPrint.pu 10 31 (XPrint.L 14 2014) HT_.out (v := ?_) (a' := ?_) ?_ ?_ ?_
         rotate_left
         ·intro w'
          go_simp
          with_reducible rfl
         rotate_left
         ·simp only [XPrint.pw, i64_w, i32_w]
          rfl
         refine one_ (i := 0) (N := some 21) (XPrint.L 14 2015) rfl rfl (one_of HT_.out (by kernel_rfl)) (by decide) (fun K hK => ?_)
         refine Kd.R_lit_step k39 _ 39 ?hg (N := 21) ?hd (xs := ([] : List (S39))) (inner := []) (ok := fun _ => True) (okp := fun _ => True) ?hr ?hp (fun _ hk => hk) trivial (Below.refl _ _) (Nat.le_refl _) (by simp) ?_; (case hd => rfl); (case hg => rfl); (case hr => first | (go_simp; done) | (go_simp; rfl)); (case hp => exact (Reps.none _ _))
         intro v340 w44 ho45 hb hg_ hnew_
         clear hg_ hnew_
         (first | rw [← Ny339.out] at ho45 | (simp only [Int.reduceToNat] at ho45; rw [← Ny339.out] at ho45))
         have HO341 := XPrint.A0 (Kd.R_lower (Kd.R_newB (Kd.R_newB (Kd.R_new' (Kd.R_newM (M := fun k_ => (P0_2_ k_ ∨ w.heap.size ≤ k_)) ho45 (by first | exact HK.out.1 | exact (show Kept w _ (fun k_ => P0_2_ k_) from by repeat (first | (with_reducible first | exact HK.out | apply Kept.alloc | apply Kept.drewN | apply Kept.drew | refine Kept.setCell ?_ (.inr GW333.out) _ | refine Kept.setCell ?_ (.inr GW334.out) _ | refine Kept.setCell ?_ (.inr GW335.out) _ | refine Kept.setCell ?_ (.inr GW338.out) _) | exact HK.out)).1) (fun k_ h_ => .inr h_)) (Kd.R_lt (by (with_reducible repeat (first | apply Kd.R_alloc | apply Kd.R_drewN | apply Kd.R_drew)); exact HO0_2.out))) (g := gb335) (o := .cells #[.int .u32 0, .int .i64 0, .int .i64 0] 39 (0, 0)) (XPrint.ak BK335.out)) (g := gb338) (o := .cells #[.int .u32 ((rd_T39 l0_2 t336).f0), .int .i64 ((rd_T39 l0_2 t336).f1.f0), .int .i64 ((rd_T39 l0_2 t336).f1.f1)] 39 (0, 0)) (XPrint.ak BK338.out)) (below_size (by exact XPrint.bz HB.out)))
         replace HO0_2 := XPrint.A0 (Kd.R_elder' (by (with_reducible repeat (first | apply Kd.R_alloc | apply Kd.R_drewN | apply Kd.R_drew)); exact HO0_2.out) (Kd.R_base ho45) hb)
         replace BK333 := XPrint.A0 (XPrint.ab BK333.out hb)
         replace BK334 := XPrint.A0 (XPrint.ab BK334.out hb)
         replace BK335 := XPrint.A0 (XPrint.ab BK335.out hb)
         replace BK338 := XPrint.A0 (XPrint.ab BK338.out hb)
         replace HR345 := XPrint.A0 (Kd.C_below (by repeat (first | (with_reducible exact HR345.out) | (with_reducible refine Kd.C_alloc ?_ _) | (with_reducible refine Kd.C_drewN ?_ _) | (with_reducible refine Kd.C_drew ?_) | exact HR345.out)) hb)
         replace HR352 := XPrint.A0 (Kd.C_below (by repeat (first | (with_reducible exact HR352.out) | (with_reducible refine Kd.C_alloc ?_ _) | (with_reducible refine Kd.C_drewN ?_ _) | (with_reducible refine Kd.C_drew ?_) | exact HR352.out)) hb)
         replace HK := XPrint.A0 (Kept.below (S := (fun k_ => P0_2_ k_)) (by repeat (first | (with_reducible first | exact HK.out | apply Kept.alloc | apply Kept.drewN | apply Kept.drew | refine Kept.setCell ?_ (.inr GW333.out) _ | refine Kept.setCell ?_ (.inr GW334.out) _ | refine Kept.setCell ?_ (.inr GW335.out) _ | refine Kept.setCell ?_ (.inr GW338.out) _) | exact HK.out)) hb)
         replace HB := XPrint.A0 (below_step (by exact XPrint.bz HB.out) hb)
         clear hb ho45
         refine hK.out _ _ ⟨(blk_cell BK333.out 0).trans rfl, (blk_cell BK333.out 1).trans rfl, (blk_cell BK333.out 2).trans rfl⟩ (fun hHeld => ?_)
         clear hK K
         refine norm_ (a' := ?_) ?_ ?_
         rotate_left
         ·show Act.put _ (some 21) _ = _
          simp only [XPrint.pw, i64_w, i32_w]
          rfl
         refine one_ (i := 5) (N := some 26) (XPrint.L 14 2047) rfl rfl (one_of HT_.out (by kernel_rfl)) (by decide) (fun K hK => ?_)
         refine Kd.R_append_rows_step k39 (w0 := w0) w0.heap.size (by rfl) (.tmp 21) (.tmp 25) 29 39 (.agg #[(.int .u32 0), (.int .i64 0), (.int .i64 0)]) 24 rfl Try.underlying29 info39 rfl (by decide) (by omega) v340 y339 y342 _ _ _ (fun k_ => (P0_2_ k_ ∨ w.heap.size ≤ k_) ∧ some k_ ≠ (.slice (some ad337) l0_2.length co26 : Value).ownBlock ∧ k_ ≠ gb335 ∧ k_ ≠ gb338) (fun _ => False) rfl rfl ?aO ?aR (fun _ _ h => h) (fun _ h => h.elim) ?aF ?aB ?aS ?aL ?_
         (case aR => repeat (first | exact (by repeat (first | (with_reducible exact HR345.out) | (with_reducible refine Kd.C_alloc ?_ _) | (with_reducible refine Kd.C_drewN ?_ _) | (with_reducible refine Kd.C_drew ?_) | exact HR345.out)) | (with_reducible refine Kd.C_alloc ?_ _) | (with_reducible refine Kd.C_drewN ?_ _) | (with_reducible refine Kd.C_drew ?_)))
         (case aB => exact (by exact XPrint.bz HB.out))
         (case aF => exact (fun k_ hk => ⟨(.inr (Nat.le_trans (by first | exact HK.out.1 | exact (show Kept w _ (fun k_ => P0_2_ k_) from by repeat (first | (with_reducible first | exact HK.out | apply Kept.alloc | apply Kept.drewN | apply Kept.drew | refine Kept.setCell ?_ (.inr GW333.out) _ | refine Kept.setCell ?_ (.inr GW334.out) _ | refine Kept.setCell ?_ (.inr GW335.out) _ | refine Kept.setCell ?_ (.inr GW338.out) _) | exact HK.out)).1) hk)), Kd.fresh' (Kd.R_lt (by (with_reducible repeat (first | apply Kd.R_alloc | apply Kd.R_drewN | apply Kd.R_drew)); exact HO0_2.out)) k_ hk, Kd.freshB (g := gb335) (o := .cells #[.int .u32 0, .int .i64 0, .int .i64 0] 39 (0, 0)) (XPrint.ak BK335.out) k_ hk, Kd.freshB (g := gb338) (o := .cells #[.int .u32 ((rd_T39 l0_2 t336).f0), .int .i64 ((rd_T39 l0_2 t336).f1.f0), .int .i64 ((rd_T39 l0_2 t336).f1.f1)] 39 (0, 0)) (XPrint.ak BK338.out) k_ hk⟩))
         (case aO => exact (by (with_reducible repeat (first | apply Kd.R_alloc | apply Kd.R_drewN | apply Kd.R_drew)); exact Kd.R_mono HO341.out (fun _ hk => ⟨hk.1.1.1.1, ⟨hk.1.1.2, ⟨hk.1.2, hk.2⟩⟩⟩)))
         (case aS => exact (below_size (by exact XPrint.bz HB.out)))
         (case aL => have := LMc21.out; omega)
         intro v347 w46 ho hb hg hat
         rw [← Ny346.out] at ho
         have HO348 := XPrint.A0 (ho)
         replace BK333 := XPrint.A0 (blk_grown (g := gb333) (o := .cells #[.int .i64 a0_0, .int .i64 a0_1, .slice (some ad337) l0_2.length co26] 31 (0, 0)) (XPrint.ak BK333.out) hg (Kd.R_ne HO341.out BK333.out (by decide)))
         replace BK334 := XPrint.A0 (blk_grown (g := gb334) (o := .cells #[.int .i64 0, .int .i64 0, .slice none 0 0] 31 (0, 0)) (XPrint.ak BK334.out) hg (Kd.R_ne HO341.out BK334.out (by decide)))
         replace BK335 := XPrint.A0 (blk_grown (g := gb335) (o := .cells #[.int .u32 0, .int .i64 0, .int .i64 0] 39 (0, 0)) (XPrint.ak BK335.out) hg (Kd.R_away HO341.out (fun _ hk => hk.1.2)))
         replace BK338 := XPrint.A0 (blk_grown (g := gb338) (o := .cells #[.int .u32 ((rd_T39 l0_2 t336).f0), .int .i64 ((rd_T39 l0_2 t336).f1.f0), .int .i64 ((rd_T39 l0_2 t336).f1.f1)] 39 (0, 0)) (XPrint.ak BK338.out) hg (Kd.R_away HO341.out (fun _ hk => hk.2)))
         replace HB := XPrint.A0 (hb)
         replace HK := XPrint.A0 (Kept.of_grown (S := (fun k_ => P0_2_ k_)) hg (by repeat (first | (with_reducible first | exact HK.out | apply Kept.alloc | apply Kept.drewN | apply Kept.drew | refine Kept.setCell ?_ (.inr GW333.out) _ | refine Kept.setCell ?_ (.inr GW334.out) _ | refine Kept.setCell ?_ (.inr GW335.out) _ | refine Kept.setCell ?_ (.inr GW338.out) _) | exact HK.out)) (fun k_ e_ => (HO341.out.1 k_ e_).1.1.1.1))
         replace HR345 := XPrint.A0 ((show Kd.C k39 w46 (some ad337) y342.length y342 from by rw [Ny342.out]; exact Kd.C_take (m := (t336 : Int).toNat) ((Kd.R_reads' (Kd.R_after (ok := (fun k_ => (P0_2_ k_ ∨ w.heap.size ≤ k_) ∧ k_ ≠ gb335 ∧ k_ ≠ gb338)) (by (with_reducible repeat (first | apply Kd.R_alloc | apply Kd.R_drewN | apply Kd.R_drew)); exact HO0_2.out) hg hat)).2.2) KL42.out))
         replace HR352 := XPrint.A0 ((show Kd.C k39 w46 A43 y349.length y349 from by rw [Ny349.out, KA43.out]; exact Kd.C_drop (m := ((ji22) : Int).toNat) (c := co26) ((Kd.R_reads' (Kd.R_after (ok := (fun k_ => (P0_2_ k_ ∨ w.heap.size ≤ k_) ∧ k_ ≠ gb335 ∧ k_ ≠ gb338)) (by (with_reducible repeat (first | apply Kd.R_alloc | apply Kd.R_drewN | apply Kd.R_drew)); exact HO0_2.out) hg hat)).2.2) KL43.out ((Kd.R_reads' (Kd.R_after (ok := (fun k_ => (P0_2_ k_ ∨ w.heap.size ≤ k_) ∧ k_ ≠ gb335 ∧ k_ ≠ gb338)) (by (with_reducible repeat (first | apply Kd.R_alloc | apply Kd.R_drewN | apply Kd.R_drew)); exact HO0_2.out) hg hat)).2.1)))
         replace HO0_2 := XPrint.A0 (Kd.R_after (ok := (fun k_ => (P0_2_ k_ ∨ w.heap.size ≤ k_) ∧ k_ ≠ gb335 ∧ k_ ≠ gb338)) (by (with_reducible repeat (first | apply Kd.R_alloc | apply Kd.R_drewN | apply Kd.R_drew)); exact HO0_2.out) hg hat)
         clear HO341 ho hb hg hat
         refine hK.out _ _ ⟨(blk_cell BK333.out 0).trans rfl, (blk_cell BK333.out 1).trans rfl, (blk_cell BK333.out 2).trans rfl⟩ (fun hHeld => ?_)
         clear hK K
         refine norm_ (a' := ?_) ?_ ?_
         rotate_left
         ·show Act.put _ (some 26) _ = _
          simp only [XPrint.pw, i64_w, i32_w]
          rfl
         refine one_ (i := 11) (N := some 32) (XPrint.L 14 4095) rfl rfl (one_of HT_.out (by kernel_rfl)) (by decide) (fun K hK => ?_)
         refine Kd.R_append_rows_step k39 (w0 := w0) w0.heap.size (by rfl) (.tmp 26) (.tmp 31) 29 39 (.agg #[(.int .u32 0), (.int .i64 0), (.int .i64 0)]) 24 rfl Try.underlying29 info39 rfl (by decide) (by omega) v347 y346 y349 _ _ _ (fun k_ => (P0_2_ k_ ∨ w.heap.size ≤ k_) ∧ some k_ ≠ (.slice (some ad337) l0_2.length co26 : Value).ownBlock ∧ k_ ≠ gb335 ∧ k_ ≠ gb338) (fun _ => False) rfl rfl ?aO ?aR (fun _ _ h => h) (fun _ h => h.elim) ?aF ?aB ?aS ?aL ?_
         (case aR => repeat (first | exact (by repeat (first | (with_reducible exact HR352.out) | (with_reducible refine Kd.C_alloc ?_ _) | (with_reducible refine Kd.C_drewN ?_ _) | (with_reducible refine Kd.C_drew ?_) | exact HR352.out)) | (with_reducible refine Kd.C_alloc ?_ _) | (with_reducible refine Kd.C_drewN ?_ _) | (with_reducible refine Kd.C_drew ?_)))
         (case aB => exact (by exact XPrint.bz HB.out))
         (case aF => exact (fun k_ hk => ⟨(.inr (Nat.le_trans (by first | exact HK.out.1 | exact (show Kept w _ (fun k_ => P0_2_ k_) from by repeat (first | (with_reducible first | exact HK.out | apply Kept.alloc | apply Kept.drewN | apply Kept.drew | refine Kept.setCell ?_ (.inr GW333.out) _ | refine Kept.setCell ?_ (.inr GW334.out) _ | refine Kept.setCell ?_ (.inr GW335.out) _ | refine Kept.setCell ?_ (.inr GW338.out) _) | exact HK.out)).1) hk)), Kd.fresh' (Kd.R_lt (by (with_reducible repeat (first | apply Kd.R_alloc | apply Kd.R_drewN | apply Kd.R_drew)); exact HO0_2.out)) k_ hk, Kd.freshB (g := gb335) (o := .cells #[.int .u32 0, .int .i64 0, .int .i64 0] 39 (0, 0)) (XPrint.ak BK335.out) k_ hk, Kd.freshB (g := gb338) (o := .cells #[.int .u32 ((rd_T39 l0_2 t336).f0), .int .i64 ((rd_T39 l0_2 t336).f1.f0), .int .i64 ((rd_T39 l0_2 t336).f1.f1)] 39 (0, 0)) (XPrint.ak BK338.out) k_ hk⟩))
         (case aO => exact (by (with_reducible repeat (first | apply Kd.R_alloc | apply Kd.R_drewN | apply Kd.R_drew)); exact HO348.out))
         (case aS => exact (below_size (by exact XPrint.bz HB.out)))
         (case aL => have := LMc25.out; omega)
         intro v354 w47 ho hb hg hat
         rw [← Ny353.out] at ho
         have HO355 := XPrint.A0 (ho)
         replace BK333 := XPrint.A0 (blk_grown (g := gb333) (o := .cells #[.int .i64 a0_0, .int .i64 a0_1, .slice (some ad337) l0_2.length co26] 31 (0, 0)) (XPrint.ak BK333.out) hg (Kd.R_ne HO348.out BK333.out (by decide)))
         replace BK334 := XPrint.A0 (blk_grown (g := gb334) (o := .cells #[.int .i64 0, .int .i64 0, .slice none 0 0] 31 (0, 0)) (XPrint.ak BK334.out) hg (Kd.R_ne HO348.out BK334.out (by decide)))
         replace BK335 := XPrint.A0 (blk_grown (g := gb335) (o := .cells #[.int .u32 0, .int .i64 0, .int .i64 0] 39 (0, 0)) (XPrint.ak BK335.out) hg (Kd.R_away HO348.out (fun _ hk => hk.2.2.1)))
         replace BK338 := XPrint.A0 (blk_grown (g := gb338) (o := .cells #[.int .u32 ((rd_T39 l0_2 t336).f0), .int .i64 ((rd_T39 l0_2 t336).f1.f0), .int .i64 ((rd_T39 l0_2 t336).f1.f1)] 39 (0, 0)) (XPrint.ak BK338.out) hg (Kd.R_away HO348.out (fun _ hk => hk.2.2.2)))
         replace HB := XPrint.A0 (hb)
         replace HK := XPrint.A0 (Kept.of_grown (S := (fun k_ => P0_2_ k_)) hg (by repeat (first | (with_reducible first | exact HK.out | apply Kept.alloc | apply Kept.drewN | apply Kept.drew | refine Kept.setCell ?_ (.inr GW333.out) _ | refine Kept.setCell ?_ (.inr GW334.out) _ | refine Kept.setCell ?_ (.inr GW335.out) _ | refine Kept.setCell ?_ (.inr GW338.out) _) | exact HK.out)) (fun k_ e_ => (HO348.out.1 k_ e_).1))
         replace HR345 := XPrint.A0 ((show Kd.C k39 w47 (some ad337) y342.length y342 from by rw [Ny342.out]; exact Kd.C_take (m := (t336 : Int).toNat) ((Kd.R_reads' (Kd.R_after (ok := (fun k_ => (P0_2_ k_ ∨ w.heap.size ≤ k_) ∧ k_ ≠ gb335 ∧ k_ ≠ gb338)) (by (with_reducible repeat (first | apply Kd.R_alloc | apply Kd.R_drewN | apply Kd.R_drew)); exact HO0_2.out) hg hat)).2.2) KL42.out))
         replace HR352 := XPrint.A0 ((show Kd.C k39 w47 A43 y349.length y349 from by rw [Ny349.out, KA43.out]; exact Kd.C_drop (m := ((ji22) : Int).toNat) (c := co26) ((Kd.R_reads' (Kd.R_after (ok := (fun k_ => (P0_2_ k_ ∨ w.heap.size ≤ k_) ∧ k_ ≠ gb335 ∧ k_ ≠ gb338)) (by (with_reducible repeat (first | apply Kd.R_alloc | apply Kd.R_drewN | apply Kd.R_drew)); exact HO0_2.out) hg hat)).2.2) KL43.out ((Kd.R_reads' (Kd.R_after (ok := (fun k_ => (P0_2_ k_ ∨ w.heap.size ≤ k_) ∧ k_ ≠ gb335 ∧ k_ ≠ gb338)) (by (with_reducible repeat (first | apply Kd.R_alloc | apply Kd.R_drewN | apply Kd.R_drew)); exact HO0_2.out) hg hat)).2.1)))
         replace HO0_2 := XPrint.A0 (Kd.R_after (ok := (fun k_ => (P0_2_ k_ ∨ w.heap.size ≤ k_) ∧ k_ ≠ gb335 ∧ k_ ≠ gb338)) (by (with_reducible repeat (first | apply Kd.R_alloc | apply Kd.R_drewN | apply Kd.R_drew)); exact HO0_2.out) hg hat)
         clear HO348 ho hb hg hat
         obtain ⟨Ao48, co48, eo48⟩ := Kd.R_slice HO355.out
         (first | subst eo48 | (injection eo48 with f1_ f2_ f3_; have f4_ := f1_.symm; have f5_ := f3_.symm; clear f1_ f2_ f3_; subst f4_; subst f5_))
         refine hK.out _ _ ⟨(blk_cell BK333.out 0).trans rfl, (blk_cell BK333.out 1).trans rfl, (blk_cell BK333.out 2).trans rfl⟩ (fun hHeld => ?_)
         clear hK K
         refine norm_ (a' := ?_) ?_ ?_
         rotate_left
         ·show Act.put _ (some 32) _ = _
          simp only [XPrint.pw, i64_w, i32_w]
          rfl
         refine XPrint.pu 12 33 (XPrint.L 14 8191) HT_.out (v := ?_) (a' := ?_) ?_ ?_ ?_
         rotate_left
         ·intro w'
          go_simp
          with_reducible rfl
         rotate_left
         ·simp only [XPrint.pw, i64_w, i32_w]
          rfl
         refine last_ (i := 13) (N := none) (XPrint.L 14 16383) rfl rfl (one_of HT_.out (by kernel_rfl)) (by decide) (fun K hK => ?_)
         have hs49 : w47.cell? ⟨gb333, 2, none⟩ = some (.slice (some ad337) l0_2.length co26) := (blk_cell BK333.out 2).trans rfl
         have hfs49 := blk_frozen BK333.out 2
         have hns49_1 := NB334_333.out
         have hns49_2 := NB335_333.out
         have hns49_3 := NB338_333.out
         have hms49_1 := NB333_334.out
         have hms49_2 := NB333_335.out
         have hms49_3 := NB333_338.out
         refine skip_ (w1 := ?_) (by rfl) rfl ?_ ?_
         rotate_left
         ·go_simp
          rfl
         refine hK.out _ _ ?_
         clear hK K
         refine done_ (done_of HT_.out (by kernel_rfl)) ?_
         try go_wp2
         have n0_ : Aside0 (Kd.R k39 39 (w47.setCell ⟨gb333, 2, none⟩ (.slice Ao48 y353.length co48)) w0.heap.size (fun k_ => (P0_2_ k_ ∨ w.heap.size ≤ k_) ∧ some k_ ≠ (.slice Ao48 y353.length co48 : Value).ownBlock ∧ k_ ≠ gb335 ∧ k_ ≠ gb338) (.slice (some ad337) l0_2.length co26) l0_2) := ⟨by (with_reducible repeat (first | apply Kd.R_alloc | apply Kd.R_drewN | apply Kd.R_drew)); exact Kd.R_mono (Kd.R_far (p := ⟨gb333, 2, none⟩) (Kd.R_types HO0_2.out BK333.out (by decide)) (fun _ hk => hk.2) (.slice Ao48 y353.length co48)) (fun _ hk => ⟨hk.1.1.1, ⟨hk.1.2, ⟨hk.1.1.2.1, hk.1.1.2.2⟩⟩⟩)⟩
         have n1_ : Aside0 (Kd.R k39 39 (w47.setCell ⟨gb333, 2, none⟩ (.slice Ao48 y353.length co48)) w0.heap.size (fun k_ => (P0_2_ k_ ∨ w.heap.size ≤ k_) ∧ some k_ ≠ (.slice (some ad337) l0_2.length co26 : Value).ownBlock ∧ k_ ≠ gb335 ∧ k_ ≠ gb338) (.slice Ao48 y353.length co48) y353) := ⟨by (with_reducible repeat (first | apply Kd.R_alloc | apply Kd.R_drewN | apply Kd.R_drew)); exact Kd.R_mono (Kd.R_far (p := ⟨gb333, 2, none⟩) (Kd.R_types HO355.out BK333.out (by decide)) (fun _ hk => hk.2) (.slice Ao48 y353.length co48)) (fun _ hk => ⟨hk.1.1, ⟨hk.1.2.1, ⟨hk.1.2.2.1, hk.1.2.2.2⟩⟩⟩)⟩
         have n2_ : Aside0 ((w47.setCell ⟨gb333, 2, none⟩ (.slice Ao48 y353.length co48)).heap[gb333]? = some (.cells #[.int .i64 a0_0, .int .i64 a0_1, .slice Ao48 y353.length co48] 31 (0, 0))) := ⟨by (repeat with_reducible first | refine XPrint.d1 ?_ | refine XPrint.d2 ?_ _ | refine XPrint.d3 ?_ _); refine blk_put (cs := #[.int .i64 a0_0, .int .i64 a0_1, .slice (some ad337) l0_2.length co26]) ?_ 2 _ rfl; (repeat with_reducible first | refine XPrint.d1 ?_ | refine XPrint.d2 ?_ _ | refine XPrint.d3 ?_ _); exact BK333.out⟩
         have n3_ : Aside0 ((w47.setCell ⟨gb333, 2, none⟩ (.slice Ao48 y353.length co48)).heap[gb334]? = some (.cells #[.int .i64 0, .int .i64 0, .slice none 0 0] 31 (0, 0))) := ⟨by (repeat with_reducible first | refine XPrint.d1 ?_ | refine XPrint.d2 ?_ _ | refine XPrint.d3 ?_ _); refine blk_far ?_ NB334_333.out _; (repeat with_reducible first | refine XPrint.d1 ?_ | refine XPrint.d2 ?_ _ | refine XPrint.d3 ?_ _); exact BK334.out⟩
         have n4_ : Aside0 ((w47.setCell ⟨gb333, 2, none⟩ (.slice Ao48 y353.length co48)).heap[gb335]? = some (.cells #[.int .u32 0, .int .i64 0, .int .i64 0] 39 (0, 0))) := ⟨by (repeat with_reducible first | refine XPrint.d1 ?_ | refine XPrint.d2 ?_ _ | refine XPrint.d3 ?_ _); refine blk_far ?_ NB335_333.out _; (repeat with_reducible first | refine XPrint.d1 ?_ | refine XPrint.d2 ?_ _ | refine XPrint.d3 ?_ _); exact BK335.out⟩
         have n5_ : Aside0 ((w47.setCell ⟨gb333, 2, none⟩ (.slice Ao48 y353.length co48)).heap[gb338]? = some (.cells #[.int .u32 ((rd_T39 l0_2 t336).f0), .int .i64 ((rd_T39 l0_2 t336).f1.f0), .int .i64 ((rd_T39 l0_2 t336).f1.f1)] 39 (0, 0))) := ⟨by (repeat with_reducible first | refine XPrint.d1 ?_ | refine XPrint.d2 ?_ _ | refine XPrint.d3 ?_ _); refine blk_far ?_ NB338_333.out _; (repeat with_reducible first | refine XPrint.d1 ?_ | refine XPrint.d2 ?_ _ | refine XPrint.d3 ?_ _); exact BK338.out⟩
         have n6_ : Aside0 (Kept w (w47.setCell ⟨gb333, 2, none⟩ (.slice Ao48 y353.length co48)) (fun k_ => P0_2_ k_)) := ⟨by repeat (first | (with_reducible first | exact HK.out | apply Kept.alloc | apply Kept.drewN | apply Kept.drew | refine Kept.setCell ?_ (.inr GW333.out) _ | refine Kept.setCell ?_ (.inr GW334.out) _ | refine Kept.setCell ?_ (.inr GW335.out) _ | refine Kept.setCell ?_ (.inr GW338.out) _) | exact HK.out)⟩
         have n7_ : Aside0 (Below w0.heap.size w0 (w47.setCell ⟨gb333, 2, none⟩ (.slice Ao48 y353.length co48))) := ⟨by repeat (first | (with_reducible first | exact HB.out | apply below_alloc | apply pw_below_drewN | apply below_drew1 | refine below_set ?_ GE333.out | refine below_set ?_ GE334.out | refine below_set ?_ GE335.out | refine below_set ?_ GE338.out) | exact HB.out)⟩
         (try clear HO0_2)
         (try clear HO355)
         (try clear BK333)
         (try clear BK334)
         (try clear BK335)
         (try clear BK338)
         (try clear HK)
         (try clear HB)
         generalize (w47.setCell ⟨gb333, 2, none⟩ (.slice Ao48 y353.length co48)) = w50 at n0_ n1_ n2_ n3_ n4_ n5_ n6_ n7_ ⊢
         have HO0_2 := n0_
         have HO355 := n1_
         have BK333 := n2_
         have BK334 := n3_
         have BK335 := n4_
         have BK338 := n5_
         have HK := n6_
         have HB := n7_
         clear n0_ n1_ n2_ n3_ n4_ n5_ n6_ n7_
         replace HO0_2 := XPrint.A0 (Kd.R_drew HO0_2.out)
         replace HO355 := XPrint.A0 (Kd.R_drew HO355.out)
         replace BK333 := XPrint.A0 (blk_drew BK333.out)
         replace BK334 := XPrint.A0 (blk_drew BK334.out)
         replace BK335 := XPrint.A0 (blk_drew BK335.out)
         replace BK338 := XPrint.A0 (blk_drew BK338.out)
         replace HK := XPrint.A0 (Kept.drew HK.out)
         replace HB := XPrint.A0 (below_drew1 HB.out)
         refine start_ (n := 5) (S := fun w' => w'.cell? ⟨gb333, 0, none⟩ = some (.int .i64 a0_0) ∧ w'.cell? ⟨gb333, 1, none⟩ = some (.int .i64 a0_1) ∧ w'.cell? ⟨gb333, 2, none⟩ = some (.slice Ao48 y353.length co48) ∧ w'.cell? ⟨gb338, 0, none⟩ = some (.int .u32 ((rd_T39 l0_2 t336).f0)) ∧ w'.cell? ⟨gb338, 1, none⟩ = some (.int .i64 ((rd_T39 l0_2 t336).f1.f0)) ∧ w'.cell? ⟨gb338, 2, none⟩ = some (.int .i64 ((rd_T39 l0_2 t336).f1.f1))) (ds := []) #[false, false, false, false, false] (by kernel_rfl) rfl rfl ⟨(blk_cell BK333.out 0).trans rfl, (blk_cell BK333.out 1).trans rfl, (blk_cell BK333.out 2).trans rfl, (blk_cell BK338.out 0).trans rfl, (blk_cell BK338.out 1).trans rfl, (blk_cell BK338.out 2).trans rfl⟩ (fun hHeld => ?_)
         generalize w50.drew = w51 at HO0_2 HO355 BK333 BK334 BK335 BK338 HK HB hHeld ⊢
         refine take_ (i := 0) (N := some 34) (v := ?_) (a' := ?_) (XPrint.L 5 1) rfl rfl (by kernel_rfl) (fun _ _ _ h => h) (Or.inl ⟨by rfl, ?_⟩) hHeld ?_ ?_
         rotate_left
         ·rintro w' ⟨s0, s1, s2, s3, s4, s5⟩
          go_simp
          with_reducible rfl
         rotate_left
         ·simp only [XPrint.pw, i64_w, i32_w]
          rfl
         refine take_ (i := 1) (N := some 35) (v := ?_) (a' := ?_) (XPrint.L 5 3) rfl rfl (by kernel_rfl) (fun _ _ _ h => h) (Or.inl ⟨by rfl, ?_⟩) hHeld ?_ ?_
         rotate_left
         ·rintro w' ⟨s0, s1, s2, s3, s4, s5⟩
          go_simp
          with_reducible rfl
         rotate_left
         ·simp only [XPrint.pw, i64_w, i32_w]
          rfl
         refine one_ (i := 2) (N := none) (XPrint.L 5 7) rfl rfl (by kernel_rfl) (by decide) (fun K hK => ?_)
         have hs52 : w51.cell? ⟨gb334, 0, none⟩ = some (.int .i64 0) := (blk_cell BK334.out 0).trans rfl
         have hfs52 := blk_frozen BK334.out 0
         have hns52_0 := NB333_334.out
         have hns52_2 := NB335_334.out
         have hns52_3 := NB338_334.out
         have hms52_0 := NB334_333.out
         have hms52_2 := NB334_335.out
         have hms52_3 := NB334_338.out
         have hs53 : w51.cell? ⟨gb334, 1, none⟩ = some (.int .i64 0) := (blk_cell BK334.out 1).trans rfl
         have hfs53 := blk_frozen BK334.out 1
         have hns53_0 := NB333_334.out
         have hns53_2 := NB335_334.out
         have hns53_3 := NB338_334.out
         have hms53_0 := NB334_333.out
         have hms53_2 := NB334_335.out
         have hms53_3 := NB334_338.out
         have hs54 : w51.cell? ⟨gb334, 2, none⟩ = some (.slice none 0 0) := (blk_cell BK334.out 2).trans rfl
         have hfs54 := blk_frozen BK334.out 2
         have hns54_0 := NB333_334.out
         have hns54_2 := NB335_334.out
         have hns54_3 := NB338_334.out
         have hms54_0 := NB334_333.out
         have hms54_2 := NB334_335.out
         have hms54_3 := NB334_338.out
         refine skip_ (w1 := ?_) (by rfl) rfl ?_ ?_
         rotate_left
         ·go_simp
          rfl
         refine hK.out _ _ ⟨((cell_far (p := ⟨gb334, _, none⟩) NB333_334.out _).trans (((cell_far (p := ⟨gb334, _, none⟩) NB333_334.out _).trans (((cell_far (p := ⟨gb334, _, none⟩) NB333_334.out _).trans (hHeld.1)))))), ((cell_far (p := ⟨gb334, _, none⟩) NB333_334.out _).trans (((cell_far (p := ⟨gb334, _, none⟩) NB333_334.out _).trans (((cell_far (p := ⟨gb334, _, none⟩) NB333_334.out _).trans (hHeld.2.1)))))), ((cell_far (p := ⟨gb334, _, none⟩) NB333_334.out _).trans (((cell_far (p := ⟨gb334, _, none⟩) NB333_334.out _).trans (((cell_far (p := ⟨gb334, _, none⟩) NB333_334.out _).trans (hHeld.2.2.1)))))), ((cell_far (p := ⟨gb334, _, none⟩) NB338_334.out _).trans (((cell_far (p := ⟨gb334, _, none⟩) NB338_334.out _).trans (((cell_far (p := ⟨gb334, _, none⟩) NB338_334.out _).trans (hHeld.2.2.2.1)))))), ((cell_far (p := ⟨gb334, _, none⟩) NB338_334.out _).trans (((cell_far (p := ⟨gb334, _, none⟩) NB338_334.out _).trans (((cell_far (p := ⟨gb334, _, none⟩) NB338_334.out _).trans (hHeld.2.2.2.2.1)))))), ((cell_far (p := ⟨gb334, _, none⟩) NB338_334.out _).trans (((cell_far (p := ⟨gb334, _, none⟩) NB338_334.out _).trans (((cell_far (p := ⟨gb334, _, none⟩) NB338_334.out _).trans (hHeld.2.2.2.2.2))))))⟩ (fun hHeld => ?_)
         clear hK K
         refine one_ (i := 3) (N := none) (XPrint.L 5 15) rfl rfl (by kernel_rfl) (by decide) (fun K hK => ?_)
         have hs55 : w51.cell? ⟨gb335, 0, none⟩ = some (.int .u32 0) := (blk_cell BK335.out 0).trans rfl
         have hfs55 := blk_frozen BK335.out 0
         have hns55_0 := NB333_335.out
         have hns55_1 := NB334_335.out
         have hns55_3 := NB338_335.out
         have hms55_0 := NB335_333.out
         have hms55_1 := NB335_334.out
         have hms55_3 := NB335_338.out
         have hs56 : w51.cell? ⟨gb335, 1, none⟩ = some (.int .i64 0) := (blk_cell BK335.out 1).trans rfl
         have hfs56 := blk_frozen BK335.out 1
         have hns56_0 := NB333_335.out
         have hns56_1 := NB334_335.out
         have hns56_3 := NB338_335.out
         have hms56_0 := NB335_333.out
         have hms56_1 := NB335_334.out
         have hms56_3 := NB335_338.out
         have hs57 : w51.cell? ⟨gb335, 2, none⟩ = some (.int .i64 0) := (blk_cell BK335.out 2).trans rfl
         have hfs57 := blk_frozen BK335.out 2
         have hns57_0 := NB333_335.out
         have hns57_1 := NB334_335.out
         have hns57_3 := NB338_335.out
         have hms57_0 := NB335_333.out
         have hms57_1 := NB335_334.out
         have hms57_3 := NB335_338.out
         refine skip_ (w1 := ?_) (by rfl) rfl ?_ ?_
         rotate_left
         ·go_simp
          rfl
         refine hK.out _ _ ⟨((cell_far (p := ⟨gb335, _, none⟩) NB333_335.out _).trans (((cell_far (p := ⟨gb335, _, none⟩) NB333_335.out _).trans (((cell_far (p := ⟨gb335, _, none⟩) NB333_335.out _).trans (hHeld.1)))))), ((cell_far (p := ⟨gb335, _, none⟩) NB333_335.out _).trans (((cell_far (p := ⟨gb335, _, none⟩) NB333_335.out _).trans (((cell_far (p := ⟨gb335, _, none⟩) NB333_335.out _).trans (hHeld.2.1)))))), ((cell_far (p := ⟨gb335, _, none⟩) NB333_335.out _).trans (((cell_far (p := ⟨gb335, _, none⟩) NB333_335.out _).trans (((cell_far (p := ⟨gb335, _, none⟩) NB333_335.out _).trans (hHeld.2.2.1)))))), ((cell_far (p := ⟨gb335, _, none⟩) NB338_335.out _).trans (((cell_far (p := ⟨gb335, _, none⟩) NB338_335.out _).trans (((cell_far (p := ⟨gb335, _, none⟩) NB338_335.out _).trans (hHeld.2.2.2.1)))))), ((cell_far (p := ⟨gb335, _, none⟩) NB338_335.out _).trans (((cell_far (p := ⟨gb335, _, none⟩) NB338_335.out _).trans (((cell_far (p := ⟨gb335, _, none⟩) NB338_335.out _).trans (hHeld.2.2.2.2.1)))))), ((cell_far (p := ⟨gb335, _, none⟩) NB338_335.out _).trans (((cell_far (p := ⟨gb335, _, none⟩) NB338_335.out _).trans (((cell_far (p := ⟨gb335, _, none⟩) NB338_335.out _).trans (hHeld.2.2.2.2.2))))))⟩ (fun hHeld => ?_)
         clear hK K
         refine pure_ (i := 4) (N := some 6) (v := ?_) (a' := ?_) (XPrint.L 5 31) rfl rfl (by kernel_rfl) (fun _ _ _ h => h) (Or.inl ⟨by rfl, ?_⟩) ?_ ?_
         rotate_left
         ·intro w'
          go_simp
          with_reducible rfl
         rotate_left
         ·simp only [XPrint.pw, i64_w, i32_w]
          rfl
         refine done_ (by kernel_rfl) ?_
         try go_wp2
         refine bodyPost_ret (results_list (rs := [.cell 4 31, .cell 5 39, .tmp 6]) rfl (by simp) (.cell gb334 31 #[.int .i64 a0_0, .int .i64 a0_1, .slice Ao48 y353.length co48] (0, 0) _ rfl (by (repeat with_reducible first | refine XPrint.d1 ?_ | refine XPrint.d2 ?_ _ | refine XPrint.d3 ?_ _); refine blk_far ?_ NB334_335.out _; (repeat with_reducible first | refine XPrint.d1 ?_ | refine XPrint.d2 ?_ _ | refine XPrint.d3 ?_ _); refine blk_far ?_ NB334_335.out _; (repeat with_reducible first | refine XPrint.d1 ?_ | refine XPrint.d2 ?_ _ | refine XPrint.d3 ?_ _); refine blk_far ?_ NB334_335.out _; (repeat with_reducible first | refine XPrint.d1 ?_ | refine XPrint.d2 ?_ _ | refine XPrint.d3 ?_ _); refine blk_put (cs := #[.int .i64 a0_0, .int .i64 a0_1, .slice none 0 0]) ?_ 2 _ rfl; (repeat with_reducible first | refine XPrint.d1 ?_ | refine XPrint.d2 ?_ _ | refine XPrint.d3 ?_ _); refine blk_put (cs := #[.int .i64 a0_0, .int .i64 0, .slice none 0 0]) ?_ 1 _ rfl; (repeat with_reducible first | refine XPrint.d1 ?_ | refine XPrint.d2 ?_ _ | refine XPrint.d3 ?_ _); refine blk_put (cs := #[.int .i64 0, .int .i64 0, .slice none 0 0]) ?_ 0 _ rfl; (repeat with_reducible first | refine XPrint.d1 ?_ | refine XPrint.d2 ?_ _ | refine XPrint.d3 ?_ _); exact BK334.out) Try.underlying31 rfl (by kernel_rfl) (.cell gb335 39 #[.int .u32 ((rd_T39 l0_2 t336).f0), .int .i64 ((rd_T39 l0_2 t336).f1.f0), .int .i64 ((rd_T39 l0_2 t336).f1.f1)] (0, 0) _ rfl (by (repeat with_reducible first | refine XPrint.d1 ?_ | refine XPrint.d2 ?_ _ | refine XPrint.d3 ?_ _); refine blk_put (cs := #[.int .u32 ((rd_T39 l0_2 t336).f0), .int .i64 ((rd_T39 l0_2 t336).f1.f0), .int .i64 0]) ?_ 2 _ rfl; (repeat with_reducible first | refine XPrint.d1 ?_ | refine XPrint.d2 ?_ _ | refine XPrint.d3 ?_ _); refine blk_put (cs := #[.int .u32 ((rd_T39 l0_2 t336).f0), .int .i64 0, .int .i64 0]) ?_ 1 _ rfl; (repeat with_reducible first | refine XPrint.d1 ?_ | refine XPrint.d2 ?_ _ | refine XPrint.d3 ?_ _); refine blk_put (cs := #[.int .u32 0, .int .i64 0, .int .i64 0]) ?_ 0 _ rfl; (repeat with_reducible first | refine XPrint.d1 ?_ | refine XPrint.d2 ?_ _ | refine XPrint.d3 ?_ _); refine blk_far ?_ NB335_334.out _; (repeat with_reducible first | refine XPrint.d1 ?_ | refine XPrint.d2 ?_ _ | refine XPrint.d3 ?_ _); refine blk_far ?_ NB335_334.out _; (repeat with_reducible first | refine XPrint.d1 ?_ | refine XPrint.d2 ?_ _ | refine XPrint.d3 ?_ _); refine blk_far ?_ NB335_334.out _; (repeat with_reducible first | refine XPrint.d1 ?_ | refine XPrint.d2 ?_ _ | refine XPrint.d3 ?_ _); exact BK335.out) Try.underlying39 rfl (by kernel_rfl) (.tmp .nil)))) rfl ?_
         exact ⟨_, by first | rfl | (simp [errW_none, errW_some] <;> rfl) | (simp only [← hji22]; first | rfl | (simp [errW_none, errW_some] <;> rfl)) | (simp [*, errW_none, errW_some] <;> rfl), by (with_reducible repeat (first | apply Kd.R_alloc | apply Kd.R_drewN | apply Kd.R_drew)); exact Kd.R_mono (Kd.R_far (p := ⟨gb335, 2, none⟩) (Kd.R_far (p := ⟨gb335, 1, none⟩) (Kd.R_far (p := ⟨gb335, 0, none⟩) (Kd.R_far (p := ⟨gb334, 2, none⟩) (Kd.R_far (p := ⟨gb334, 1, none⟩) (Kd.R_far (p := ⟨gb334, 0, none⟩) (Kd.R_mono (Kd.R_types HO355.out BK334.out (by decide)) (fun k_ hk => (⟨hk, hk.1.2.2.1⟩ : _ ∧ k_ ≠ gb335))) (fun _ hk => hk.1.2) (.int .i64 a0_0)) (fun _ hk => hk.1.2) (.int .i64 a0_1)) (fun _ hk => hk.1.2) (.slice Ao48 y353.length co48)) (fun _ hk => hk.2) (.int .u32 ((rd_T39 l0_2 t336).f0))) (fun _ hk => hk.2) (.int .i64 ((rd_T39 l0_2 t336).f1.f0))) (fun _ hk => hk.2) (.int .i64 ((rd_T39 l0_2 t336).f1.f1))) (fun _ hk => hk.1.1.1), by repeat (first | (with_reducible first | exact HB.out | apply below_alloc | apply pw_below_drewN | apply below_drew1 | refine below_set ?_ GE333.out | refine below_set ?_ GE334.out | refine below_set ?_ GE335.out | refine below_set ?_ GE338.out) | exact HB.out), by repeat (first | (with_reducible first | exact HK.out | apply Kept.alloc | apply Kept.drewN | apply Kept.drew | refine Kept.setCell ?_ (.inr GW333.out) _ | refine Kept.setCell ?_ (.inr GW334.out) _ | refine Kept.setCell ?_ (.inr GW335.out) _ | refine Kept.setCell ?_ (.inr GW338.out) _) | exact HK.out)⟩
        ·rw [if_neg c25] at H
         exact absurd H (by simp)
       ·rw [if_neg c24] at H
        exact absurd H (by simp)
      ·rw [if_neg c23] at H
       exact absurd H (by simp)
     ·rw [if_neg c21] at H
      exact absurd H (by simp)
    ·rw [if_neg c20] at H
     exact absurd H (by simp)
   ·rw [if_neg c18] at H
    exact absurd H (by simp)
  ·rw [if_neg c17] at H
   exact absurd H (by simp)
def liveryref22_Total.l0 : Nat → Int → Int → Int → Int → List (S39) → Option (Int)
 | 0, _, _, _, _, _ => none
 | k + 1, x3, x4, x357000, x357001, x357002 => if x4 < (x357002.length : Int) then (if 0 ≤ x4 then ((liveryref22_Units.f k x357000 x357001 x357002 ((rd_T39 x357002 x4).f0) ((rd_T39 x357002 x4).f1.f0) ((rd_T39 x357002 x4).f1.f1)).bind fun t358 => (liveryref22_Total.l0 k (wrap64 (x3 + t358)) (wrap64 (x4 + 1)) x357000 x357001 x357002)) else (none)) else (some x3)
def liveryref22_Total.f (k : Nat) (a0_0 : Int) (a0_1 : Int) (l0_2 : List (S39)) : Option (Int) := liveryref22_Total.l0 k 0 0 a0_0 a0_1 l0_2
def liveryref22_Total.T5 : Bool × List (List Nat × List Nat) := (true, [([], []), ([], []), ([], []), ([2], [2]), ([], []), ([3, 4], [3, 4]), ([5], [5]), ([1, 6], [1, 6]), ([0, 7], [0, 7]), ([8, 7, 0, 1, 2, 3, 4, 5, 6, 7, 8], [0, 8])])
def liveryref22_Total.B5 : List Nat := [0, 0, 0, 4, 0, 28, 60, 126, 255, 511]
theorem liveryref22_Total.tab5 : rtab .any (opsOf Try.f69 5) = liveryref22_Total.T5 := by kernel_rfl
theorem liveryref22_Total.bits5 : waitsOk liveryref22_Total.T5.2 liveryref22_Total.B5 = true := by kernel_rfl
set_option maxHeartbeats 8000000 in
set_option maxRecDepth 100000 in
theorem liveryref22_Total.calls (k : Nat) (a0_0 : Int) (a0_1 : Int) (A0_2 : Option Addr) (c0_2 : Nat) (l0_2 : List (S39)) (r : Int) (w : World) (hr0_2 : Kd.C k39 w A0_2 l0_2.length l0_2) (hc0_2 : l0_2.length ≤ c0_2) (h : liveryref22_Total.f k a0_0 a0_1 l0_2 = some r) :
  Calls Try.prog 69 #[.agg #[.int .i64 a0_0, .int .i64 a0_1, .slice A0_2 l0_2.length c0_2]] w fun e w' => e = .returned (.int .i64 r) ∧ Below w.heap.size w w' := by
 have hu31 := Try.underlying31
 have hu39 := Try.underlying39
 have HR0_2 := XPrint.A0 hr0_2
 have HC0_2 := XPrint.A0 hc0_2
 clear hr0_2 hc0_2
 have HB := XPrint.A0 (Below.refl w.heap.size w)
 have H : (liveryref22_Total.l0 k 0 0 a0_0 a0_1 l0_2) = some r := h
 clear h
 have H' := XPrint.A0 H
 clear H
 go_enter Try.func69, Try.ntmps69
 go_wp2_with (first | ((with_reducible refine gate_dst (N := 1) rfl ?_); refine box_event ?hg (N := 1) ?hd (cs := #[.int .i64 a0_0, .int .i64 a0_1, .slice A0_2 l0_2.length c0_2]) (t := 31) ?hr ?_; (case hd => rfl); (case hg => rfl); (case hr => first | (go_simp; done) | (go_simp; rfl)); intro gb356 hg w2 hbox hb; have BK356 := XPrint.A0 (hbox); have GW356 := XPrint.A0 (XPrint.gz HB.out hg); have GE356 := XPrint.A0 (XPrint.gz HB.out hg); replace HB := XPrint.A0 (below_step (by exact XPrint.bz HB.out) hb); clear hb hbox hg))
 go_loopg [3, 4] k (fun kq v3 v4 w' => ∃ (x3_1 : Int) (x4_1 : Int), v3 = .int .i64 x3_1 ∧ v4 = .int .i64 x4_1 ∧ Aside0 (liveryref22_Total.l0 kq x3_1 x4_1 a0_0 a0_1 l0_2 = some r) ∧ Aside0 (kq ≤ k) ∧ Aside0 (w'.heap[gb356]? = some (.cells #[.int .i64 a0_0, .int .i64 a0_1, (.slice A0_2 l0_2.length c0_2)] 31 (0, 0))) ∧ Aside0 (Below w.heap.size w w'))
 case atStart => exact ⟨(0), (0), (by first | rfl | (simp; done) | (simp [*]; done)), (by first | rfl | (simp; done) | (simp [*]; done)), H', ⟨Nat.le_refl _⟩, ⟨by (repeat with_reducible first | refine XPrint.d1 ?_ | refine XPrint.d2 ?_ _ | refine XPrint.d3 ?_ _); exact BK356.out⟩, ⟨by exact XPrint.bz HB.out⟩⟩
 case round =>
  clear H'
  try clear p2
  obtain ⟨x3_1, x4_1, rfl, rfl, HA, HK1, BK356, HB⟩ := hrel
  cases gk with
  | zero => exact absurd HA.out (by simp [liveryref22_Total.l0])
  | succ k1 =>
   have H := HA.out
   clear HA
   simp only [liveryref22_Total.l0] at H
   by_cases c3 : x4_1 < (l0_2.length : Int)
   ·rw [if_pos c3] at H
    have c3b0 : decide (x4_1 < (l0_2.length : Int)) = true := decide_eq_true c3
    clear c3
    by_cases c4 : 0 ≤ x4_1
    ·rw [if_pos c4] at H
     have c4b0 : decide (0 ≤ x4_1) = true := decide_eq_true c4
     clear c4
     replace H := Option.bind_eq_some_iff.mp H
     obtain ⟨t358, A50, H⟩ := H
     try set_option simprocs false in dsimp only at H
     have A5 := XPrint.A0 A50
     clear A50
     have H' := XPrint.A0 H
     clear H
     have hcz6_0 : wr.cell? ⟨gb356, 0, none⟩ = some (.int .i64 a0_0) := (blk_cell BK356.out 0).trans rfl
     have hcz6_1 : wr.cell? ⟨gb356, 1, none⟩ = some (.int .i64 a0_1) := (blk_cell BK356.out 1).trans rfl
     have hcz6_2 : wr.cell? ⟨gb356, 2, none⟩ = some (.slice A0_2 l0_2.length c0_2) := (blk_cell BK356.out 2).trans rfl
     have hfz6_0 := blk_frozen BK356.out 0
     have hfz6_1 := blk_frozen BK356.out 1
     have hfz6_2 := blk_frozen BK356.out 2
     try go_wp2
     replace BK356 := XPrint.A0 (blk_drew BK356.out)
     replace HB := XPrint.A0 (below_drew1 HB.out)
     have p357 : 0 ≤ (x4_1 : Int) := of_decide_eq_true (by first | (with_reducible assumption) | assumption)
     have q357 : x4_1 < (l0_2.length : Int) := of_decide_eq_true (by first | (with_reducible assumption) | assumption)
     obtain ⟨ad357, e357, hx357_0, hx357_1, hx357_2⟩ := at_T39 HR0_2.out x4_1 p357 q357
     have hw357_2 := hx357_2
     have hw357_1 := hx357_1
     have hw357_0 := hx357_0
     cases e357
     replace hx357_0 := (HB.out.cell (World.block_lt_of_cell? w _ hx357_0)).trans hx357_0
     replace hx357_1 := (HB.out.cell (World.block_lt_of_cell? w _ hx357_1)).trans hx357_1
     replace hx357_2 := (HB.out.cell (World.block_lt_of_cell? w _ hx357_2)).trans hx357_2
     replace p357 := eq_true p357
     replace q357 := eq_true q357
     refine start_ (n := 10) (S := fun w' => w'.cell? ⟨gb356, 0, none⟩ = some (.int .i64 a0_0) ∧ w'.cell? ⟨gb356, 1, none⟩ = some (.int .i64 a0_1) ∧ w'.cell? ⟨gb356, 2, none⟩ = some (.slice (some ad357) l0_2.length c0_2) ∧ w'.cell? (ad357.add ((x4_1).toNat * 3)) = some (.int .u32 ((rd_T39 l0_2 x4_1).f0)) ∧ w'.cell? ⟨(ad357.add ((x4_1).toNat * 3)).block, (ad357.add ((x4_1).toNat * 3)).off + 1, none⟩ = some (.int .i64 ((rd_T39 l0_2 x4_1).f1.f0)) ∧ w'.cell? ⟨(ad357.add ((x4_1).toNat * 3)).block, (ad357.add ((x4_1).toNat * 3)).off + 2, none⟩ = some (.int .i64 ((rd_T39 l0_2 x4_1).f1.f1))) (ds := []) #[false, false, false, false, false, false, false, false, false, false] (by kernel_rfl) rfl rfl ⟨(blk_cell BK356.out 0).trans rfl, (blk_cell BK356.out 1).trans rfl, (blk_cell BK356.out 2).trans rfl, ((HB.out.cell (World.block_lt_of_cell? w _ hw357_0)).trans hw357_0), ((HB.out.cell (World.block_lt_of_cell? w _ hw357_1)).trans hw357_1), ((HB.out.cell (World.block_lt_of_cell? w _ hw357_2)).trans hw357_2)⟩ (fun hHeld => ?_); refine with_tabW liveryref22_Total.tab5 liveryref22_Total.bits5 (fun HT_ HW_ => ?_)
     generalize wr.drew = w7 at BK356 HB hx357_0 hx357_1 hx357_2 hHeld ⊢
     refine XPrint.pu 0 12 (XPrint.L 10 1) HT_.out (v := ?_) (a' := ?_) ?_ ?_ ?_
     rotate_left
     ·intro w'
      go_simp
      with_reducible rfl
     rotate_left
     ·simp only [XPrint.pw, i64_w, i32_w]
      rfl
     refine XPrint.pu 2 14 (XPrint.L 10 5) HT_.out (v := ?_) (a' := ?_) ?_ ?_ ?_
     rotate_left
     ·intro w'
      go_simp
      with_reducible rfl
     rotate_left
     ·simp only [XPrint.pw, i64_w, i32_w]
      rfl
     refine XPrint.pu 4 16 (XPrint.L 10 21) HT_.out (v := ?_) (a' := ?_) ?_ ?_ ?_
     rotate_left
     ·intro w'
      go_simp
      with_reducible rfl
     rotate_left
     ·simp only [XPrint.pw, i64_w, i32_w]
      rfl
     refine XPrint.ta 1 13 (XPrint.L 10 23) HT_.out HW_.out (v := ?_) (a' := ?_) ?_ hHeld ?_ ?_
     rotate_left
     ·rintro w' ⟨s0, s1, s2, s3, s4, s5⟩
      go_simp
      with_reducible rfl
     rotate_left
     ·simp only [XPrint.pw, i64_w, i32_w]
      rfl
     refine XPrint.ta 3 15 (XPrint.L 10 31) HT_.out HW_.out (v := ?_) (a' := ?_) ?_ hHeld ?_ ?_
     rotate_left
     ·rintro w' ⟨s0, s1, s2, s3, s4, s5⟩
      go_simp
      with_reducible rfl
     rotate_left
     ·simp only [XPrint.pw, i64_w, i32_w]
      rfl
     refine XPrint.pu 5 17 (XPrint.L 10 63) HT_.out (v := ?_) (a' := ?_) ?_ ?_ ?_
     rotate_left
     ·intro w'
      go_simp
      with_reducible rfl
     rotate_left
     ·simp only [XPrint.pw, i64_w, i32_w]
      rfl
     refine XPrint.ta 6 18 (XPrint.L 10 127) HT_.out HW_.out (v := ?_) (a' := ?_) ?_ hHeld ?_ ?_
     rotate_left
     ·rintro w' ⟨s0, s1, s2, s3, s4, s5⟩
      go_simp
      with_reducible rfl
     rotate_left
     ·simp only [XPrint.pw, i64_w, i32_w]
      rfl
     refine one_ (i := 7) (N := some 19) (XPrint.L 10 255) rfl rfl (one_of HT_.out (by kernel_rfl)) (by decide) (fun K hK => ?_)
     refine XPrint.gs Try.func71 #[.agg #[.int .i64 a0_0, .int .i64 a0_1, .slice (some ad357) l0_2.length c0_2], .agg #[.int .u32 ((rd_T39 l0_2 x4_1).f0), .int .i64 ((rd_T39 l0_2 x4_1).f1.f0), .int .i64 ((rd_T39 l0_2 x4_1).f1.f1)]] ?_
     with_reducible refine (liveryref22_Units.calls k1 a0_0 a0_1 _ _ l0_2 ((rd_T39 l0_2 x4_1).f0) ((rd_T39 l0_2 x4_1).f1.f0) ((rd_T39 l0_2 x4_1).f1.f1) t358 _ ?side1 ?side2 A5.out).mono ?_
     (case side1 => repeat (first | exact (Kd.C_below HR0_2.out HB.out) | (with_reducible refine Kd.C_alloc ?_ _) | (with_reducible refine Kd.C_drewN ?_ _) | (with_reducible refine Kd.C_drew ?_)))
     (case side2 => exact HC0_2.out)
     rintro e w8 ⟨rfl, hb⟩
     refine ⟨_, rfl, ?_⟩
     replace BK356 := XPrint.A0 (XPrint.ab BK356.out hb)
     replace HB := XPrint.A0 (below_step (by exact XPrint.bz HB.out) hb)
     (try clear hb)
     (try clear hb2)
     (try clear hk)
     (try clear hi)
     refine hK.out _ _ ⟨(blk_cell BK356.out 0).trans rfl, (blk_cell BK356.out 1).trans rfl, (blk_cell BK356.out 2).trans rfl, ((HB.out.cell (World.block_lt_of_cell? w _ hw357_0)).trans hw357_0), ((HB.out.cell (World.block_lt_of_cell? w _ hw357_1)).trans hw357_1), ((HB.out.cell (World.block_lt_of_cell? w _ hw357_2)).trans hw357_2)⟩ (fun hHeld => ?_)
     clear hK K
     refine norm_ (a' := ?_) ?_ ?_
     rotate_left
     ·show Act.put _ (some 19) _ = _
      simp only [XPrint.pw, i64_w, i32_w]
      rfl
     refine XPrint.pu 8 20 (XPrint.L 10 511) HT_.out (v := ?_) (a' := ?_) ?_ ?_ ?_
     rotate_left
     ·intro w'
      go_simp
      with_reducible rfl
     rotate_left
     ·simp only [XPrint.pw, i64_w, i32_w]
      rfl
     refine XPrint.pu 9 3 (XPrint.L 10 1023) HT_.out (v := ?_) (a' := ?_) ?_ ?_ ?_
     rotate_left
     ·intro w'
      go_simp
      with_reducible rfl
     rotate_left
     ·simp only [XPrint.pw, i64_w, i32_w]
      rfl
     refine done_ (done_of HT_.out (by kernel_rfl)) ?_
     try go_wp2
     go_roundg k1
     case measure => have := HK1.out; omega
     case rel => exact ⟨(wrap64 (x3_1 + t358)), (wrap64 (x4_1 + 1)), (by first | rfl | (simp; done) | (simp [*]; done)), (by first | rfl | (simp; done) | (simp [*]; done)), H', ⟨by have := HK1.out; omega⟩, ⟨by (repeat with_reducible first | refine XPrint.d1 ?_ | refine XPrint.d2 ?_ _ | refine XPrint.d3 ?_ _); exact BK356.out⟩, ⟨by exact XPrint.bz HB.out⟩⟩
    ·rw [if_neg c4] at H
     exact absurd H (by simp)
   ·rw [if_neg c3] at H
    have c3b0 : decide (x4_1 < (l0_2.length : Int)) = false := decide_eq_false c3
    clear c3
    obtain rfl := Option.some.inj H
    have hcz9_0 : wr.cell? ⟨gb356, 0, none⟩ = some (.int .i64 a0_0) := (blk_cell BK356.out 0).trans rfl
    have hcz9_1 : wr.cell? ⟨gb356, 1, none⟩ = some (.int .i64 a0_1) := (blk_cell BK356.out 1).trans rfl
    have hcz9_2 : wr.cell? ⟨gb356, 2, none⟩ = some (.slice A0_2 l0_2.length c0_2) := (blk_cell BK356.out 2).trans rfl
    have hfz9_0 := blk_frozen BK356.out 0
    have hfz9_1 := blk_frozen BK356.out 1
    have hfz9_2 := blk_frozen BK356.out 2
    go_wp2
    go_ret
    exact ⟨by first | rfl | (simp [errW_none, errW_some] <;> rfl) | (simp [*, errW_none, errW_some] <;> rfl), by exact XPrint.bz HB.out⟩
end Go.Proofs.Ythibppfdonepoaa.PNodePlays
