
import Derived.Test.YthibppfdonepoaaGreatCLedgerBackPNodePlaysx0
import Derived.Test.YthibppfdonepoaaGreatCLedgerBackPNodePlaysx12
namespace Go.Proofs.YthibppfdonepoaaGreat.PNodePlays
open Go.RowKit Go.Proofs.YthibppfdonepoaaGreatW.PrintWords Go.Proofs.YthibppfdonepoaaGreatW.PrintLast Go.Proofs.YthibppfdonepoaaGreatW.PrintMore
attribute [local go_sem] max2_int min2_int max_two min_two max_three min_three max_four min_four
set_option linter.unusedVariables false
set_option linter.unusedSimpArgs false
def liveryref22_Lose.f (k : Nat) (a0_0 : Int) (a0_1 : Int) (l0_2 : List (S59)) (a1 : Int) : Option (Int × Int × (List (S59)) × Int × Int × Int × Int) := (liveryref22_At.f k a0_0 a0_1 l0_2 a1).bind fun t385 => (if t385 < 0 then (some (a0_0, a0_1, l0_2, 0, 0, 0, 7)) else (if 0 ≤ t385 then (if t385 < (l0_2.length : Int) then ((some (([] : List (S59)) : List (S59))).bind fun y388 => (if t385 ≤ (l0_2.length : Int) then ((some (l0_2.take (t385 : Int).toNat : List (S59))).bind fun y391 => (if y388.length + y391.length < 5864062014805 then ((some (y388 ++ y391 : List (S59))).bind fun y395 => (if 0 ≤ (wrap64 (t385 + 1)) then (if (wrap64 (t385 + 1)) ≤ (l0_2.length : Int) then ((some (l0_2.drop ((wrap64 (t385 + 1)) : Int).toNat : List (S59))).bind fun y398 => (if y395.length + y398.length < 5864062014805 then (some (a0_0, a0_1, (y395 ++ y398), (rd_T59 l0_2 t385).f0, (rd_T59 l0_2 t385).f1.f0, (rd_T59 l0_2 t385).f1.f1, 0)) else (none))) else (none)) else (none))) else (none))) else (none))) else (none)) else (none)))
def liveryref22_Lose.T5 : Bool × List (List Nat × List Nat) := (true, [([], []), ([], []), ([1], [1]), ([], []), ([2, 3], [2, 3]), ([0, 4], [0, 4]), ([], []), ([6], [6]), ([], []), ([8], [8]), ([7, 9], [7, 9]), ([5, 10, 5], [5, 10]), ([0, 1, 2, 3, 4, 5, 6, 7, 8, 9, 10, 11], []), ([12, 11, 11, 0, 1, 2, 3, 4, 5, 6, 7, 8, 9, 10, 11], [11, 12])])
def liveryref22_Lose.B5 : List Nat := [0, 0, 2, 0, 14, 31, 0, 64, 0, 256, 960, 2047, 4095, 8191]
theorem liveryref22_Lose.tab5 : rtab .any (opsOf Tryz.f113 5) = liveryref22_Lose.T5 := by kernel_rfl
theorem liveryref22_Lose.bits5 : waitsOk liveryref22_Lose.T5.2 liveryref22_Lose.B5 = true := by kernel_rfl
set_option maxHeartbeats 8000000 in
set_option maxRecDepth 100000 in
theorem liveryref22_Lose.calls (k : Nat) (a0_0 : Int) (a0_1 : Int) (P0_2_ : Nat → Prop) (u9000_ : Value) (l0_2 : List (S59)) (a1 : Int) (r1 : Int) (r2 : Int) (r3 : List (S59)) (r4 : Int) (r5 : Int) (r6 : Int) (r7 : Int) (w0 w : World) (hB : Below w0.heap.size w0 w) (ho0_2 : Kd.R k59 59 w w0.heap.size P0_2_ u9000_ l0_2) (h : liveryref22_Lose.f k a0_0 a0_1 l0_2 a1 = some (r1, r2, r3, r4, r5, r6, r7)) :
  Calls Tryz.prog 113 #[.agg #[.int .i64 a0_0, .int .i64 a0_1, u9000_], .int .u32 a1] w fun e w' => ∃ v2_ : Value, e = .returned (.tuple #[.agg #[.int .i64 r1, .int .i64 r2, v2_], .agg #[.int .u32 r4, .int .i64 r5, .int .i64 r6], .int .i64 r7]) ∧ Kd.R k59 59 w' w0.heap.size (fun k_ => (P0_2_ k_ ∨ w.heap.size ≤ k_)) v2_ r3 ∧ Below w0.heap.size w0 w' ∧ Kept w w' (fun k_ => P0_2_ k_) := by
 have hu33 := Tryz.underlying33
 have hu59 := Tryz.underlying59
 have HO0_2 := XPrint.A0 (show Kd.R k59 59 w w0.heap.size (fun k_ => (P0_2_ k_ ∨ w.heap.size ≤ k_)) u9000_ l0_2 from Kd.R_mono ho0_2 (fun k_ hk => (.inl hk)))
 have HK := XPrint.A0 (Kept.refl w (fun k_ => P0_2_ k_))
 have HW0 := XPrint.A0 hB.size
 have HB := XPrint.A0 hB
 clear hB
 have H : ((liveryref22_At.f k a0_0 a0_1 l0_2 a1).bind fun t385 => (if t385 < 0 then (some (a0_0, a0_1, l0_2, 0, 0, 0, 7)) else (if 0 ≤ t385 then (if t385 < (l0_2.length : Int) then ((some (([] : List (S59)) : List (S59))).bind fun y388 => (if t385 ≤ (l0_2.length : Int) then ((some (l0_2.take (t385 : Int).toNat : List (S59))).bind fun y391 => (if y388.length + y391.length < 5864062014805 then ((some (y388 ++ y391 : List (S59))).bind fun y395 => (if 0 ≤ (wrap64 (t385 + 1)) then (if (wrap64 (t385 + 1)) ≤ (l0_2.length : Int) then ((some (l0_2.drop ((wrap64 (t385 + 1)) : Int).toNat : List (S59))).bind fun y398 => (if y395.length + y398.length < 5864062014805 then (some (a0_0, a0_1, (y395 ++ y398), (rd_T59 l0_2 t385).f0, (rd_T59 l0_2 t385).f1.f0, (rd_T59 l0_2 t385).f1.f1, 0)) else (none))) else (none)) else (none))) else (none))) else (none))) else (none)) else (none)))) = some (r1, r2, r3, r4, r5, r6, r7) := h
 clear h
 replace H := Option.bind_eq_some_iff.mp H
 obtain ⟨t385, A30, H⟩ := H
 replace H : (if t385 < 0 then (some (a0_0, a0_1, l0_2, 0, 0, 0, 7)) else (if 0 ≤ t385 then (if t385 < (l0_2.length : Int) then ((some (([] : List (S59)) : List (S59))).bind fun y388 => (if t385 ≤ (l0_2.length : Int) then ((some (l0_2.take (t385 : Int).toNat : List (S59))).bind fun y391 => (if y388.length + y391.length < 5864062014805 then ((some (y388 ++ y391 : List (S59))).bind fun y395 => (if 0 ≤ (wrap64 (t385 + 1)) then (if (wrap64 (t385 + 1)) ≤ (l0_2.length : Int) then ((some (l0_2.drop ((wrap64 (t385 + 1)) : Int).toNat : List (S59))).bind fun y398 => (if y395.length + y398.length < 5864062014805 then (some (a0_0, a0_1, (y395 ++ y398), (rd_T59 l0_2 t385).f0, (rd_T59 l0_2 t385).f1.f0, (rd_T59 l0_2 t385).f1.f1, 0)) else (none))) else (none)) else (none))) else (none))) else (none))) else (none)) else (none))) = some (r1, r2, r3, r4, r5, r6, r7) := H
 have A3 := XPrint.A0 A30
 clear A30
 by_cases c4 : t385 < 0
 ·rw [if_pos c4] at H
  have c4b0 : decide (t385 < 0) = true := decide_eq_true c4
  clear c4
  simp only [Option.some.injEq, Prod.mk.injEq] at H
  obtain ⟨rfl, rfl, rfl, rfl, rfl, rfl, rfl⟩ := H
  obtain ⟨Ao5, co5, eo5⟩ := Kd.R_slice HO0_2.out
  subst eo5
  go_enter Tryz.func113, Tryz.ntmps113
  go_wp2_with (first | ((with_reducible refine gate_dst (N := 2) rfl ?_); refine box_event ?hg (N := 2) ?hd (cs := #[.int .i64 a0_0, .int .i64 a0_1, .slice Ao5 l0_2.length co5]) (t := 33) ?hr ?_; (case hd => rfl); (case hg => rfl); (case hr => first | (go_simp; done) | (go_simp; rfl)); intro gb382 hg w6 hbox hb; have BK382 := XPrint.A0 (hbox); have GW382 := XPrint.A0 ((by rw [hg]; exact (by first | exact HK.out.1 | exact (show Kept w _ (fun k_ => P0_2_ k_) from by repeat (first | (with_reducible first | exact HK.out | apply Kept.alloc | apply Kept.drewN | apply Kept.drew) | exact HK.out)).1) : w.heap.size ≤ gb382)); have GE382 := XPrint.A0 ((by rw [hg]; exact (below_size (by exact XPrint.bz HB.out)) : w0.heap.size ≤ gb382)); replace HO0_2 := XPrint.A0 (Kd.R_below (by (with_reducible repeat (first | apply Kd.R_alloc | apply Kd.R_drewN | apply Kd.R_drew)); exact HO0_2.out) hb); replace HK := XPrint.A0 (Kept.below (S := (fun k_ => P0_2_ k_)) (by repeat (first | (with_reducible first | exact HK.out | apply Kept.alloc | apply Kept.drewN | apply Kept.drew) | exact HK.out)) hb); replace HB := XPrint.A0 (below_step (by exact XPrint.bz HB.out) hb); clear hb hbox hg) | ((with_reducible refine gate_dst (N := 4) rfl ?_); refine box_event ?hg (N := 4) ?hd (cs := #[.int .i64 0, .int .i64 0, .slice none 0 0]) (t := 33) ?hr ?_; (case hd => rfl); (case hg => rfl); (case hr => first | (go_simp; done) | (go_simp; rfl)); intro gb383 hg w7 hbox hb; have BK383 := XPrint.A0 (hbox); have GW383 := XPrint.A0 ((by rw [hg]; exact (by first | exact HK.out.1 | exact (show Kept w _ (fun k_ => P0_2_ k_) from by repeat (first | (with_reducible first | exact HK.out | apply Kept.alloc | apply Kept.drewN | apply Kept.drew | refine Kept.setCell ?_ (.inr GW382.out) _) | exact HK.out)).1) : w.heap.size ≤ gb383)); have GE383 := XPrint.A0 ((by rw [hg]; exact (below_size (by exact XPrint.bz HB.out)) : w0.heap.size ≤ gb383)); have NB382_383 := XPrint.A1 (by rw [hg]; exact Nat.ne_of_lt (XPrint.al BK382.out) : gb382 ≠ gb383); have NB383_382 := XPrint.A1 (by rw [hg]; exact Nat.ne_of_gt (XPrint.al BK382.out) : gb383 ≠ gb382); replace HO0_2 := XPrint.A0 (Kd.R_below (by (with_reducible repeat (first | apply Kd.R_alloc | apply Kd.R_drewN | apply Kd.R_drew)); exact HO0_2.out) hb); replace BK382 := XPrint.A0 (XPrint.ab BK382.out hb); replace HK := XPrint.A0 (Kept.below (S := (fun k_ => P0_2_ k_)) (by repeat (first | (with_reducible first | exact HK.out | apply Kept.alloc | apply Kept.drewN | apply Kept.drew | refine Kept.setCell ?_ (.inr GW382.out) _) | exact HK.out)) hb); replace HB := XPrint.A0 (below_step (by exact XPrint.bz HB.out) hb); clear hb hbox hg) | ((with_reducible refine gate_dst (N := 5) rfl ?_); refine box_event ?hg (N := 5) ?hd (cs := #[.int .u32 0, .int .i64 0, .int .i64 0]) (t := 59) ?hr ?_; (case hd => rfl); (case hg => rfl); (case hr => first | (go_simp; done) | (go_simp; rfl)); intro gb384 hg w8 hbox hb; have BK384 := XPrint.A0 (hbox); have GW384 := XPrint.A0 ((by rw [hg]; exact (by first | exact HK.out.1 | exact (show Kept w _ (fun k_ => P0_2_ k_) from by repeat (first | (with_reducible first | exact HK.out | apply Kept.alloc | apply Kept.drewN | apply Kept.drew | refine Kept.setCell ?_ (.inr GW382.out) _ | refine Kept.setCell ?_ (.inr GW383.out) _) | exact HK.out)).1) : w.heap.size ≤ gb384)); have GE384 := XPrint.A0 ((by rw [hg]; exact (below_size (by exact XPrint.bz HB.out)) : w0.heap.size ≤ gb384)); have NB382_384 := XPrint.A1 (by rw [hg]; exact Nat.ne_of_lt (XPrint.al BK382.out) : gb382 ≠ gb384); have NB384_382 := XPrint.A1 (by rw [hg]; exact Nat.ne_of_gt (XPrint.al BK382.out) : gb384 ≠ gb382); have NB383_384 := XPrint.A1 (by rw [hg]; exact Nat.ne_of_lt (XPrint.al BK383.out) : gb383 ≠ gb384); have NB384_383 := XPrint.A1 (by rw [hg]; exact Nat.ne_of_gt (XPrint.al BK383.out) : gb384 ≠ gb383); replace HO0_2 := XPrint.A0 (Kd.R_below (Kd.R_elderB (by (with_reducible repeat (first | apply Kd.R_alloc | apply Kd.R_drewN | apply Kd.R_drew)); exact HO0_2.out) gb384 (Nat.le_of_eq hg.symm)) hb); replace BK382 := XPrint.A0 (XPrint.ab BK382.out hb); replace BK383 := XPrint.A0 (XPrint.ab BK383.out hb); replace HK := XPrint.A0 (Kept.below (S := (fun k_ => P0_2_ k_)) (by repeat (first | (with_reducible first | exact HK.out | apply Kept.alloc | apply Kept.drewN | apply Kept.drew | refine Kept.setCell ?_ (.inr GW382.out) _ | refine Kept.setCell ?_ (.inr GW383.out) _) | exact HK.out)) hb); replace HB := XPrint.A0 (below_step (by exact XPrint.bz HB.out) hb); clear hb hbox hg; have hnb9 := NB382_383.out; have hnc9 := NB383_382.out; have hnb10 := NB382_384.out; have hnc10 := NB384_382.out; have hcz11_0 : w8.cell? ⟨gb382, 0, none⟩ = some (.int .i64 a0_0) := (blk_cell BK382.out 0).trans rfl; have hcz11_1 : w8.cell? ⟨gb382, 1, none⟩ = some (.int .i64 a0_1) := (blk_cell BK382.out 1).trans rfl; have hcz11_2 : w8.cell? ⟨gb382, 2, none⟩ = some (.slice Ao5 l0_2.length co5) := (blk_cell BK382.out 2).trans rfl; have hfz11_0 := blk_frozen BK382.out 0; have hfz11_1 := blk_frozen BK382.out 1; have hfz11_2 := blk_frozen BK382.out 2) | ((with_reducible refine gate_callee (f := 89) rfl ?_); refine XPrint.gl (some 11) Tryz.func89 #[.agg #[.int .i64 a0_0, .int .i64 a0_1, .slice Ao5 l0_2.length co5], .int .u32 a1] ?_; (with_reducible refine (liveryref22_At.calls k a0_0 a0_1 _ _ l0_2 a1 t385 _ ?side1 ?side2 A3.out).mono ?_); (case side1 => repeat (first | exact (Kd.R_reads' HO0_2.out).2.2 | (with_reducible refine Kd.C_alloc ?_ _) | (with_reducible refine Kd.C_drewN ?_ _) | (with_reducible refine Kd.C_drew ?_))); (case side2 => exact (Kd.R_reads' HO0_2.out).2.1); rintro e w12 ⟨rfl, hb⟩; refine ⟨_, rfl, ?_⟩; replace HO0_2 := XPrint.A0 (Kd.R_below (by (with_reducible repeat (first | apply Kd.R_alloc | apply Kd.R_drewN | apply Kd.R_drew)); exact HO0_2.out) hb); replace BK382 := XPrint.A0 (XPrint.ab BK382.out hb); replace BK383 := XPrint.A0 (XPrint.ab BK383.out hb); replace BK384 := XPrint.A0 (XPrint.ab BK384.out hb); replace HK := XPrint.A0 (Kept.below (S := (fun k_ => P0_2_ k_)) (by repeat (first | (with_reducible first | exact HK.out | apply Kept.alloc | apply Kept.drewN | apply Kept.drew | refine Kept.setCell ?_ (.inr GW382.out) _ | refine Kept.setCell ?_ (.inr GW383.out) _ | refine Kept.setCell ?_ (.inr GW384.out) _) | exact HK.out)) hb); replace HB := XPrint.A0 (below_step (by exact XPrint.bz HB.out) hb); (try clear hb); (try clear hb2); (try clear hk); (try clear hi); have hcz13_0 : w12.cell? ⟨gb382, 0, none⟩ = some (.int .i64 a0_0) := (blk_cell BK382.out 0).trans rfl; have hcz13_1 : w12.cell? ⟨gb382, 1, none⟩ = some (.int .i64 a0_1) := (blk_cell BK382.out 1).trans rfl; have hcz13_2 : w12.cell? ⟨gb382, 2, none⟩ = some (.slice Ao5 l0_2.length co5) := (blk_cell BK382.out 2).trans rfl; have hfz13_0 := blk_frozen BK382.out 0; have hfz13_1 := blk_frozen BK382.out 1; have hfz13_2 := blk_frozen BK382.out 2; have hnb14 := NB383_384.out; have hnc14 := NB384_383.out; have hcz15_0 : w12.cell? ⟨gb383, 0, none⟩ = some (.int .i64 0) := (blk_cell BK383.out 0).trans rfl; have hcz15_1 : w12.cell? ⟨gb383, 1, none⟩ = some (.int .i64 0) := (blk_cell BK383.out 1).trans rfl; have hcz15_2 : w12.cell? ⟨gb383, 2, none⟩ = some (.slice none 0 0) := (blk_cell BK383.out 2).trans rfl; have hfz15_0 := blk_frozen BK383.out 0; have hfz15_1 := blk_frozen BK383.out 1; have hfz15_2 := blk_frozen BK383.out 2; have hcz16_0 : w12.cell? ⟨gb384, 0, none⟩ = some (.int .u32 0) := (blk_cell BK384.out 0).trans rfl; have hcz16_1 : w12.cell? ⟨gb384, 1, none⟩ = some (.int .i64 0) := (blk_cell BK384.out 1).trans rfl; have hcz16_2 : w12.cell? ⟨gb384, 2, none⟩ = some (.int .i64 0) := (blk_cell BK384.out 2).trans rfl; have hfz16_0 := blk_frozen BK384.out 0; have hfz16_1 := blk_frozen BK384.out 1; have hfz16_2 := blk_frozen BK384.out 2))
  refine bodyPost_ret (results_list (rs := [.cell 4 33, .cell 5 59, .tmp 6]) rfl (by simp) (.cell gb383 33 #[.int .i64 a0_0, .int .i64 a0_1, .slice Ao5 l0_2.length co5] (0, 0) _ rfl (by (repeat with_reducible first | refine XPrint.d1 ?_ | refine XPrint.d2 ?_ _ | refine XPrint.d3 ?_ _); refine blk_far ?_ NB383_384.out _; (repeat with_reducible first | refine XPrint.d1 ?_ | refine XPrint.d2 ?_ _ | refine XPrint.d3 ?_ _); refine blk_far ?_ NB383_384.out _; (repeat with_reducible first | refine XPrint.d1 ?_ | refine XPrint.d2 ?_ _ | refine XPrint.d3 ?_ _); refine blk_far ?_ NB383_384.out _; (repeat with_reducible first | refine XPrint.d1 ?_ | refine XPrint.d2 ?_ _ | refine XPrint.d3 ?_ _); refine blk_put (cs := #[.int .i64 a0_0, .int .i64 a0_1, .slice none 0 0]) ?_ 2 _ rfl; (repeat with_reducible first | refine XPrint.d1 ?_ | refine XPrint.d2 ?_ _ | refine XPrint.d3 ?_ _); refine blk_put (cs := #[.int .i64 a0_0, .int .i64 0, .slice none 0 0]) ?_ 1 _ rfl; (repeat with_reducible first | refine XPrint.d1 ?_ | refine XPrint.d2 ?_ _ | refine XPrint.d3 ?_ _); refine blk_put (cs := #[.int .i64 0, .int .i64 0, .slice none 0 0]) ?_ 0 _ rfl; (repeat with_reducible first | refine XPrint.d1 ?_ | refine XPrint.d2 ?_ _ | refine XPrint.d3 ?_ _); exact BK383.out) Tryz.underlying33 rfl (by kernel_rfl) (.cell gb384 59 #[.int .u32 0, .int .i64 0, .int .i64 0] (0, 0) _ rfl (by (repeat with_reducible first | refine XPrint.d1 ?_ | refine XPrint.d2 ?_ _ | refine XPrint.d3 ?_ _); refine blk_put (cs := #[.int .u32 0, .int .i64 0, .int .i64 0]) ?_ 2 _ rfl; (repeat with_reducible first | refine XPrint.d1 ?_ | refine XPrint.d2 ?_ _ | refine XPrint.d3 ?_ _); refine blk_put (cs := #[.int .u32 0, .int .i64 0, .int .i64 0]) ?_ 1 _ rfl; (repeat with_reducible first | refine XPrint.d1 ?_ | refine XPrint.d2 ?_ _ | refine XPrint.d3 ?_ _); refine blk_put (cs := #[.int .u32 0, .int .i64 0, .int .i64 0]) ?_ 0 _ rfl; (repeat with_reducible first | refine XPrint.d1 ?_ | refine XPrint.d2 ?_ _ | refine XPrint.d3 ?_ _); refine blk_far ?_ NB384_383.out _; (repeat with_reducible first | refine XPrint.d1 ?_ | refine XPrint.d2 ?_ _ | refine XPrint.d3 ?_ _); refine blk_far ?_ NB384_383.out _; (repeat with_reducible first | refine XPrint.d1 ?_ | refine XPrint.d2 ?_ _ | refine XPrint.d3 ?_ _); refine blk_far ?_ NB384_383.out _; (repeat with_reducible first | refine XPrint.d1 ?_ | refine XPrint.d2 ?_ _ | refine XPrint.d3 ?_ _); exact BK384.out) Tryz.underlying59 rfl (by kernel_rfl) (.tmp .nil)))) rfl ?_
  exact ⟨_, by first | rfl | (simp [errW_none, errW_some] <;> rfl) | (simp [*, errW_none, errW_some] <;> rfl), by (with_reducible repeat (first | apply Kd.R_alloc | apply Kd.R_drewN | apply Kd.R_drew)); exact Kd.R_mono (Kd.R_far (p := ⟨gb384, 2, none⟩) (Kd.R_far (p := ⟨gb384, 1, none⟩) (Kd.R_far (p := ⟨gb384, 0, none⟩) (Kd.R_far (p := ⟨gb383, 2, none⟩) (Kd.R_far (p := ⟨gb383, 1, none⟩) (Kd.R_far (p := ⟨gb383, 0, none⟩) (Kd.R_mono (Kd.R_types HO0_2.out BK383.out (by decide)) (fun k_ hk => (⟨hk, hk.1.2⟩ : _ ∧ k_ ≠ gb384))) (fun _ hk => hk.1.2) (.int .i64 a0_0)) (fun _ hk => hk.1.2) (.int .i64 a0_1)) (fun _ hk => hk.1.2) (.slice Ao5 l0_2.length co5)) (fun _ hk => hk.2) (.int .u32 0)) (fun _ hk => hk.2) (.int .i64 0)) (fun _ hk => hk.2) (.int .i64 0)) (fun _ hk => hk.1.1.1), by repeat (first | (with_reducible first | exact HB.out | apply below_alloc | apply pw_below_drewN | apply below_drew1 | refine below_set ?_ GE382.out | refine below_set ?_ GE383.out | refine below_set ?_ GE384.out) | exact HB.out), by repeat (first | (with_reducible first | exact HK.out | apply Kept.alloc | apply Kept.drewN | apply Kept.drew | refine Kept.setCell ?_ (.inr GW382.out) _ | refine Kept.setCell ?_ (.inr GW383.out) _ | refine Kept.setCell ?_ (.inr GW384.out) _) | exact HK.out)⟩
 ·rw [if_neg c4] at H
  have c4b0 : decide (t385 < 0) = false := decide_eq_false c4
  clear c4
  by_cases c17 : 0 ≤ t385
  ·rw [if_pos c17] at H
   have c17b0 : decide (0 ≤ t385) = true := decide_eq_true c17
   clear c17
   by_cases c18 : t385 < (l0_2.length : Int)
   ·rw [if_pos c18] at H
    have c18b0 : decide (t385 < (l0_2.length : Int)) = true := decide_eq_true c18
    clear c18
    obtain ⟨y388, hy388⟩ : ∃ y_ : List (S59), y_ = (([] : List (S59))) := ⟨_, rfl⟩
    replace H : (if t385 ≤ (l0_2.length : Int) then ((some (l0_2.take (t385 : Int).toNat : List (S59))).bind fun y391 => (if y388.length + y391.length < 5864062014805 then ((some (y388 ++ y391 : List (S59))).bind fun y395 => (if 0 ≤ (wrap64 (t385 + 1)) then (if (wrap64 (t385 + 1)) ≤ (l0_2.length : Int) then ((some (l0_2.drop ((wrap64 (t385 + 1)) : Int).toNat : List (S59))).bind fun y398 => (if y395.length + y398.length < 5864062014805 then (some (a0_0, a0_1, (y395 ++ y398), (rd_T59 l0_2 t385).f0, (rd_T59 l0_2 t385).f1.f0, (rd_T59 l0_2 t385).f1.f1, 0)) else (none))) else (none)) else (none))) else (none))) else (none)) = some (r1, r2, r3, r4, r5, r6, r7) := by first | (rw [hy388]; with_reducible exact H) | (have H2_ := (Option.bind_some _ _).symm.trans H; rw [hy388]; with_reducible exact H2_) | (have H2_ := (Option.bind_some _ _).symm.trans H; with_reducible exact H2_) | with_reducible exact H | (rw [hy388]; exact H) | exact H
    have Ny388 := XPrint.A0 hy388
    clear hy388
    have c19b0 := eq_true (of_decide_eq_true (by first | (with_reducible assumption) | assumption) : 0 ≤ t385)
    by_cases c20 : t385 ≤ (l0_2.length : Int)
    ·rw [if_pos c20] at H
     have c20b0 := eq_true c20
     have c20b1 : decide (t385 ≤ (l0_2.length : Int)) = true := decide_eq_true c20
     clear c20
     obtain ⟨y391, hy391⟩ : ∃ y_ : List (S59), y_ = (l0_2.take (t385 : Int).toNat) := ⟨_, rfl⟩
     replace H : (if y388.length + y391.length < 5864062014805 then ((some (y388 ++ y391 : List (S59))).bind fun y395 => (if 0 ≤ (wrap64 (t385 + 1)) then (if (wrap64 (t385 + 1)) ≤ (l0_2.length : Int) then ((some (l0_2.drop ((wrap64 (t385 + 1)) : Int).toNat : List (S59))).bind fun y398 => (if y395.length + y398.length < 5864062014805 then (some (a0_0, a0_1, (y395 ++ y398), (rd_T59 l0_2 t385).f0, (rd_T59 l0_2 t385).f1.f0, (rd_T59 l0_2 t385).f1.f1, 0)) else (none))) else (none)) else (none))) else (none)) = some (r1, r2, r3, r4, r5, r6, r7) := by first | (rw [hy391]; with_reducible exact H) | (have H2_ := (Option.bind_some _ _).symm.trans H; rw [hy391]; with_reducible exact H2_) | (have H2_ := (Option.bind_some _ _).symm.trans H; with_reducible exact H2_) | with_reducible exact H | (rw [hy391]; exact H) | exact H
     have Ny391 := XPrint.A0 hy391
     clear hy391
     by_cases c21 : y388.length + y391.length < 5864062014805
     ·rw [if_pos c21] at H
      have LMc21 := XPrint.A0 c21
      clear c21
      obtain ⟨y395, hy395⟩ : ∃ y_ : List (S59), y_ = (y388 ++ y391) := ⟨_, rfl⟩
      replace H : (if 0 ≤ (wrap64 (t385 + 1)) then (if (wrap64 (t385 + 1)) ≤ (l0_2.length : Int) then ((some (l0_2.drop ((wrap64 (t385 + 1)) : Int).toNat : List (S59))).bind fun y398 => (if y395.length + y398.length < 5864062014805 then (some (a0_0, a0_1, (y395 ++ y398), (rd_T59 l0_2 t385).f0, (rd_T59 l0_2 t385).f1.f0, (rd_T59 l0_2 t385).f1.f1, 0)) else (none))) else (none)) else (none)) = some (r1, r2, r3, r4, r5, r6, r7) := by first | (rw [hy395]; with_reducible exact H) | (have H2_ := (Option.bind_some _ _).symm.trans H; rw [hy395]; with_reducible exact H2_) | (have H2_ := (Option.bind_some _ _).symm.trans H; with_reducible exact H2_) | with_reducible exact H | (rw [hy395]; exact H) | exact H
      have Ny395 := XPrint.A0 hy395
      clear hy395
      obtain ⟨ji22, hji22⟩ : ∃ j_ : Int, (wrap64 (t385 + 1)) = j_ := ⟨_, rfl⟩
      replace H : (if 0 ≤ (ji22) then (if (ji22) ≤ (l0_2.length : Int) then ((some (l0_2.drop ((ji22) : Int).toNat : List (S59))).bind fun y398 => (if y395.length + y398.length < 5864062014805 then (some (a0_0, a0_1, (y395 ++ y398), (rd_T59 l0_2 t385).f0, (rd_T59 l0_2 t385).f1.f0, (rd_T59 l0_2 t385).f1.f1, 0)) else (none))) else (none)) else (none)) = some (r1, r2, r3, r4, r5, r6, r7) := by first | (rw [hji22] at H; exact H) | (simp only [hji22] at H ⊢; exact H)
      (try rw [hji22] at A3)
      have hji22w : (IntKind.i64.wrap (t385 + 1)) = ji22 := (i64_w _).trans hji22
      by_cases c23 : 0 ≤ (ji22)
      ·rw [if_pos c23] at H
       have c23b0 := eq_true c23
       have c23b1 : decide (0 ≤ (ji22)) = true := decide_eq_true c23
       clear c23
       by_cases c24 : (ji22) ≤ (l0_2.length : Int)
       ·rw [if_pos c24] at H
        have c24b0 := eq_true c24
        have c24b1 : decide ((ji22) ≤ (l0_2.length : Int)) = true := decide_eq_true c24
        clear c24
        obtain ⟨y398, hy398⟩ : ∃ y_ : List (S59), y_ = (l0_2.drop ((ji22) : Int).toNat) := ⟨_, rfl⟩
        replace H : (if y395.length + y398.length < 5864062014805 then (some (a0_0, a0_1, (y395 ++ y398), (rd_T59 l0_2 t385).f0, (rd_T59 l0_2 t385).f1.f0, (rd_T59 l0_2 t385).f1.f1, 0)) else (none)) = some (r1, r2, r3, r4, r5, r6, r7) := by first | (rw [hy398]; with_reducible exact H) | (have H2_ := (Option.bind_some _ _).symm.trans H; rw [hy398]; with_reducible exact H2_) | (have H2_ := (Option.bind_some _ _).symm.trans H; with_reducible exact H2_) | with_reducible exact H | (rw [hy398]; exact H) | exact H
        have Ny398 := XPrint.A0 hy398
        clear hy398
        by_cases c25 : y395.length + y398.length < 5864062014805
        ·rw [if_pos c25] at H
         have LMc25 := XPrint.A0 c25
         clear c25
         obtain ⟨y402, hy402⟩ : ∃ y_ : List (S59), y_ = (y395 ++ y398) := ⟨_, rfl⟩
         replace H : (some (a0_0, a0_1, y402, (rd_T59 l0_2 t385).f0, (rd_T59 l0_2 t385).f1.f0, (rd_T59 l0_2 t385).f1.f1, 0)) = some (r1, r2, r3, r4, r5, r6, r7) := by first | (rw [hy402]; with_reducible exact H) | (have H2_ := (Option.bind_some _ _).symm.trans H; rw [hy402]; with_reducible exact H2_) | (have H2_ := (Option.bind_some _ _).symm.trans H; with_reducible exact H2_) | with_reducible exact H | (rw [hy402]; exact H) | exact H
         have Ny402 := XPrint.A0 hy402
         clear hy402
         simp only [Option.some.injEq, Prod.mk.injEq] at H
         obtain ⟨rfl, rfl, rfl, rfl, rfl, rfl, rfl⟩ := H
         obtain ⟨Ao26, co26, eo26⟩ := Kd.R_slice HO0_2.out
         subst eo26
         go_enter Tryz.func113, Tryz.ntmps113
         try go_wp2_with (first | ((with_reducible refine gate_dst (N := 2) rfl ?_); refine box_event ?hg (N := 2) ?hd (cs := #[.int .i64 a0_0, .int .i64 a0_1, .slice Ao26 l0_2.length co26]) (t := 33) ?hr ?_; (case hd => rfl); (case hg => rfl); (case hr => first | (go_simp; done) | (go_simp; rfl)); intro gb382 hg w27 hbox hb; have BK382 := XPrint.A0 (hbox); have GW382 := XPrint.A0 ((by rw [hg]; exact (by first | exact HK.out.1 | exact (show Kept w _ (fun k_ => P0_2_ k_) from by repeat (first | (with_reducible first | exact HK.out | apply Kept.alloc | apply Kept.drewN | apply Kept.drew) | exact HK.out)).1) : w.heap.size ≤ gb382)); have GE382 := XPrint.A0 ((by rw [hg]; exact (below_size (by exact XPrint.bz HB.out)) : w0.heap.size ≤ gb382)); replace HO0_2 := XPrint.A0 (Kd.R_below (by (with_reducible repeat (first | apply Kd.R_alloc | apply Kd.R_drewN | apply Kd.R_drew)); exact HO0_2.out) hb); replace HK := XPrint.A0 (Kept.below (S := (fun k_ => P0_2_ k_)) (by repeat (first | (with_reducible first | exact HK.out | apply Kept.alloc | apply Kept.drewN | apply Kept.drew) | exact HK.out)) hb); replace HB := XPrint.A0 (below_step (by exact XPrint.bz HB.out) hb); clear hb hbox hg) | ((with_reducible refine gate_dst (N := 4) rfl ?_); refine box_event ?hg (N := 4) ?hd (cs := #[.int .i64 0, .int .i64 0, .slice none 0 0]) (t := 33) ?hr ?_; (case hd => rfl); (case hg => rfl); (case hr => first | (go_simp; done) | (go_simp; rfl)); intro gb383 hg w28 hbox hb; have BK383 := XPrint.A0 (hbox); have GW383 := XPrint.A0 ((by rw [hg]; exact (by first | exact HK.out.1 | exact (show Kept w _ (fun k_ => P0_2_ k_) from by repeat (first | (with_reducible first | exact HK.out | apply Kept.alloc | apply Kept.drewN | apply Kept.drew | refine Kept.setCell ?_ (.inr GW382.out) _) | exact HK.out)).1) : w.heap.size ≤ gb383)); have GE383 := XPrint.A0 ((by rw [hg]; exact (below_size (by exact XPrint.bz HB.out)) : w0.heap.size ≤ gb383)); have NB382_383 := XPrint.A1 (by rw [hg]; exact Nat.ne_of_lt (XPrint.al BK382.out) : gb382 ≠ gb383); have NB383_382 := XPrint.A1 (by rw [hg]; exact Nat.ne_of_gt (XPrint.al BK382.out) : gb383 ≠ gb382); replace HO0_2 := XPrint.A0 (Kd.R_below (by (with_reducible repeat (first | apply Kd.R_alloc | apply Kd.R_drewN | apply Kd.R_drew)); exact HO0_2.out) hb); replace BK382 := XPrint.A0 (XPrint.ab BK382.out hb); replace HK := XPrint.A0 (Kept.below (S := (fun k_ => P0_2_ k_)) (by repeat (first | (with_reducible first | exact HK.out | apply Kept.alloc | apply Kept.drewN | apply Kept.drew | refine Kept.setCell ?_ (.inr GW382.out) _) | exact HK.out)) hb); replace HB := XPrint.A0 (below_step (by exact XPrint.bz HB.out) hb); clear hb hbox hg) | ((with_reducible refine gate_dst (N := 5) rfl ?_); refine box_event ?hg (N := 5) ?hd (cs := #[.int .u32 0, .int .i64 0, .int .i64 0]) (t := 59) ?hr ?_; (case hd => rfl); (case hg => rfl); (case hr => first | (go_simp; done) | (go_simp; rfl)); intro gb384 hg w29 hbox hb; have BK384 := XPrint.A0 (hbox); have GW384 := XPrint.A0 ((by rw [hg]; exact (by first | exact HK.out.1 | exact (show Kept w _ (fun k_ => P0_2_ k_) from by repeat (first | (with_reducible first | exact HK.out | apply Kept.alloc | apply Kept.drewN | apply Kept.drew | refine Kept.setCell ?_ (.inr GW382.out) _ | refine Kept.setCell ?_ (.inr GW383.out) _) | exact HK.out)).1) : w.heap.size ≤ gb384)); have GE384 := XPrint.A0 ((by rw [hg]; exact (below_size (by exact XPrint.bz HB.out)) : w0.heap.size ≤ gb384)); have NB382_384 := XPrint.A1 (by rw [hg]; exact Nat.ne_of_lt (XPrint.al BK382.out) : gb382 ≠ gb384); have NB384_382 := XPrint.A1 (by rw [hg]; exact Nat.ne_of_gt (XPrint.al BK382.out) : gb384 ≠ gb382); have NB383_384 := XPrint.A1 (by rw [hg]; exact Nat.ne_of_lt (XPrint.al BK383.out) : gb383 ≠ gb384); have NB384_383 := XPrint.A1 (by rw [hg]; exact Nat.ne_of_gt (XPrint.al BK383.out) : gb384 ≠ gb383); replace HO0_2 := XPrint.A0 (Kd.R_below (Kd.R_elderB (by (with_reducible repeat (first | apply Kd.R_alloc | apply Kd.R_drewN | apply Kd.R_drew)); exact HO0_2.out) gb384 (Nat.le_of_eq hg.symm)) hb); replace BK382 := XPrint.A0 (XPrint.ab BK382.out hb); replace BK383 := XPrint.A0 (XPrint.ab BK383.out hb); replace HK := XPrint.A0 (Kept.below (S := (fun k_ => P0_2_ k_)) (by repeat (first | (with_reducible first | exact HK.out | apply Kept.alloc | apply Kept.drewN | apply Kept.drew | refine Kept.setCell ?_ (.inr GW382.out) _ | refine Kept.setCell ?_ (.inr GW383.out) _) | exact HK.out)) hb); replace HB := XPrint.A0 (below_step (by exact XPrint.bz HB.out) hb); clear hb hbox hg; have hnb30 := NB382_383.out; have hnc30 := NB383_382.out; have hnb31 := NB382_384.out; have hnc31 := NB384_382.out; have hcz32_0 : w29.cell? ⟨gb382, 0, none⟩ = some (.int .i64 a0_0) := (blk_cell BK382.out 0).trans rfl; have hcz32_1 : w29.cell? ⟨gb382, 1, none⟩ = some (.int .i64 a0_1) := (blk_cell BK382.out 1).trans rfl; have hcz32_2 : w29.cell? ⟨gb382, 2, none⟩ = some (.slice Ao26 l0_2.length co26) := (blk_cell BK382.out 2).trans rfl; have hfz32_0 := blk_frozen BK382.out 0; have hfz32_1 := blk_frozen BK382.out 1; have hfz32_2 := blk_frozen BK382.out 2) | ((with_reducible refine gate_callee (f := 89) rfl ?_); refine XPrint.gl (some 11) Tryz.func89 #[.agg #[.int .i64 a0_0, .int .i64 a0_1, .slice Ao26 l0_2.length co26], .int .u32 a1] ?_; (with_reducible refine (liveryref22_At.calls k a0_0 a0_1 _ _ l0_2 a1 t385 _ ?side1 ?side2 A3.out).mono ?_); (case side1 => repeat (first | exact (Kd.R_reads' HO0_2.out).2.2 | (with_reducible refine Kd.C_alloc ?_ _) | (with_reducible refine Kd.C_drewN ?_ _) | (with_reducible refine Kd.C_drew ?_))); (case side2 => exact (Kd.R_reads' HO0_2.out).2.1); rintro e w33 ⟨rfl, hb⟩; refine ⟨_, rfl, ?_⟩; replace HO0_2 := XPrint.A0 (Kd.R_below (by (with_reducible repeat (first | apply Kd.R_alloc | apply Kd.R_drewN | apply Kd.R_drew)); exact HO0_2.out) hb); replace BK382 := XPrint.A0 (XPrint.ab BK382.out hb); replace BK383 := XPrint.A0 (XPrint.ab BK383.out hb); replace BK384 := XPrint.A0 (XPrint.ab BK384.out hb); replace HK := XPrint.A0 (Kept.below (S := (fun k_ => P0_2_ k_)) (by repeat (first | (with_reducible first | exact HK.out | apply Kept.alloc | apply Kept.drewN | apply Kept.drew | refine Kept.setCell ?_ (.inr GW382.out) _ | refine Kept.setCell ?_ (.inr GW383.out) _ | refine Kept.setCell ?_ (.inr GW384.out) _) | exact HK.out)) hb); replace HB := XPrint.A0 (below_step (by exact XPrint.bz HB.out) hb); (try clear hb); (try clear hb2); (try clear hk); (try clear hi); have hcz34_0 : w33.cell? ⟨gb382, 0, none⟩ = some (.int .i64 a0_0) := (blk_cell BK382.out 0).trans rfl; have hcz34_1 : w33.cell? ⟨gb382, 1, none⟩ = some (.int .i64 a0_1) := (blk_cell BK382.out 1).trans rfl; have hcz34_2 : w33.cell? ⟨gb382, 2, none⟩ = some (.slice Ao26 l0_2.length co26) := (blk_cell BK382.out 2).trans rfl; have hfz34_0 := blk_frozen BK382.out 0; have hfz34_1 := blk_frozen BK382.out 1; have hfz34_2 := blk_frozen BK382.out 2; have p386 : 0 ≤ (t385 : Int) := of_decide_eq_true (by first | (with_reducible assumption) | assumption); have q386 : t385 < (l0_2.length : Int) := of_decide_eq_true (by first | (with_reducible assumption) | assumption); obtain ⟨ad386, e386, hx386_0, hx386_1, hx386_2⟩ := at_T59 (Kd.R_reads' HO0_2.out).2.2 t385 p386 q386; cases e386; replace p386 := eq_true p386; replace q386 := eq_true q386) | ((with_reducible refine gate_dst (N := 8) rfl ?_); refine box_event ?hg (N := 8) ?hd (cs := #[.int .u32 0, .int .i64 0, .int .i64 0]) (t := 59) ?hr ?_; (case hd => rfl); (case hg => rfl); (case hr => first | (go_simp; done) | (go_simp; rfl)); intro gb387 hg w35 hbox hb; have BK387 := XPrint.A0 (hbox); have GW387 := XPrint.A0 ((by rw [hg]; exact (by first | exact HK.out.1 | exact (show Kept w _ (fun k_ => P0_2_ k_) from by repeat (first | (with_reducible first | exact HK.out | apply Kept.alloc | apply Kept.drewN | apply Kept.drew | refine Kept.setCell ?_ (.inr GW382.out) _ | refine Kept.setCell ?_ (.inr GW383.out) _ | refine Kept.setCell ?_ (.inr GW384.out) _) | exact HK.out)).1) : w.heap.size ≤ gb387)); have GE387 := XPrint.A0 ((by rw [hg]; exact (below_size (by exact XPrint.bz HB.out)) : w0.heap.size ≤ gb387)); have NB382_387 := XPrint.A1 (by rw [hg]; exact Nat.ne_of_lt (XPrint.al BK382.out) : gb382 ≠ gb387); have NB387_382 := XPrint.A1 (by rw [hg]; exact Nat.ne_of_gt (XPrint.al BK382.out) : gb387 ≠ gb382); have NB383_387 := XPrint.A1 (by rw [hg]; exact Nat.ne_of_lt (XPrint.al BK383.out) : gb383 ≠ gb387); have NB387_383 := XPrint.A1 (by rw [hg]; exact Nat.ne_of_gt (XPrint.al BK383.out) : gb387 ≠ gb383); have NB384_387 := XPrint.A1 (by rw [hg]; exact Nat.ne_of_lt (XPrint.al BK384.out) : gb384 ≠ gb387); have NB387_384 := XPrint.A1 (by rw [hg]; exact Nat.ne_of_gt (XPrint.al BK384.out) : gb387 ≠ gb384); replace HO0_2 := XPrint.A0 (Kd.R_below (Kd.R_elderB (by (with_reducible repeat (first | apply Kd.R_alloc | apply Kd.R_drewN | apply Kd.R_drew)); exact HO0_2.out) gb387 (Nat.le_of_eq hg.symm)) hb); replace BK382 := XPrint.A0 (XPrint.ab BK382.out hb); replace BK383 := XPrint.A0 (XPrint.ab BK383.out hb); replace BK384 := XPrint.A0 (XPrint.ab BK384.out hb); replace HK := XPrint.A0 (Kept.below (S := (fun k_ => P0_2_ k_)) (by repeat (first | (with_reducible first | exact HK.out | apply Kept.alloc | apply Kept.drewN | apply Kept.drew | refine Kept.setCell ?_ (.inr GW382.out) _ | refine Kept.setCell ?_ (.inr GW383.out) _ | refine Kept.setCell ?_ (.inr GW384.out) _) | exact HK.out)) hb); replace HB := XPrint.A0 (below_step (by exact XPrint.bz HB.out) hb); clear hb hbox hg; have hnb36 := NB387_382.out; have hnc36 := NB382_387.out; have hnb37 := NB387_383.out; have hnc37 := NB383_387.out; have hnb38 := NB387_384.out; have hnc38 := NB384_387.out; have hcz39_0 : w35.cell? ⟨gb387, 0, none⟩ = some (.int .u32 0) := (blk_cell BK387.out 0).trans rfl; have hcz39_1 : w35.cell? ⟨gb387, 1, none⟩ = some (.int .i64 0) := (blk_cell BK387.out 1).trans rfl; have hcz39_2 : w35.cell? ⟨gb387, 2, none⟩ = some (.int .i64 0) := (blk_cell BK387.out 2).trans rfl; have hfz39_0 := blk_frozen BK387.out 0; have hfz39_1 := blk_frozen BK387.out 1; have hfz39_2 := blk_frozen BK387.out 2))
         have n0_ : Aside0 (Kd.R k59 59 (((w35.setCell ⟨gb387, 0, none⟩ (.int .u32 ((rd_T59 l0_2 t385).f0))).setCell ⟨gb387, 1, none⟩ (.int .i64 ((rd_T59 l0_2 t385).f1.f0))).setCell ⟨gb387, 2, none⟩ (.int .i64 ((rd_T59 l0_2 t385).f1.f1))) w0.heap.size (fun k_ => (P0_2_ k_ ∨ w.heap.size ≤ k_) ∧ k_ ≠ gb384 ∧ k_ ≠ gb387) (.slice (some ad386) l0_2.length co26) l0_2) := ⟨by (with_reducible repeat (first | apply Kd.R_alloc | apply Kd.R_drewN | apply Kd.R_drew)); exact Kd.R_mono (Kd.R_far (p := ⟨gb387, 2, none⟩) (Kd.R_far (p := ⟨gb387, 1, none⟩) (Kd.R_far (p := ⟨gb387, 0, none⟩) (Kd.R_mono HO0_2.out (fun k_ hk => (⟨hk, hk.2⟩ : _ ∧ k_ ≠ gb387))) (fun _ hk => hk.2) (.int .u32 ((rd_T59 l0_2 t385).f0))) (fun _ hk => hk.2) (.int .i64 ((rd_T59 l0_2 t385).f1.f0))) (fun _ hk => hk.2) (.int .i64 ((rd_T59 l0_2 t385).f1.f1))) (fun _ hk => ⟨hk.1.1.1, ⟨hk.1.1.2, hk.1.2⟩⟩)⟩
         have n1_ : Aside0 ((((w35.setCell ⟨gb387, 0, none⟩ (.int .u32 ((rd_T59 l0_2 t385).f0))).setCell ⟨gb387, 1, none⟩ (.int .i64 ((rd_T59 l0_2 t385).f1.f0))).setCell ⟨gb387, 2, none⟩ (.int .i64 ((rd_T59 l0_2 t385).f1.f1))).heap[gb382]? = some (.cells #[.int .i64 a0_0, .int .i64 a0_1, .slice (some ad386) l0_2.length co26] 33 (0, 0))) := ⟨by (repeat with_reducible first | refine XPrint.d1 ?_ | refine XPrint.d2 ?_ _ | refine XPrint.d3 ?_ _); refine blk_far ?_ NB382_387.out _; (repeat with_reducible first | refine XPrint.d1 ?_ | refine XPrint.d2 ?_ _ | refine XPrint.d3 ?_ _); refine blk_far ?_ NB382_387.out _; (repeat with_reducible first | refine XPrint.d1 ?_ | refine XPrint.d2 ?_ _ | refine XPrint.d3 ?_ _); refine blk_far ?_ NB382_387.out _; (repeat with_reducible first | refine XPrint.d1 ?_ | refine XPrint.d2 ?_ _ | refine XPrint.d3 ?_ _); exact BK382.out⟩
         have n2_ : Aside0 ((((w35.setCell ⟨gb387, 0, none⟩ (.int .u32 ((rd_T59 l0_2 t385).f0))).setCell ⟨gb387, 1, none⟩ (.int .i64 ((rd_T59 l0_2 t385).f1.f0))).setCell ⟨gb387, 2, none⟩ (.int .i64 ((rd_T59 l0_2 t385).f1.f1))).heap[gb383]? = some (.cells #[.int .i64 0, .int .i64 0, .slice none 0 0] 33 (0, 0))) := ⟨by (repeat with_reducible first | refine XPrint.d1 ?_ | refine XPrint.d2 ?_ _ | refine XPrint.d3 ?_ _); refine blk_far ?_ NB383_387.out _; (repeat with_reducible first | refine XPrint.d1 ?_ | refine XPrint.d2 ?_ _ | refine XPrint.d3 ?_ _); refine blk_far ?_ NB383_387.out _; (repeat with_reducible first | refine XPrint.d1 ?_ | refine XPrint.d2 ?_ _ | refine XPrint.d3 ?_ _); refine blk_far ?_ NB383_387.out _; (repeat with_reducible first | refine XPrint.d1 ?_ | refine XPrint.d2 ?_ _ | refine XPrint.d3 ?_ _); exact BK383.out⟩
         have n3_ : Aside0 ((((w35.setCell ⟨gb387, 0, none⟩ (.int .u32 ((rd_T59 l0_2 t385).f0))).setCell ⟨gb387, 1, none⟩ (.int .i64 ((rd_T59 l0_2 t385).f1.f0))).setCell ⟨gb387, 2, none⟩ (.int .i64 ((rd_T59 l0_2 t385).f1.f1))).heap[gb384]? = some (.cells #[.int .u32 0, .int .i64 0, .int .i64 0] 59 (0, 0))) := ⟨by (repeat with_reducible first | refine XPrint.d1 ?_ | refine XPrint.d2 ?_ _ | refine XPrint.d3 ?_ _); refine blk_far ?_ NB384_387.out _; (repeat with_reducible first | refine XPrint.d1 ?_ | refine XPrint.d2 ?_ _ | refine XPrint.d3 ?_ _); refine blk_far ?_ NB384_387.out _; (repeat with_reducible first | refine XPrint.d1 ?_ | refine XPrint.d2 ?_ _ | refine XPrint.d3 ?_ _); refine blk_far ?_ NB384_387.out _; (repeat with_reducible first | refine XPrint.d1 ?_ | refine XPrint.d2 ?_ _ | refine XPrint.d3 ?_ _); exact BK384.out⟩
         have n4_ : Aside0 ((((w35.setCell ⟨gb387, 0, none⟩ (.int .u32 ((rd_T59 l0_2 t385).f0))).setCell ⟨gb387, 1, none⟩ (.int .i64 ((rd_T59 l0_2 t385).f1.f0))).setCell ⟨gb387, 2, none⟩ (.int .i64 ((rd_T59 l0_2 t385).f1.f1))).heap[gb387]? = some (.cells #[.int .u32 ((rd_T59 l0_2 t385).f0), .int .i64 ((rd_T59 l0_2 t385).f1.f0), .int .i64 ((rd_T59 l0_2 t385).f1.f1)] 59 (0, 0))) := ⟨by (repeat with_reducible first | refine XPrint.d1 ?_ | refine XPrint.d2 ?_ _ | refine XPrint.d3 ?_ _); refine blk_put (cs := #[.int .u32 ((rd_T59 l0_2 t385).f0), .int .i64 ((rd_T59 l0_2 t385).f1.f0), .int .i64 0]) ?_ 2 _ rfl; (repeat with_reducible first | refine XPrint.d1 ?_ | refine XPrint.d2 ?_ _ | refine XPrint.d3 ?_ _); refine blk_put (cs := #[.int .u32 ((rd_T59 l0_2 t385).f0), .int .i64 0, .int .i64 0]) ?_ 1 _ rfl; (repeat with_reducible first | refine XPrint.d1 ?_ | refine XPrint.d2 ?_ _ | refine XPrint.d3 ?_ _); refine blk_put (cs := #[.int .u32 0, .int .i64 0, .int .i64 0]) ?_ 0 _ rfl; (repeat with_reducible first | refine XPrint.d1 ?_ | refine XPrint.d2 ?_ _ | refine XPrint.d3 ?_ _); exact BK387.out⟩
         have n5_ : Aside0 (Kept w (((w35.setCell ⟨gb387, 0, none⟩ (.int .u32 ((rd_T59 l0_2 t385).f0))).setCell ⟨gb387, 1, none⟩ (.int .i64 ((rd_T59 l0_2 t385).f1.f0))).setCell ⟨gb387, 2, none⟩ (.int .i64 ((rd_T59 l0_2 t385).f1.f1))) (fun k_ => P0_2_ k_)) := ⟨by repeat (first | (with_reducible first | exact HK.out | apply Kept.alloc | apply Kept.drewN | apply Kept.drew | refine Kept.setCell ?_ (.inr GW382.out) _ | refine Kept.setCell ?_ (.inr GW383.out) _ | refine Kept.setCell ?_ (.inr GW384.out) _ | refine Kept.setCell ?_ (.inr GW387.out) _) | exact HK.out)⟩
         have n6_ : Aside0 (Below w0.heap.size w0 (((w35.setCell ⟨gb387, 0, none⟩ (.int .u32 ((rd_T59 l0_2 t385).f0))).setCell ⟨gb387, 1, none⟩ (.int .i64 ((rd_T59 l0_2 t385).f1.f0))).setCell ⟨gb387, 2, none⟩ (.int .i64 ((rd_T59 l0_2 t385).f1.f1)))) := ⟨by repeat (first | (with_reducible first | exact HB.out | apply below_alloc | apply pw_below_drewN | apply below_drew1 | refine below_set ?_ GE382.out | refine below_set ?_ GE383.out | refine below_set ?_ GE384.out | refine below_set ?_ GE387.out) | exact HB.out)⟩
         (try clear HO0_2)
         (try clear BK382)
         (try clear BK383)
         (try clear BK384)
         (try clear BK387)
         (try clear HK)
         (try clear HB)
         generalize (((w35.setCell ⟨gb387, 0, none⟩ (.int .u32 ((rd_T59 l0_2 t385).f0))).setCell ⟨gb387, 1, none⟩ (.int .i64 ((rd_T59 l0_2 t385).f1.f0))).setCell ⟨gb387, 2, none⟩ (.int .i64 ((rd_T59 l0_2 t385).f1.f1))) = w40 at n0_ n1_ n2_ n3_ n4_ n5_ n6_ ⊢
         have HO0_2 := n0_
         have BK382 := n1_
         have BK383 := n2_
         have BK384 := n3_
         have BK387 := n4_
         have HK := n5_
         have HB := n6_
         clear n0_ n1_ n2_ n3_ n4_ n5_ n6_
         replace HO0_2 := XPrint.A0 (Kd.R_drew HO0_2.out)
         replace BK382 := XPrint.A0 (blk_drew BK382.out)
         replace BK383 := XPrint.A0 (blk_drew BK383.out)
         replace BK384 := XPrint.A0 (blk_drew BK384.out)
         replace BK387 := XPrint.A0 (blk_drew BK387.out)
         replace HK := XPrint.A0 (Kept.drew HK.out)
         replace HB := XPrint.A0 (below_drew1 HB.out)
         have q42 : (t385 : Int) ≤ ((l0_2.length : Int) : Int) := of_decide_eq_true (by first | (with_reducible assumption) | assumption)
         obtain ⟨i042, hi042, _, hsz42, _⟩ := info_parts info59
         have hroom42 : l0_2.length ≤ co26 := (Kd.R_reads' HO0_2.out).2.1
         have hC42 : Kd.C k59 _ (some ad386) l0_2.length l0_2 := (Kd.R_reads' HO0_2.out).2.2
         have hcut42 := cut_to (P := Tryz.prog) 24 59 .i64 Tryz.underlying24 hi042 (some ad386) l0_2.length co26 t385 (of_decide_eq_true (by first | (with_reducible assumption) | assumption)) q42 hroom42
         have hr42 := Kd.C_take (m := (t385 : Int).toNat) hC42 (by omega)
         have hy42 : y391.length = (t385 : Int).toNat := (by rw [Ny391.out, List.length_take]; omega)
         rw [← Ny391.out] at hr42
         rw [← hy42] at hcut42
         have HR394 := XPrint.A0 hr42
         have HC394 := XPrint.A0 (show y391.length ≤ co26 from by omega)
         clear hr42 hC42 hroom42 hi042 hsz42
         have KY42 := XPrint.A0 hy42
         clear hy42
         have KL42 := XPrint.A0 (show (t385 : Int).toNat ≤ l0_2.length from by omega)
         replace q42 := eq_true q42
         have q43 : ((ji22) : Int) ≤ ((l0_2.length : Int) : Int) := of_decide_eq_true (by first | (with_reducible assumption) | assumption)
         obtain ⟨i043, hi043, _, hsz43, _⟩ := info_parts info59
         have hroom43 : l0_2.length ≤ co26 := (Kd.R_reads' HO0_2.out).2.1
         have hC43 : Kd.C k59 _ (some ad386) l0_2.length l0_2 := (Kd.R_reads' HO0_2.out).2.2
         have q043 : (0 : Int) ≤ ((ji22) : Int) := of_decide_eq_true (by first | (with_reducible assumption) | assumption)
         have hcut43 := cut_from (P := Tryz.prog) 24 59 .i64 Tryz.underlying24 hi043 3 hsz43 (some ad386) l0_2.length co26 (ji22) q043 q43
         have hr43 := Kd.C_drop (m := ((ji22) : Int).toNat) (c := co26) hC43 (by omega) hroom43
         obtain ⟨A43, hA43⟩ : ∃ A1, A1 = (if co26 = ((ji22) : Int).toNat then (some ad386) else ((some ad386) : Option Addr).map (·.add (((ji22) : Int).toNat * 3))) := ⟨_, rfl⟩
         obtain ⟨c43, hc43⟩ : ∃ c1, c1 = co26 - ((ji22) : Int).toNat := ⟨_, rfl⟩
         have hy43 : y398.length = l0_2.length - ((ji22) : Int).toNat := (by rw [Ny398.out, List.length_drop] <;> omega)
         rw [show (l0_2).drop ((ji22) : Int).toNat = y398 from Ny398.out.symm] at hr43
         replace hr43 : Kd.C k59 _ A43 y398.length y398 := (by rw [hA43]; exact hr43)
         rw [← hy43, ← hA43, ← hc43] at hcut43
         have HR401 := XPrint.A0 hr43
         have HC401 := XPrint.A0 (show y398.length ≤ c43 from by rw [hy43, hc43]; exact Nat.sub_le_sub_right hroom43 _)
         clear hr43 hC43 hroom43 hi043 hsz43 hc43
         have KY43 := XPrint.A0 hy43
         have KA43 := XPrint.A0 hA43
         clear hy43 hA43
         have KL43 := XPrint.A0 (show ((ji22) : Int).toNat ≤ l0_2.length from by omega)
         replace q43 := eq_true q43
         refine start_ (n := 14) (S := fun w' => w'.cell? ⟨gb382, 0, none⟩ = some (.int .i64 a0_0) ∧ w'.cell? ⟨gb382, 1, none⟩ = some (.int .i64 a0_1) ∧ w'.cell? ⟨gb382, 2, none⟩ = some (.slice (some ad386) l0_2.length co26)) (ds := [13]) #[false, false, false, false, false, false, false, false, false, false, false, false, false, false] (by kernel_rfl) rfl rfl ⟨(blk_cell BK382.out 0).trans rfl, (blk_cell BK382.out 1).trans rfl, (blk_cell BK382.out 2).trans rfl⟩ (fun hHeld => ?_); refine with_tabW liveryref22_Lose.tab5 liveryref22_Lose.bits5 (fun HT_ HW_ => ?_)
         generalize w40.drew = w41 at HO0_2 BK382 BK383 BK384 BK387 HK HB HR394 HR401 hHeld ⊢
         refine XPrint.pu 1 22 (XPrint.L 14 2) HT_.out (v := ?_) (a' := ?_) ?_ ?_ ?_
         rotate_left
         ·intro w'
          go_simp
          with_reducible rfl
         rotate_left
         ·simp only [XPrint.pw, i64_w, i32_w]
          rfl
         refine XPrint.pu 3 24 (XPrint.L 14 10) HT_.out (v := ?_) (a' := ?_) ?_ ?_ ?_
         rotate_left
         ·intro w'
          go_simp
          with_reducible rfl
         rotate_left
         ·simp only [XPrint.pw, i64_w, i32_w]
          rfl
         refine XPrint.pu 6 27 (XPrint.L 14 74) HT_.out (v := ?_) (a' := ?_) ?_ ?_ ?_
         rotate_left
         ·intro w'
          go_simp
          with_reducible rfl
         rotate_left
         ·simp only [XPrint.pw, i64_w, i32_w]
          rfl
         refine XPrint.pu 8 29 (XPrint.L 14 330) HT_.out (v := ?_) (a' := ?_) ?_ ?_ ?_
         rotate_left
         ·intro w'
          go_simp
          with_reducible rfl
         rotate_left
         ·simp only [XPrint.pw, i64_w, i32_w]
          rfl
         refine XPrint.pu 9 30 (XPrint.L 14 842) HT_.out (v := ?_) (a' := ?_) ?_ ?_ ?_
         rotate_left
         ·intro w'
          go_simp
          with_reducible rfl
         rotate_left
         ·simp only [XPrint.pw, i64_w, i32_w]
          rfl
         refine XPrint.ta 2 23 (XPrint.L 14 846) HT_.out HW_.out (v := ?_) (a' := ?_) ?_ hHeld ?_ ?_
         rotate_left
         ·rintro w' ⟨s0, s1, s2⟩
          go_simp
          with_reducible rfl
         rotate_left
         ·simp only [XPrint.pw, i64_w, i32_w]
          rfl
         refine XPrint.pu 4 25 (XPrint.L 14 862) HT_.out (v := ?_) (a' := ?_) ?_ ?_ ?_
         rotate_left
         ·intro w'
          go_simp
          with_reducible rfl
         rotate_left
         ·simp only [XPrint.pw, i64_w, i32_w]
          rfl
         refine XPrint.ta 7 28 (XPrint.L 14 990) HT_.out HW_.out (v := ?_) (a' := ?_) ?_ hHeld ?_ ?_
         rotate_left
         ·rintro w' ⟨s0, s1, s2⟩
          go_simp
          with_reducible rfl
         rotate_left
         ·simp only [XPrint.pw, i64_w, i32_w]
          rfl
         refine XPrint.pu 10 31 (XPrint.L 14 2014) HT_.out (v := ?_) (a' := ?_) ?_ ?_ ?_
         rotate_left
         ·intro w'
          go_simp
          with_reducible rfl
         rotate_left
         ·simp only [XPrint.pw, i64_w, i32_w]
          rfl
         refine one_ (i := 0) (N := some 21) (XPrint.L 14 2015) rfl rfl (one_of HT_.out (by kernel_rfl)) (by decide) (fun K hK => ?_)
         refine Kd.R_lit_step k59 _ 59 ?hg (N := 21) ?hd (xs := ([] : List (S59))) (inner := []) (ok := fun _ => True) (okp := fun _ => True) ?hr ?hp (fun _ hk => hk) trivial (Below.refl _ _) (Nat.le_refl _) (by simp) ?_; (case hd => rfl); (case hg => rfl); (case hr => first | (go_simp; done) | (go_simp; rfl)); (case hp => exact (Reps.none _ _))
         intro v389 w44 ho45 hb hg_ hnew_
         clear hg_ hnew_
         (first | rw [← Ny388.out] at ho45 | (simp only [Int.reduceToNat] at ho45; rw [← Ny388.out] at ho45))
         have HO390 := XPrint.A0 (Kd.R_lower (Kd.R_newB (Kd.R_newB (Kd.R_new' (Kd.R_newM (M := fun k_ => (P0_2_ k_ ∨ w.heap.size ≤ k_)) ho45 (by first | exact HK.out.1 | exact (show Kept w _ (fun k_ => P0_2_ k_) from by repeat (first | (with_reducible first | exact HK.out | apply Kept.alloc | apply Kept.drewN | apply Kept.drew | refine Kept.setCell ?_ (.inr GW382.out) _ | refine Kept.setCell ?_ (.inr GW383.out) _ | refine Kept.setCell ?_ (.inr GW384.out) _ | refine Kept.setCell ?_ (.inr GW387.out) _) | exact HK.out)).1) (fun k_ h_ => .inr h_)) (Kd.R_lt (by (with_reducible repeat (first | apply Kd.R_alloc | apply Kd.R_drewN | apply Kd.R_drew)); exact HO0_2.out))) (g := gb384) (o := .cells #[.int .u32 0, .int .i64 0, .int .i64 0] 59 (0, 0)) (XPrint.ak BK384.out)) (g := gb387) (o := .cells #[.int .u32 ((rd_T59 l0_2 t385).f0), .int .i64 ((rd_T59 l0_2 t385).f1.f0), .int .i64 ((rd_T59 l0_2 t385).f1.f1)] 59 (0, 0)) (XPrint.ak BK387.out)) (below_size (by exact XPrint.bz HB.out)))
         replace HO0_2 := XPrint.A0 (Kd.R_elder' (by (with_reducible repeat (first | apply Kd.R_alloc | apply Kd.R_drewN | apply Kd.R_drew)); exact HO0_2.out) (Kd.R_base ho45) hb)
         replace BK382 := XPrint.A0 (XPrint.ab BK382.out hb)
         replace BK383 := XPrint.A0 (XPrint.ab BK383.out hb)
         replace BK384 := XPrint.A0 (XPrint.ab BK384.out hb)
         replace BK387 := XPrint.A0 (XPrint.ab BK387.out hb)
         replace HR394 := XPrint.A0 (Kd.C_below (by repeat (first | (with_reducible exact HR394.out) | (with_reducible refine Kd.C_alloc ?_ _) | (with_reducible refine Kd.C_drewN ?_ _) | (with_reducible refine Kd.C_drew ?_) | exact HR394.out)) hb)
         replace HR401 := XPrint.A0 (Kd.C_below (by repeat (first | (with_reducible exact HR401.out) | (with_reducible refine Kd.C_alloc ?_ _) | (with_reducible refine Kd.C_drewN ?_ _) | (with_reducible refine Kd.C_drew ?_) | exact HR401.out)) hb)
         replace HK := XPrint.A0 (Kept.below (S := (fun k_ => P0_2_ k_)) (by repeat (first | (with_reducible first | exact HK.out | apply Kept.alloc | apply Kept.drewN | apply Kept.drew | refine Kept.setCell ?_ (.inr GW382.out) _ | refine Kept.setCell ?_ (.inr GW383.out) _ | refine Kept.setCell ?_ (.inr GW384.out) _ | refine Kept.setCell ?_ (.inr GW387.out) _) | exact HK.out)) hb)
         replace HB := XPrint.A0 (below_step (by exact XPrint.bz HB.out) hb)
         clear hb ho45
         refine hK.out _ _ ⟨(blk_cell BK382.out 0).trans rfl, (blk_cell BK382.out 1).trans rfl, (blk_cell BK382.out 2).trans rfl⟩ (fun hHeld => ?_)
         clear hK K
         refine norm_ (a' := ?_) ?_ ?_
         rotate_left
         ·show Act.put _ (some 21) _ = _
          simp only [XPrint.pw, i64_w, i32_w]
          rfl
         refine one_ (i := 5) (N := some 26) (XPrint.L 14 2047) rfl rfl (one_of HT_.out (by kernel_rfl)) (by decide) (fun K hK => ?_)
         refine Kd.R_append_rows_step k59 (w0 := w0) w0.heap.size (by rfl) (.tmp 21) (.tmp 25) 24 59 (.agg #[(.int .u32 0), (.int .i64 0), (.int .i64 0)]) 24 rfl Tryz.underlying24 info59 rfl (by decide) (by omega) v389 y388 y391 _ _ _ (fun k_ => (P0_2_ k_ ∨ w.heap.size ≤ k_) ∧ some k_ ≠ (.slice (some ad386) l0_2.length co26 : Value).ownBlock ∧ k_ ≠ gb384 ∧ k_ ≠ gb387) (fun _ => False) rfl rfl ?aO ?aR (fun _ _ h => h) (fun _ h => h.elim) ?aF ?aB ?aS ?aL ?_
         (case aR => repeat (first | exact (by repeat (first | (with_reducible exact HR394.out) | (with_reducible refine Kd.C_alloc ?_ _) | (with_reducible refine Kd.C_drewN ?_ _) | (with_reducible refine Kd.C_drew ?_) | exact HR394.out)) | (with_reducible refine Kd.C_alloc ?_ _) | (with_reducible refine Kd.C_drewN ?_ _) | (with_reducible refine Kd.C_drew ?_)))
         (case aB => exact (by exact XPrint.bz HB.out))
         (case aF => exact (fun k_ hk => ⟨(.inr (Nat.le_trans (by first | exact HK.out.1 | exact (show Kept w _ (fun k_ => P0_2_ k_) from by repeat (first | (with_reducible first | exact HK.out | apply Kept.alloc | apply Kept.drewN | apply Kept.drew | refine Kept.setCell ?_ (.inr GW382.out) _ | refine Kept.setCell ?_ (.inr GW383.out) _ | refine Kept.setCell ?_ (.inr GW384.out) _ | refine Kept.setCell ?_ (.inr GW387.out) _) | exact HK.out)).1) hk)), Kd.fresh' (Kd.R_lt (by (with_reducible repeat (first | apply Kd.R_alloc | apply Kd.R_drewN | apply Kd.R_drew)); exact HO0_2.out)) k_ hk, Kd.freshB (g := gb384) (o := .cells #[.int .u32 0, .int .i64 0, .int .i64 0] 59 (0, 0)) (XPrint.ak BK384.out) k_ hk, Kd.freshB (g := gb387) (o := .cells #[.int .u32 ((rd_T59 l0_2 t385).f0), .int .i64 ((rd_T59 l0_2 t385).f1.f0), .int .i64 ((rd_T59 l0_2 t385).f1.f1)] 59 (0, 0)) (XPrint.ak BK387.out) k_ hk⟩))
         (case aO => exact (by (with_reducible repeat (first | apply Kd.R_alloc | apply Kd.R_drewN | apply Kd.R_drew)); exact Kd.R_mono HO390.out (fun _ hk => ⟨hk.1.1.1.1, ⟨hk.1.1.2, ⟨hk.1.2, hk.2⟩⟩⟩)))
         (case aS => exact (below_size (by exact XPrint.bz HB.out)))
         (case aL => have := LMc21.out; omega)
         intro v396 w46 ho hb hg hat
         rw [← Ny395.out] at ho
         have HO397 := XPrint.A0 (ho)
         replace BK382 := XPrint.A0 (blk_grown (g := gb382) (o := .cells #[.int .i64 a0_0, .int .i64 a0_1, .slice (some ad386) l0_2.length co26] 33 (0, 0)) (XPrint.ak BK382.out) hg (Kd.R_ne HO390.out BK382.out (by decide)))
         replace BK383 := XPrint.A0 (blk_grown (g := gb383) (o := .cells #[.int .i64 0, .int .i64 0, .slice none 0 0] 33 (0, 0)) (XPrint.ak BK383.out) hg (Kd.R_ne HO390.out BK383.out (by decide)))
         replace BK384 := XPrint.A0 (blk_grown (g := gb384) (o := .cells #[.int .u32 0, .int .i64 0, .int .i64 0] 59 (0, 0)) (XPrint.ak BK384.out) hg (Kd.R_away HO390.out (fun _ hk => hk.1.2)))
         replace BK387 := XPrint.A0 (blk_grown (g := gb387) (o := .cells #[.int .u32 ((rd_T59 l0_2 t385).f0), .int .i64 ((rd_T59 l0_2 t385).f1.f0), .int .i64 ((rd_T59 l0_2 t385).f1.f1)] 59 (0, 0)) (XPrint.ak BK387.out) hg (Kd.R_away HO390.out (fun _ hk => hk.2)))
         replace HB := XPrint.A0 (hb)
         replace HK := XPrint.A0 (Kept.of_grown (S := (fun k_ => P0_2_ k_)) hg (by repeat (first | (with_reducible first | exact HK.out | apply Kept.alloc | apply Kept.drewN | apply Kept.drew | refine Kept.setCell ?_ (.inr GW382.out) _ | refine Kept.setCell ?_ (.inr GW383.out) _ | refine Kept.setCell ?_ (.inr GW384.out) _ | refine Kept.setCell ?_ (.inr GW387.out) _) | exact HK.out)) (fun k_ e_ => (HO390.out.1 k_ e_).1.1.1.1))
         replace HR394 := XPrint.A0 ((show Kd.C k59 w46 (some ad386) y391.length y391 from by rw [Ny391.out]; exact Kd.C_take (m := (t385 : Int).toNat) ((Kd.R_reads' (Kd.R_after (ok := (fun k_ => (P0_2_ k_ ∨ w.heap.size ≤ k_) ∧ k_ ≠ gb384 ∧ k_ ≠ gb387)) (by (with_reducible repeat (first | apply Kd.R_alloc | apply Kd.R_drewN | apply Kd.R_drew)); exact HO0_2.out) hg hat)).2.2) KL42.out))
         replace HR401 := XPrint.A0 ((show Kd.C k59 w46 A43 y398.length y398 from by rw [Ny398.out, KA43.out]; exact Kd.C_drop (m := ((ji22) : Int).toNat) (c := co26) ((Kd.R_reads' (Kd.R_after (ok := (fun k_ => (P0_2_ k_ ∨ w.heap.size ≤ k_) ∧ k_ ≠ gb384 ∧ k_ ≠ gb387)) (by (with_reducible repeat (first | apply Kd.R_alloc | apply Kd.R_drewN | apply Kd.R_drew)); exact HO0_2.out) hg hat)).2.2) KL43.out ((Kd.R_reads' (Kd.R_after (ok := (fun k_ => (P0_2_ k_ ∨ w.heap.size ≤ k_) ∧ k_ ≠ gb384 ∧ k_ ≠ gb387)) (by (with_reducible repeat (first | apply Kd.R_alloc | apply Kd.R_drewN | apply Kd.R_drew)); exact HO0_2.out) hg hat)).2.1)))
         replace HO0_2 := XPrint.A0 (Kd.R_after (ok := (fun k_ => (P0_2_ k_ ∨ w.heap.size ≤ k_) ∧ k_ ≠ gb384 ∧ k_ ≠ gb387)) (by (with_reducible repeat (first | apply Kd.R_alloc | apply Kd.R_drewN | apply Kd.R_drew)); exact HO0_2.out) hg hat)
         clear HO390 ho hb hg hat
         refine hK.out _ _ ⟨(blk_cell BK382.out 0).trans rfl, (blk_cell BK382.out 1).trans rfl, (blk_cell BK382.out 2).trans rfl⟩ (fun hHeld => ?_)
         clear hK K
         refine norm_ (a' := ?_) ?_ ?_
         rotate_left
         ·show Act.put _ (some 26) _ = _
          simp only [XPrint.pw, i64_w, i32_w]
          rfl
         refine one_ (i := 11) (N := some 32) (XPrint.L 14 4095) rfl rfl (one_of HT_.out (by kernel_rfl)) (by decide) (fun K hK => ?_)
         refine Kd.R_append_rows_step k59 (w0 := w0) w0.heap.size (by rfl) (.tmp 26) (.tmp 31) 24 59 (.agg #[(.int .u32 0), (.int .i64 0), (.int .i64 0)]) 24 rfl Tryz.underlying24 info59 rfl (by decide) (by omega) v396 y395 y398 _ _ _ (fun k_ => (P0_2_ k_ ∨ w.heap.size ≤ k_) ∧ some k_ ≠ (.slice (some ad386) l0_2.length co26 : Value).ownBlock ∧ k_ ≠ gb384 ∧ k_ ≠ gb387) (fun _ => False) rfl rfl ?aO ?aR (fun _ _ h => h) (fun _ h => h.elim) ?aF ?aB ?aS ?aL ?_
         (case aR => repeat (first | exact (by repeat (first | (with_reducible exact HR401.out) | (with_reducible refine Kd.C_alloc ?_ _) | (with_reducible refine Kd.C_drewN ?_ _) | (with_reducible refine Kd.C_drew ?_) | exact HR401.out)) | (with_reducible refine Kd.C_alloc ?_ _) | (with_reducible refine Kd.C_drewN ?_ _) | (with_reducible refine Kd.C_drew ?_)))
         (case aB => exact (by exact XPrint.bz HB.out))
         (case aF => exact (fun k_ hk => ⟨(.inr (Nat.le_trans (by first | exact HK.out.1 | exact (show Kept w _ (fun k_ => P0_2_ k_) from by repeat (first | (with_reducible first | exact HK.out | apply Kept.alloc | apply Kept.drewN | apply Kept.drew | refine Kept.setCell ?_ (.inr GW382.out) _ | refine Kept.setCell ?_ (.inr GW383.out) _ | refine Kept.setCell ?_ (.inr GW384.out) _ | refine Kept.setCell ?_ (.inr GW387.out) _) | exact HK.out)).1) hk)), Kd.fresh' (Kd.R_lt (by (with_reducible repeat (first | apply Kd.R_alloc | apply Kd.R_drewN | apply Kd.R_drew)); exact HO0_2.out)) k_ hk, Kd.freshB (g := gb384) (o := .cells #[.int .u32 0, .int .i64 0, .int .i64 0] 59 (0, 0)) (XPrint.ak BK384.out) k_ hk, Kd.freshB (g := gb387) (o := .cells #[.int .u32 ((rd_T59 l0_2 t385).f0), .int .i64 ((rd_T59 l0_2 t385).f1.f0), .int .i64 ((rd_T59 l0_2 t385).f1.f1)] 59 (0, 0)) (XPrint.ak BK387.out) k_ hk⟩))
         (case aO => exact (by (with_reducible repeat (first | apply Kd.R_alloc | apply Kd.R_drewN | apply Kd.R_drew)); exact HO397.out))
         (case aS => exact (below_size (by exact XPrint.bz HB.out)))
         (case aL => have := LMc25.out; omega)
         intro v403 w47 ho hb hg hat
         rw [← Ny402.out] at ho
         have HO404 := XPrint.A0 (ho)
         replace BK382 := XPrint.A0 (blk_grown (g := gb382) (o := .cells #[.int .i64 a0_0, .int .i64 a0_1, .slice (some ad386) l0_2.length co26] 33 (0, 0)) (XPrint.ak BK382.out) hg (Kd.R_ne HO397.out BK382.out (by decide)))
         replace BK383 := XPrint.A0 (blk_grown (g := gb383) (o := .cells #[.int .i64 0, .int .i64 0, .slice none 0 0] 33 (0, 0)) (XPrint.ak BK383.out) hg (Kd.R_ne HO397.out BK383.out (by decide)))
         replace BK384 := XPrint.A0 (blk_grown (g := gb384) (o := .cells #[.int .u32 0, .int .i64 0, .int .i64 0] 59 (0, 0)) (XPrint.ak BK384.out) hg (Kd.R_away HO397.out (fun _ hk => hk.2.2.1)))
         replace BK387 := XPrint.A0 (blk_grown (g := gb387) (o := .cells #[.int .u32 ((rd_T59 l0_2 t385).f0), .int .i64 ((rd_T59 l0_2 t385).f1.f0), .int .i64 ((rd_T59 l0_2 t385).f1.f1)] 59 (0, 0)) (XPrint.ak BK387.out) hg (Kd.R_away HO397.out (fun _ hk => hk.2.2.2)))
         replace HB := XPrint.A0 (hb)
         replace HK := XPrint.A0 (Kept.of_grown (S := (fun k_ => P0_2_ k_)) hg (by repeat (first | (with_reducible first | exact HK.out | apply Kept.alloc | apply Kept.drewN | apply Kept.drew | refine Kept.setCell ?_ (.inr GW382.out) _ | refine Kept.setCell ?_ (.inr GW383.out) _ | refine Kept.setCell ?_ (.inr GW384.out) _ | refine Kept.setCell ?_ (.inr GW387.out) _) | exact HK.out)) (fun k_ e_ => (HO397.out.1 k_ e_).1))
         replace HR394 := XPrint.A0 ((show Kd.C k59 w47 (some ad386) y391.length y391 from by rw [Ny391.out]; exact Kd.C_take (m := (t385 : Int).toNat) ((Kd.R_reads' (Kd.R_after (ok := (fun k_ => (P0_2_ k_ ∨ w.heap.size ≤ k_) ∧ k_ ≠ gb384 ∧ k_ ≠ gb387)) (by (with_reducible repeat (first | apply Kd.R_alloc | apply Kd.R_drewN | apply Kd.R_drew)); exact HO0_2.out) hg hat)).2.2) KL42.out))
         replace HR401 := XPrint.A0 ((show Kd.C k59 w47 A43 y398.length y398 from by rw [Ny398.out, KA43.out]; exact Kd.C_drop (m := ((ji22) : Int).toNat) (c := co26) ((Kd.R_reads' (Kd.R_after (ok := (fun k_ => (P0_2_ k_ ∨ w.heap.size ≤ k_) ∧ k_ ≠ gb384 ∧ k_ ≠ gb387)) (by (with_reducible repeat (first | apply Kd.R_alloc | apply Kd.R_drewN | apply Kd.R_drew)); exact HO0_2.out) hg hat)).2.2) KL43.out ((Kd.R_reads' (Kd.R_after (ok := (fun k_ => (P0_2_ k_ ∨ w.heap.size ≤ k_) ∧ k_ ≠ gb384 ∧ k_ ≠ gb387)) (by (with_reducible repeat (first | apply Kd.R_alloc | apply Kd.R_drewN | apply Kd.R_drew)); exact HO0_2.out) hg hat)).2.1)))
         replace HO0_2 := XPrint.A0 (Kd.R_after (ok := (fun k_ => (P0_2_ k_ ∨ w.heap.size ≤ k_) ∧ k_ ≠ gb384 ∧ k_ ≠ gb387)) (by (with_reducible repeat (first | apply Kd.R_alloc | apply Kd.R_drewN | apply Kd.R_drew)); exact HO0_2.out) hg hat)
         clear HO397 ho hb hg hat
         obtain ⟨Ao48, co48, eo48⟩ := Kd.R_slice HO404.out
         (first | subst eo48 | (injection eo48 with f1_ f2_ f3_; have f4_ := f1_.symm; have f5_ := f3_.symm; clear f1_ f2_ f3_; subst f4_; subst f5_))
         refine hK.out _ _ ⟨(blk_cell BK382.out 0).trans rfl, (blk_cell BK382.out 1).trans rfl, (blk_cell BK382.out 2).trans rfl⟩ (fun hHeld => ?_)
         clear hK K
         refine norm_ (a' := ?_) ?_ ?_
         rotate_left
         ·show Act.put _ (some 32) _ = _
          simp only [XPrint.pw, i64_w, i32_w]
          rfl
         refine XPrint.pu 12 33 (XPrint.L 14 8191) HT_.out (v := ?_) (a' := ?_) ?_ ?_ ?_
         rotate_left
         ·intro w'
          go_simp
          with_reducible rfl
         rotate_left
         ·simp only [XPrint.pw, i64_w, i32_w]
          rfl
         refine last_ (i := 13) (N := none) (XPrint.L 14 16383) rfl rfl (one_of HT_.out (by kernel_rfl)) (by decide) (fun K hK => ?_)
         have hs49 : w47.cell? ⟨gb382, 2, none⟩ = some (.slice (some ad386) l0_2.length co26) := (blk_cell BK382.out 2).trans rfl
         have hfs49 := blk_frozen BK382.out 2
         have hns49_1 := NB383_382.out
         have hns49_2 := NB384_382.out
         have hns49_3 := NB387_382.out
         have hms49_1 := NB382_383.out
         have hms49_2 := NB382_384.out
         have hms49_3 := NB382_387.out
         refine skip_ (w1 := ?_) (by rfl) rfl ?_ ?_
         rotate_left
         ·go_simp
          rfl
         refine hK.out _ _ ?_
         clear hK K
         refine done_ (done_of HT_.out (by kernel_rfl)) ?_
         try go_wp2
         have n0_ : Aside0 (Kd.R k59 59 (w47.setCell ⟨gb382, 2, none⟩ (.slice Ao48 y402.length co48)) w0.heap.size (fun k_ => (P0_2_ k_ ∨ w.heap.size ≤ k_) ∧ some k_ ≠ (.slice Ao48 y402.length co48 : Value).ownBlock ∧ k_ ≠ gb384 ∧ k_ ≠ gb387) (.slice (some ad386) l0_2.length co26) l0_2) := ⟨by (with_reducible repeat (first | apply Kd.R_alloc | apply Kd.R_drewN | apply Kd.R_drew)); exact Kd.R_mono (Kd.R_far (p := ⟨gb382, 2, none⟩) (Kd.R_types HO0_2.out BK382.out (by decide)) (fun _ hk => hk.2) (.slice Ao48 y402.length co48)) (fun _ hk => ⟨hk.1.1.1, ⟨hk.1.2, ⟨hk.1.1.2.1, hk.1.1.2.2⟩⟩⟩)⟩
         have n1_ : Aside0 (Kd.R k59 59 (w47.setCell ⟨gb382, 2, none⟩ (.slice Ao48 y402.length co48)) w0.heap.size (fun k_ => (P0_2_ k_ ∨ w.heap.size ≤ k_) ∧ some k_ ≠ (.slice (some ad386) l0_2.length co26 : Value).ownBlock ∧ k_ ≠ gb384 ∧ k_ ≠ gb387) (.slice Ao48 y402.length co48) y402) := ⟨by (with_reducible repeat (first | apply Kd.R_alloc | apply Kd.R_drewN | apply Kd.R_drew)); exact Kd.R_mono (Kd.R_far (p := ⟨gb382, 2, none⟩) (Kd.R_types HO404.out BK382.out (by decide)) (fun _ hk => hk.2) (.slice Ao48 y402.length co48)) (fun _ hk => ⟨hk.1.1, ⟨hk.1.2.1, ⟨hk.1.2.2.1, hk.1.2.2.2⟩⟩⟩)⟩
         have n2_ : Aside0 ((w47.setCell ⟨gb382, 2, none⟩ (.slice Ao48 y402.length co48)).heap[gb382]? = some (.cells #[.int .i64 a0_0, .int .i64 a0_1, .slice Ao48 y402.length co48] 33 (0, 0))) := ⟨by (repeat with_reducible first | refine XPrint.d1 ?_ | refine XPrint.d2 ?_ _ | refine XPrint.d3 ?_ _); refine blk_put (cs := #[.int .i64 a0_0, .int .i64 a0_1, .slice (some ad386) l0_2.length co26]) ?_ 2 _ rfl; (repeat with_reducible first | refine XPrint.d1 ?_ | refine XPrint.d2 ?_ _ | refine XPrint.d3 ?_ _); exact BK382.out⟩
         have n3_ : Aside0 ((w47.setCell ⟨gb382, 2, none⟩ (.slice Ao48 y402.length co48)).heap[gb383]? = some (.cells #[.int .i64 0, .int .i64 0, .slice none 0 0] 33 (0, 0))) := ⟨by (repeat with_reducible first | refine XPrint.d1 ?_ | refine XPrint.d2 ?_ _ | refine XPrint.d3 ?_ _); refine blk_far ?_ NB383_382.out _; (repeat with_reducible first | refine XPrint.d1 ?_ | refine XPrint.d2 ?_ _ | refine XPrint.d3 ?_ _); exact BK383.out⟩
         have n4_ : Aside0 ((w47.setCell ⟨gb382, 2, none⟩ (.slice Ao48 y402.length co48)).heap[gb384]? = some (.cells #[.int .u32 0, .int .i64 0, .int .i64 0] 59 (0, 0))) := ⟨by (repeat with_reducible first | refine XPrint.d1 ?_ | refine XPrint.d2 ?_ _ | refine XPrint.d3 ?_ _); refine blk_far ?_ NB384_382.out _; (repeat with_reducible first | refine XPrint.d1 ?_ | refine XPrint.d2 ?_ _ | refine XPrint.d3 ?_ _); exact BK384.out⟩
         have n5_ : Aside0 ((w47.setCell ⟨gb382, 2, none⟩ (.slice Ao48 y402.length co48)).heap[gb387]? = some (.cells #[.int .u32 ((rd_T59 l0_2 t385).f0), .int .i64 ((rd_T59 l0_2 t385).f1.f0), .int .i64 ((rd_T59 l0_2 t385).f1.f1)] 59 (0, 0))) := ⟨by (repeat with_reducible first | refine XPrint.d1 ?_ | refine XPrint.d2 ?_ _ | refine XPrint.d3 ?_ _); refine blk_far ?_ NB387_382.out _; (repeat with_reducible first | refine XPrint.d1 ?_ | refine XPrint.d2 ?_ _ | refine XPrint.d3 ?_ _); exact BK387.out⟩
         have n6_ : Aside0 (Kept w (w47.setCell ⟨gb382, 2, none⟩ (.slice Ao48 y402.length co48)) (fun k_ => P0_2_ k_)) := ⟨by repeat (first | (with_reducible first | exact HK.out | apply Kept.alloc | apply Kept.drewN | apply Kept.drew | refine Kept.setCell ?_ (.inr GW382.out) _ | refine Kept.setCell ?_ (.inr GW383.out) _ | refine Kept.setCell ?_ (.inr GW384.out) _ | refine Kept.setCell ?_ (.inr GW387.out) _) | exact HK.out)⟩
         have n7_ : Aside0 (Below w0.heap.size w0 (w47.setCell ⟨gb382, 2, none⟩ (.slice Ao48 y402.length co48))) := ⟨by repeat (first | (with_reducible first | exact HB.out | apply below_alloc | apply pw_below_drewN | apply below_drew1 | refine below_set ?_ GE382.out | refine below_set ?_ GE383.out | refine below_set ?_ GE384.out | refine below_set ?_ GE387.out) | exact HB.out)⟩
         (try clear HO0_2)
         (try clear HO404)
         (try clear BK382)
         (try clear BK383)
         (try clear BK384)
         (try clear BK387)
         (try clear HK)
         (try clear HB)
         generalize (w47.setCell ⟨gb382, 2, none⟩ (.slice Ao48 y402.length co48)) = w50 at n0_ n1_ n2_ n3_ n4_ n5_ n6_ n7_ ⊢
         have HO0_2 := n0_
         have HO404 := n1_
         have BK382 := n2_
         have BK383 := n3_
         have BK384 := n4_
         have BK387 := n5_
         have HK := n6_
         have HB := n7_
         clear n0_ n1_ n2_ n3_ n4_ n5_ n6_ n7_
         replace HO0_2 := XPrint.A0 (Kd.R_drew HO0_2.out)
         replace HO404 := XPrint.A0 (Kd.R_drew HO404.out)
         replace BK382 := XPrint.A0 (blk_drew BK382.out)
         replace BK383 := XPrint.A0 (blk_drew BK383.out)
         replace BK384 := XPrint.A0 (blk_drew BK384.out)
         replace BK387 := XPrint.A0 (blk_drew BK387.out)
         replace HK := XPrint.A0 (Kept.drew HK.out)
         replace HB := XPrint.A0 (below_drew1 HB.out)
         refine start_ (n := 5) (S := fun w' => w'.cell? ⟨gb382, 0, none⟩ = some (.int .i64 a0_0) ∧ w'.cell? ⟨gb382, 1, none⟩ = some (.int .i64 a0_1) ∧ w'.cell? ⟨gb382, 2, none⟩ = some (.slice Ao48 y402.length co48) ∧ w'.cell? ⟨gb387, 0, none⟩ = some (.int .u32 ((rd_T59 l0_2 t385).f0)) ∧ w'.cell? ⟨gb387, 1, none⟩ = some (.int .i64 ((rd_T59 l0_2 t385).f1.f0)) ∧ w'.cell? ⟨gb387, 2, none⟩ = some (.int .i64 ((rd_T59 l0_2 t385).f1.f1))) (ds := []) #[false, false, false, false, false] (by kernel_rfl) rfl rfl ⟨(blk_cell BK382.out 0).trans rfl, (blk_cell BK382.out 1).trans rfl, (blk_cell BK382.out 2).trans rfl, (blk_cell BK387.out 0).trans rfl, (blk_cell BK387.out 1).trans rfl, (blk_cell BK387.out 2).trans rfl⟩ (fun hHeld => ?_)
         generalize w50.drew = w51 at HO0_2 HO404 BK382 BK383 BK384 BK387 HK HB hHeld ⊢
         refine take_ (i := 0) (N := some 34) (v := ?_) (a' := ?_) (XPrint.L 5 1) rfl rfl (by kernel_rfl) (fun _ _ _ h => h) (Or.inl ⟨by rfl, ?_⟩) hHeld ?_ ?_
         rotate_left
         ·rintro w' ⟨s0, s1, s2, s3, s4, s5⟩
          go_simp
          with_reducible rfl
         rotate_left
         ·simp only [XPrint.pw, i64_w, i32_w]
          rfl
         refine take_ (i := 1) (N := some 35) (v := ?_) (a' := ?_) (XPrint.L 5 3) rfl rfl (by kernel_rfl) (fun _ _ _ h => h) (Or.inl ⟨by rfl, ?_⟩) hHeld ?_ ?_
         rotate_left
         ·rintro w' ⟨s0, s1, s2, s3, s4, s5⟩
          go_simp
          with_reducible rfl
         rotate_left
         ·simp only [XPrint.pw, i64_w, i32_w]
          rfl
         refine one_ (i := 2) (N := none) (XPrint.L 5 7) rfl rfl (by kernel_rfl) (by decide) (fun K hK => ?_)
         have hs52 : w51.cell? ⟨gb383, 0, none⟩ = some (.int .i64 0) := (blk_cell BK383.out 0).trans rfl
         have hfs52 := blk_frozen BK383.out 0
         have hns52_0 := NB382_383.out
         have hns52_2 := NB384_383.out
         have hns52_3 := NB387_383.out
         have hms52_0 := NB383_382.out
         have hms52_2 := NB383_384.out
         have hms52_3 := NB383_387.out
         have hs53 : w51.cell? ⟨gb383, 1, none⟩ = some (.int .i64 0) := (blk_cell BK383.out 1).trans rfl
         have hfs53 := blk_frozen BK383.out 1
         have hns53_0 := NB382_383.out
         have hns53_2 := NB384_383.out
         have hns53_3 := NB387_383.out
         have hms53_0 := NB383_382.out
         have hms53_2 := NB383_384.out
         have hms53_3 := NB383_387.out
         have hs54 : w51.cell? ⟨gb383, 2, none⟩ = some (.slice none 0 0) := (blk_cell BK383.out 2).trans rfl
         have hfs54 := blk_frozen BK383.out 2
         have hns54_0 := NB382_383.out
         have hns54_2 := NB384_383.out
         have hns54_3 := NB387_383.out
         have hms54_0 := NB383_382.out
         have hms54_2 := NB383_384.out
         have hms54_3 := NB383_387.out
         refine skip_ (w1 := ?_) (by rfl) rfl ?_ ?_
         rotate_left
         ·go_simp
          rfl
         refine hK.out _ _ ⟨((cell_far (p := ⟨gb383, _, none⟩) NB382_383.out _).trans (((cell_far (p := ⟨gb383, _, none⟩) NB382_383.out _).trans (((cell_far (p := ⟨gb383, _, none⟩) NB382_383.out _).trans (hHeld.1)))))), ((cell_far (p := ⟨gb383, _, none⟩) NB382_383.out _).trans (((cell_far (p := ⟨gb383, _, none⟩) NB382_383.out _).trans (((cell_far (p := ⟨gb383, _, none⟩) NB382_383.out _).trans (hHeld.2.1)))))), ((cell_far (p := ⟨gb383, _, none⟩) NB382_383.out _).trans (((cell_far (p := ⟨gb383, _, none⟩) NB382_383.out _).trans (((cell_far (p := ⟨gb383, _, none⟩) NB382_383.out _).trans (hHeld.2.2.1)))))), ((cell_far (p := ⟨gb383, _, none⟩) NB387_383.out _).trans (((cell_far (p := ⟨gb383, _, none⟩) NB387_383.out _).trans (((cell_far (p := ⟨gb383, _, none⟩) NB387_383.out _).trans (hHeld.2.2.2.1)))))), ((cell_far (p := ⟨gb383, _, none⟩) NB387_383.out _).trans (((cell_far (p := ⟨gb383, _, none⟩) NB387_383.out _).trans (((cell_far (p := ⟨gb383, _, none⟩) NB387_383.out _).trans (hHeld.2.2.2.2.1)))))), ((cell_far (p := ⟨gb383, _, none⟩) NB387_383.out _).trans (((cell_far (p := ⟨gb383, _, none⟩) NB387_383.out _).trans (((cell_far (p := ⟨gb383, _, none⟩) NB387_383.out _).trans (hHeld.2.2.2.2.2))))))⟩ (fun hHeld => ?_)
         clear hK K
         refine one_ (i := 3) (N := none) (XPrint.L 5 15) rfl rfl (by kernel_rfl) (by decide) (fun K hK => ?_)
         have hs55 : w51.cell? ⟨gb384, 0, none⟩ = some (.int .u32 0) := (blk_cell BK384.out 0).trans rfl
         have hfs55 := blk_frozen BK384.out 0
         have hns55_0 := NB382_384.out
         have hns55_1 := NB383_384.out
         have hns55_3 := NB387_384.out
         have hms55_0 := NB384_382.out
         have hms55_1 := NB384_383.out
         have hms55_3 := NB384_387.out
         have hs56 : w51.cell? ⟨gb384, 1, none⟩ = some (.int .i64 0) := (blk_cell BK384.out 1).trans rfl
         have hfs56 := blk_frozen BK384.out 1
         have hns56_0 := NB382_384.out
         have hns56_1 := NB383_384.out
         have hns56_3 := NB387_384.out
         have hms56_0 := NB384_382.out
         have hms56_1 := NB384_383.out
         have hms56_3 := NB384_387.out
         have hs57 : w51.cell? ⟨gb384, 2, none⟩ = some (.int .i64 0) := (blk_cell BK384.out 2).trans rfl
         have hfs57 := blk_frozen BK384.out 2
         have hns57_0 := NB382_384.out
         have hns57_1 := NB383_384.out
         have hns57_3 := NB387_384.out
         have hms57_0 := NB384_382.out
         have hms57_1 := NB384_383.out
         have hms57_3 := NB384_387.out
         refine skip_ (w1 := ?_) (by rfl) rfl ?_ ?_
         rotate_left
         ·go_simp
          rfl
         refine hK.out _ _ ⟨((cell_far (p := ⟨gb384, _, none⟩) NB382_384.out _).trans (((cell_far (p := ⟨gb384, _, none⟩) NB382_384.out _).trans (((cell_far (p := ⟨gb384, _, none⟩) NB382_384.out _).trans (hHeld.1)))))), ((cell_far (p := ⟨gb384, _, none⟩) NB382_384.out _).trans (((cell_far (p := ⟨gb384, _, none⟩) NB382_384.out _).trans (((cell_far (p := ⟨gb384, _, none⟩) NB382_384.out _).trans (hHeld.2.1)))))), ((cell_far (p := ⟨gb384, _, none⟩) NB382_384.out _).trans (((cell_far (p := ⟨gb384, _, none⟩) NB382_384.out _).trans (((cell_far (p := ⟨gb384, _, none⟩) NB382_384.out _).trans (hHeld.2.2.1)))))), ((cell_far (p := ⟨gb384, _, none⟩) NB387_384.out _).trans (((cell_far (p := ⟨gb384, _, none⟩) NB387_384.out _).trans (((cell_far (p := ⟨gb384, _, none⟩) NB387_384.out _).trans (hHeld.2.2.2.1)))))), ((cell_far (p := ⟨gb384, _, none⟩) NB387_384.out _).trans (((cell_far (p := ⟨gb384, _, none⟩) NB387_384.out _).trans (((cell_far (p := ⟨gb384, _, none⟩) NB387_384.out _).trans (hHeld.2.2.2.2.1)))))), ((cell_far (p := ⟨gb384, _, none⟩) NB387_384.out _).trans (((cell_far (p := ⟨gb384, _, none⟩) NB387_384.out _).trans (((cell_far (p := ⟨gb384, _, none⟩) NB387_384.out _).trans (hHeld.2.2.2.2.2))))))⟩ (fun hHeld => ?_)
         clear hK K
         refine pure_ (i := 4) (N := some 6) (v := ?_) (a' := ?_) (XPrint.L 5 31) rfl rfl (by kernel_rfl) (fun _ _ _ h => h) (Or.inl ⟨by rfl, ?_⟩) ?_ ?_
         rotate_left
         ·intro w'
          go_simp
          with_reducible rfl
         rotate_left
         ·simp only [XPrint.pw, i64_w, i32_w]
          rfl
         refine done_ (by kernel_rfl) ?_
         try go_wp2
         refine bodyPost_ret (results_list (rs := [.cell 4 33, .cell 5 59, .tmp 6]) rfl (by simp) (.cell gb383 33 #[.int .i64 a0_0, .int .i64 a0_1, .slice Ao48 y402.length co48] (0, 0) _ rfl (by (repeat with_reducible first | refine XPrint.d1 ?_ | refine XPrint.d2 ?_ _ | refine XPrint.d3 ?_ _); refine blk_far ?_ NB383_384.out _; (repeat with_reducible first | refine XPrint.d1 ?_ | refine XPrint.d2 ?_ _ | refine XPrint.d3 ?_ _); refine blk_far ?_ NB383_384.out _; (repeat with_reducible first | refine XPrint.d1 ?_ | refine XPrint.d2 ?_ _ | refine XPrint.d3 ?_ _); refine blk_far ?_ NB383_384.out _; (repeat with_reducible first | refine XPrint.d1 ?_ | refine XPrint.d2 ?_ _ | refine XPrint.d3 ?_ _); refine blk_put (cs := #[.int .i64 a0_0, .int .i64 a0_1, .slice none 0 0]) ?_ 2 _ rfl; (repeat with_reducible first | refine XPrint.d1 ?_ | refine XPrint.d2 ?_ _ | refine XPrint.d3 ?_ _); refine blk_put (cs := #[.int .i64 a0_0, .int .i64 0, .slice none 0 0]) ?_ 1 _ rfl; (repeat with_reducible first | refine XPrint.d1 ?_ | refine XPrint.d2 ?_ _ | refine XPrint.d3 ?_ _); refine blk_put (cs := #[.int .i64 0, .int .i64 0, .slice none 0 0]) ?_ 0 _ rfl; (repeat with_reducible first | refine XPrint.d1 ?_ | refine XPrint.d2 ?_ _ | refine XPrint.d3 ?_ _); exact BK383.out) Tryz.underlying33 rfl (by kernel_rfl) (.cell gb384 59 #[.int .u32 ((rd_T59 l0_2 t385).f0), .int .i64 ((rd_T59 l0_2 t385).f1.f0), .int .i64 ((rd_T59 l0_2 t385).f1.f1)] (0, 0) _ rfl (by (repeat with_reducible first | refine XPrint.d1 ?_ | refine XPrint.d2 ?_ _ | refine XPrint.d3 ?_ _); refine blk_put (cs := #[.int .u32 ((rd_T59 l0_2 t385).f0), .int .i64 ((rd_T59 l0_2 t385).f1.f0), .int .i64 0]) ?_ 2 _ rfl; (repeat with_reducible first | refine XPrint.d1 ?_ | refine XPrint.d2 ?_ _ | refine XPrint.d3 ?_ _); refine blk_put (cs := #[.int .u32 ((rd_T59 l0_2 t385).f0), .int .i64 0, .int .i64 0]) ?_ 1 _ rfl; (repeat with_reducible first | refine XPrint.d1 ?_ | refine XPrint.d2 ?_ _ | refine XPrint.d3 ?_ _); refine blk_put (cs := #[.int .u32 0, .int .i64 0, .int .i64 0]) ?_ 0 _ rfl; (repeat with_reducible first | refine XPrint.d1 ?_ | refine XPrint.d2 ?_ _ | refine XPrint.d3 ?_ _); refine blk_far ?_ NB384_383.out _; (repeat with_reducible first | refine XPrint.d1 ?_ | refine XPrint.d2 ?_ _ | refine XPrint.d3 ?_ _); refine blk_far ?_ NB384_383.out _; (repeat with_reducible first | refine XPrint.d1 ?_ | refine XPrint.d2 ?_ _ | refine XPrint.d3 ?_ _); refine blk_far ?_ NB384_383.out _; (repeat with_reducible first | refine XPrint.d1 ?_ | refine XPrint.d2 ?_ _ | refine XPrint.d3 ?_ _); exact BK384.out) Tryz.underlying59 rfl (by kernel_rfl) (.tmp .nil)))) rfl ?_
         exact ⟨_, by first | rfl | (simp [errW_none, errW_some] <;> rfl) | (simp only [← hji22]; first | rfl | (simp [errW_none, errW_some] <;> rfl)) | (simp [*, errW_none, errW_some] <;> rfl), by (with_reducible repeat (first | apply Kd.R_alloc | apply Kd.R_drewN | apply Kd.R_drew)); exact Kd.R_mono (Kd.R_far (p := ⟨gb384, 2, none⟩) (Kd.R_far (p := ⟨gb384, 1, none⟩) (Kd.R_far (p := ⟨gb384, 0, none⟩) (Kd.R_far (p := ⟨gb383, 2, none⟩) (Kd.R_far (p := ⟨gb383, 1, none⟩) (Kd.R_far (p := ⟨gb383, 0, none⟩) (Kd.R_mono (Kd.R_types HO404.out BK383.out (by decide)) (fun k_ hk => (⟨hk, hk.1.2.2.1⟩ : _ ∧ k_ ≠ gb384))) (fun _ hk => hk.1.2) (.int .i64 a0_0)) (fun _ hk => hk.1.2) (.int .i64 a0_1)) (fun _ hk => hk.1.2) (.slice Ao48 y402.length co48)) (fun _ hk => hk.2) (.int .u32 ((rd_T59 l0_2 t385).f0))) (fun _ hk => hk.2) (.int .i64 ((rd_T59 l0_2 t385).f1.f0))) (fun _ hk => hk.2) (.int .i64 ((rd_T59 l0_2 t385).f1.f1))) (fun _ hk => hk.1.1.1), by repeat (first | (with_reducible first | exact HB.out | apply below_alloc | apply pw_below_drewN | apply below_drew1 | refine below_set ?_ GE382.out | refine below_set ?_ GE383.out | refine below_set ?_ GE384.out | refine below_set ?_ GE387.out) | exact HB.out), by repeat (first | (with_reducible first | exact HK.out | apply Kept.alloc | apply Kept.drewN | apply Kept.drew | refine Kept.setCell ?_ (.inr GW382.out) _ | refine Kept.setCell ?_ (.inr GW383.out) _ | refine Kept.setCell ?_ (.inr GW384.out) _ | refine Kept.setCell ?_ (.inr GW387.out) _) | exact HK.out)⟩
        ·rw [if_neg c25] at H
         exact absurd H (by simp)
       ·rw [if_neg c24] at H
        exact absurd H (by simp)
      ·rw [if_neg c23] at H
       exact absurd H (by simp)
     ·rw [if_neg c21] at H
      exact absurd H (by simp)
    ·rw [if_neg c20] at H
     exact absurd H (by simp)
   ·rw [if_neg c18] at H
    exact absurd H (by simp)
  ·rw [if_neg c17] at H
   exact absurd H (by simp)
end Go.Proofs.YthibppfdonepoaaGreat.PNodePlays
