-- printed by this session's own driver over the kit's printer: Lean checks it
import Derived.Test.YtdcgilnmncanfaaCVecSums0
import Derived.Test.YtdcgilnmncanfaaCVecSums1
import Derived.Test.YtdcgilnmncanfaaCVecSums2
import Derived.Test.YtdcgilnmncanfaaCVecSums5
import Derived.Test.YtdcgilnmncanfaaCVecSums7
import Derived.Test.YtdcgilnmncanfaaCVecSums8
namespace Go.Proofs.Ytdcgilnmncanfaa.PVecSums
open Go.RowKit Go.Proofs.YtdcgilnmncanfaaW.PrintWords Go.Proofs.YtdcgilnmncanfaaW.PrintLast Go.Proofs.YtdcgilnmncanfaaW.PrintMore
attribute [local go_sem] max2_int min2_int max_two min_two max_three min_three max_four min_four   -- for this text's walks alone
set_option linter.unusedVariables false
set_option linter.unusedSimpArgs false

attribute [local go_sem high] eqA23
/-! ### liverylaw01_VecSums: function 4 -/
mutual
def liverylaw01_VecSums.j0 : Nat → List (S23) → Int → Bool → Int → Int → Option (Bool)
 | 0, _, _, _, _, _ => none
 | k + 1, x0, x4, x32, x323000, x323001 => if x32 = true then (none) else (if x4 = 0 then (liverylaw01_VecSums.j1 k x0 ((x0.length : Int) == 0) x323000 x323001) else (liverylaw01_VecSums.j1 k x0 true x323000 x323001))
def liverylaw01_VecSums.j1 : Nat → List (S23) → Bool → Int → Int → Option (Bool)
 | 0, _, _, _, _ => none
 | k + 1, x0, x39, x323000, x323001 => if x39 = true then ((liverylaw01_head.f k).bind fun t327 => (some t327)) else (if 0 ≤ (wrap64 ((x0.length : Int) - 1)) then (if (wrap64 ((x0.length : Int) - 1)) ≤ (x0.length : Int) then ((vec_Add.f k (x0.take ((wrap64 ((x0.length : Int) - 1)) : Int).toNat)).bind fun bt332 => (if (wrap64 ((x0.length : Int) - 1)) < (x0.length : Int) then ((vec_Sub.f k x323000 x323001 ((rd_T23 x0 (wrap64 ((x0.length : Int) - 1))).f0) ((rd_T23 x0 (wrap64 ((x0.length : Int) - 1))).f1)).bind fun bt337 => (if bt332.2.2 = 0 then (if bt337.2.2 = 0 then (if (bt337.1 == bt332.1 && (bt337.2.1 == bt332.2.1)) = true then ((liverylaw01_head.f k).bind fun t341 => (some t341)) else (none)) else (none)) else (none))) else (none))) else (none)) else (none))
end
def liverylaw01_VecSums.f (k : Nat) (l0 : List (S23)) : Option (Bool) := if (l0.length : Int) > 100 then ((liverylaw01_head.f k).bind fun t318 => (some t318)) else ((vec_Add.f k l0).bind fun bt319 => ((liveryref01_Sum.f k l0).bind fun bt323 => (if (!(bt319.1 == bt323.1) || (!(bt319.2.1 == bt323.2.1))) = true then (none) else (liverylaw01_VecSums.j0 k l0 bt319.2.2 (bt319.2.2 != bt323.2.2) bt319.1 bt319.2.1))))
theorem liverylaw01_VecSums.mono_l : ∀ k, (∀ y0 y1 y2 y3 y4, LeO (liverylaw01_VecSums.j0 k y0 y1 y2 y3 y4) (liverylaw01_VecSums.j0 (k + 1) y0 y1 y2 y3 y4)) ∧ (∀ y0 y1 y2 y3, LeO (liverylaw01_VecSums.j1 k y0 y1 y2 y3) (liverylaw01_VecSums.j1 (k + 1) y0 y1 y2 y3))
 | 0 => ⟨fun _ _ _ _ _ r h => by simp [liverylaw01_VecSums.j0] at h, fun _ _ _ _ r h => by simp [liverylaw01_VecSums.j1] at h⟩
 | k + 1 => by
  obtain ⟨ih0, ih1⟩ := liverylaw01_VecSums.mono_l k
  refine ⟨?_, ?_⟩
  ·intro y0 y1 y2 y3 y4
   unfold liverylaw01_VecSums.j0
   repeat' first
   | (with_reducible exact ih0 _ _ _ _ _)
   | (with_reducible exact ih1 _ _ _ _)
   | (with_reducible exact liverylaw01_head.mono _)
   | (with_reducible exact liveryref01_Sum.mono _ _)
   | (with_reducible exact vec_Add.mono _ _)
   | (with_reducible exact vec_Sub.mono _ _ _ _ _)
   | (with_reducible exact LeO.refl _)
   | (with_reducible exact LeO.none _)
   | (with_reducible refine LeO.ite ?_ ?_)
   | (with_reducible refine LeO.bind ?_ (fun _ => ?_))
   | exact ih0 _ _ _ _ _
   | exact ih1 _ _ _ _
   | exact liverylaw01_head.mono _
   | exact liveryref01_Sum.mono _ _
   | exact vec_Add.mono _ _
   | exact vec_Sub.mono _ _ _ _ _
   | exact LeO.none _
   | refine LeO.ite ?_ ?_
   | refine LeO.bind ?_ (fun _ => ?_)
  ·intro y0 y1 y2 y3
   unfold liverylaw01_VecSums.j1
   repeat' first
   | (with_reducible exact ih0 _ _ _ _ _)
   | (with_reducible exact ih1 _ _ _ _)
   | (with_reducible exact liverylaw01_head.mono _)
   | (with_reducible exact liveryref01_Sum.mono _ _)
   | (with_reducible exact vec_Add.mono _ _)
   | (with_reducible exact vec_Sub.mono _ _ _ _ _)
   | (with_reducible exact LeO.refl _)
   | (with_reducible exact LeO.none _)
   | (with_reducible refine LeO.ite ?_ ?_)
   | (with_reducible refine LeO.bind ?_ (fun _ => ?_))
   | exact ih0 _ _ _ _ _
   | exact ih1 _ _ _ _
   | exact liverylaw01_head.mono _
   | exact liveryref01_Sum.mono _ _
   | exact vec_Add.mono _ _
   | exact vec_Sub.mono _ _ _ _ _
   | exact LeO.none _
   | refine LeO.ite ?_ ?_
   | refine LeO.bind ?_ (fun _ => ?_)
theorem liverylaw01_VecSums.mono : ∀ a0 k, LeO (liverylaw01_VecSums.f k a0) (liverylaw01_VecSums.f (k + 1) a0) := by
 intro a0 k
 obtain ⟨ih0, ih1⟩ := liverylaw01_VecSums.mono_l k
 unfold liverylaw01_VecSums.f
 repeat' first
   | (with_reducible exact ih0 _ _ _ _ _)
   | (with_reducible exact ih1 _ _ _ _)
   | (with_reducible exact liverylaw01_head.mono _)
   | (with_reducible exact liveryref01_Sum.mono _ _)
   | (with_reducible exact vec_Add.mono _ _)
   | (with_reducible exact vec_Sub.mono _ _ _ _ _)
   | (with_reducible exact LeO.refl _)
   | (with_reducible exact LeO.none _)
   | (with_reducible refine LeO.ite ?_ ?_)
   | (with_reducible refine LeO.bind ?_ (fun _ => ?_))
   | exact ih0 _ _ _ _ _
   | exact ih1 _ _ _ _
   | exact liverylaw01_head.mono _
   | exact liveryref01_Sum.mono _ _
   | exact vec_Add.mono _ _
   | exact vec_Sub.mono _ _ _ _ _
   | exact LeO.none _
   | refine LeO.ite ?_ ?_
   | refine LeO.bind ?_ (fun _ => ?_)
def liverylaw01_VecSums.T10 : Bool × List (List Nat × List Nat) := (true, [([], []), ([], []), ([], []), ([2], [2]), ([3], [3]), ([1, 4], [1, 4]), ([5], [5]), ([0, 6], [0, 6]), ([7], [7]), ([8], [8]), ([8], [8]), ([], []), ([11, 9, 7, 0, 1, 2, 3, 4, 5, 6, 7, 8, 9, 11], [9, 11]), ([10, 12, 0, 1, 2, 3, 4, 5, 6, 7, 8, 9, 10, 11, 12], [10])])
def liverylaw01_VecSums.B10 : List Nat := [0, 0, 0, 4, 12, 30, 62, 127, 255, 511, 511, 0, 3071, 8191]
theorem liverylaw01_VecSums.tab10 : rtab .any (opsOf Try.f4 10) = liverylaw01_VecSums.T10 := by kernel_rfl
theorem liverylaw01_VecSums.bits10 : waitsOk liverylaw01_VecSums.T10.2 liverylaw01_VecSums.B10 = true := by kernel_rfl
set_option maxHeartbeats 8000000 in
set_option maxRecDepth 100000 in
theorem liverylaw01_VecSums.calls (k : Nat) (A0 : Option Addr) (c0 : Nat) (l0 : List (S23)) (r : Bool) (w : World) (hr0 : Kd.C k23 w A0 l0.length l0) (hc0 : l0.length ≤ c0) (h : liverylaw01_VecSums.f k l0 = some r) :
  Calls Try.prog 4 #[.slice A0 l0.length c0] w fun e w' => e = .returned (.bool r) ∧ Below w.heap.size w w' := by
 have hu23 := Try.underlying23
 have HR0 := XPrint.A0 hr0
 have HC0 := XPrint.A0 hc0
 clear hr0 hc0
 have HB := XPrint.A0 (Below.refl w.heap.size w)
 have H : (if (l0.length : Int) > 100 then ((liverylaw01_head.f k).bind fun t318 => (some t318)) else ((vec_Add.f k l0).bind fun bt319 => ((liveryref01_Sum.f k l0).bind fun bt323 => (if (!(bt319.1 == bt323.1) || (!(bt319.2.1 == bt323.2.1))) = true then (none) else (liverylaw01_VecSums.j0 k l0 bt319.2.2 (bt319.2.2 != bt323.2.2) bt319.1 bt319.2.1))))) = some r := h
 clear h
 by_cases c2 : (l0.length : Int) > 100
 ·rw [if_pos c2] at H
  have c2b0 : decide (100 < (l0.length : Int)) = true := decide_eq_true c2
  have c2b1 : decide (100 < l0.length) = true := decide_eq_true (by omega)
  clear c2
  replace H := Option.bind_eq_some_iff.mp H
  obtain ⟨t318, A30, H⟩ := H
  replace H : (some t318) = some r := H
  have A3 := XPrint.A0 A30
  clear A30
  obtain rfl := Option.some.inj H
  go_enter Try.func4, Try.ntmps4
  go_wp2_with (first | ((with_reducible refine gate_callee (f := 28) rfl ?_); refine goesL_ (some 14) rfl rfl Try.func28 (by kernel_rfl) rfl #[] rfl (by (try simp only [List.map_toArray, List.map_cons, List.map_nil]); first | done | rfl | (simp only [List.length_drop, List.length_take]; rfl)) ?_; (with_reducible refine (liverylaw01_head.calls k  t318 _ A3.out).mono ?_); rintro e w4 ⟨rfl, hb⟩; refine ⟨_, rfl, ?_⟩; have n0_ := XPrint.A0 (below_step (by exact XPrint.bz HB.out) hb); clear HB; have HB := n0_; clear n0_; (try clear hb); (try clear hb2); (try clear hk); (try clear hi)))
  go_ret
  exact ⟨by first | rfl | (simp [errW_none, errW_some] <;> rfl) | (simp [*, errW_none, errW_some] <;> rfl), by exact XPrint.bz HB.out⟩
 ·rw [if_neg c2] at H
  have c2b0 : decide (100 < (l0.length : Int)) = false := decide_eq_false c2
  have c2b1 : decide (100 < l0.length) = false := decide_eq_false (by omega)
  clear c2
  replace H := Option.bind_eq_some_iff.mp H
  obtain ⟨⟨t319, t320, t321⟩, A50, H⟩ := H
  replace H : ((liveryref01_Sum.f k l0).bind fun bt323 => (if (!(t319 == bt323.1) || (!(t320 == bt323.2.1))) = true then (none) else (liverylaw01_VecSums.j0 k l0 t321 (t321 != bt323.2.2) t319 t320))) = some r := H
  have A5 := XPrint.A0 A50
  clear A50
  replace H := Option.bind_eq_some_iff.mp H
  obtain ⟨⟨t323, t324, t325⟩, A60, H⟩ := H
  replace H : (if (!(t319 == t323) || (!(t320 == t324))) = true then (none) else (liverylaw01_VecSums.j0 k l0 t321 (t321 != t325) t319 t320)) = some r := H
  have A6 := XPrint.A0 A60
  clear A60
  have HC7 := XPrint.A0 H
  clear H
  go_enter Try.func4, Try.ntmps4
  go_upto_region 5 with (first | ((with_reducible refine gate_callee (f := 29) rfl ?_); refine goesL_ (some 17) rfl rfl Try.func29 (by kernel_rfl) rfl #[.slice A0 l0.length c0] rfl (by (try simp only [List.map_toArray, List.map_cons, List.map_nil]); first | done | rfl | (simp only [List.length_drop, List.length_take]; rfl)) ?_; (with_reducible refine (vec_Add.calls k _ _ l0 t319 t320 t321 _ ?side1 ?side2 A5.out).mono ?_); (case side1 => repeat (first | exact HR0.out | (with_reducible refine Kd.C_alloc ?_ _) | (with_reducible refine Kd.C_drewN ?_ _) | (with_reducible refine Kd.C_drew ?_))); (case side2 => exact HC0.out); rintro e w8 ⟨rfl, hb⟩; refine ⟨_, rfl, ?_⟩; have n0_ := XPrint.A0 (below_step (by exact XPrint.bz HB.out) hb); clear HB; have HB := n0_; clear n0_; (try clear hb); (try clear hb2); (try clear hk); (try clear hi)) | ((with_reducible refine gate_dst (N := 3) rfl ?_); (try (refine gate_guard (by rfl) ?_; dsimp only)); refine box_event ?hg (N := 3) ?hd (cs := #[.int .i64 0, .int .i64 0]) (t := 23) ?hr ?_; (case hd => rfl); (case hg => rfl); (case hr => first | (go_simp; done) | (go_simp; rfl)); intro gb322 hg w9 hbox hb; have n0_ := XPrint.A0 (below_step (by exact XPrint.bz HB.out) hb); have n1_ := XPrint.A0 (hbox); have n2_ := XPrint.A0 ((by rw [hg]; exact (below_size (by exact XPrint.bz HB.out)) : w.heap.size ≤ gb322)); have n3_ := XPrint.A0 ((by rw [hg]; exact (below_size (by exact XPrint.bz HB.out)) : w.heap.size ≤ gb322)); clear HB; have HB := n0_; have BK322 := n1_; have GW322 := n2_; have GE322 := n3_; clear n0_ n1_ n2_ n3_; clear hb hbox hg; have hcz10_0 : w9.cell? ⟨gb322, 0, none⟩ = some (.int .i64 0) := (blk_cell BK322.out 0).trans rfl; have hcz10_1 : w9.cell? ⟨gb322, 1, none⟩ = some (.int .i64 0) := (blk_cell BK322.out 1).trans rfl; have hfz10_0 := blk_frozen BK322.out 0; have hfz10_1 := blk_frozen BK322.out 1) | ((with_reducible refine gate_callee (f := 30) rfl ?_); refine goesL_ (some 22) rfl rfl Try.func30 (by kernel_rfl) rfl #[.slice A0 l0.length c0] rfl (by (try simp only [List.map_toArray, List.map_cons, List.map_nil]); first | done | rfl | (simp only [List.length_drop, List.length_take]; rfl)) ?_; (with_reducible refine (liveryref01_Sum.calls k _ _ l0 t323 t324 t325 _ ?side1 ?side2 A6.out).mono ?_); (case side1 => exact Kd.C_below HR0.out (by repeat (first | (with_reducible first | exact HB.out | apply below_alloc | apply pw_below_drewN | apply below_drew1 | refine below_set ?_ GE322.out) | exact HB.out))); (case side2 => exact HC0.out); rintro e w11 ⟨rfl, hb⟩; refine ⟨_, rfl, ?_⟩; have n0_ := XPrint.A0 (blk_below (g := gb322) (o := .cells #[.int .i64 t319, .int .i64 t320] 23 (0, 0)) (by (with_reducible repeat (first | refine blk_drewN ?_ _ | refine blk_drew ?_ | refine blk_alloc ?_ _)); refine blk_put (cs := #[.int .i64 t319, .int .i64 0]) ?_ 1 _ rfl; (with_reducible repeat (first | refine blk_drewN ?_ _ | refine blk_drew ?_ | refine blk_alloc ?_ _)); refine blk_put (cs := #[.int .i64 0, .int .i64 0]) ?_ 0 _ rfl; (with_reducible repeat (first | refine blk_drewN ?_ _ | refine blk_drew ?_ | refine blk_alloc ?_ _)); exact BK322.out) hb); have n1_ := XPrint.A0 (below_step (by repeat (first | (with_reducible first | exact HB.out | apply below_alloc | apply pw_below_drewN | apply below_drew1 | refine below_set ?_ GE322.out) | exact HB.out)) hb); clear BK322; clear HB; have BK322 := n0_; have HB := n1_; clear n0_ n1_; (try clear hb); (try clear hb2); (try clear hk); (try clear hi)) | ((with_reducible refine gate_dst (N := 5) rfl ?_); (try (refine gate_guard (by rfl) ?_; dsimp only)); refine box_event ?hg (N := 5) ?hd (cs := #[.int .i64 0, .int .i64 0]) (t := 23) ?hr ?_; (case hd => rfl); (case hg => rfl); (case hr => first | (go_simp; done) | (go_simp; rfl)); intro gb326 hg w12 hbox hb; have n0_ := XPrint.A0 (XPrint.bb BK322.out hb); have n1_ := XPrint.A0 (below_step (by exact XPrint.bz HB.out) hb); have n2_ := XPrint.A0 (hbox); have n3_ := XPrint.A0 ((by rw [hg]; exact (below_size (by exact XPrint.bz HB.out)) : w.heap.size ≤ gb326)); have n4_ := XPrint.A0 ((by rw [hg]; exact (below_size (by exact XPrint.bz HB.out)) : w.heap.size ≤ gb326)); have n5_ := XPrint.A0 ((by rw [hg]; exact Nat.ne_of_lt (XPrint.bl BK322.out) : gb322 ≠ gb326)); have n6_ := XPrint.A0 ((by rw [hg]; exact Nat.ne_of_gt (XPrint.bl BK322.out) : gb326 ≠ gb322)); clear BK322; clear HB; have BK322 := n0_; have HB := n1_; have BK326 := n2_; have GW326 := n3_; have GE326 := n4_; have NB322_326 := n5_; have NB326_322 := n6_; clear n0_ n1_ n2_ n3_ n4_ n5_ n6_; clear hb hbox hg; have hnb13 := NB326_322.out; have hnc13 := NB322_326.out; have hcz14_0 : w12.cell? ⟨gb326, 0, none⟩ = some (.int .i64 0) := (blk_cell BK326.out 0).trans rfl; have hcz14_1 : w12.cell? ⟨gb326, 1, none⟩ = some (.int .i64 0) := (blk_cell BK326.out 1).trans rfl; have hfz14_0 := blk_frozen BK326.out 0; have hfz14_1 := blk_frozen BK326.out 1))
  (try simp only [Act.put, List.setIfInBounds_toArray, List.set_cons_zero, List.set_cons_succ])
  go_cut [32] (fun v32 wc => ∃ (kq : Nat) (x32_6 : Bool), v32 = .bool x32_6 ∧ Aside0 (liverylaw01_VecSums.j0 kq l0 t321 x32_6 t319 t320 = some r) ∧ Aside0 (kq ≤ k) ∧ Aside0 (wc.heap[gb322]? = some (.cells #[.int .i64 t319, .int .i64 t320] 23 (0, 0))) ∧ Aside0 (wc.heap[gb326]? = some (.cells #[.int .i64 t323, .int .i64 t324] 23 (0, 0))) ∧ Aside0 (Below w.heap.size w wc))
  case first =>
   have H := HC7.out
   clear HC7
   by_cases c15 : (!(t319 == t323) || (!(t320 == t324))) = true
   ·rw [if_pos c15] at H
    exact absurd H (by simp)
   ·rw [if_neg c15] at H
    have c15b0 : (!(t319 == t323) || (!(t320 == t324))) = false := by simpa using c15
    clear c15
    (first | rw [c15b0] | (simp only [i64_w, i32_w]; rw [c15b0]) | skip)
    have H' := XPrint.A0 H
    clear H
    have hnb16 := NB322_326.out
    have hnc16 := NB326_322.out
    have hcz17_0 : w12.cell? ⟨gb322, 0, none⟩ = some (.int .i64 t319) := (blk_cell BK322.out 0).trans rfl
    have hcz17_1 : w12.cell? ⟨gb322, 1, none⟩ = some (.int .i64 t320) := (blk_cell BK322.out 1).trans rfl
    have hfz17_0 := blk_frozen BK322.out 0
    have hfz17_1 := blk_frozen BK322.out 1
    have hcz18_0 : w12.cell? ⟨gb326, 0, none⟩ = some (.int .i64 0) := (blk_cell BK326.out 0).trans rfl
    have hcz18_1 : w12.cell? ⟨gb326, 1, none⟩ = some (.int .i64 0) := (blk_cell BK326.out 1).trans rfl
    have hfz18_0 := blk_frozen BK326.out 0
    have hfz18_1 := blk_frozen BK326.out 1
    go_wp2
    go_meet
    case rel => exact ⟨_, ((t321 != t325)), (by first | rfl | (simp; done) | (simp [*]; done)), H', ⟨by first | omega | exact Nat.le_refl _⟩, ⟨by (with_reducible repeat (first | refine blk_drewN ?_ _ | refine blk_drew ?_ | refine blk_alloc ?_ _)); refine blk_far ?_ NB322_326.out _; (with_reducible repeat (first | refine blk_drewN ?_ _ | refine blk_drew ?_ | refine blk_alloc ?_ _)); refine blk_far ?_ NB322_326.out _; (with_reducible repeat (first | refine blk_drewN ?_ _ | refine blk_drew ?_ | refine blk_alloc ?_ _)); exact BK322.out⟩, ⟨by (with_reducible repeat (first | refine blk_drewN ?_ _ | refine blk_drew ?_ | refine blk_alloc ?_ _)); refine blk_put (cs := #[.int .i64 t323, .int .i64 0]) ?_ 1 _ rfl; (with_reducible repeat (first | refine blk_drewN ?_ _ | refine blk_drew ?_ | refine blk_alloc ?_ _)); refine blk_put (cs := #[.int .i64 0, .int .i64 0]) ?_ 0 _ rfl; (with_reducible repeat (first | refine blk_drewN ?_ _ | refine blk_drew ?_ | refine blk_alloc ?_ _)); exact BK326.out⟩, ⟨by repeat (first | (with_reducible first | exact HB.out | apply below_alloc | apply pw_below_drewN | apply below_drew1 | refine below_set ?_ GE322.out | refine below_set ?_ GE326.out) | exact HB.out)⟩⟩
  case rest =>
   clear HC7
   try clear c1
   try clear c2
   try clear c2b0
   try clear c2b1
   try clear p2
   try clear c3
   try clear c4
   try clear c13
   try clear c15
   try clear c15b0
   try clear c16
   try clear hcz10_0
   try clear hcz10_1
   try clear hcz14_0
   try clear hcz14_1
   try clear hcz17_0
   try clear hcz17_1
   try clear hcz18_0
   try clear hcz18_1
   try clear hfz10_0
   try clear hfz10_1
   try clear hfz14_0
   try clear hfz14_1
   try clear hfz17_0
   try clear hfz17_1
   try clear hfz18_0
   try clear hfz18_1
   obtain ⟨kq, x32_6, rfl, HA, HJ6, BK322, BK326, HB⟩ := hcut
   cases kq with
   | zero => exact absurd HA.out (by simp [liverylaw01_VecSums.j0])
   | succ kj6 =>
    have H := HA.out
    clear HA
    simp only [liverylaw01_VecSums.j0] at H
    by_cases c19 : x32_6 = true
    ·subst c19
     have H1 : (none) = some r := by rw [if_pos rfl] at H; exact H
     clear H
     have H := H1
     clear H1
     exact absurd H (by simp)
    ·replace c19 := Bool.eq_false_iff.mpr c19
     subst c19
     have H1 : (if t321 = 0 then (liverylaw01_VecSums.j1 kj6 l0 ((l0.length : Int) == 0) t319 t320) else (liverylaw01_VecSums.j1 kj6 l0 true t319 t320)) = some r := by rw [if_neg (show ¬ (false = true) by decide)] at H; exact H
     clear H
     have H := H1
     clear H1
     have HC20 := XPrint.A0 H
     clear H
     go_upto_region 7 with (fail)
     go_cut [39] (fun v39 wc => ∃ (kq : Nat) (x39_19 : Bool), v39 = .bool x39_19 ∧ Aside0 (liverylaw01_VecSums.j1 kq l0 x39_19 t319 t320 = some r) ∧ Aside0 (kq ≤ kj6) ∧ Aside0 (wc.heap[gb322]? = some (.cells #[.int .i64 t319, .int .i64 t320] 23 (0, 0))) ∧ Aside0 (wc.heap[gb326]? = some (.cells #[.int .i64 t323, .int .i64 t324] 23 (0, 0))) ∧ Aside0 (Below w.heap.size w wc))
     case first =>
      have H := HC20.out
      clear HC20
      by_cases c21 : t321 = 0
      ·rw [if_pos c21] at H
       have c21b0 : (t321 == 0) = true := beq_iff_eq.mpr c21
       have c21b1 : (t321 != 0) = false := bne_eq_false_iff_eq.mpr c21
       clear c21
       (first | rw [c21b0] | (simp only [i64_w, i32_w]; rw [c21b0]) | skip)
       have H' := XPrint.A0 H
       clear H
       go_wp2
       go_meet
       case rel => exact ⟨_, (((l0.length : Int) == 0)), (by first | rfl | (simp; done) | (simp [*]; done)), H', ⟨by have := HJ6.out; first | omega | exact Nat.le_refl _⟩, ⟨by (with_reducible repeat (first | refine blk_drewN ?_ _ | refine blk_drew ?_ | refine blk_alloc ?_ _)); exact BK322.out⟩, ⟨by (with_reducible repeat (first | refine blk_drewN ?_ _ | refine blk_drew ?_ | refine blk_alloc ?_ _)); exact BK326.out⟩, ⟨by exact XPrint.bz HB.out⟩⟩
      ·rw [if_neg c21] at H
       have c21b0 : (t321 == 0) = false := beq_eq_false_iff_ne.mpr c21
       have c21b1 : (t321 != 0) = true := bne_iff_ne.mpr c21
       (first | rw [c21b0] | (simp only [i64_w, i32_w]; rw [c21b0]) | skip)
       have H' := XPrint.A0 H
       clear H
       go_wp2
       go_meet
       case rel => exact ⟨_, (true), (by first | rfl | (simp; done) | (simp [*]; done)), H', ⟨by have := HJ6.out; first | omega | exact Nat.le_refl _⟩, ⟨by (with_reducible repeat (first | refine blk_drewN ?_ _ | refine blk_drew ?_ | refine blk_alloc ?_ _)); exact BK322.out⟩, ⟨by (with_reducible repeat (first | refine blk_drewN ?_ _ | refine blk_drew ?_ | refine blk_alloc ?_ _)); exact BK326.out⟩, ⟨by exact XPrint.bz HB.out⟩⟩
     case rest =>
      clear HC20
      try clear c1
      try clear c2
      try clear c2b0
      try clear c2b1
      try clear p2
      try clear c3
      try clear c4
      try clear c13
      try clear c15
      try clear c15b0
      try clear c16
      try clear c19
      try clear c21
      try clear c21b0
      try clear c21b1
      try clear hcz10_0
      try clear hcz10_1
      try clear hcz14_0
      try clear hcz14_1
      try clear hcz17_0
      try clear hcz17_1
      try clear hcz18_0
      try clear hcz18_1
      try clear hfz10_0
      try clear hfz10_1
      try clear hfz14_0
      try clear hfz14_1
      try clear hfz17_0
      try clear hfz17_1
      try clear hfz18_0
      try clear hfz18_1
      try clear p2
      obtain ⟨kq, x39_19, rfl, HA, HJ19, BK322, BK326, HB⟩ := hcut
      cases kq with
      | zero => exact absurd HA.out (by simp [liverylaw01_VecSums.j1])
      | succ kj19 =>
       have H := HA.out
       clear HA
       simp only [liverylaw01_VecSums.j1] at H
       by_cases c22 : x39_19 = true
       ·subst c22
        have H1 : ((liverylaw01_head.f kj19).bind fun t327 => (some t327)) = some r := by rw [if_pos rfl] at H; exact H
        clear H
        have H := H1
        clear H1
        replace H := Option.bind_eq_some_iff.mp H
        obtain ⟨t327, A230, H⟩ := H
        replace H : (some t327) = some r := H
        have A23 := XPrint.A0 A230
        clear A230
        obtain rfl := Option.some.inj H
        go_wp2_with (first | ((with_reducible refine gate_callee (f := 28) rfl ?_); refine goesL_ (some 40) rfl rfl Try.func28 (by kernel_rfl) rfl #[] rfl (by (try simp only [List.map_toArray, List.map_cons, List.map_nil]); first | done | rfl | (simp only [List.length_drop, List.length_take]; rfl)) ?_; (with_reducible refine (liverylaw01_head.calls kj19  t327 _ A23.out).mono ?_); rintro e w24 ⟨rfl, hb⟩; refine ⟨_, rfl, ?_⟩; have n0_ := XPrint.A0 (XPrint.bb BK322.out hb); have n1_ := XPrint.A0 (XPrint.bb BK326.out hb); have n2_ := XPrint.A0 (below_step (by exact XPrint.bz HB.out) hb); clear BK322; clear BK326; clear HB; have BK322 := n0_; have BK326 := n1_; have HB := n2_; clear n0_ n1_ n2_; (try clear hb); (try clear hb2); (try clear hk); (try clear hi)))
        go_ret
        exact ⟨by first | rfl | (simp [errW_none, errW_some] <;> rfl) | (simp [*, errW_none, errW_some] <;> rfl), by exact XPrint.bz HB.out⟩
       ·replace c22 := Bool.eq_false_iff.mpr c22
        subst c22
        have H1 : (if 0 ≤ (wrap64 ((l0.length : Int) - 1)) then (if (wrap64 ((l0.length : Int) - 1)) ≤ (l0.length : Int) then ((vec_Add.f kj19 (l0.take ((wrap64 ((l0.length : Int) - 1)) : Int).toNat)).bind fun bt332 => (if (wrap64 ((l0.length : Int) - 1)) < (l0.length : Int) then ((vec_Sub.f kj19 t319 t320 ((rd_T23 l0 (wrap64 ((l0.length : Int) - 1))).f0) ((rd_T23 l0 (wrap64 ((l0.length : Int) - 1))).f1)).bind fun bt337 => (if bt332.2.2 = 0 then (if bt337.2.2 = 0 then (if (bt337.1 == bt332.1 && (bt337.2.1 == bt332.2.1)) = true then ((liverylaw01_head.f kj19).bind fun t341 => (some t341)) else (none)) else (none)) else (none))) else (none))) else (none)) else (none)) = some r := by rw [if_neg (show ¬ (false = true) by decide)] at H; exact H
        clear H
        have H := H1
        clear H1
        obtain ⟨ji25, hji25⟩ : ∃ j_ : Int, (wrap64 ((l0.length : Int) - 1)) = j_ := ⟨_, rfl⟩
        replace H : (if 0 ≤ (ji25) then (if (ji25) ≤ (l0.length : Int) then ((vec_Add.f kj19 (l0.take ((ji25) : Int).toNat)).bind fun bt332 => (if (ji25) < (l0.length : Int) then ((vec_Sub.f kj19 t319 t320 ((rd_T23 l0 (ji25)).f0) ((rd_T23 l0 (ji25)).f1)).bind fun bt337 => (if bt332.2.2 = 0 then (if bt337.2.2 = 0 then (if (bt337.1 == bt332.1 && (bt337.2.1 == bt332.2.1)) = true then ((liverylaw01_head.f kj19).bind fun t341 => (some t341)) else (none)) else (none)) else (none))) else (none))) else (none)) else (none)) = some r := by first | (rw [hji25] at H; exact H) | (simp only [hji25] at H ⊢; exact H)
        have hji25w : (IntKind.i64.wrap ((l0.length : Int) - 1)) = ji25 := (i64_w _).trans hji25
        by_cases c26 : 0 ≤ (ji25)
        ·rw [if_pos c26] at H
         have c26b0 := eq_true c26
         have c26b1 : decide (0 ≤ (ji25)) = true := decide_eq_true c26
         clear c26
         by_cases c27 : (ji25) ≤ (l0.length : Int)
         ·rw [if_pos c27] at H
          have c27b0 := eq_true c27
          have c27b1 : decide ((ji25) ≤ (l0.length : Int)) = true := decide_eq_true c27
          clear c27
          obtain ⟨y328, hy328⟩ : ∃ y_ : List (S23), y_ = (l0.take ((ji25) : Int).toNat) := ⟨_, rfl⟩
          replace H : ((vec_Add.f kj19 y328).bind fun bt332 => (if (ji25) < (l0.length : Int) then ((vec_Sub.f kj19 t319 t320 ((rd_T23 l0 (ji25)).f0) ((rd_T23 l0 (ji25)).f1)).bind fun bt337 => (if bt332.2.2 = 0 then (if bt337.2.2 = 0 then (if (bt337.1 == bt332.1 && (bt337.2.1 == bt332.2.1)) = true then ((liverylaw01_head.f kj19).bind fun t341 => (some t341)) else (none)) else (none)) else (none))) else (none))) = some r := by first | (rw [hy328]; with_reducible exact H) | (have H2_ := (Option.bind_some _ _).symm.trans H; rw [hy328]; with_reducible exact H2_) | (have H2_ := (Option.bind_some _ _).symm.trans H; with_reducible exact H2_) | with_reducible exact H | (rw [hy328]; exact H) | exact H
          have Ny328 := XPrint.A0 hy328
          clear hy328
          replace H := Option.bind_eq_some_iff.mp H
          obtain ⟨⟨t332, t333, t334⟩, A280, H⟩ := H
          replace H : (if (ji25) < (l0.length : Int) then ((vec_Sub.f kj19 t319 t320 ((rd_T23 l0 (ji25)).f0) ((rd_T23 l0 (ji25)).f1)).bind fun bt337 => (if t334 = 0 then (if bt337.2.2 = 0 then (if (bt337.1 == t332 && (bt337.2.1 == t333)) = true then ((liverylaw01_head.f kj19).bind fun t341 => (some t341)) else (none)) else (none)) else (none))) else (none)) = some r := H
          have A28 := XPrint.A0 A280
          clear A280
          by_cases c29 : (ji25) < (l0.length : Int)
          ·rw [if_pos c29] at H
           have c29b0 : decide ((ji25) < (l0.length : Int)) = true := decide_eq_true c29
           clear c29
           replace H := Option.bind_eq_some_iff.mp H
           obtain ⟨⟨t337, t338, t339⟩, A300, H⟩ := H
           replace H : (if t334 = 0 then (if t339 = 0 then (if (t337 == t332 && (t338 == t333)) = true then ((liverylaw01_head.f kj19).bind fun t341 => (some t341)) else (none)) else (none)) else (none)) = some r := H
           have A30 := XPrint.A0 A300
           clear A300
           by_cases c31 : t334 = 0
           ·rw [if_pos c31] at H
            have c31b0 : (t334 == 0) = true := beq_iff_eq.mpr c31
            have c31b1 : (t334 != 0) = false := bne_eq_false_iff_eq.mpr c31
            clear c31
            by_cases c32 : t339 = 0
            ·rw [if_pos c32] at H
             have c32b0 : (t339 == 0) = true := beq_iff_eq.mpr c32
             have c32b1 : (t339 != 0) = false := bne_eq_false_iff_eq.mpr c32
             clear c32
             by_cases c33 : (t337 == t332 && (t338 == t333)) = true
             ·rw [if_pos c33] at H
              have c33b0 : (t337 == t332 && (t338 == t333)) = true := c33
              (try (have c33b1 : decide (t337 = t332 && (t338 == t333)) = true := by simpa using c33))
              (try (have c33b2 : (t337 == t332 && (t338 == t333)) = true := by simpa using c33))
              clear c33
              replace H := Option.bind_eq_some_iff.mp H
              obtain ⟨t341, A340, H⟩ := H
              replace H : (some t341) = some r := H
              have A34 := XPrint.A0 A340
              clear A340
              obtain rfl := Option.some.inj H
              have q35 : ((ji25) : Int) ≤ ((l0.length : Int) : Int) := of_decide_eq_true (by first | (with_reducible assumption) | assumption)
              obtain ⟨i035, hi035, _, hsz35, _⟩ := info_parts info23
              have hroom35 : l0.length ≤ c0 := HC0.out
              have hC35 : Kd.C k23 _ A0 l0.length l0 := HR0.out
              have hcut35 := cut_to (P := Try.prog) 40 23 .i64 Try.underlying40 hi035 A0 l0.length c0 (ji25) (of_decide_eq_true (by first | (with_reducible assumption) | assumption)) q35 hroom35
              have hr35 := Kd.C_take (m := ((ji25) : Int).toNat) hC35 (by omega)
              have hy35 : y328.length = ((ji25) : Int).toNat := (by rw [Ny328.out, List.length_take]; omega)
              rw [← Ny328.out] at hr35
              rw [← hy35] at hcut35
              have HR331 := XPrint.A0 hr35
              have HC331 := XPrint.A0 (show y328.length ≤ c0 from by omega)
              clear hr35 hC35 hroom35 hi035 hsz35
              have KY35 := XPrint.A0 hy35
              clear hy35
              replace q35 := eq_true q35
              try go_wp2_with (first | ((with_reducible refine gate_callee (f := 29) rfl ?_); refine goesL_ (some 47) rfl rfl Try.func29 (by kernel_rfl) rfl #[.slice A0 y328.length c0] rfl (by (try simp only [List.map_toArray, List.map_cons, List.map_nil]); first | done | rfl | (simp only [List.length_drop, List.length_take]; rfl)) ?_; (with_reducible refine (vec_Add.calls kj19 _ _ y328 t332 t333 t334 _ ?side1 ?side2 A28.out).mono ?_); (case side1 => repeat (first | exact (Kd.C_below HR331.out HB.out) | (with_reducible refine Kd.C_alloc ?_ _) | (with_reducible refine Kd.C_drewN ?_ _) | (with_reducible refine Kd.C_drew ?_))); (case side2 => exact HC331.out); rintro e w36 ⟨rfl, hb⟩; refine ⟨_, rfl, ?_⟩; have n0_ := XPrint.A0 (XPrint.bb BK322.out hb); have n1_ := XPrint.A0 (XPrint.bb BK326.out hb); have n2_ := XPrint.A0 (below_step (by exact XPrint.bz HB.out) hb); clear BK322; clear BK326; clear HB; have BK322 := n0_; have BK326 := n1_; have HB := n2_; clear n0_ n1_ n2_; (try clear hb); (try clear hb2); (try clear hk); (try clear hi)) | ((with_reducible refine gate_dst (N := 7) rfl ?_); (try (refine gate_guard (by rfl) ?_; dsimp only)); refine box_event ?hg (N := 7) ?hd (cs := #[.int .i64 0, .int .i64 0]) (t := 23) ?hr ?_; (case hd => rfl); (case hg => rfl); (case hr => first | (go_simp; done) | (go_simp; rfl)); intro gb335 hg w37 hbox hb; have n0_ := XPrint.A0 (XPrint.bb BK322.out hb); have n1_ := XPrint.A0 (XPrint.bb BK326.out hb); have n2_ := XPrint.A0 (below_step (by exact XPrint.bz HB.out) hb); have n3_ := XPrint.A0 (hbox); have n4_ := XPrint.A0 ((by rw [hg]; exact (below_size (by exact XPrint.bz HB.out)) : w.heap.size ≤ gb335)); have n5_ := XPrint.A0 ((by rw [hg]; exact (below_size (by exact XPrint.bz HB.out)) : w.heap.size ≤ gb335)); have n6_ := XPrint.A0 ((by rw [hg]; exact Nat.ne_of_lt (XPrint.bl BK322.out) : gb322 ≠ gb335)); have n7_ := XPrint.A0 ((by rw [hg]; exact Nat.ne_of_gt (XPrint.bl BK322.out) : gb335 ≠ gb322)); have n8_ := XPrint.A0 ((by rw [hg]; exact Nat.ne_of_lt (XPrint.bl BK326.out) : gb326 ≠ gb335)); have n9_ := XPrint.A0 ((by rw [hg]; exact Nat.ne_of_gt (XPrint.bl BK326.out) : gb335 ≠ gb326)); clear BK322; clear BK326; clear HB; have BK322 := n0_; have BK326 := n1_; have HB := n2_; have BK335 := n3_; have GW335 := n4_; have GE335 := n5_; have NB322_335 := n6_; have NB335_322 := n7_; have NB326_335 := n8_; have NB335_326 := n9_; clear n0_ n1_ n2_ n3_ n4_ n5_ n6_ n7_ n8_ n9_; clear hb hbox hg; have hnb38 := NB335_322.out; have hnc38 := NB322_335.out; have hnb39 := NB335_326.out; have hnc39 := NB326_335.out; have hcz40_0 : w37.cell? ⟨gb335, 0, none⟩ = some (.int .i64 0) := (blk_cell BK335.out 0).trans rfl; have hcz40_1 : w37.cell? ⟨gb335, 1, none⟩ = some (.int .i64 0) := (blk_cell BK335.out 1).trans rfl; have hfz40_0 := blk_frozen BK335.out 0; have hfz40_1 := blk_frozen BK335.out 1))
              have n0_ : Aside0 (((w37.setCell ⟨gb335, 0, none⟩ (.int .i64 t332)).setCell ⟨gb335, 1, none⟩ (.int .i64 t333)).heap[gb322]? = some (.cells #[.int .i64 t319, .int .i64 t320] 23 (0, 0))) := ⟨by (with_reducible repeat (first | refine blk_drewN ?_ _ | refine blk_drew ?_ | refine blk_alloc ?_ _)); refine blk_far ?_ NB322_335.out _; (with_reducible repeat (first | refine blk_drewN ?_ _ | refine blk_drew ?_ | refine blk_alloc ?_ _)); refine blk_far ?_ NB322_335.out _; (with_reducible repeat (first | refine blk_drewN ?_ _ | refine blk_drew ?_ | refine blk_alloc ?_ _)); exact BK322.out⟩
              have n1_ : Aside0 (((w37.setCell ⟨gb335, 0, none⟩ (.int .i64 t332)).setCell ⟨gb335, 1, none⟩ (.int .i64 t333)).heap[gb326]? = some (.cells #[.int .i64 t323, .int .i64 t324] 23 (0, 0))) := ⟨by (with_reducible repeat (first | refine blk_drewN ?_ _ | refine blk_drew ?_ | refine blk_alloc ?_ _)); refine blk_far ?_ NB326_335.out _; (with_reducible repeat (first | refine blk_drewN ?_ _ | refine blk_drew ?_ | refine blk_alloc ?_ _)); refine blk_far ?_ NB326_335.out _; (with_reducible repeat (first | refine blk_drewN ?_ _ | refine blk_drew ?_ | refine blk_alloc ?_ _)); exact BK326.out⟩
              have n2_ : Aside0 (((w37.setCell ⟨gb335, 0, none⟩ (.int .i64 t332)).setCell ⟨gb335, 1, none⟩ (.int .i64 t333)).heap[gb335]? = some (.cells #[.int .i64 t332, .int .i64 t333] 23 (0, 0))) := ⟨by (with_reducible repeat (first | refine blk_drewN ?_ _ | refine blk_drew ?_ | refine blk_alloc ?_ _)); refine blk_put (cs := #[.int .i64 t332, .int .i64 0]) ?_ 1 _ rfl; (with_reducible repeat (first | refine blk_drewN ?_ _ | refine blk_drew ?_ | refine blk_alloc ?_ _)); refine blk_put (cs := #[.int .i64 0, .int .i64 0]) ?_ 0 _ rfl; (with_reducible repeat (first | refine blk_drewN ?_ _ | refine blk_drew ?_ | refine blk_alloc ?_ _)); exact BK335.out⟩
              have n3_ : Aside0 (Below w.heap.size w ((w37.setCell ⟨gb335, 0, none⟩ (.int .i64 t332)).setCell ⟨gb335, 1, none⟩ (.int .i64 t333))) := ⟨by repeat (first | (with_reducible first | exact HB.out | apply below_alloc | apply pw_below_drewN | apply below_drew1 | refine below_set ?_ GE322.out | refine below_set ?_ GE326.out | refine below_set ?_ GE335.out) | exact HB.out)⟩
              (try clear BK322)
              (try clear BK326)
              (try clear BK335)
              (try clear HB)
              generalize ((w37.setCell ⟨gb335, 0, none⟩ (.int .i64 t332)).setCell ⟨gb335, 1, none⟩ (.int .i64 t333)) = w41 at n0_ n1_ n2_ n3_ ⊢
              have BK322 := n0_; have BK326 := n1_; have BK335 := n2_; have HB := n3_
              clear n0_ n1_ n2_ n3_
              have n0_ := XPrint.A0 (blk_drew BK322.out)
              have n1_ := XPrint.A0 (blk_drew BK326.out)
              have n2_ := XPrint.A0 (blk_drew BK335.out)
              have n3_ := XPrint.A0 (below_drew1 HB.out)
              clear BK322 BK326 BK335 HB
              have BK322 := n0_; have BK326 := n1_; have BK335 := n2_; have HB := n3_
              clear n0_ n1_ n2_ n3_
              have p336 : 0 ≤ ((ji25) : Int) := of_decide_eq_true (by first | (with_reducible assumption) | assumption)
              have q336 : (ji25) < (l0.length : Int) := of_decide_eq_true (by first | (with_reducible assumption) | assumption)
              obtain ⟨ad336, e336, hx336_0, hx336_1⟩ := at_T23 HR0.out (ji25) p336 q336
              have hw336_1 := hx336_1
              have hw336_0 := hx336_0
              cases e336
              replace hx336_0 := (HB.out.cell (World.block_lt_of_cell? w _ hx336_0)).trans hx336_0
              replace hx336_1 := (HB.out.cell (World.block_lt_of_cell? w _ hx336_1)).trans hx336_1
              replace p336 := eq_true p336
              replace q336 := eq_true q336
              refine start_ (n := 14) (S := fun w' => w'.cell? ⟨gb322, 0, none⟩ = some (.int .i64 t319) ∧ w'.cell? ⟨gb322, 1, none⟩ = some (.int .i64 t320) ∧ w'.cell? (ad336.add (((ji25)).toNat * 2)) = some (.int .i64 ((rd_T23 l0 (ji25)).f0)) ∧ w'.cell? ⟨(ad336.add (((ji25)).toNat * 2)).block, (ad336.add (((ji25)).toNat * 2)).off + 1, none⟩ = some (.int .i64 ((rd_T23 l0 (ji25)).f1))) (ds := []) #[false, false, false, false, false, false, false, false, false, false, false, false, false, false] (by kernel_rfl) rfl rfl ⟨(blk_cell BK322.out 0).trans rfl, (blk_cell BK322.out 1).trans rfl, ((HB.out.cell (World.block_lt_of_cell? w _ hw336_0)).trans hw336_0), ((HB.out.cell (World.block_lt_of_cell? w _ hw336_1)).trans hw336_1)⟩ (fun hHeld => ?_); refine with_tabW liverylaw01_VecSums.tab10 liverylaw01_VecSums.bits10 (fun HT_ HW_ => ?_)
              generalize w41.drew = w42 at BK322 BK326 BK335 HB hx336_0 hx336_1 hHeld ⊢
              refine pure_ (i := 1) (N := some 52) (v := ?_) (a' := ?_) #[false, true, false, false, false, false, false, false, false, false, false, false, false, false] rfl rfl (any_of HT_.out (by kernel_rfl)) (fun _ _ _ h => h) (Or.inl ⟨by rfl, ?_⟩) ?_ ?_
              rotate_left
              ·intro w'
               go_simp
               with_reducible rfl
              rotate_left
              ·simp only [Act.put, List.setIfInBounds_toArray, List.set_cons_zero, List.set_cons_succ, i64_w, i32_w]
               rfl
              refine pure_ (i := 2) (N := some 53) (v := ?_) (a' := ?_) #[false, true, true, false, false, false, false, false, false, false, false, false, false, false] rfl rfl (any_of HT_.out (by kernel_rfl)) (fun _ _ _ h => h) (Or.inl ⟨by rfl, ?_⟩) ?_ ?_
              rotate_left
              ·intro w'
               go_simp
               with_reducible rfl
              rotate_left
              ·simp only [Act.put, List.setIfInBounds_toArray, List.set_cons_zero, List.set_cons_succ, i64_w, i32_w]
               rfl
              refine pure_ (i := 3) (N := some 54) (v := ?_) (a' := ?_) #[false, true, true, true, false, false, false, false, false, false, false, false, false, false] rfl rfl (any_of HT_.out (by kernel_rfl)) (fun _ _ _ h => h) (Or.inl ⟨by rfl, ?_⟩) ?_ ?_
              rotate_left
              ·intro w'
               go_simp
               with_reducible rfl
              rotate_left
              ·simp only [Act.put, List.setIfInBounds_toArray, List.set_cons_zero, List.set_cons_succ, i64_w, i32_w]
               rfl
              refine pure_ (i := 4) (N := some 55) (v := ?_) (a' := ?_) #[false, true, true, true, true, false, false, false, false, false, false, false, false, false] rfl rfl (any_of HT_.out (by kernel_rfl)) (fun _ _ _ h => h) (Or.inl ⟨by rfl, ?_⟩) ?_ ?_
              rotate_left
              ·intro w'
               go_simp
               with_reducible rfl
              rotate_left
              ·simp only [Act.put, List.setIfInBounds_toArray, List.set_cons_zero, List.set_cons_succ, i64_w, i32_w]
               rfl
              refine pure_ (i := 5) (N := some 56) (v := ?_) (a' := ?_) #[false, true, true, true, true, true, false, false, false, false, false, false, false, false] rfl rfl (any_of HT_.out (by kernel_rfl)) (fun _ _ _ h => h) (Or.inl ⟨by rfl, ?_⟩) ?_ ?_
              rotate_left
              ·intro w'
               go_simp
               with_reducible rfl
              rotate_left
              ·simp only [Act.put, List.setIfInBounds_toArray, List.set_cons_zero, List.set_cons_succ, i64_w, i32_w]
               rfl
              refine take_ (i := 0) (N := some 51) (v := ?_) (a' := ?_) #[true, true, true, true, true, true, false, false, false, false, false, false, false, false] rfl rfl (take_ofW HT_.out HW_.out (by kernel_rfl)) (fun _ _ _ h => h) (Or.inl ⟨by rfl, ?_⟩) hHeld ?_ ?_
              rotate_left
              ·rintro w' ⟨s0, s1, s2, s3⟩
               go_simp
               with_reducible rfl
              rotate_left
              ·simp only [Act.put, List.setIfInBounds_toArray, List.set_cons_zero, List.set_cons_succ, i64_w, i32_w]
               rfl
              refine take_ (i := 6) (N := some 57) (v := ?_) (a' := ?_) #[true, true, true, true, true, true, true, false, false, false, false, false, false, false] rfl rfl (take_ofW HT_.out HW_.out (by kernel_rfl)) (fun _ _ _ h => h) (Or.inl ⟨by rfl, ?_⟩) hHeld ?_ ?_
              rotate_left
              ·rintro w' ⟨s0, s1, s2, s3⟩
               go_simp
               with_reducible rfl
              rotate_left
              ·simp only [Act.put, List.setIfInBounds_toArray, List.set_cons_zero, List.set_cons_succ, i64_w, i32_w]
               rfl
              refine join_ (σ := Nat) 2 #[true, true, true, true, true, true, true, true, true, true, true, true, false, false] (fun s_ => [(58, .tuple #[.agg #[.int .i64 t337, .int .i64 t338], .int .i64 t339]), (9, .pointer (some ⟨s_, 0, none⟩)), (50, .tuple #[.agg #[.int .i64 t337, .int .i64 t338], .int .i64 t339]), (59, .agg #[.int .i64 t337, .int .i64 t338]), (60, .int .i64 t339)]) (fun s_ w' => (w'.cell? ⟨gb322, 0, none⟩ = some (.int .i64 t319) ∧ w'.cell? ⟨gb322, 1, none⟩ = some (.int .i64 t320) ∧ w'.cell? (ad336.add (((ji25)).toNat * 2)) = some (.int .i64 ((rd_T23 l0 (ji25)).f0)) ∧ w'.cell? ⟨(ad336.add (((ji25)).toNat * 2)).block, (ad336.add (((ji25)).toNat * 2)).off + 1, none⟩ = some (.int .i64 ((rd_T23 l0 (ji25)).f1))) ∧ (w'.heap[gb322]? = some (.cells #[.int .i64 t319, .int .i64 t320] 23 (0, 0))) ∧ (w'.heap[gb326]? = some (.cells #[.int .i64 t323, .int .i64 t324] 23 (0, 0))) ∧ (w'.heap[gb335]? = some (.cells #[.int .i64 t332, .int .i64 t333] 23 (0, 0))) ∧ (w'.heap[s_]? = some (.cells #[.int .i64 0, .int .i64 0] 23 (0, 0))) ∧ (w.heap.size ≤ s_) ∧ (w.heap.size ≤ s_) ∧ (gb322 ≠ s_) ∧ (s_ ≠ gb322) ∧ (gb326 ≠ s_) ∧ (s_ ≠ gb326) ∧ (gb335 ≠ s_) ∧ (s_ ≠ gb335) ∧ (Below w.heap.size w w')) ?_ ?_
              rotate_left
              ·intro hCont
               refine two_ (i := 7) (j := 11) (Ni := some 58) (Nj := some 9) #[true, true, true, true, true, true, true, true, false, false, false, false, false, false] #[true, true, true, true, true, true, true, false, false, false, false, true, false, false] rfl rfl rfl rfl (two_of HT_.out (by kernel_rfl)) (by decide) (by decide) (fun K hK => ?_) (fun K hK => ?_)
               ·skip
                refine goes_ Try.func14 (by kernel_rfl) rfl #[.agg #[.int .i64 t319, .int .i64 t320], .agg #[.int .i64 ((rd_T23 l0 (ji25)).f0), .int .i64 ((rd_T23 l0 (ji25)).f1)]] (by rfl) rfl rfl (by (try simp only [List.map_toArray, List.map_cons, List.map_nil]); first | done | (simp only [Int.tmod_eq_emod_of_nonneg hjl25]; rfl) | (simp only [hji25]; rfl) | rfl | (simp only [List.length_drop, List.length_take]; rfl)) ?_
                with_reducible refine (vec_Sub.calls kj19 t319 t320 ((rd_T23 l0 (ji25)).f0) ((rd_T23 l0 (ji25)).f1) t337 t338 t339 _ A30.out).mono ?_
                rintro e w43 ⟨rfl, hb⟩
                refine ⟨_, rfl, ?_⟩
                have n0_ := XPrint.A0 (XPrint.bb BK322.out hb)
                have n1_ := XPrint.A0 (XPrint.bb BK326.out hb)
                have n2_ := XPrint.A0 (XPrint.bb BK335.out hb)
                have n3_ := XPrint.A0 (below_step (by exact XPrint.bz HB.out) hb)
                clear BK322 BK326 BK335 HB
                have BK322 := n0_; have BK326 := n1_; have BK335 := n2_; have HB := n3_
                clear n0_ n1_ n2_ n3_
                (try clear hb)
                (try clear hb2)
                (try clear hk)
                (try clear hi)
                refine hK.out _ _ ⟨(blk_cell BK322.out 0).trans rfl, (blk_cell BK322.out 1).trans rfl, ((HB.out.cell (World.block_lt_of_cell? w _ hw336_0)).trans hw336_0), ((HB.out.cell (World.block_lt_of_cell? w _ hw336_1)).trans hw336_1)⟩ (fun hHeld => ?_)
                clear hK K
                refine norm_ (a' := ?_) ?_ ?_
                rotate_left
                ·show Act.put _ (some 58) _ = _
                 simp only [Act.put, List.setIfInBounds_toArray, List.set_cons_zero, List.set_cons_succ, i64_w, i32_w]
                 rfl
                refine pure_ (i := 8) (N := some 50) (v := ?_) (a' := ?_) #[true, true, true, true, true, true, true, true, true, false, false, false, false, false] rfl rfl (any_of HT_.out (by kernel_rfl)) (fun _ _ _ h => h) (Or.inl ⟨by rfl, ?_⟩) ?_ ?_
                rotate_left
                ·intro w'
                 go_simp
                 with_reducible rfl
                rotate_left
                ·simp only [Act.put, List.setIfInBounds_toArray, List.set_cons_zero, List.set_cons_succ, i64_w, i32_w]
                 rfl
                refine pure_ (i := 9) (N := some 59) (v := ?_) (a' := ?_) #[true, true, true, true, true, true, true, true, true, true, false, false, false, false] rfl rfl (any_of HT_.out (by kernel_rfl)) (fun _ _ _ h => h) (Or.inl ⟨by rfl, ?_⟩) ?_ ?_
                rotate_left
                ·intro w'
                 go_simp
                 with_reducible rfl
                rotate_left
                ·simp only [Act.put, List.setIfInBounds_toArray, List.set_cons_zero, List.set_cons_succ, i64_w, i32_w]
                 rfl
                refine pure_ (i := 10) (N := some 60) (v := ?_) (a' := ?_) #[true, true, true, true, true, true, true, true, true, true, true, false, false, false] rfl rfl (any_of HT_.out (by kernel_rfl)) (fun _ _ _ h => h) (Or.inl ⟨by rfl, ?_⟩) ?_ ?_
                rotate_left
                ·intro w'
                 go_simp
                 with_reducible rfl
                rotate_left
                ·simp only [Act.put, List.setIfInBounds_toArray, List.set_cons_zero, List.set_cons_succ, i64_w, i32_w]
                 rfl
                refine one_ (i := 11) (N := some 9) #[true, true, true, true, true, true, true, true, true, true, true, true, false, false] rfl rfl (one_of HT_.out (by kernel_rfl)) (by decide) (fun K hK => ?_)
                refine box_step ?hg (N := 9) ?hd (cs := #[.int .i64 0, .int .i64 0]) (t := 23) ?hr ?_; (case hd => rfl); (case hg => rfl); (case hr => first | (go_simp; done) | (go_simp; rfl))
                intro gb340 hg w44 hbox hb
                have n0_ := XPrint.A0 (XPrint.bb BK322.out hb)
                have n1_ := XPrint.A0 (XPrint.bb BK326.out hb)
                have n2_ := XPrint.A0 (XPrint.bb BK335.out hb)
                have n3_ := XPrint.A0 (below_step (by exact XPrint.bz HB.out) hb)
                have n4_ := XPrint.A0 (hbox)
                have n5_ := XPrint.A0 ((by rw [hg]; exact (below_size (by exact XPrint.bz HB.out)) : w.heap.size ≤ gb340))
                have n6_ := XPrint.A0 ((by rw [hg]; exact (below_size (by exact XPrint.bz HB.out)) : w.heap.size ≤ gb340))
                have n7_ := XPrint.A0 ((by rw [hg]; exact Nat.ne_of_lt (XPrint.bl BK322.out) : gb322 ≠ gb340))
                have n8_ := XPrint.A0 ((by rw [hg]; exact Nat.ne_of_gt (XPrint.bl BK322.out) : gb340 ≠ gb322))
                have n9_ := XPrint.A0 ((by rw [hg]; exact Nat.ne_of_lt (XPrint.bl BK326.out) : gb326 ≠ gb340))
                have n10_ := XPrint.A0 ((by rw [hg]; exact Nat.ne_of_gt (XPrint.bl BK326.out) : gb340 ≠ gb326))
                have n11_ := XPrint.A0 ((by rw [hg]; exact Nat.ne_of_lt (XPrint.bl BK335.out) : gb335 ≠ gb340))
                have n12_ := XPrint.A0 ((by rw [hg]; exact Nat.ne_of_gt (XPrint.bl BK335.out) : gb340 ≠ gb335))
                clear BK322 BK326 BK335 HB
                have BK322 := n0_; have BK326 := n1_; have BK335 := n2_; have HB := n3_; have BK340 := n4_; have GW340 := n5_; have GE340 := n6_; have NB322_340 := n7_; have NB340_322 := n8_; have NB326_340 := n9_; have NB340_326 := n10_; have NB335_340 := n11_; have NB340_335 := n12_
                clear n0_ n1_ n2_ n3_ n4_ n5_ n6_ n7_ n8_ n9_ n10_ n11_ n12_ hb hbox hg
                refine hK.out _ _ ⟨(blk_cell BK322.out 0).trans rfl, (blk_cell BK322.out 1).trans rfl, ((HB.out.cell (World.block_lt_of_cell? w _ hw336_0)).trans hw336_0), ((HB.out.cell (World.block_lt_of_cell? w _ hw336_1)).trans hw336_1)⟩ (fun hHeld => ?_)
                clear hK K
                refine norm_ (a' := ?_) ?_ ?_
                rotate_left
                ·show Act.put _ (some 9) _ = _
                 simp only [Act.put, List.setIfInBounds_toArray, List.set_cons_zero, List.set_cons_succ, i64_w, i32_w]
                 rfl
                exact norm_ (by simp only [putAll, Act.put, List.setIfInBounds_toArray, List.set_cons_zero, List.set_cons_succ]) (hCont (gb340) _ ⟨hHeld, (XPrint.bk BK322.out), (XPrint.bk BK326.out), (XPrint.bk BK335.out), (XPrint.bk BK340.out), GW340.out, GE340.out, NB322_340.out, NB340_322.out, NB326_340.out, NB340_326.out, NB335_340.out, NB340_335.out, (by exact XPrint.bz HB.out)⟩)
               ·skip
                refine box_step ?hg (N := 9) ?hd (cs := #[.int .i64 0, .int .i64 0]) (t := 23) ?hr ?_; (case hd => rfl); (case hg => rfl); (case hr => first | (go_simp; done) | (go_simp; rfl))
                intro gb340 hg w43 hbox hb
                have n0_ := XPrint.A0 (XPrint.bb BK322.out hb)
                have n1_ := XPrint.A0 (XPrint.bb BK326.out hb)
                have n2_ := XPrint.A0 (XPrint.bb BK335.out hb)
                have n3_ := XPrint.A0 (below_step (by exact XPrint.bz HB.out) hb)
                have n4_ := XPrint.A0 (hbox)
                have n5_ := XPrint.A0 ((by rw [hg]; exact (below_size (by exact XPrint.bz HB.out)) : w.heap.size ≤ gb340))
                have n6_ := XPrint.A0 ((by rw [hg]; exact (below_size (by exact XPrint.bz HB.out)) : w.heap.size ≤ gb340))
                have n7_ := XPrint.A0 ((by rw [hg]; exact Nat.ne_of_lt (XPrint.bl BK322.out) : gb322 ≠ gb340))
                have n8_ := XPrint.A0 ((by rw [hg]; exact Nat.ne_of_gt (XPrint.bl BK322.out) : gb340 ≠ gb322))
                have n9_ := XPrint.A0 ((by rw [hg]; exact Nat.ne_of_lt (XPrint.bl BK326.out) : gb326 ≠ gb340))
                have n10_ := XPrint.A0 ((by rw [hg]; exact Nat.ne_of_gt (XPrint.bl BK326.out) : gb340 ≠ gb326))
                have n11_ := XPrint.A0 ((by rw [hg]; exact Nat.ne_of_lt (XPrint.bl BK335.out) : gb335 ≠ gb340))
                have n12_ := XPrint.A0 ((by rw [hg]; exact Nat.ne_of_gt (XPrint.bl BK335.out) : gb340 ≠ gb335))
                clear BK322 BK326 BK335 HB
                have BK322 := n0_; have BK326 := n1_; have BK335 := n2_; have HB := n3_; have BK340 := n4_; have GW340 := n5_; have GE340 := n6_; have NB322_340 := n7_; have NB340_322 := n8_; have NB326_340 := n9_; have NB340_326 := n10_; have NB335_340 := n11_; have NB340_335 := n12_
                clear n0_ n1_ n2_ n3_ n4_ n5_ n6_ n7_ n8_ n9_ n10_ n11_ n12_ hb hbox hg
                refine hK.out _ _ ⟨(blk_cell BK322.out 0).trans rfl, (blk_cell BK322.out 1).trans rfl, ((HB.out.cell (World.block_lt_of_cell? w _ hw336_0)).trans hw336_0), ((HB.out.cell (World.block_lt_of_cell? w _ hw336_1)).trans hw336_1)⟩ (fun hHeld => ?_)
                clear hK K
                refine norm_ (a' := ?_) ?_ ?_
                rotate_left
                ·show Act.put _ (some 9) _ = _
                 simp only [Act.put, List.setIfInBounds_toArray, List.set_cons_zero, List.set_cons_succ, i64_w, i32_w]
                 rfl
                refine one_ (i := 7) (N := some 58) #[true, true, true, true, true, true, true, true, false, false, false, true, false, false] rfl rfl (one_of HT_.out (by kernel_rfl)) (by decide) (fun K hK => ?_)
                refine goes_ Try.func14 (by kernel_rfl) rfl #[.agg #[.int .i64 t319, .int .i64 t320], .agg #[.int .i64 ((rd_T23 l0 (ji25)).f0), .int .i64 ((rd_T23 l0 (ji25)).f1)]] (by rfl) rfl rfl (by (try simp only [List.map_toArray, List.map_cons, List.map_nil]); first | done | (simp only [Int.tmod_eq_emod_of_nonneg hjl25]; rfl) | (simp only [hji25]; rfl) | rfl | (simp only [List.length_drop, List.length_take]; rfl)) ?_
                with_reducible refine (vec_Sub.calls kj19 t319 t320 ((rd_T23 l0 (ji25)).f0) ((rd_T23 l0 (ji25)).f1) t337 t338 t339 _ A30.out).mono ?_
                rintro e w44 ⟨rfl, hb⟩
                refine ⟨_, rfl, ?_⟩
                have n0_ := XPrint.A0 (XPrint.bb BK322.out hb)
                have n1_ := XPrint.A0 (XPrint.bb BK326.out hb)
                have n2_ := XPrint.A0 (XPrint.bb BK335.out hb)
                have n3_ := XPrint.A0 (XPrint.bb BK340.out hb)
                have n4_ := XPrint.A0 (below_step (by exact XPrint.bz HB.out) hb)
                clear BK322 BK326 BK335 BK340 HB
                have BK322 := n0_; have BK326 := n1_; have BK335 := n2_; have BK340 := n3_; have HB := n4_
                clear n0_ n1_ n2_ n3_ n4_
                (try clear hb)
                (try clear hb2)
                (try clear hk)
                (try clear hi)
                refine hK.out _ _ ⟨(blk_cell BK322.out 0).trans rfl, (blk_cell BK322.out 1).trans rfl, ((HB.out.cell (World.block_lt_of_cell? w _ hw336_0)).trans hw336_0), ((HB.out.cell (World.block_lt_of_cell? w _ hw336_1)).trans hw336_1)⟩ (fun hHeld => ?_)
                clear hK K
                refine norm_ (a' := ?_) ?_ ?_
                rotate_left
                ·show Act.put _ (some 58) _ = _
                 simp only [Act.put, List.setIfInBounds_toArray, List.set_cons_zero, List.set_cons_succ, i64_w, i32_w]
                 rfl
                refine pure_ (i := 8) (N := some 50) (v := ?_) (a' := ?_) #[true, true, true, true, true, true, true, true, true, false, false, true, false, false] rfl rfl (any_of HT_.out (by kernel_rfl)) (fun _ _ _ h => h) (Or.inl ⟨by rfl, ?_⟩) ?_ ?_
                rotate_left
                ·intro w'
                 go_simp
                 with_reducible rfl
                rotate_left
                ·simp only [Act.put, List.setIfInBounds_toArray, List.set_cons_zero, List.set_cons_succ, i64_w, i32_w]
                 rfl
                refine pure_ (i := 9) (N := some 59) (v := ?_) (a' := ?_) #[true, true, true, true, true, true, true, true, true, true, false, true, false, false] rfl rfl (any_of HT_.out (by kernel_rfl)) (fun _ _ _ h => h) (Or.inl ⟨by rfl, ?_⟩) ?_ ?_
                rotate_left
                ·intro w'
                 go_simp
                 with_reducible rfl
                rotate_left
                ·simp only [Act.put, List.setIfInBounds_toArray, List.set_cons_zero, List.set_cons_succ, i64_w, i32_w]
                 rfl
                refine pure_ (i := 10) (N := some 60) (v := ?_) (a' := ?_) #[true, true, true, true, true, true, true, true, true, true, true, true, false, false] rfl rfl (any_of HT_.out (by kernel_rfl)) (fun _ _ _ h => h) (Or.inl ⟨by rfl, ?_⟩) ?_ ?_
                rotate_left
                ·intro w'
                 go_simp
                 with_reducible rfl
                rotate_left
                ·simp only [Act.put, List.setIfInBounds_toArray, List.set_cons_zero, List.set_cons_succ, i64_w, i32_w]
                 rfl
                exact norm_ (by simp only [putAll, Act.put, List.setIfInBounds_toArray, List.set_cons_zero, List.set_cons_succ]) (hCont (gb340) _ ⟨hHeld, (XPrint.bk BK322.out), (XPrint.bk BK326.out), (XPrint.bk BK335.out), (XPrint.bk BK340.out), GW340.out, GE340.out, NB322_340.out, NB340_322.out, NB326_340.out, NB340_326.out, NB335_340.out, NB340_335.out, (by exact XPrint.bz HB.out)⟩)
              rintro gb340 w45 ⟨hS_, h0_, h1_, h2_, h3_, h4_, h5_, h6_, h7_, h8_, h9_, h10_, h11_, h12_⟩
              have n0_ : Aside0 (w45.heap[gb322]? = some (.cells #[.int .i64 t319, .int .i64 t320] 23 (0, 0))) := ⟨h0_⟩
              have n1_ : Aside0 (w45.heap[gb326]? = some (.cells #[.int .i64 t323, .int .i64 t324] 23 (0, 0))) := ⟨h1_⟩
              have n2_ : Aside0 (w45.heap[gb335]? = some (.cells #[.int .i64 t332, .int .i64 t333] 23 (0, 0))) := ⟨h2_⟩
              have n3_ : Aside0 (w45.heap[gb340]? = some (.cells #[.int .i64 0, .int .i64 0] 23 (0, 0))) := ⟨h3_⟩
              have n4_ : Aside0 (w.heap.size ≤ gb340) := ⟨h4_⟩
              have n5_ : Aside0 (w.heap.size ≤ gb340) := ⟨h5_⟩
              have n6_ : Aside0 (gb322 ≠ gb340) := ⟨h6_⟩
              have n7_ : Aside0 (gb340 ≠ gb322) := ⟨h7_⟩
              have n8_ : Aside0 (gb326 ≠ gb340) := ⟨h8_⟩
              have n9_ : Aside0 (gb340 ≠ gb326) := ⟨h9_⟩
              have n10_ : Aside0 (gb335 ≠ gb340) := ⟨h10_⟩
              have n11_ : Aside0 (gb340 ≠ gb335) := ⟨h11_⟩
              have n12_ : Aside0 (Below w.heap.size w w45) := ⟨h12_⟩
              clear BK322 BK326 BK335 HB h0_ h1_ h2_ h3_ h4_ h5_ h6_ h7_ h8_ h9_ h10_ h11_ h12_
              have BK322 := n0_; have BK326 := n1_; have BK335 := n2_; have BK340 := n3_; have GW340 := n4_; have GE340 := n5_; have NB322_340 := n6_; have NB340_322 := n7_; have NB326_340 := n8_; have NB340_326 := n9_; have NB335_340 := n10_; have NB340_335 := n11_; have HB := n12_
              clear n0_ n1_ n2_ n3_ n4_ n5_ n6_ n7_ n8_ n9_ n10_ n11_ n12_
              have hHeld : w45.cell? ⟨gb322, 0, none⟩ = some (.int .i64 t319) ∧ w45.cell? ⟨gb322, 1, none⟩ = some (.int .i64 t320) ∧ w45.cell? (ad336.add (((ji25)).toNat * 2)) = some (.int .i64 ((rd_T23 l0 (ji25)).f0)) ∧ w45.cell? ⟨(ad336.add (((ji25)).toNat * 2)).block, (ad336.add (((ji25)).toNat * 2)).off + 1, none⟩ = some (.int .i64 ((rd_T23 l0 (ji25)).f1)) := hS_
              refine norm_ (a' := ?_) ?_ ?_
              rotate_left
              ·simp only [putAll, Act.put, List.setIfInBounds_toArray, List.set_cons_zero, List.set_cons_succ]
               rfl
              refine one_ (i := 12) (N := none) #[true, true, true, true, true, true, true, true, true, true, true, true, true, false] rfl rfl (one_of HT_.out (by kernel_rfl)) (by decide) (fun K hK => ?_)
              have hs46 : w45.cell? ⟨gb340, 0, none⟩ = some (.int .i64 0) := (blk_cell BK340.out 0).trans rfl
              have hfs46 := blk_frozen BK340.out 0
              have hns46_0 := NB322_340.out
              have hns46_1 := NB326_340.out
              have hns46_2 := NB335_340.out
              have hms46_0 := NB340_322.out
              have hms46_1 := NB340_326.out
              have hms46_2 := NB340_335.out
              have hs47 : w45.cell? ⟨gb340, 1, none⟩ = some (.int .i64 0) := (blk_cell BK340.out 1).trans rfl
              have hfs47 := blk_frozen BK340.out 1
              have hns47_0 := NB322_340.out
              have hns47_1 := NB326_340.out
              have hns47_2 := NB335_340.out
              have hms47_0 := NB340_322.out
              have hms47_1 := NB340_326.out
              have hms47_2 := NB340_335.out
              refine skip_ (w1 := ?_) (by rfl) rfl ?_ ?_
              rotate_left
              ·go_simp
               rfl
              refine hK.out _ _ ⟨((cell_far (p := ⟨gb340, _, none⟩) NB322_340.out _).trans (((cell_far (p := ⟨gb340, _, none⟩) NB322_340.out _).trans (hHeld.1)))), ((cell_far (p := ⟨gb340, _, none⟩) NB322_340.out _).trans (((cell_far (p := ⟨gb340, _, none⟩) NB322_340.out _).trans (hHeld.2.1)))), ((cell_far (p := ⟨gb340, _, none⟩) (by first | exact Nat.ne_of_lt (Nat.lt_of_lt_of_le (by have := World.block_lt_of_cell? _ _ hw336_0; first | rwa [add_block] at this | exact this) GW340.out) | (rw [add_block]; exact Nat.ne_of_lt (Nat.lt_of_lt_of_le (by have := World.block_lt_of_cell? _ _ hw336_0; first | rwa [add_block] at this | exact this) GW340.out)) | (show (Addr.add _ _).block ≠ _; rw [add_block]; exact Nat.ne_of_lt (Nat.lt_of_lt_of_le (by have := World.block_lt_of_cell? _ _ hw336_0; first | rwa [add_block] at this | exact this) GW340.out)) | (dsimp only; exact Nat.ne_of_lt (Nat.lt_of_lt_of_le (by have := World.block_lt_of_cell? _ _ hw336_0; first | rwa [add_block] at this | exact this) GW340.out))) _).trans (((cell_far (p := ⟨gb340, _, none⟩) (by first | exact Nat.ne_of_lt (Nat.lt_of_lt_of_le (by have := World.block_lt_of_cell? _ _ hw336_0; first | rwa [add_block] at this | exact this) GW340.out) | (rw [add_block]; exact Nat.ne_of_lt (Nat.lt_of_lt_of_le (by have := World.block_lt_of_cell? _ _ hw336_0; first | rwa [add_block] at this | exact this) GW340.out)) | (show (Addr.add _ _).block ≠ _; rw [add_block]; exact Nat.ne_of_lt (Nat.lt_of_lt_of_le (by have := World.block_lt_of_cell? _ _ hw336_0; first | rwa [add_block] at this | exact this) GW340.out)) | (dsimp only; exact Nat.ne_of_lt (Nat.lt_of_lt_of_le (by have := World.block_lt_of_cell? _ _ hw336_0; first | rwa [add_block] at this | exact this) GW340.out))) _).trans (hHeld.2.2.1)))), ((cell_far (p := ⟨gb340, _, none⟩) (by first | exact Nat.ne_of_lt (Nat.lt_of_lt_of_le (by have := World.block_lt_of_cell? _ _ hw336_1; first | rwa [add_block] at this | exact this) GW340.out) | (rw [add_block]; exact Nat.ne_of_lt (Nat.lt_of_lt_of_le (by have := World.block_lt_of_cell? _ _ hw336_1; first | rwa [add_block] at this | exact this) GW340.out)) | (show (Addr.add _ _).block ≠ _; rw [add_block]; exact Nat.ne_of_lt (Nat.lt_of_lt_of_le (by have := World.block_lt_of_cell? _ _ hw336_1; first | rwa [add_block] at this | exact this) GW340.out)) | (dsimp only; exact Nat.ne_of_lt (Nat.lt_of_lt_of_le (by have := World.block_lt_of_cell? _ _ hw336_1; first | rwa [add_block] at this | exact this) GW340.out))) _).trans (((cell_far (p := ⟨gb340, _, none⟩) (by first | exact Nat.ne_of_lt (Nat.lt_of_lt_of_le (by have := World.block_lt_of_cell? _ _ hw336_1; first | rwa [add_block] at this | exact this) GW340.out) | (rw [add_block]; exact Nat.ne_of_lt (Nat.lt_of_lt_of_le (by have := World.block_lt_of_cell? _ _ hw336_1; first | rwa [add_block] at this | exact this) GW340.out)) | (show (Addr.add _ _).block ≠ _; rw [add_block]; exact Nat.ne_of_lt (Nat.lt_of_lt_of_le (by have := World.block_lt_of_cell? _ _ hw336_1; first | rwa [add_block] at this | exact this) GW340.out)) | (dsimp only; exact Nat.ne_of_lt (Nat.lt_of_lt_of_le (by have := World.block_lt_of_cell? _ _ hw336_1; first | rwa [add_block] at this | exact this) GW340.out))) _).trans (hHeld.2.2.2))))⟩ (fun hHeld => ?_)
              clear hK K
              refine pure_ (i := 13) (N := some 10) (v := ?_) (a' := ?_) #[true, true, true, true, true, true, true, true, true, true, true, true, true, true] rfl rfl (any_of HT_.out (by kernel_rfl)) (fun _ _ _ h => h) (Or.inl ⟨by rfl, ?_⟩) ?_ ?_
              rotate_left
              ·intro w'
               go_simp
               with_reducible rfl
              rotate_left
              ·simp only [Act.put, List.setIfInBounds_toArray, List.set_cons_zero, List.set_cons_succ, i64_w, i32_w]
               rfl
              refine done_ (done_of HT_.out (by kernel_rfl)) ?_
              have hnb48 := NB340_322.out
              have hnc48 := NB322_340.out
              have hnb49 := NB340_326.out
              have hnc49 := NB326_340.out
              have hnb50 := NB340_335.out
              have hnc50 := NB335_340.out
              have hcz51_0 : w45.cell? ⟨gb340, 0, none⟩ = some (.int .i64 0) := (blk_cell BK340.out 0).trans rfl
              have hcz51_1 : w45.cell? ⟨gb340, 1, none⟩ = some (.int .i64 0) := (blk_cell BK340.out 1).trans rfl
              have hfz51_0 := blk_frozen BK340.out 0
              have hfz51_1 := blk_frozen BK340.out 1
              have hcz52_0 : w45.cell? ⟨gb335, 0, none⟩ = some (.int .i64 t332) := (blk_cell BK335.out 0).trans rfl
              have hcz52_1 : w45.cell? ⟨gb335, 1, none⟩ = some (.int .i64 t333) := (blk_cell BK335.out 1).trans rfl
              have hfz52_0 := blk_frozen BK335.out 0
              have hfz52_1 := blk_frozen BK335.out 1
              try go_wp2_with (first | (go_at_call 28; (with_reducible refine (liverylaw01_head.calls kj19  t341 _ A34.out).mono ?_); rintro e w53 ⟨rfl, hb⟩; have n0_ := XPrint.A0 (blk_below (g := gb322) (o := .cells #[.int .i64 t319, .int .i64 t320] 23 (0, 0)) (by (with_reducible repeat (first | refine blk_drewN ?_ _ | refine blk_drew ?_ | refine blk_alloc ?_ _)); refine blk_far ?_ NB322_340.out _; (with_reducible repeat (first | refine blk_drewN ?_ _ | refine blk_drew ?_ | refine blk_alloc ?_ _)); refine blk_far ?_ NB322_340.out _; (with_reducible repeat (first | refine blk_drewN ?_ _ | refine blk_drew ?_ | refine blk_alloc ?_ _)); exact BK322.out) hb); have n1_ := XPrint.A0 (blk_below (g := gb326) (o := .cells #[.int .i64 t323, .int .i64 t324] 23 (0, 0)) (by (with_reducible repeat (first | refine blk_drewN ?_ _ | refine blk_drew ?_ | refine blk_alloc ?_ _)); refine blk_far ?_ NB326_340.out _; (with_reducible repeat (first | refine blk_drewN ?_ _ | refine blk_drew ?_ | refine blk_alloc ?_ _)); refine blk_far ?_ NB326_340.out _; (with_reducible repeat (first | refine blk_drewN ?_ _ | refine blk_drew ?_ | refine blk_alloc ?_ _)); exact BK326.out) hb); have n2_ := XPrint.A0 (blk_below (g := gb335) (o := .cells #[.int .i64 t332, .int .i64 t333] 23 (0, 0)) (by (with_reducible repeat (first | refine blk_drewN ?_ _ | refine blk_drew ?_ | refine blk_alloc ?_ _)); refine blk_far ?_ NB335_340.out _; (with_reducible repeat (first | refine blk_drewN ?_ _ | refine blk_drew ?_ | refine blk_alloc ?_ _)); refine blk_far ?_ NB335_340.out _; (with_reducible repeat (first | refine blk_drewN ?_ _ | refine blk_drew ?_ | refine blk_alloc ?_ _)); exact BK335.out) hb); have n3_ := XPrint.A0 (blk_below (g := gb340) (o := .cells #[.int .i64 t337, .int .i64 t338] 23 (0, 0)) (by (with_reducible repeat (first | refine blk_drewN ?_ _ | refine blk_drew ?_ | refine blk_alloc ?_ _)); refine blk_put (cs := #[.int .i64 t337, .int .i64 0]) ?_ 1 _ rfl; (with_reducible repeat (first | refine blk_drewN ?_ _ | refine blk_drew ?_ | refine blk_alloc ?_ _)); refine blk_put (cs := #[.int .i64 0, .int .i64 0]) ?_ 0 _ rfl; (with_reducible repeat (first | refine blk_drewN ?_ _ | refine blk_drew ?_ | refine blk_alloc ?_ _)); exact BK340.out) hb); have n4_ := XPrint.A0 (below_step (by repeat (first | (with_reducible first | exact HB.out | apply below_alloc | apply pw_below_drewN | apply below_drew1 | refine below_set ?_ GE322.out | refine below_set ?_ GE326.out | refine below_set ?_ GE335.out | refine below_set ?_ GE340.out) | exact HB.out)) hb); clear BK322; clear BK326; clear BK335; clear BK340; clear HB; have BK322 := n0_; have BK326 := n1_; have BK335 := n2_; have BK340 := n3_; have HB := n4_; clear n0_ n1_ n2_ n3_ n4_; (try clear hb); (try clear hb2); (try clear hk); (try clear hi)))
              go_ret
              exact ⟨by first | rfl | (simp [errW_none, errW_some] <;> rfl) | (simp only [← hji25]; first | rfl | (simp [errW_none, errW_some] <;> rfl)) | (simp [*, errW_none, errW_some] <;> rfl), by exact XPrint.bz HB.out⟩
             ·rw [if_neg c33] at H
              exact absurd H (by simp)
            ·rw [if_neg c32] at H
             exact absurd H (by simp)
           ·rw [if_neg c31] at H
            exact absurd H (by simp)
          ·rw [if_neg c29] at H
           exact absurd H (by simp)
         ·rw [if_neg c27] at H
          exact absurd H (by simp)
        ·rw [if_neg c26] at H
         exact absurd H (by simp)

end Go.Proofs.Ytdcgilnmncanfaa.PVecSums
