-- printed by this session's own driver over the kit's printer: Lean checks it
import Derived.Test.YthibppfdonepoaaCNodePlays0
import Derived.Test.YthibppfdonepoaaCNodePlays13
namespace Go.Proofs.Ythibppfdonepoaa.PNodePlays
open Go.RowKit Go.Proofs.YthibppfdonepoaaW.PrintWords Go.Proofs.YthibppfdonepoaaW.PrintLast Go.Proofs.YthibppfdonepoaaW.PrintMore
attribute [local go_sem] max2_int min2_int max_two min_two max_three min_three max_four min_four   -- for this text's walks alone
set_option linter.unusedVariables false
set_option linter.unusedSimpArgs false

/-! ### liveryref22_Cap: function 70 -/
def liveryref22_Cap.f (k : Nat) (a0_0 : Int) (a0_1 : Int) (l0_2 : List (S39)) : Option (Int × Int) := (liveryref22_Total.f k a0_0 a0_1 l0_2).bind fun t361 => ((liveryref22_Total.f k a0_0 a0_1 l0_2).bind fun t362 => (some (wrap64 (a0_0 * t361), wrap64 (a0_1 * t362))))
theorem liveryref22_Cap.mono : ∀ a0 a1 a2 k, LeO (liveryref22_Cap.f k a0 a1 a2) (liveryref22_Cap.f (k + 1) a0 a1 a2) := by
 intro a0 a1 a2 k
 unfold liveryref22_Cap.f
 repeat' first
   | (with_reducible exact liveryref22_Total.mono _ _ _ _)
   | (with_reducible exact LeO.refl _)
   | (with_reducible exact LeO.none _)
   | (with_reducible refine LeO.ite ?_ ?_)
   | (with_reducible refine LeO.bind ?_ (fun _ => ?_))
   | exact liveryref22_Total.mono _ _ _ _
   | exact LeO.none _
   | refine LeO.ite ?_ ?_
   | refine LeO.bind ?_ (fun _ => ?_)
def liveryref22_Cap.T1 : Bool × List (List Nat × List Nat) := (true, [([], []), ([0], [0]), ([1], [1]), ([], []), ([3], [3]), ([2, 4], [2, 4]), ([], []), ([6], [6]), ([7], [7]), ([], []), ([9, 4], [9]), ([8, 10], [8, 10]), ([5, 11], [5, 11]), ([12, 10, 0, 1, 2, 3, 4, 5, 6, 7, 8, 9, 10, 11, 12], [12])])
def liveryref22_Cap.B1 : List Nat := [0, 1, 3, 0, 8, 31, 0, 64, 192, 0, 536, 2008, 4095, 8191]
theorem liveryref22_Cap.tab1 : rtab .any (opsOf Try.f70 1) = liveryref22_Cap.T1 := by kernel_rfl
theorem liveryref22_Cap.bits1 : waitsOk liveryref22_Cap.T1.2 liveryref22_Cap.B1 = true := by kernel_rfl
set_option maxHeartbeats 8000000 in
set_option maxRecDepth 100000 in
theorem liveryref22_Cap.calls (k : Nat) (a0_0 : Int) (a0_1 : Int) (A0_2 : Option Addr) (c0_2 : Nat) (l0_2 : List (S39)) (r1 : Int) (r2 : Int) (w : World) (hr0_2 : Kd.C k39 w A0_2 l0_2.length l0_2) (hc0_2 : l0_2.length ≤ c0_2) (h : liveryref22_Cap.f k a0_0 a0_1 l0_2 = some (r1, r2)) :
  Calls Try.prog 70 #[.agg #[.int .i64 a0_0, .int .i64 a0_1, .slice A0_2 l0_2.length c0_2]] w fun e w' => e = .returned (.agg #[.int .i64 r1, .int .i64 r2]) ∧ Below w.heap.size w w' := by
 have hu31 := Try.underlying31
 have hu23 := Try.underlying23
 have HR0_2 := XPrint.A0 hr0_2
 have HC0_2 := XPrint.A0 hc0_2
 clear hr0_2 hc0_2
 have HB := XPrint.A0 (Below.refl w.heap.size w)
 have H : ((liveryref22_Total.f k a0_0 a0_1 l0_2).bind fun t361 => ((liveryref22_Total.f k a0_0 a0_1 l0_2).bind fun t362 => (some (wrap64 (a0_0 * t361), wrap64 (a0_1 * t362))))) = some (r1, r2) := h
 clear h
 replace H := Option.bind_eq_some_iff.mp H
 obtain ⟨t361, A20, H⟩ := H
 replace H : ((liveryref22_Total.f k a0_0 a0_1 l0_2).bind fun t362 => (some (wrap64 (a0_0 * t361), wrap64 (a0_1 * t362)))) = some (r1, r2) := H
 have A2 := XPrint.A0 A20
 clear A20
 replace H := Option.bind_eq_some_iff.mp H
 obtain ⟨t362, A30, H⟩ := H
 replace H : (some (wrap64 (a0_0 * t361), wrap64 (a0_1 * t362))) = some (r1, r2) := H
 have A3 := XPrint.A0 A30
 clear A30
 simp only [Option.some.injEq, Prod.mk.injEq] at H
 obtain ⟨rfl, rfl⟩ := H
 go_enter Try.func70, Try.ntmps70
 try go_wp2_with (first | ((with_reducible refine gate_dst (N := 1) rfl ?_); refine box_event ?hg (N := 1) ?hd (cs := #[.int .i64 a0_0, .int .i64 a0_1, .slice A0_2 l0_2.length c0_2]) (t := 31) ?hr ?_; (case hd => rfl); (case hg => rfl); (case hr => first | (go_simp; done) | (go_simp; rfl)); intro gb359 hg w4 hbox hb; have BK359 := XPrint.A0 (hbox); have GW359 := XPrint.A0 (XPrint.gz HB.out hg); have GE359 := XPrint.A0 (XPrint.gz HB.out hg); replace HB := XPrint.A0 (below_step (by exact XPrint.bz HB.out) hb); clear hb hbox hg) | ((with_reducible refine gate_dst (N := 2) rfl ?_); refine box_event ?hg (N := 2) ?hd (cs := #[.int .i64 0, .int .i64 0]) (t := 23) ?hr ?_; (case hd => rfl); (case hg => rfl); (case hr => first | (go_simp; done) | (go_simp; rfl)); intro gb360 hg w5 hbox hb; have BK360 := XPrint.A0 (hbox); have GW360 := XPrint.A0 (XPrint.gz HB.out hg); have GE360 := XPrint.A0 (XPrint.gz HB.out hg); have NB359_360 := XPrint.A1 (by rw [hg]; exact Nat.ne_of_lt (XPrint.al BK359.out) : gb359 ≠ gb360); have NB360_359 := XPrint.A1 (by rw [hg]; exact Nat.ne_of_gt (XPrint.al BK359.out) : gb360 ≠ gb359); replace BK359 := XPrint.A0 (XPrint.ab BK359.out hb); replace HB := XPrint.A0 (below_step (by exact XPrint.bz HB.out) hb); clear hb hbox hg))
 replace BK359 := XPrint.A0 (blk_drew BK359.out)
 replace BK360 := XPrint.A0 (blk_drew BK360.out)
 replace HB := XPrint.A0 (below_drew1 HB.out)
 refine start_ (n := 14) (S := fun w' => w'.cell? ⟨gb359, 0, none⟩ = some (.int .i64 a0_0) ∧ w'.cell? ⟨gb359, 1, none⟩ = some (.int .i64 a0_1) ∧ w'.cell? ⟨gb359, 2, none⟩ = some (.slice A0_2 l0_2.length c0_2)) (ds := []) #[false, false, false, false, false, false, false, false, false, false, false, false, false, false] (by kernel_rfl) rfl rfl ⟨(blk_cell BK359.out 0).trans rfl, (blk_cell BK359.out 1).trans rfl, (blk_cell BK359.out 2).trans rfl⟩ (fun hHeld => ?_); refine with_tabW liveryref22_Cap.tab1 liveryref22_Cap.bits1 (fun HT_ HW_ => ?_)
 generalize w5.drew = w6 at BK359 BK360 HB hHeld ⊢
 refine XPrint.pu 0 3 (XPrint.L 14 1) HT_.out (v := ?_) (a' := ?_) ?_ ?_ ?_
 rotate_left
 ·intro w'
  go_simp
  with_reducible rfl
 rotate_left
 ·simp only [XPrint.pw, i64_w, i32_w]
  rfl
 refine XPrint.pu 1 4 (XPrint.L 14 3) HT_.out (v := ?_) (a' := ?_) ?_ ?_ ?_
 rotate_left
 ·intro w'
  go_simp
  with_reducible rfl
 rotate_left
 ·simp only [XPrint.pw, i64_w, i32_w]
  rfl
 refine XPrint.pu 6 9 (XPrint.L 14 67) HT_.out (v := ?_) (a' := ?_) ?_ ?_ ?_
 rotate_left
 ·intro w'
  go_simp
  with_reducible rfl
 rotate_left
 ·simp only [XPrint.pw, i64_w, i32_w]
  rfl
 refine XPrint.pu 7 10 (XPrint.L 14 195) HT_.out (v := ?_) (a' := ?_) ?_ ?_ ?_
 rotate_left
 ·intro w'
  go_simp
  with_reducible rfl
 rotate_left
 ·simp only [XPrint.pw, i64_w, i32_w]
  rfl
 refine XPrint.ta 2 5 (XPrint.L 14 199) HT_.out HW_.out (v := ?_) (a' := ?_) ?_ hHeld ?_ ?_
 rotate_left
 ·rintro w' ⟨s0, s1, s2⟩
  go_simp
  with_reducible rfl
 rotate_left
 ·simp only [XPrint.pw, i64_w, i32_w]
  rfl
 refine XPrint.ta 3 6 (XPrint.L 14 207) HT_.out HW_.out (v := ?_) (a' := ?_) ?_ hHeld ?_ ?_
 rotate_left
 ·rintro w' ⟨s0, s1, s2⟩
  go_simp
  with_reducible rfl
 rotate_left
 ·simp only [XPrint.pw, i64_w, i32_w]
  rfl
 refine XPrint.ta 8 11 (XPrint.L 14 463) HT_.out HW_.out (v := ?_) (a' := ?_) ?_ hHeld ?_ ?_
 rotate_left
 ·rintro w' ⟨s0, s1, s2⟩
  go_simp
  with_reducible rfl
 rotate_left
 ·simp only [XPrint.pw, i64_w, i32_w]
  rfl
 refine XPrint.ta 9 12 (XPrint.L 14 975) HT_.out HW_.out (v := ?_) (a' := ?_) ?_ hHeld ?_ ?_
 rotate_left
 ·rintro w' ⟨s0, s1, s2⟩
  go_simp
  with_reducible rfl
 rotate_left
 ·simp only [XPrint.pw, i64_w, i32_w]
  rfl
 refine one_ (i := 4) (N := some 7) (XPrint.L 14 991) rfl rfl (one_of HT_.out (by kernel_rfl)) (by decide) (fun K hK => ?_)
 refine XPrint.gs Try.func69 #[.agg #[.int .i64 a0_0, .int .i64 a0_1, .slice A0_2 l0_2.length c0_2]] ?_
 with_reducible refine (liveryref22_Total.calls k a0_0 a0_1 _ _ l0_2 t361 _ ?side1 ?side2 A2.out).mono ?_
 (case side1 => repeat (first | exact (Kd.C_below HR0_2.out HB.out) | (with_reducible refine Kd.C_alloc ?_ _) | (with_reducible refine Kd.C_drewN ?_ _) | (with_reducible refine Kd.C_drew ?_)))
 (case side2 => exact HC0_2.out)
 rintro e w7 ⟨rfl, hb⟩
 refine ⟨_, rfl, ?_⟩
 replace BK359 := XPrint.A0 (XPrint.ab BK359.out hb)
 replace BK360 := XPrint.A0 (XPrint.ab BK360.out hb)
 replace HB := XPrint.A0 (below_step (by exact XPrint.bz HB.out) hb)
 (try clear hb)
 (try clear hb2)
 (try clear hk)
 (try clear hi)
 refine hK.out _ _ ⟨(blk_cell BK359.out 0).trans rfl, (blk_cell BK359.out 1).trans rfl, (blk_cell BK359.out 2).trans rfl⟩ (fun hHeld => ?_)
 clear hK K
 refine norm_ (a' := ?_) ?_ ?_
 rotate_left
 ·show Act.put _ (some 7) _ = _
  simp only [XPrint.pw, i64_w, i32_w]
  rfl
 refine XPrint.pu 5 8 (XPrint.L 14 1023) HT_.out (v := ?_) (a' := ?_) ?_ ?_ ?_
 rotate_left
 ·intro w'
  go_simp
  with_reducible rfl
 rotate_left
 ·simp only [XPrint.pw, i64_w, i32_w]
  rfl
 refine one_ (i := 10) (N := some 13) (XPrint.L 14 2047) rfl rfl (one_of HT_.out (by kernel_rfl)) (by decide) (fun K hK => ?_)
 refine XPrint.gs Try.func69 #[.agg #[.int .i64 a0_0, .int .i64 a0_1, .slice A0_2 l0_2.length c0_2]] ?_
 with_reducible refine (liveryref22_Total.calls k a0_0 a0_1 _ _ l0_2 t362 _ ?side1 ?side2 A3.out).mono ?_
 (case side1 => repeat (first | exact (Kd.C_below HR0_2.out HB.out) | (with_reducible refine Kd.C_alloc ?_ _) | (with_reducible refine Kd.C_drewN ?_ _) | (with_reducible refine Kd.C_drew ?_)))
 (case side2 => exact HC0_2.out)
 rintro e w8 ⟨rfl, hb⟩
 refine ⟨_, rfl, ?_⟩
 replace BK359 := XPrint.A0 (XPrint.ab BK359.out hb)
 replace BK360 := XPrint.A0 (XPrint.ab BK360.out hb)
 replace HB := XPrint.A0 (below_step (by exact XPrint.bz HB.out) hb)
 (try clear hb)
 (try clear hb2)
 (try clear hk)
 (try clear hi)
 refine hK.out _ _ ⟨(blk_cell BK359.out 0).trans rfl, (blk_cell BK359.out 1).trans rfl, (blk_cell BK359.out 2).trans rfl⟩ (fun hHeld => ?_)
 clear hK K
 refine norm_ (a' := ?_) ?_ ?_
 rotate_left
 ·show Act.put _ (some 13) _ = _
  simp only [XPrint.pw, i64_w, i32_w]
  rfl
 refine XPrint.pu 11 14 (XPrint.L 14 4095) HT_.out (v := ?_) (a' := ?_) ?_ ?_ ?_
 rotate_left
 ·intro w'
  go_simp
  with_reducible rfl
 rotate_left
 ·simp only [XPrint.pw, i64_w, i32_w]
  rfl
 refine XPrint.pu 12 15 (XPrint.L 14 8191) HT_.out (v := ?_) (a' := ?_) ?_ ?_ ?_
 rotate_left
 ·intro w'
  go_simp
  with_reducible rfl
 rotate_left
 ·simp only [XPrint.pw, i64_w, i32_w]
  rfl
 refine one_ (i := 13) (N := none) (XPrint.L 14 16383) rfl rfl (one_of HT_.out (by kernel_rfl)) (by decide) (fun K hK => ?_)
 have hs9 : w8.cell? ⟨gb360, 0, none⟩ = some (.int .i64 0) := (blk_cell BK360.out 0).trans rfl
 have hfs9 := blk_frozen BK360.out 0
 have hns9_0 := NB359_360.out
 have hms9_0 := NB360_359.out
 have hs10 : w8.cell? ⟨gb360, 1, none⟩ = some (.int .i64 0) := (blk_cell BK360.out 1).trans rfl
 have hfs10 := blk_frozen BK360.out 1
 have hns10_0 := NB359_360.out
 have hms10_0 := NB360_359.out
 refine skip_ (w1 := ?_) (by rfl) rfl ?_ ?_
 rotate_left
 ·go_simp
  rfl
 refine hK.out _ _ ⟨((cell_far (p := ⟨gb360, _, none⟩) NB359_360.out _).trans (((cell_far (p := ⟨gb360, _, none⟩) NB359_360.out _).trans (hHeld.1)))), ((cell_far (p := ⟨gb360, _, none⟩) NB359_360.out _).trans (((cell_far (p := ⟨gb360, _, none⟩) NB359_360.out _).trans (hHeld.2.1)))), ((cell_far (p := ⟨gb360, _, none⟩) NB359_360.out _).trans (((cell_far (p := ⟨gb360, _, none⟩) NB359_360.out _).trans (hHeld.2.2))))⟩ (fun hHeld => ?_)
 clear hK K
 refine done_ (done_of HT_.out (by kernel_rfl)) ?_
 try go_wp2
 refine bodyPost_ret (results_cell_row rfl _ _ gb360 23 #[.int .i64 (wrap64 (a0_0 * t361)), .int .i64 (wrap64 (a0_1 * t362))] (0, 0) _ rfl (by (repeat with_reducible first | refine XPrint.d1 ?_ | refine XPrint.d2 ?_ _ | refine XPrint.d3 ?_ _); refine blk_put (cs := #[.int .i64 (wrap64 (a0_0 * t361)), .int .i64 0]) ?_ 1 _ rfl; (repeat with_reducible first | refine XPrint.d1 ?_ | refine XPrint.d2 ?_ _ | refine XPrint.d3 ?_ _); refine blk_put (cs := #[.int .i64 0, .int .i64 0]) ?_ 0 _ rfl; (repeat with_reducible first | refine XPrint.d1 ?_ | refine XPrint.d2 ?_ _ | refine XPrint.d3 ?_ _); exact BK360.out) Try.underlying23 rfl (by kernel_rfl)) rfl ?_
 exact ⟨by first | rfl | (simp [errW_none, errW_some] <;> rfl) | (simp [*, errW_none, errW_some] <;> rfl), by repeat (first | (with_reducible first | exact HB.out | apply below_alloc | apply pw_below_drewN | apply below_drew1 | refine below_set ?_ GE359.out | refine below_set ?_ GE360.out) | exact HB.out)⟩

-- NOT PRINTED: function 19 (liverylaw22_same)

-- NOT PRINTED: function 3 (liverylaw22_NodePlays)

end Go.Proofs.Ythibppfdonepoaa.PNodePlays
