-- printed by this session's own driver over the kit's printer: Lean checks it
import Derived.Test.YtdcgilnmncanfaaCVecOrder0
import Derived.Test.YtdcgilnmncanfaaCVecOrder2
import Derived.Test.YtdcgilnmncanfaaCVecOrder5
namespace Go.Proofs.Ytdcgilnmncanfaa.PVecOrder
open Go.RowKit Go.Proofs.YtdcgilnmncanfaaW.PrintWords Go.Proofs.YtdcgilnmncanfaaW.PrintLast Go.Proofs.YtdcgilnmncanfaaW.PrintMore
attribute [local go_sem] max2_int min2_int max_two min_two max_three min_three max_four min_four   -- for this text's walks alone
set_option linter.unusedVariables false
set_option linter.unusedSimpArgs false

/-! ### vec_Add: function 29 -/
def vec_Add.l0 : Nat → List (S23) → Int → Int → Int → Int → Option (Int × Int × Int)
 | 0, _, _, _, _, _ => none
 | k + 1, x9, x10, x11, x195000, x195001 => if x11 < x10 then (if 0 ≤ x11 then (if x11 < (x9.length : Int) then ((vec_made_at_vec_Add_1.f x195000 x195001 ((rd_T23 x9 x11).f0) ((rd_T23 x9 x11).f1)).bind fun bt197 => ((vec_told.f k (([(⟨bt197.1, bt197.2⟩ : S23), (⟨(rd_T23 x9 x11).f0, (rd_T23 x9 x11).f1⟩ : S23)] : List (S23)))).bind fun bt202 => (if bt202.2.2 = 0 then (vec_Add.l0 k x9 x10 (wrap64 (x11 + 1)) bt202.1 bt202.2.1) else (some (0, 0, bt202.2.2))))) else (none)) else (none)) else (some (x195000, x195001, 0))
def vec_Add.f (k : Nat) (l0 : List (S23)) : Option (Int × Int × Int) := vec_Add.l0 k l0 (l0.length : Int) 0 0 0
theorem vec_Add.mono_l : ∀ k, (∀ y0 y1 y2 y3 y4, LeO (vec_Add.l0 k y0 y1 y2 y3 y4) (vec_Add.l0 (k + 1) y0 y1 y2 y3 y4))
 | 0 => fun _ _ _ _ _ r h => by simp [vec_Add.l0] at h
 | k + 1 => by
  have ih0 := vec_Add.mono_l k
  ·intro y0 y1 y2 y3 y4
   unfold vec_Add.l0
   repeat' first
   | (with_reducible exact ih0 _ _ _ _ _)
   | (with_reducible exact vec_told.mono _ _)
   | (with_reducible exact LeO.refl _)
   | (with_reducible exact LeO.none _)
   | (with_reducible refine LeO.ite ?_ ?_)
   | (with_reducible refine LeO.bind ?_ (fun _ => ?_))
   | exact ih0 _ _ _ _ _
   | exact vec_told.mono _ _
   | exact LeO.none _
   | refine LeO.ite ?_ ?_
   | refine LeO.bind ?_ (fun _ => ?_)
theorem vec_Add.mono : ∀ a0 k, LeO (vec_Add.f k a0) (vec_Add.f (k + 1) a0) := by
 intro a0 k
 have ih0 := vec_Add.mono_l k
 unfold vec_Add.f
 repeat' first
   | (with_reducible exact ih0 _ _ _ _ _)
   | (with_reducible exact vec_told.mono _ _)
   | (with_reducible exact LeO.refl _)
   | (with_reducible exact LeO.none _)
   | (with_reducible refine LeO.ite ?_ ?_)
   | (with_reducible refine LeO.bind ?_ (fun _ => ?_))
   | exact ih0 _ _ _ _ _
   | exact vec_told.mono _ _
   | exact LeO.none _
   | refine LeO.ite ?_ ?_
   | refine LeO.bind ?_ (fun _ => ?_)
def vec_Add.T5 : Bool × List (List Nat × List Nat) := (true, [([], []), ([], []), ([0, 1], [0, 1]), ([], []), ([2, 3], [2, 3]), ([4, 2], [4]), ([5], [5]), ([6], [6]), ([6], [6]), ([], []), ([9, 7, 5, 0, 1, 2, 3, 4, 5, 6, 7, 9], [7, 9]), ([8, 10, 0, 1, 2, 3, 4, 5, 6, 7, 8, 9, 10], [8])])
def vec_Add.B5 : List Nat := [0, 0, 3, 0, 15, 31, 63, 127, 127, 0, 767, 2047]
theorem vec_Add.tab5 : rtab .any (opsOf Try.f29 5) = vec_Add.T5 := by kernel_rfl
theorem vec_Add.bits5 : waitsOk vec_Add.T5.2 vec_Add.B5 = true := by kernel_rfl
set_option maxHeartbeats 8000000 in
set_option maxRecDepth 100000 in
theorem vec_Add.calls (k : Nat) (A0 : Option Addr) (c0 : Nat) (l0 : List (S23)) (r1 : Int) (r2 : Int) (r3 : Int) (w : World) (hr0 : Kd.C k23 w A0 l0.length l0) (hc0 : l0.length ≤ c0) (h : vec_Add.f k l0 = some (r1, r2, r3)) :
  Calls Try.prog 29 #[.slice A0 l0.length c0] w fun e w' => e = .returned (.tuple #[.agg #[.int .i64 r1, .int .i64 r2], .int .i64 r3]) ∧ Below w.heap.size w w' := by
 have hu23 := Try.underlying23
 have HR0 := XPrint.A0 hr0
 have HC0 := XPrint.A0 hc0
 clear hr0 hc0
 have HB := XPrint.A0 (Below.refl w.heap.size w)
 have H : (vec_Add.l0 k l0 (l0.length : Int) 0 0 0) = some (r1, r2, r3) := h
 clear h
 have H' := XPrint.A0 H
 clear H
 go_enter Try.func29, Try.ntmps29
 go_wp2_with (first | ((with_reducible refine gate_dst (N := 2) rfl ?_); refine box_event ?hg (N := 2) ?hd (cs := #[.int .i64 0, .int .i64 0]) (t := 23) ?hr ?_; (case hd => rfl); (case hg => rfl); (case hr => first | (go_simp; done) | (go_simp; rfl)); intro gb193 hg w2 hbox hb; have BK193 := XPrint.A0 (hbox); have GW193 := XPrint.A0 (XPrint.gz HB.out hg); have GE193 := XPrint.A0 (XPrint.gz HB.out hg); replace HB := XPrint.A0 (below_step (by exact XPrint.bz HB.out) hb); clear hb hbox hg) | ((with_reducible refine gate_dst (N := 4) rfl ?_); refine box_event ?hg (N := 4) ?hd (cs := #[.int .i64 0, .int .i64 0]) (t := 23) ?hr ?_; (case hd => rfl); (case hg => rfl); (case hr => first | (go_simp; done) | (go_simp; rfl)); intro gb194 hg w3 hbox hb; have BK194 := XPrint.A0 (hbox); have GW194 := XPrint.A0 (XPrint.gz HB.out hg); have GE194 := XPrint.A0 (XPrint.gz HB.out hg); have NB193_194 := XPrint.A1 (by rw [hg]; exact Nat.ne_of_lt (XPrint.al BK193.out) : gb193 ≠ gb194); have NB194_193 := XPrint.A1 (by rw [hg]; exact Nat.ne_of_gt (XPrint.al BK193.out) : gb194 ≠ gb193); replace BK193 := XPrint.A0 (XPrint.ab BK193.out hb); replace HB := XPrint.A0 (below_step (by exact XPrint.bz HB.out) hb); clear hb hbox hg))
 go_loopg [11] k (fun kq v11 w' => ∃ (x11_1 : Int) (x194000_1 : Int) (x194001_1 : Int) (x195000_1 : Int) (x195001_1 : Int), v11 = .int .i64 x11_1 ∧ Aside0 (vec_Add.l0 kq l0 (l0.length : Int) x11_1 x195000_1 x195001_1 = some (r1, r2, r3)) ∧ Aside0 (kq ≤ k) ∧ Aside0 (w'.heap[gb193]? = some (.cells #[.int .i64 x194000_1, .int .i64 x194001_1] 23 (0, 0))) ∧ Aside0 (w'.heap[gb194]? = some (.cells #[.int .i64 x195000_1, .int .i64 x195001_1] 23 (0, 0))) ∧ Aside0 (Below w.heap.size w w'))
 case atStart => exact ⟨(0), (0), (0), (0), (0), (by first | rfl | (simp; done) | (simp [*]; done)), H', ⟨Nat.le_refl _⟩, ⟨by (repeat with_reducible first | refine XPrint.d1 ?_ | refine XPrint.d2 ?_ _ | refine XPrint.d3 ?_ _); exact BK193.out⟩, ⟨by (repeat with_reducible first | refine XPrint.d1 ?_ | refine XPrint.d2 ?_ _ | refine XPrint.d3 ?_ _); exact BK194.out⟩, ⟨by exact XPrint.bz HB.out⟩⟩
 case round =>
  clear H'
  try clear c2
  try clear p2
  obtain ⟨x11_1, x194000_1, x194001_1, x195000_1, x195001_1, rfl, HA, HK1, BK193, BK194, HB⟩ := hrel
  cases gk with
  | zero => exact absurd HA.out (by simp [vec_Add.l0])
  | succ k1 =>
   have H := HA.out
   clear HA
   simp only [vec_Add.l0] at H
   by_cases c4 : x11_1 < (l0.length : Int)
   ·rw [if_pos c4] at H
    have c4b0 : decide (x11_1 < (l0.length : Int)) = true := decide_eq_true c4
    clear c4
    by_cases c5 : 0 ≤ x11_1
    ·rw [if_pos c5] at H
     have c5b0 : decide (0 ≤ x11_1) = true := decide_eq_true c5
     clear c5
     by_cases c6 : x11_1 < (l0.length : Int)
     ·rw [if_pos c6] at H
      have c6b0 : decide (x11_1 < (l0.length : Int)) = true := decide_eq_true c6
      clear c6
      replace H := Option.bind_eq_some_iff.mp H
      obtain ⟨⟨t197, t198⟩, A70, H⟩ := H
      replace H : ((vec_told.f k1 (([(⟨t197, t198⟩ : S23), (⟨(rd_T23 l0 x11_1).f0, (rd_T23 l0 x11_1).f1⟩ : S23)] : List (S23)))).bind fun bt202 => (if bt202.2.2 = 0 then (vec_Add.l0 k1 l0 (l0.length : Int) (wrap64 (x11_1 + 1)) bt202.1 bt202.2.1) else (some (0, 0, bt202.2.2)))) = some (r1, r2, r3) := H
      have A7 := XPrint.A0 A70
      clear A70
      obtain ⟨y199, hy199⟩ : ∃ y_ : List (S23), y_ = (([(⟨t197, t198⟩ : S23), (⟨(rd_T23 l0 x11_1).f0, (rd_T23 l0 x11_1).f1⟩ : S23)] : List (S23))) := ⟨_, rfl⟩
      replace H : ((vec_told.f k1 y199).bind fun bt202 => (if bt202.2.2 = 0 then (vec_Add.l0 k1 l0 (l0.length : Int) (wrap64 (x11_1 + 1)) bt202.1 bt202.2.1) else (some (0, 0, bt202.2.2)))) = some (r1, r2, r3) := by first | (rw [hy199]; with_reducible exact H) | (have H2_ := (Option.bind_some _ _).symm.trans H; rw [hy199]; with_reducible exact H2_) | (have H2_ := (Option.bind_some _ _).symm.trans H; with_reducible exact H2_) | with_reducible exact H | (rw [hy199]; exact H) | exact H
      have Ny199 := XPrint.A0 hy199
      clear hy199
      replace H := Option.bind_eq_some_iff.mp H
      obtain ⟨⟨t202, t203, t204⟩, A80, H⟩ := H
      replace H : (if t204 = 0 then (vec_Add.l0 k1 l0 (l0.length : Int) (wrap64 (x11_1 + 1)) t202 t203) else (some (0, 0, t204))) = some (r1, r2, r3) := H
      have A8 := XPrint.A0 A80
      clear A80
      by_cases c9 : t204 = 0
      ·rw [if_pos c9] at H
       have c9b0 : (t204 == 0) = true := beq_iff_eq.mpr c9
       have c9b1 : (t204 != 0) = false := bne_eq_false_iff_eq.mpr c9
       clear c9
       have H' := XPrint.A0 H
       clear H
       have p195 : 0 ≤ (x11_1 : Int) := of_decide_eq_true (by first | (with_reducible assumption) | assumption)
       have q195 : x11_1 < (l0.length : Int) := of_decide_eq_true (by first | (with_reducible assumption) | assumption)
       obtain ⟨ad195, e195, hx195_0, hx195_1⟩ := at_T23 HR0.out x11_1 p195 q195
       cases e195
       replace hx195_0 := (HB.out.cell (World.block_lt_of_cell? w _ hx195_0)).trans hx195_0
       replace hx195_1 := (HB.out.cell (World.block_lt_of_cell? w _ hx195_1)).trans hx195_1
       replace p195 := eq_true p195
       replace q195 := eq_true q195
       try go_wp2_with (first | ((with_reducible refine gate_dst (N := 6) rfl ?_); refine box_event ?hg (N := 6) ?hd (cs := #[.int .i64 0, .int .i64 0]) (t := 23) ?hr ?_; (case hd => rfl); (case hg => rfl); (case hr => first | (go_simp; done) | (go_simp; rfl)); intro gb196 hg w10 hbox hb; have BK196 := XPrint.A0 (hbox); have GW196 := XPrint.A0 (XPrint.gz HB.out hg); have GE196 := XPrint.A0 (XPrint.gz HB.out hg); have NB193_196 := XPrint.A1 (by rw [hg]; exact Nat.ne_of_lt (XPrint.al BK193.out) : gb193 ≠ gb196); have NB196_193 := XPrint.A1 (by rw [hg]; exact Nat.ne_of_gt (XPrint.al BK193.out) : gb196 ≠ gb193); have NB194_196 := XPrint.A1 (by rw [hg]; exact Nat.ne_of_lt (XPrint.al BK194.out) : gb194 ≠ gb196); have NB196_194 := XPrint.A1 (by rw [hg]; exact Nat.ne_of_gt (XPrint.al BK194.out) : gb196 ≠ gb194); replace BK193 := XPrint.A0 (XPrint.ab BK193.out hb); replace BK194 := XPrint.A0 (XPrint.ab BK194.out hb); replace HB := XPrint.A0 (below_step (by exact XPrint.bz HB.out) hb); clear hb hbox hg; have hnb11 := NB196_193.out; have hnc11 := NB193_196.out; have hnb12 := NB196_194.out; have hnc12 := NB194_196.out; have hcz13_0 : w10.cell? ⟨gb196, 0, none⟩ = some (.int .i64 0) := (blk_cell BK196.out 0).trans rfl; have hcz13_1 : w10.cell? ⟨gb196, 1, none⟩ = some (.int .i64 0) := (blk_cell BK196.out 1).trans rfl; have hfz13_0 := blk_frozen BK196.out 0; have hfz13_1 := blk_frozen BK196.out 1))
       have n0_ : Aside0 (((w10.setCell ⟨gb196, 0, none⟩ (.int .i64 ((rd_T23 l0 x11_1).f0))).setCell ⟨gb196, 1, none⟩ (.int .i64 ((rd_T23 l0 x11_1).f1))).heap[gb193]? = some (.cells #[.int .i64 x194000_1, .int .i64 x194001_1] 23 (0, 0))) := ⟨by (repeat with_reducible first | refine XPrint.d1 ?_ | refine XPrint.d2 ?_ _ | refine XPrint.d3 ?_ _); refine blk_far ?_ NB193_196.out _; (repeat with_reducible first | refine XPrint.d1 ?_ | refine XPrint.d2 ?_ _ | refine XPrint.d3 ?_ _); refine blk_far ?_ NB193_196.out _; (repeat with_reducible first | refine XPrint.d1 ?_ | refine XPrint.d2 ?_ _ | refine XPrint.d3 ?_ _); exact BK193.out⟩
       have n1_ : Aside0 (((w10.setCell ⟨gb196, 0, none⟩ (.int .i64 ((rd_T23 l0 x11_1).f0))).setCell ⟨gb196, 1, none⟩ (.int .i64 ((rd_T23 l0 x11_1).f1))).heap[gb194]? = some (.cells #[.int .i64 x195000_1, .int .i64 x195001_1] 23 (0, 0))) := ⟨by (repeat with_reducible first | refine XPrint.d1 ?_ | refine XPrint.d2 ?_ _ | refine XPrint.d3 ?_ _); refine blk_far ?_ NB194_196.out _; (repeat with_reducible first | refine XPrint.d1 ?_ | refine XPrint.d2 ?_ _ | refine XPrint.d3 ?_ _); refine blk_far ?_ NB194_196.out _; (repeat with_reducible first | refine XPrint.d1 ?_ | refine XPrint.d2 ?_ _ | refine XPrint.d3 ?_ _); exact BK194.out⟩
       have n2_ : Aside0 (((w10.setCell ⟨gb196, 0, none⟩ (.int .i64 ((rd_T23 l0 x11_1).f0))).setCell ⟨gb196, 1, none⟩ (.int .i64 ((rd_T23 l0 x11_1).f1))).heap[gb196]? = some (.cells #[.int .i64 ((rd_T23 l0 x11_1).f0), .int .i64 ((rd_T23 l0 x11_1).f1)] 23 (0, 0))) := ⟨by (repeat with_reducible first | refine XPrint.d1 ?_ | refine XPrint.d2 ?_ _ | refine XPrint.d3 ?_ _); refine blk_put (cs := #[.int .i64 ((rd_T23 l0 x11_1).f0), .int .i64 0]) ?_ 1 _ rfl; (repeat with_reducible first | refine XPrint.d1 ?_ | refine XPrint.d2 ?_ _ | refine XPrint.d3 ?_ _); refine blk_put (cs := #[.int .i64 0, .int .i64 0]) ?_ 0 _ rfl; (repeat with_reducible first | refine XPrint.d1 ?_ | refine XPrint.d2 ?_ _ | refine XPrint.d3 ?_ _); exact BK196.out⟩
       have n3_ : Aside0 (Below w.heap.size w ((w10.setCell ⟨gb196, 0, none⟩ (.int .i64 ((rd_T23 l0 x11_1).f0))).setCell ⟨gb196, 1, none⟩ (.int .i64 ((rd_T23 l0 x11_1).f1)))) := ⟨by repeat (first | (with_reducible first | exact HB.out | apply below_alloc | apply pw_below_drewN | apply below_drew1 | refine below_set ?_ GE193.out | refine below_set ?_ GE194.out | refine below_set ?_ GE196.out) | exact HB.out)⟩
       (try clear BK193)
       (try clear BK194)
       (try clear BK196)
       (try clear HB)
       generalize ((w10.setCell ⟨gb196, 0, none⟩ (.int .i64 ((rd_T23 l0 x11_1).f0))).setCell ⟨gb196, 1, none⟩ (.int .i64 ((rd_T23 l0 x11_1).f1))) = w14 at n0_ n1_ n2_ n3_ ⊢
       have BK193 := n0_
       have BK194 := n1_
       have BK196 := n2_
       have HB := n3_
       clear n0_ n1_ n2_ n3_
       replace BK193 := XPrint.A0 (blk_drew BK193.out)
       replace BK194 := XPrint.A0 (blk_drew BK194.out)
       replace BK196 := XPrint.A0 (blk_drew BK196.out)
       replace HB := XPrint.A0 (below_drew1 HB.out)
       refine start_ (n := 12) (S := fun w' => w'.cell? ⟨gb194, 0, none⟩ = some (.int .i64 x195000_1) ∧ w'.cell? ⟨gb194, 1, none⟩ = some (.int .i64 x195001_1) ∧ w'.cell? ⟨gb196, 0, none⟩ = some (.int .i64 ((rd_T23 l0 x11_1).f0)) ∧ w'.cell? ⟨gb196, 1, none⟩ = some (.int .i64 ((rd_T23 l0 x11_1).f1))) (ds := []) #[false, false, false, false, false, false, false, false, false, false, false, false] (by kernel_rfl) rfl rfl ⟨(blk_cell BK194.out 0).trans rfl, (blk_cell BK194.out 1).trans rfl, (blk_cell BK196.out 0).trans rfl, (blk_cell BK196.out 1).trans rfl⟩ (fun hHeld => ?_); refine with_tabW vec_Add.tab5 vec_Add.bits5 (fun HT_ HW_ => ?_)
       generalize w14.drew = w15 at BK193 BK194 BK196 HB hHeld ⊢
       refine XPrint.ta 0 16 (XPrint.L 12 1) HT_.out HW_.out (v := ?_) (a' := ?_) ?_ hHeld ?_ ?_
       rotate_left
       ·rintro w' ⟨s0, s1, s2, s3⟩
        go_simp
        with_reducible rfl
       rotate_left
       ·simp only [XPrint.pw, i64_w, i32_w]
        rfl
       refine XPrint.ta 1 17 (XPrint.L 12 3) HT_.out HW_.out (v := ?_) (a' := ?_) ?_ hHeld ?_ ?_
       rotate_left
       ·rintro w' ⟨s0, s1, s2, s3⟩
        go_simp
        with_reducible rfl
       rotate_left
       ·simp only [XPrint.pw, i64_w, i32_w]
        rfl
       refine XPrint.ta 3 19 (XPrint.L 12 11) HT_.out HW_.out (v := ?_) (a' := ?_) ?_ hHeld ?_ ?_
       rotate_left
       ·rintro w' ⟨s0, s1, s2, s3⟩
        go_simp
        with_reducible rfl
       rotate_left
       ·simp only [XPrint.pw, i64_w, i32_w]
        rfl
       refine join_ (σ := Value × Nat) 2 (XPrint.L 12 1023) (fun s_ => [(18, .agg #[.int .i64 t197, .int .i64 t198]), (20, s_.1), (21, .tuple #[.agg #[.int .i64 t202, .int .i64 t203], .int .i64 t204]), (7, .pointer (some ⟨s_.2, 0, none⟩)), (15, .tuple #[.agg #[.int .i64 t202, .int .i64 t203], .int .i64 t204]), (22, .agg #[.int .i64 t202, .int .i64 t203]), (23, .int .i64 t204)]) (fun s_ w' => (w'.cell? ⟨gb194, 0, none⟩ = some (.int .i64 x195000_1) ∧ w'.cell? ⟨gb194, 1, none⟩ = some (.int .i64 x195001_1) ∧ w'.cell? ⟨gb196, 0, none⟩ = some (.int .i64 ((rd_T23 l0 x11_1).f0)) ∧ w'.cell? ⟨gb196, 1, none⟩ = some (.int .i64 ((rd_T23 l0 x11_1).f1))) ∧ (Kd.R k23 23 w' w.heap.size (fun k_ => k_ ≠ gb193 ∧ k_ ≠ gb194 ∧ k_ ≠ gb196 ∧ k_ ≠ s_.2) s_.1 y199) ∧ (w'.heap[gb193]? = some (.cells #[.int .i64 x194000_1, .int .i64 x194001_1] 23 (0, 0))) ∧ (w'.heap[gb194]? = some (.cells #[.int .i64 x195000_1, .int .i64 x195001_1] 23 (0, 0))) ∧ (w'.heap[gb196]? = some (.cells #[.int .i64 ((rd_T23 l0 x11_1).f0), .int .i64 ((rd_T23 l0 x11_1).f1)] 23 (0, 0))) ∧ (w'.heap[s_.2]? = some (.cells #[.int .i64 0, .int .i64 0] 23 (0, 0))) ∧ (w.heap.size ≤ s_.2) ∧ (w.heap.size ≤ s_.2) ∧ (gb193 ≠ s_.2) ∧ (s_.2 ≠ gb193) ∧ (gb194 ≠ s_.2) ∧ (s_.2 ≠ gb194) ∧ (gb196 ≠ s_.2) ∧ (s_.2 ≠ gb196) ∧ (Below w.heap.size w w')) ?_ ?_
       rotate_left
       ·intro hCont
        refine two_ (i := 2) (j := 9) (Ni := some 18) (Nj := some 7) (XPrint.L 12 15) (XPrint.L 12 523) rfl rfl rfl rfl (two_of HT_.out (by kernel_rfl)) (by decide) (by decide) (fun K hK => ?_) (fun K hK => ?_)
        ·skip
         refine XPrint.gs Try.func52 #[.agg #[.int .i64 x195000_1, .int .i64 x195001_1], .agg #[.int .i64 ((rd_T23 l0 x11_1).f0), .int .i64 ((rd_T23 l0 x11_1).f1)], (.func (.func 64) #[] #[])] ?_
         with_reducible refine (vec_made_at_vec_Add_1.calls x195000_1 x195001_1 ((rd_T23 l0 x11_1).f0) ((rd_T23 l0 x11_1).f1)  t197 t198 _ A7.out).mono ?_
         rintro e w16 ⟨rfl, hb⟩
         refine ⟨_, rfl, ?_⟩
         replace BK193 := XPrint.A0 (XPrint.ab BK193.out hb)
         replace BK194 := XPrint.A0 (XPrint.ab BK194.out hb)
         replace BK196 := XPrint.A0 (XPrint.ab BK196.out hb)
         replace HB := XPrint.A0 (below_step (by exact XPrint.bz HB.out) hb)
         (try clear hb)
         (try clear hb2)
         (try clear hk)
         (try clear hi)
         refine hK.out _ _ ⟨(blk_cell BK194.out 0).trans rfl, (blk_cell BK194.out 1).trans rfl, (blk_cell BK196.out 0).trans rfl, (blk_cell BK196.out 1).trans rfl⟩ (fun hHeld => ?_)
         clear hK K
         refine norm_ (a' := ?_) ?_ ?_
         rotate_left
         ·show Act.put _ (some 18) _ = _
          simp only [XPrint.pw, i64_w, i32_w]
          rfl
         refine two_ (i := 4) (j := 9) (Ni := some 20) (Nj := some 7) (XPrint.L 12 31) (XPrint.L 12 527) rfl rfl rfl rfl (two_of HT_.out (by kernel_rfl)) (by decide) (by decide) (fun K hK => ?_) (fun K hK => ?_)
         ·skip
          refine Kd.R_lit_step k23 _ 23 ?hg (N := 20) ?hd (xs := ([(⟨t197, t198⟩ : S23), (⟨(rd_T23 l0 x11_1).f0, (rd_T23 l0 x11_1).f1⟩ : S23)] : List (S23))) (inner := [.int .i64 t197, .int .i64 t198, .int .i64 ((rd_T23 l0 x11_1).f0), .int .i64 ((rd_T23 l0 x11_1).f1)]) (ok := fun _ => True) (okp := fun _ => True) ?hr ?hp (fun _ hk => hk) trivial (Below.refl _ _) (Nat.le_refl _) (by simp) ?_; (case hd => rfl); (case hg => rfl); (case hr => first | (go_simp; done) | (go_simp; rfl)); (case hp => exact (Reps.c2 (show Kd.M k23 _ _ _ (⟨t197, t198⟩ : S23) [.int .i64 t197, .int .i64 t198] from (k23_mkM _ _ _ (⟨t197, t198⟩ : S23) )) (Reps.c2 (show Kd.M k23 _ _ _ (⟨(rd_T23 l0 x11_1).f0, (rd_T23 l0 x11_1).f1⟩ : S23) [.int .i64 ((rd_T23 l0 x11_1).f0), .int .i64 ((rd_T23 l0 x11_1).f1)] from (k23_mkM _ _ _ (⟨(rd_T23 l0 x11_1).f0, (rd_T23 l0 x11_1).f1⟩ : S23) )) (Reps.none _ _))))
          intro v200 w17 ho18 hb hg_ hnew_
          clear hg_ hnew_
          (first | rw [← Ny199.out] at ho18 | (simp only [Int.reduceToNat] at ho18; rw [← Ny199.out] at ho18))
          have HO201 := XPrint.A0 (Kd.R_lower (Kd.R_newB (Kd.R_newB (Kd.R_newB ho18 (g := gb193) (o := .cells #[.int .i64 x194000_1, .int .i64 x194001_1] 23 (0, 0)) (XPrint.ak BK193.out)) (g := gb194) (o := .cells #[.int .i64 x195000_1, .int .i64 x195001_1] 23 (0, 0)) (XPrint.ak BK194.out)) (g := gb196) (o := .cells #[.int .i64 ((rd_T23 l0 x11_1).f0), .int .i64 ((rd_T23 l0 x11_1).f1)] 23 (0, 0)) (XPrint.ak BK196.out)) (below_size (by exact XPrint.bz HB.out)))
          replace BK193 := XPrint.A0 (XPrint.ab BK193.out hb)
          replace BK194 := XPrint.A0 (XPrint.ab BK194.out hb)
          replace BK196 := XPrint.A0 (XPrint.ab BK196.out hb)
          replace HB := XPrint.A0 (below_step (by exact XPrint.bz HB.out) hb)
          clear hb ho18
          obtain ⟨Ao19, co19, eo19⟩ := Kd.R_slice HO201.out
          (first | subst eo19 | (injection eo19 with f1_ f2_ f3_; have f4_ := f1_.symm; have f5_ := f3_.symm; clear f1_ f2_ f3_; subst f4_; subst f5_))
          refine hK.out _ _ ⟨(blk_cell BK194.out 0).trans rfl, (blk_cell BK194.out 1).trans rfl, (blk_cell BK196.out 0).trans rfl, (blk_cell BK196.out 1).trans rfl⟩ (fun hHeld => ?_)
          clear hK K
          refine norm_ (a' := ?_) ?_ ?_
          rotate_left
          ·show Act.put _ (some 20) _ = _
           simp only [XPrint.pw, i64_w, i32_w]
           rfl
          refine two_ (i := 5) (j := 9) (Ni := some 21) (Nj := some 7) (XPrint.L 12 63) (XPrint.L 12 543) rfl rfl rfl rfl (two_of HT_.out (by kernel_rfl)) (by decide) (by decide) (fun K hK => ?_) (fun K hK => ?_)
          ·skip
           refine XPrint.gs Try.func51 #[.slice Ao19 y199.length co19] ?_
           with_reducible refine (vec_told.calls k1 _ _ y199 t202 t203 t204 _ ?side1 ?side2 A8.out).mono ?_
           (case side1 => repeat (first | exact (Kd.R_reads' HO201.out).2.2 | (with_reducible refine Kd.C_alloc ?_ _) | (with_reducible refine Kd.C_drewN ?_ _) | (with_reducible refine Kd.C_drew ?_)))
           (case side2 => exact (Kd.R_reads' HO201.out).2.1)
           rintro e w20 ⟨rfl, hb⟩
           refine ⟨_, rfl, ?_⟩
           replace HO201 := XPrint.A0 (XPrint.rb HO201.out hb)
           replace BK193 := XPrint.A0 (XPrint.ab BK193.out hb)
           replace BK194 := XPrint.A0 (XPrint.ab BK194.out hb)
           replace BK196 := XPrint.A0 (XPrint.ab BK196.out hb)
           replace HB := XPrint.A0 (below_step (by exact XPrint.bz HB.out) hb)
           (try clear hb)
           (try clear hb2)
           (try clear hk)
           (try clear hi)
           refine hK.out _ _ ⟨(blk_cell BK194.out 0).trans rfl, (blk_cell BK194.out 1).trans rfl, (blk_cell BK196.out 0).trans rfl, (blk_cell BK196.out 1).trans rfl⟩ (fun hHeld => ?_)
           clear hK K
           refine norm_ (a' := ?_) ?_ ?_
           rotate_left
           ·show Act.put _ (some 21) _ = _
            simp only [XPrint.pw, i64_w, i32_w]
            rfl
           refine XPrint.pu 6 15 (XPrint.L 12 127) HT_.out (v := ?_) (a' := ?_) ?_ ?_ ?_
           rotate_left
           ·intro w'
            go_simp
            with_reducible rfl
           rotate_left
           ·simp only [XPrint.pw, i64_w, i32_w]
            rfl
           refine XPrint.pu 7 22 (XPrint.L 12 255) HT_.out (v := ?_) (a' := ?_) ?_ ?_ ?_
           rotate_left
           ·intro w'
            go_simp
            with_reducible rfl
           rotate_left
           ·simp only [XPrint.pw, i64_w, i32_w]
            rfl
           refine XPrint.pu 8 23 (XPrint.L 12 511) HT_.out (v := ?_) (a' := ?_) ?_ ?_ ?_
           rotate_left
           ·intro w'
            go_simp
            with_reducible rfl
           rotate_left
           ·simp only [XPrint.pw, i64_w, i32_w]
            rfl
           refine one_ (i := 9) (N := some 7) (XPrint.L 12 1023) rfl rfl (one_of HT_.out (by kernel_rfl)) (by decide) (fun K hK => ?_)
           refine box_step ?hg (N := 7) ?hd (cs := #[.int .i64 0, .int .i64 0]) (t := 23) ?hr ?_; (case hd => rfl); (case hg => rfl); (case hr => first | (go_simp; done) | (go_simp; rfl))
           intro gb205 hg w21 hbox hb
           have BK205 := XPrint.A0 (hbox)
           have GW205 := XPrint.A0 (XPrint.gz HB.out hg)
           have GE205 := XPrint.A0 (XPrint.gz HB.out hg)
           have NB193_205 := XPrint.A1 (by rw [hg]; exact Nat.ne_of_lt (XPrint.al BK193.out) : gb193 ≠ gb205)
           have NB205_193 := XPrint.A1 (by rw [hg]; exact Nat.ne_of_gt (XPrint.al BK193.out) : gb205 ≠ gb193)
           have NB194_205 := XPrint.A1 (by rw [hg]; exact Nat.ne_of_lt (XPrint.al BK194.out) : gb194 ≠ gb205)
           have NB205_194 := XPrint.A1 (by rw [hg]; exact Nat.ne_of_gt (XPrint.al BK194.out) : gb205 ≠ gb194)
           have NB196_205 := XPrint.A1 (by rw [hg]; exact Nat.ne_of_lt (XPrint.al BK196.out) : gb196 ≠ gb205)
           have NB205_196 := XPrint.A1 (by rw [hg]; exact Nat.ne_of_gt (XPrint.al BK196.out) : gb205 ≠ gb196)
           replace HO201 := XPrint.A0 (Kd.R_below (Kd.R_elderB (by (with_reducible repeat (first | apply Kd.R_alloc | apply Kd.R_drewN | apply Kd.R_drew)); exact HO201.out) gb205 (Nat.le_of_eq hg.symm)) hb)
           replace BK193 := XPrint.A0 (XPrint.ab BK193.out hb)
           replace BK194 := XPrint.A0 (XPrint.ab BK194.out hb)
           replace BK196 := XPrint.A0 (XPrint.ab BK196.out hb)
           replace HB := XPrint.A0 (below_step (by exact XPrint.bz HB.out) hb)
           clear hb hbox hg
           refine hK.out _ _ ⟨(blk_cell BK194.out 0).trans rfl, (blk_cell BK194.out 1).trans rfl, (blk_cell BK196.out 0).trans rfl, (blk_cell BK196.out 1).trans rfl⟩ (fun hHeld => ?_)
           clear hK K
           refine norm_ (a' := ?_) ?_ ?_
           rotate_left
           ·show Act.put _ (some 7) _ = _
            simp only [XPrint.pw, i64_w, i32_w]
            rfl
           exact norm_ (by simp only [putAll, XPrint.pw]) (hCont (.slice Ao19 y199.length co19, gb205) _ ⟨hHeld, (by (with_reducible repeat (first | apply Kd.R_alloc | apply Kd.R_drewN | apply Kd.R_drew)); exact Kd.R_mono HO201.out (fun _ hk => ⟨hk.1.1.1.2, ⟨hk.1.1.2, ⟨hk.1.2, hk.2⟩⟩⟩)), (XPrint.ak BK193.out), (XPrint.ak BK194.out), (XPrint.ak BK196.out), (XPrint.ak BK205.out), GW205.out, GE205.out, NB193_205.out, NB205_193.out, NB194_205.out, NB205_194.out, NB196_205.out, NB205_196.out, (by exact XPrint.bz HB.out)⟩)
          ·skip
           refine box_step ?hg (N := 7) ?hd (cs := #[.int .i64 0, .int .i64 0]) (t := 23) ?hr ?_; (case hd => rfl); (case hg => rfl); (case hr => first | (go_simp; done) | (go_simp; rfl))
           intro gb205 hg w19 hbox hb
           have BK205 := XPrint.A0 (hbox)
           have GW205 := XPrint.A0 (XPrint.gz HB.out hg)
           have GE205 := XPrint.A0 (XPrint.gz HB.out hg)
           have NB193_205 := XPrint.A1 (by rw [hg]; exact Nat.ne_of_lt (XPrint.al BK193.out) : gb193 ≠ gb205)
           have NB205_193 := XPrint.A1 (by rw [hg]; exact Nat.ne_of_gt (XPrint.al BK193.out) : gb205 ≠ gb193)
           have NB194_205 := XPrint.A1 (by rw [hg]; exact Nat.ne_of_lt (XPrint.al BK194.out) : gb194 ≠ gb205)
           have NB205_194 := XPrint.A1 (by rw [hg]; exact Nat.ne_of_gt (XPrint.al BK194.out) : gb205 ≠ gb194)
           have NB196_205 := XPrint.A1 (by rw [hg]; exact Nat.ne_of_lt (XPrint.al BK196.out) : gb196 ≠ gb205)
           have NB205_196 := XPrint.A1 (by rw [hg]; exact Nat.ne_of_gt (XPrint.al BK196.out) : gb205 ≠ gb196)
           replace HO201 := XPrint.A0 (Kd.R_below (Kd.R_elderB (by (with_reducible repeat (first | apply Kd.R_alloc | apply Kd.R_drewN | apply Kd.R_drew)); exact HO201.out) gb205 (Nat.le_of_eq hg.symm)) hb)
           replace BK193 := XPrint.A0 (XPrint.ab BK193.out hb)
           replace BK194 := XPrint.A0 (XPrint.ab BK194.out hb)
           replace BK196 := XPrint.A0 (XPrint.ab BK196.out hb)
           replace HB := XPrint.A0 (below_step (by exact XPrint.bz HB.out) hb)
           clear hb hbox hg
           obtain ⟨Ao20, co20, eo20⟩ := Kd.R_slice HO201.out
           (first | subst eo20 | (injection eo20 with f1_ f2_ f3_; have f4_ := f1_.symm; have f5_ := f3_.symm; clear f1_ f2_ f3_; subst f4_; subst f5_))
           refine hK.out _ _ ⟨(blk_cell BK194.out 0).trans rfl, (blk_cell BK194.out 1).trans rfl, (blk_cell BK196.out 0).trans rfl, (blk_cell BK196.out 1).trans rfl⟩ (fun hHeld => ?_)
           clear hK K
           refine norm_ (a' := ?_) ?_ ?_
           rotate_left
           ·show Act.put _ (some 7) _ = _
            simp only [XPrint.pw, i64_w, i32_w]
            rfl
           refine one_ (i := 5) (N := some 21) (XPrint.L 12 575) rfl rfl (one_of HT_.out (by kernel_rfl)) (by decide) (fun K hK => ?_)
           refine XPrint.gs Try.func51 #[.slice Ao20 y199.length co20] ?_
           with_reducible refine (vec_told.calls k1 _ _ y199 t202 t203 t204 _ ?side1 ?side2 A8.out).mono ?_
           (case side1 => repeat (first | exact (Kd.R_reads' HO201.out).2.2 | (with_reducible refine Kd.C_alloc ?_ _) | (with_reducible refine Kd.C_drewN ?_ _) | (with_reducible refine Kd.C_drew ?_)))
           (case side2 => exact (Kd.R_reads' HO201.out).2.1)
           rintro e w21 ⟨rfl, hb⟩
           refine ⟨_, rfl, ?_⟩
           replace HO201 := XPrint.A0 (XPrint.rb HO201.out hb)
           replace BK193 := XPrint.A0 (XPrint.ab BK193.out hb)
           replace BK194 := XPrint.A0 (XPrint.ab BK194.out hb)
           replace BK196 := XPrint.A0 (XPrint.ab BK196.out hb)
           replace BK205 := XPrint.A0 (XPrint.ab BK205.out hb)
           replace HB := XPrint.A0 (below_step (by exact XPrint.bz HB.out) hb)
           (try clear hb)
           (try clear hb2)
           (try clear hk)
           (try clear hi)
           refine hK.out _ _ ⟨(blk_cell BK194.out 0).trans rfl, (blk_cell BK194.out 1).trans rfl, (blk_cell BK196.out 0).trans rfl, (blk_cell BK196.out 1).trans rfl⟩ (fun hHeld => ?_)
           clear hK K
           refine norm_ (a' := ?_) ?_ ?_
           rotate_left
           ·show Act.put _ (some 21) _ = _
            simp only [XPrint.pw, i64_w, i32_w]
            rfl
           refine XPrint.pu 6 15 (XPrint.L 12 639) HT_.out (v := ?_) (a' := ?_) ?_ ?_ ?_
           rotate_left
           ·intro w'
            go_simp
            with_reducible rfl
           rotate_left
           ·simp only [XPrint.pw, i64_w, i32_w]
            rfl
           refine XPrint.pu 7 22 (XPrint.L 12 767) HT_.out (v := ?_) (a' := ?_) ?_ ?_ ?_
           rotate_left
           ·intro w'
            go_simp
            with_reducible rfl
           rotate_left
           ·simp only [XPrint.pw, i64_w, i32_w]
            rfl
           refine XPrint.pu 8 23 (XPrint.L 12 1023) HT_.out (v := ?_) (a' := ?_) ?_ ?_ ?_
           rotate_left
           ·intro w'
            go_simp
            with_reducible rfl
           rotate_left
           ·simp only [XPrint.pw, i64_w, i32_w]
            rfl
           exact norm_ (by simp only [putAll, XPrint.pw]) (hCont (.slice Ao20 y199.length co20, gb205) _ ⟨hHeld, (by (with_reducible repeat (first | apply Kd.R_alloc | apply Kd.R_drewN | apply Kd.R_drew)); exact Kd.R_mono HO201.out (fun _ hk => ⟨hk.1.1.1.2, ⟨hk.1.1.2, ⟨hk.1.2, hk.2⟩⟩⟩)), (XPrint.ak BK193.out), (XPrint.ak BK194.out), (XPrint.ak BK196.out), (XPrint.ak BK205.out), GW205.out, GE205.out, NB193_205.out, NB205_193.out, NB194_205.out, NB205_194.out, NB196_205.out, NB205_196.out, (by exact XPrint.bz HB.out)⟩)
         ·skip
          refine box_step ?hg (N := 7) ?hd (cs := #[.int .i64 0, .int .i64 0]) (t := 23) ?hr ?_; (case hd => rfl); (case hg => rfl); (case hr => first | (go_simp; done) | (go_simp; rfl))
          intro gb205 hg w17 hbox hb
          have BK205 := XPrint.A0 (hbox)
          have GW205 := XPrint.A0 (XPrint.gz HB.out hg)
          have GE205 := XPrint.A0 (XPrint.gz HB.out hg)
          have NB193_205 := XPrint.A1 (by rw [hg]; exact Nat.ne_of_lt (XPrint.al BK193.out) : gb193 ≠ gb205)
          have NB205_193 := XPrint.A1 (by rw [hg]; exact Nat.ne_of_gt (XPrint.al BK193.out) : gb205 ≠ gb193)
          have NB194_205 := XPrint.A1 (by rw [hg]; exact Nat.ne_of_lt (XPrint.al BK194.out) : gb194 ≠ gb205)
          have NB205_194 := XPrint.A1 (by rw [hg]; exact Nat.ne_of_gt (XPrint.al BK194.out) : gb205 ≠ gb194)
          have NB196_205 := XPrint.A1 (by rw [hg]; exact Nat.ne_of_lt (XPrint.al BK196.out) : gb196 ≠ gb205)
          have NB205_196 := XPrint.A1 (by rw [hg]; exact Nat.ne_of_gt (XPrint.al BK196.out) : gb205 ≠ gb196)
          replace BK193 := XPrint.A0 (XPrint.ab BK193.out hb)
          replace BK194 := XPrint.A0 (XPrint.ab BK194.out hb)
          replace BK196 := XPrint.A0 (XPrint.ab BK196.out hb)
          replace HB := XPrint.A0 (below_step (by exact XPrint.bz HB.out) hb)
          clear hb hbox hg
          refine hK.out _ _ ⟨(blk_cell BK194.out 0).trans rfl, (blk_cell BK194.out 1).trans rfl, (blk_cell BK196.out 0).trans rfl, (blk_cell BK196.out 1).trans rfl⟩ (fun hHeld => ?_)
          clear hK K
          refine norm_ (a' := ?_) ?_ ?_
          rotate_left
          ·show Act.put _ (some 7) _ = _
           simp only [XPrint.pw, i64_w, i32_w]
           rfl
          refine one_ (i := 4) (N := some 20) (XPrint.L 12 543) rfl rfl (one_of HT_.out (by kernel_rfl)) (by decide) (fun K hK => ?_)
          refine Kd.R_lit_step k23 _ 23 ?hg (N := 20) ?hd (xs := ([(⟨t197, t198⟩ : S23), (⟨(rd_T23 l0 x11_1).f0, (rd_T23 l0 x11_1).f1⟩ : S23)] : List (S23))) (inner := [.int .i64 t197, .int .i64 t198, .int .i64 ((rd_T23 l0 x11_1).f0), .int .i64 ((rd_T23 l0 x11_1).f1)]) (ok := fun _ => True) (okp := fun _ => True) ?hr ?hp (fun _ hk => hk) trivial (Below.refl _ _) (Nat.le_refl _) (by simp) ?_; (case hd => rfl); (case hg => rfl); (case hr => first | (go_simp; done) | (go_simp; rfl)); (case hp => exact (Reps.c2 (show Kd.M k23 _ _ _ (⟨t197, t198⟩ : S23) [.int .i64 t197, .int .i64 t198] from (k23_mkM _ _ _ (⟨t197, t198⟩ : S23) )) (Reps.c2 (show Kd.M k23 _ _ _ (⟨(rd_T23 l0 x11_1).f0, (rd_T23 l0 x11_1).f1⟩ : S23) [.int .i64 ((rd_T23 l0 x11_1).f0), .int .i64 ((rd_T23 l0 x11_1).f1)] from (k23_mkM _ _ _ (⟨(rd_T23 l0 x11_1).f0, (rd_T23 l0 x11_1).f1⟩ : S23) )) (Reps.none _ _))))
          intro v200 w18 ho19 hb hg_ hnew_
          clear hg_ hnew_
          (first | rw [← Ny199.out] at ho19 | (simp only [Int.reduceToNat] at ho19; rw [← Ny199.out] at ho19))
          have HO201 := XPrint.A0 (Kd.R_lower (Kd.R_newB (Kd.R_newB (Kd.R_newB (Kd.R_newB ho19 (g := gb193) (o := .cells #[.int .i64 x194000_1, .int .i64 x194001_1] 23 (0, 0)) (XPrint.ak BK193.out)) (g := gb194) (o := .cells #[.int .i64 x195000_1, .int .i64 x195001_1] 23 (0, 0)) (XPrint.ak BK194.out)) (g := gb196) (o := .cells #[.int .i64 ((rd_T23 l0 x11_1).f0), .int .i64 ((rd_T23 l0 x11_1).f1)] 23 (0, 0)) (XPrint.ak BK196.out)) (g := gb205) (o := .cells #[.int .i64 0, .int .i64 0] 23 (0, 0)) (XPrint.ak BK205.out)) (below_size (by exact XPrint.bz HB.out)))
          replace BK193 := XPrint.A0 (XPrint.ab BK193.out hb)
          replace BK194 := XPrint.A0 (XPrint.ab BK194.out hb)
          replace BK196 := XPrint.A0 (XPrint.ab BK196.out hb)
          replace BK205 := XPrint.A0 (XPrint.ab BK205.out hb)
          replace HB := XPrint.A0 (below_step (by exact XPrint.bz HB.out) hb)
          clear hb ho19
          obtain ⟨Ao20, co20, eo20⟩ := Kd.R_slice HO201.out
          (first | subst eo20 | (injection eo20 with f1_ f2_ f3_; have f4_ := f1_.symm; have f5_ := f3_.symm; clear f1_ f2_ f3_; subst f4_; subst f5_))
          refine hK.out _ _ ⟨(blk_cell BK194.out 0).trans rfl, (blk_cell BK194.out 1).trans rfl, (blk_cell BK196.out 0).trans rfl, (blk_cell BK196.out 1).trans rfl⟩ (fun hHeld => ?_)
          clear hK K
          refine norm_ (a' := ?_) ?_ ?_
          rotate_left
          ·show Act.put _ (some 20) _ = _
           simp only [XPrint.pw, i64_w, i32_w]
           rfl
          refine one_ (i := 5) (N := some 21) (XPrint.L 12 575) rfl rfl (one_of HT_.out (by kernel_rfl)) (by decide) (fun K hK => ?_)
          refine XPrint.gs Try.func51 #[.slice Ao20 y199.length co20] ?_
          with_reducible refine (vec_told.calls k1 _ _ y199 t202 t203 t204 _ ?side1 ?side2 A8.out).mono ?_
          (case side1 => repeat (first | exact (Kd.R_reads' HO201.out).2.2 | (with_reducible refine Kd.C_alloc ?_ _) | (with_reducible refine Kd.C_drewN ?_ _) | (with_reducible refine Kd.C_drew ?_)))
          (case side2 => exact (Kd.R_reads' HO201.out).2.1)
          rintro e w21 ⟨rfl, hb⟩
          refine ⟨_, rfl, ?_⟩
          replace HO201 := XPrint.A0 (XPrint.rb HO201.out hb)
          replace BK193 := XPrint.A0 (XPrint.ab BK193.out hb)
          replace BK194 := XPrint.A0 (XPrint.ab BK194.out hb)
          replace BK196 := XPrint.A0 (XPrint.ab BK196.out hb)
          replace BK205 := XPrint.A0 (XPrint.ab BK205.out hb)
          replace HB := XPrint.A0 (below_step (by exact XPrint.bz HB.out) hb)
          (try clear hb)
          (try clear hb2)
          (try clear hk)
          (try clear hi)
          refine hK.out _ _ ⟨(blk_cell BK194.out 0).trans rfl, (blk_cell BK194.out 1).trans rfl, (blk_cell BK196.out 0).trans rfl, (blk_cell BK196.out 1).trans rfl⟩ (fun hHeld => ?_)
          clear hK K
          refine norm_ (a' := ?_) ?_ ?_
          rotate_left
          ·show Act.put _ (some 21) _ = _
           simp only [XPrint.pw, i64_w, i32_w]
           rfl
          refine XPrint.pu 6 15 (XPrint.L 12 639) HT_.out (v := ?_) (a' := ?_) ?_ ?_ ?_
          rotate_left
          ·intro w'
           go_simp
           with_reducible rfl
          rotate_left
          ·simp only [XPrint.pw, i64_w, i32_w]
           rfl
          refine XPrint.pu 7 22 (XPrint.L 12 767) HT_.out (v := ?_) (a' := ?_) ?_ ?_ ?_
          rotate_left
          ·intro w'
           go_simp
           with_reducible rfl
          rotate_left
          ·simp only [XPrint.pw, i64_w, i32_w]
           rfl
          refine XPrint.pu 8 23 (XPrint.L 12 1023) HT_.out (v := ?_) (a' := ?_) ?_ ?_ ?_
          rotate_left
          ·intro w'
           go_simp
           with_reducible rfl
          rotate_left
          ·simp only [XPrint.pw, i64_w, i32_w]
           rfl
          exact norm_ (by simp only [putAll, XPrint.pw]) (hCont (.slice Ao20 y199.length co20, gb205) _ ⟨hHeld, (by (with_reducible repeat (first | apply Kd.R_alloc | apply Kd.R_drewN | apply Kd.R_drew)); exact Kd.R_mono HO201.out (fun _ hk => ⟨hk.1.1.1.2, ⟨hk.1.1.2, ⟨hk.1.2, hk.2⟩⟩⟩)), (XPrint.ak BK193.out), (XPrint.ak BK194.out), (XPrint.ak BK196.out), (XPrint.ak BK205.out), GW205.out, GE205.out, NB193_205.out, NB205_193.out, NB194_205.out, NB205_194.out, NB196_205.out, NB205_196.out, (by exact XPrint.bz HB.out)⟩)
        ·skip
         refine box_step ?hg (N := 7) ?hd (cs := #[.int .i64 0, .int .i64 0]) (t := 23) ?hr ?_; (case hd => rfl); (case hg => rfl); (case hr => first | (go_simp; done) | (go_simp; rfl))
         intro gb205 hg w16 hbox hb
         have BK205 := XPrint.A0 (hbox)
         have GW205 := XPrint.A0 (XPrint.gz HB.out hg)
         have GE205 := XPrint.A0 (XPrint.gz HB.out hg)
         have NB193_205 := XPrint.A1 (by rw [hg]; exact Nat.ne_of_lt (XPrint.al BK193.out) : gb193 ≠ gb205)
         have NB205_193 := XPrint.A1 (by rw [hg]; exact Nat.ne_of_gt (XPrint.al BK193.out) : gb205 ≠ gb193)
         have NB194_205 := XPrint.A1 (by rw [hg]; exact Nat.ne_of_lt (XPrint.al BK194.out) : gb194 ≠ gb205)
         have NB205_194 := XPrint.A1 (by rw [hg]; exact Nat.ne_of_gt (XPrint.al BK194.out) : gb205 ≠ gb194)
         have NB196_205 := XPrint.A1 (by rw [hg]; exact Nat.ne_of_lt (XPrint.al BK196.out) : gb196 ≠ gb205)
         have NB205_196 := XPrint.A1 (by rw [hg]; exact Nat.ne_of_gt (XPrint.al BK196.out) : gb205 ≠ gb196)
         replace BK193 := XPrint.A0 (XPrint.ab BK193.out hb)
         replace BK194 := XPrint.A0 (XPrint.ab BK194.out hb)
         replace BK196 := XPrint.A0 (XPrint.ab BK196.out hb)
         replace HB := XPrint.A0 (below_step (by exact XPrint.bz HB.out) hb)
         clear hb hbox hg
         refine hK.out _ _ ⟨(blk_cell BK194.out 0).trans rfl, (blk_cell BK194.out 1).trans rfl, (blk_cell BK196.out 0).trans rfl, (blk_cell BK196.out 1).trans rfl⟩ (fun hHeld => ?_)
         clear hK K
         refine norm_ (a' := ?_) ?_ ?_
         rotate_left
         ·show Act.put _ (some 7) _ = _
          simp only [XPrint.pw, i64_w, i32_w]
          rfl
         refine one_ (i := 2) (N := some 18) (XPrint.L 12 527) rfl rfl (one_of HT_.out (by kernel_rfl)) (by decide) (fun K hK => ?_)
         refine XPrint.gs Try.func52 #[.agg #[.int .i64 x195000_1, .int .i64 x195001_1], .agg #[.int .i64 ((rd_T23 l0 x11_1).f0), .int .i64 ((rd_T23 l0 x11_1).f1)], (.func (.func 64) #[] #[])] ?_
         with_reducible refine (vec_made_at_vec_Add_1.calls x195000_1 x195001_1 ((rd_T23 l0 x11_1).f0) ((rd_T23 l0 x11_1).f1)  t197 t198 _ A7.out).mono ?_
         rintro e w17 ⟨rfl, hb⟩
         refine ⟨_, rfl, ?_⟩
         replace BK193 := XPrint.A0 (XPrint.ab BK193.out hb)
         replace BK194 := XPrint.A0 (XPrint.ab BK194.out hb)
         replace BK196 := XPrint.A0 (XPrint.ab BK196.out hb)
         replace BK205 := XPrint.A0 (XPrint.ab BK205.out hb)
         replace HB := XPrint.A0 (below_step (by exact XPrint.bz HB.out) hb)
         (try clear hb)
         (try clear hb2)
         (try clear hk)
         (try clear hi)
         refine hK.out _ _ ⟨(blk_cell BK194.out 0).trans rfl, (blk_cell BK194.out 1).trans rfl, (blk_cell BK196.out 0).trans rfl, (blk_cell BK196.out 1).trans rfl⟩ (fun hHeld => ?_)
         clear hK K
         refine norm_ (a' := ?_) ?_ ?_
         rotate_left
         ·show Act.put _ (some 18) _ = _
          simp only [XPrint.pw, i64_w, i32_w]
          rfl
         refine one_ (i := 4) (N := some 20) (XPrint.L 12 543) rfl rfl (one_of HT_.out (by kernel_rfl)) (by decide) (fun K hK => ?_)
         refine Kd.R_lit_step k23 _ 23 ?hg (N := 20) ?hd (xs := ([(⟨t197, t198⟩ : S23), (⟨(rd_T23 l0 x11_1).f0, (rd_T23 l0 x11_1).f1⟩ : S23)] : List (S23))) (inner := [.int .i64 t197, .int .i64 t198, .int .i64 ((rd_T23 l0 x11_1).f0), .int .i64 ((rd_T23 l0 x11_1).f1)]) (ok := fun _ => True) (okp := fun _ => True) ?hr ?hp (fun _ hk => hk) trivial (Below.refl _ _) (Nat.le_refl _) (by simp) ?_; (case hd => rfl); (case hg => rfl); (case hr => first | (go_simp; done) | (go_simp; rfl)); (case hp => exact (Reps.c2 (show Kd.M k23 _ _ _ (⟨t197, t198⟩ : S23) [.int .i64 t197, .int .i64 t198] from (k23_mkM _ _ _ (⟨t197, t198⟩ : S23) )) (Reps.c2 (show Kd.M k23 _ _ _ (⟨(rd_T23 l0 x11_1).f0, (rd_T23 l0 x11_1).f1⟩ : S23) [.int .i64 ((rd_T23 l0 x11_1).f0), .int .i64 ((rd_T23 l0 x11_1).f1)] from (k23_mkM _ _ _ (⟨(rd_T23 l0 x11_1).f0, (rd_T23 l0 x11_1).f1⟩ : S23) )) (Reps.none _ _))))
         intro v200 w18 ho19 hb hg_ hnew_
         clear hg_ hnew_
         (first | rw [← Ny199.out] at ho19 | (simp only [Int.reduceToNat] at ho19; rw [← Ny199.out] at ho19))
         have HO201 := XPrint.A0 (Kd.R_lower (Kd.R_newB (Kd.R_newB (Kd.R_newB (Kd.R_newB ho19 (g := gb193) (o := .cells #[.int .i64 x194000_1, .int .i64 x194001_1] 23 (0, 0)) (XPrint.ak BK193.out)) (g := gb194) (o := .cells #[.int .i64 x195000_1, .int .i64 x195001_1] 23 (0, 0)) (XPrint.ak BK194.out)) (g := gb196) (o := .cells #[.int .i64 ((rd_T23 l0 x11_1).f0), .int .i64 ((rd_T23 l0 x11_1).f1)] 23 (0, 0)) (XPrint.ak BK196.out)) (g := gb205) (o := .cells #[.int .i64 0, .int .i64 0] 23 (0, 0)) (XPrint.ak BK205.out)) (below_size (by exact XPrint.bz HB.out)))
         replace BK193 := XPrint.A0 (XPrint.ab BK193.out hb)
         replace BK194 := XPrint.A0 (XPrint.ab BK194.out hb)
         replace BK196 := XPrint.A0 (XPrint.ab BK196.out hb)
         replace BK205 := XPrint.A0 (XPrint.ab BK205.out hb)
         replace HB := XPrint.A0 (below_step (by exact XPrint.bz HB.out) hb)
         clear hb ho19
         obtain ⟨Ao20, co20, eo20⟩ := Kd.R_slice HO201.out
         (first | subst eo20 | (injection eo20 with f1_ f2_ f3_; have f4_ := f1_.symm; have f5_ := f3_.symm; clear f1_ f2_ f3_; subst f4_; subst f5_))
         refine hK.out _ _ ⟨(blk_cell BK194.out 0).trans rfl, (blk_cell BK194.out 1).trans rfl, (blk_cell BK196.out 0).trans rfl, (blk_cell BK196.out 1).trans rfl⟩ (fun hHeld => ?_)
         clear hK K
         refine norm_ (a' := ?_) ?_ ?_
         rotate_left
         ·show Act.put _ (some 20) _ = _
          simp only [XPrint.pw, i64_w, i32_w]
          rfl
         refine one_ (i := 5) (N := some 21) (XPrint.L 12 575) rfl rfl (one_of HT_.out (by kernel_rfl)) (by decide) (fun K hK => ?_)
         refine XPrint.gs Try.func51 #[.slice Ao20 y199.length co20] ?_
         with_reducible refine (vec_told.calls k1 _ _ y199 t202 t203 t204 _ ?side1 ?side2 A8.out).mono ?_
         (case side1 => repeat (first | exact (Kd.R_reads' HO201.out).2.2 | (with_reducible refine Kd.C_alloc ?_ _) | (with_reducible refine Kd.C_drewN ?_ _) | (with_reducible refine Kd.C_drew ?_)))
         (case side2 => exact (Kd.R_reads' HO201.out).2.1)
         rintro e w21 ⟨rfl, hb⟩
         refine ⟨_, rfl, ?_⟩
         replace HO201 := XPrint.A0 (XPrint.rb HO201.out hb)
         replace BK193 := XPrint.A0 (XPrint.ab BK193.out hb)
         replace BK194 := XPrint.A0 (XPrint.ab BK194.out hb)
         replace BK196 := XPrint.A0 (XPrint.ab BK196.out hb)
         replace BK205 := XPrint.A0 (XPrint.ab BK205.out hb)
         replace HB := XPrint.A0 (below_step (by exact XPrint.bz HB.out) hb)
         (try clear hb)
         (try clear hb2)
         (try clear hk)
         (try clear hi)
         refine hK.out _ _ ⟨(blk_cell BK194.out 0).trans rfl, (blk_cell BK194.out 1).trans rfl, (blk_cell BK196.out 0).trans rfl, (blk_cell BK196.out 1).trans rfl⟩ (fun hHeld => ?_)
         clear hK K
         refine norm_ (a' := ?_) ?_ ?_
         rotate_left
         ·show Act.put _ (some 21) _ = _
          simp only [XPrint.pw, i64_w, i32_w]
          rfl
         refine XPrint.pu 6 15 (XPrint.L 12 639) HT_.out (v := ?_) (a' := ?_) ?_ ?_ ?_
         rotate_left
         ·intro w'
          go_simp
          with_reducible rfl
         rotate_left
         ·simp only [XPrint.pw, i64_w, i32_w]
          rfl
         refine XPrint.pu 7 22 (XPrint.L 12 767) HT_.out (v := ?_) (a' := ?_) ?_ ?_ ?_
         rotate_left
         ·intro w'
          go_simp
          with_reducible rfl
         rotate_left
         ·simp only [XPrint.pw, i64_w, i32_w]
          rfl
         refine XPrint.pu 8 23 (XPrint.L 12 1023) HT_.out (v := ?_) (a' := ?_) ?_ ?_ ?_
         rotate_left
         ·intro w'
          go_simp
          with_reducible rfl
         rotate_left
         ·simp only [XPrint.pw, i64_w, i32_w]
          rfl
         exact norm_ (by simp only [putAll, XPrint.pw]) (hCont (.slice Ao20 y199.length co20, gb205) _ ⟨hHeld, (by (with_reducible repeat (first | apply Kd.R_alloc | apply Kd.R_drewN | apply Kd.R_drew)); exact Kd.R_mono HO201.out (fun _ hk => ⟨hk.1.1.1.2, ⟨hk.1.1.2, ⟨hk.1.2, hk.2⟩⟩⟩)), (XPrint.ak BK193.out), (XPrint.ak BK194.out), (XPrint.ak BK196.out), (XPrint.ak BK205.out), GW205.out, GE205.out, NB193_205.out, NB205_193.out, NB194_205.out, NB205_194.out, NB196_205.out, NB205_196.out, (by exact XPrint.bz HB.out)⟩)
       rintro ⟨v200, gb205⟩ w22 ⟨hS_, h0_, h1_, h2_, h3_, h4_, h5_, h6_, h7_, h8_, h9_, h10_, h11_, h12_, h13_⟩
       have HO201 := XPrint.A0 h0_
       have BK205 := XPrint.A0 h4_
       have GW205 := XPrint.A0 h5_
       have GE205 := XPrint.A0 h6_
       have NB193_205 := XPrint.A1 h7_
       have NB205_193 := XPrint.A1 h8_
       have NB194_205 := XPrint.A1 h9_
       have NB205_194 := XPrint.A1 h10_
       have NB196_205 := XPrint.A1 h11_
       have NB205_196 := XPrint.A1 h12_
       replace BK193 := XPrint.A0 h1_
       replace BK194 := XPrint.A0 h2_
       replace BK196 := XPrint.A0 h3_
       replace HB := XPrint.A0 h13_
       clear h0_ h1_ h2_ h3_ h4_ h5_ h6_ h7_ h8_ h9_ h10_ h11_ h12_ h13_
       have hHeld : w22.cell? ⟨gb194, 0, none⟩ = some (.int .i64 x195000_1) ∧ w22.cell? ⟨gb194, 1, none⟩ = some (.int .i64 x195001_1) ∧ w22.cell? ⟨gb196, 0, none⟩ = some (.int .i64 ((rd_T23 l0 x11_1).f0)) ∧ w22.cell? ⟨gb196, 1, none⟩ = some (.int .i64 ((rd_T23 l0 x11_1).f1)) := hS_
       refine norm_ (a' := ?_) ?_ ?_
       rotate_left
       ·simp only [putAll, XPrint.pw]
        rfl
       refine one_ (i := 10) (N := none) (XPrint.L 12 2047) rfl rfl (one_of HT_.out (by kernel_rfl)) (by decide) (fun K hK => ?_)
       have hs23 : w22.cell? ⟨gb205, 0, none⟩ = some (.int .i64 0) := (blk_cell BK205.out 0).trans rfl
       have hfs23 := blk_frozen BK205.out 0
       have hns23_0 := NB193_205.out
       have hns23_1 := NB194_205.out
       have hns23_2 := NB196_205.out
       have hms23_0 := NB205_193.out
       have hms23_1 := NB205_194.out
       have hms23_2 := NB205_196.out
       have hs24 : w22.cell? ⟨gb205, 1, none⟩ = some (.int .i64 0) := (blk_cell BK205.out 1).trans rfl
       have hfs24 := blk_frozen BK205.out 1
       have hns24_0 := NB193_205.out
       have hns24_1 := NB194_205.out
       have hns24_2 := NB196_205.out
       have hms24_0 := NB205_193.out
       have hms24_1 := NB205_194.out
       have hms24_2 := NB205_196.out
       refine skip_ (w1 := ?_) (by rfl) rfl ?_ ?_
       rotate_left
       ·go_simp
        rfl
       refine hK.out _ _ ⟨((cell_far (p := ⟨gb205, _, none⟩) NB194_205.out _).trans (((cell_far (p := ⟨gb205, _, none⟩) NB194_205.out _).trans (hHeld.1)))), ((cell_far (p := ⟨gb205, _, none⟩) NB194_205.out _).trans (((cell_far (p := ⟨gb205, _, none⟩) NB194_205.out _).trans (hHeld.2.1)))), ((cell_far (p := ⟨gb205, _, none⟩) NB196_205.out _).trans (((cell_far (p := ⟨gb205, _, none⟩) NB196_205.out _).trans (hHeld.2.2.1)))), ((cell_far (p := ⟨gb205, _, none⟩) NB196_205.out _).trans (((cell_far (p := ⟨gb205, _, none⟩) NB196_205.out _).trans (hHeld.2.2.2))))⟩ (fun hHeld => ?_)
       clear hK K
       refine XPrint.pu 11 8 (XPrint.L 12 4095) HT_.out (v := ?_) (a' := ?_) ?_ ?_ ?_
       rotate_left
       ·intro w'
        go_simp
        with_reducible rfl
       rotate_left
       ·simp only [XPrint.pw, i64_w, i32_w]
        rfl
       refine done_ (done_of HT_.out (by kernel_rfl)) ?_
       have hnb25 := NB205_193.out
       have hnc25 := NB193_205.out
       have hnb26 := NB205_194.out
       have hnc26 := NB194_205.out
       have hnb27 := NB205_196.out
       have hnc27 := NB196_205.out
       have hcz28_0 : w22.cell? ⟨gb205, 0, none⟩ = some (.int .i64 0) := (blk_cell BK205.out 0).trans rfl
       have hcz28_1 : w22.cell? ⟨gb205, 1, none⟩ = some (.int .i64 0) := (blk_cell BK205.out 1).trans rfl
       have hfz28_0 := blk_frozen BK205.out 0
       have hfz28_1 := blk_frozen BK205.out 1
       have hnb29 := NB194_193.out
       have hnc29 := NB193_194.out
       have hcz30_0 : w22.cell? ⟨gb194, 0, none⟩ = some (.int .i64 x195000_1) := (blk_cell BK194.out 0).trans rfl
       have hcz30_1 : w22.cell? ⟨gb194, 1, none⟩ = some (.int .i64 x195001_1) := (blk_cell BK194.out 1).trans rfl
       have hfz30_0 := blk_frozen BK194.out 0
       have hfz30_1 := blk_frozen BK194.out 1
       try go_wp2
       go_roundg k1
       case measure => have := HK1.out; omega
       case rel => exact ⟨(wrap64 (x11_1 + 1)), (x194000_1), (x194001_1), (t202), (t203), (by first | rfl | (simp; done) | (simp [*]; done)), H', ⟨by have := HK1.out; omega⟩, ⟨by (repeat with_reducible first | refine XPrint.d1 ?_ | refine XPrint.d2 ?_ _ | refine XPrint.d3 ?_ _); refine blk_far ?_ NB193_194.out _; (repeat with_reducible first | refine XPrint.d1 ?_ | refine XPrint.d2 ?_ _ | refine XPrint.d3 ?_ _); refine blk_far ?_ NB193_194.out _; (repeat with_reducible first | refine XPrint.d1 ?_ | refine XPrint.d2 ?_ _ | refine XPrint.d3 ?_ _); refine blk_far ?_ NB193_205.out _; (repeat with_reducible first | refine XPrint.d1 ?_ | refine XPrint.d2 ?_ _ | refine XPrint.d3 ?_ _); refine blk_far ?_ NB193_205.out _; (repeat with_reducible first | refine XPrint.d1 ?_ | refine XPrint.d2 ?_ _ | refine XPrint.d3 ?_ _); exact BK193.out⟩, ⟨by (repeat with_reducible first | refine XPrint.d1 ?_ | refine XPrint.d2 ?_ _ | refine XPrint.d3 ?_ _); refine blk_put (cs := #[.int .i64 t202, .int .i64 x195001_1]) ?_ 1 _ rfl; (repeat with_reducible first | refine XPrint.d1 ?_ | refine XPrint.d2 ?_ _ | refine XPrint.d3 ?_ _); refine blk_put (cs := #[.int .i64 x195000_1, .int .i64 x195001_1]) ?_ 0 _ rfl; (repeat with_reducible first | refine XPrint.d1 ?_ | refine XPrint.d2 ?_ _ | refine XPrint.d3 ?_ _); refine blk_far ?_ NB194_205.out _; (repeat with_reducible first | refine XPrint.d1 ?_ | refine XPrint.d2 ?_ _ | refine XPrint.d3 ?_ _); refine blk_far ?_ NB194_205.out _; (repeat with_reducible first | refine XPrint.d1 ?_ | refine XPrint.d2 ?_ _ | refine XPrint.d3 ?_ _); exact BK194.out⟩, ⟨by repeat (first | (with_reducible first | exact HB.out | apply below_alloc | apply pw_below_drewN | apply below_drew1 | refine below_set ?_ GE193.out | refine below_set ?_ GE194.out | refine below_set ?_ GE196.out | refine below_set ?_ GE205.out) | exact HB.out)⟩⟩
      ·rw [if_neg c9] at H
       have c9b0 : (t204 == 0) = false := beq_eq_false_iff_ne.mpr c9
       have c9b1 : (t204 != 0) = true := bne_iff_ne.mpr c9
       simp only [Option.some.injEq, Prod.mk.injEq] at H
       obtain ⟨rfl, rfl, rfl⟩ := H
       have p195 : 0 ≤ (x11_1 : Int) := of_decide_eq_true (by first | (with_reducible assumption) | assumption)
       have q195 : x11_1 < (l0.length : Int) := of_decide_eq_true (by first | (with_reducible assumption) | assumption)
       obtain ⟨ad195, e195, hx195_0, hx195_1⟩ := at_T23 HR0.out x11_1 p195 q195
       cases e195
       replace hx195_0 := (HB.out.cell (World.block_lt_of_cell? w _ hx195_0)).trans hx195_0
       replace hx195_1 := (HB.out.cell (World.block_lt_of_cell? w _ hx195_1)).trans hx195_1
       replace p195 := eq_true p195
       replace q195 := eq_true q195
       try go_wp2_with (first | ((with_reducible refine gate_dst (N := 6) rfl ?_); refine box_event ?hg (N := 6) ?hd (cs := #[.int .i64 0, .int .i64 0]) (t := 23) ?hr ?_; (case hd => rfl); (case hg => rfl); (case hr => first | (go_simp; done) | (go_simp; rfl)); intro gb196 hg w31 hbox hb; have BK196 := XPrint.A0 (hbox); have GW196 := XPrint.A0 (XPrint.gz HB.out hg); have GE196 := XPrint.A0 (XPrint.gz HB.out hg); have NB193_196 := XPrint.A1 (by rw [hg]; exact Nat.ne_of_lt (XPrint.al BK193.out) : gb193 ≠ gb196); have NB196_193 := XPrint.A1 (by rw [hg]; exact Nat.ne_of_gt (XPrint.al BK193.out) : gb196 ≠ gb193); have NB194_196 := XPrint.A1 (by rw [hg]; exact Nat.ne_of_lt (XPrint.al BK194.out) : gb194 ≠ gb196); have NB196_194 := XPrint.A1 (by rw [hg]; exact Nat.ne_of_gt (XPrint.al BK194.out) : gb196 ≠ gb194); replace BK193 := XPrint.A0 (XPrint.ab BK193.out hb); replace BK194 := XPrint.A0 (XPrint.ab BK194.out hb); replace HB := XPrint.A0 (below_step (by exact XPrint.bz HB.out) hb); clear hb hbox hg; have hnb32 := NB196_193.out; have hnc32 := NB193_196.out; have hnb33 := NB196_194.out; have hnc33 := NB194_196.out; have hcz34_0 : w31.cell? ⟨gb196, 0, none⟩ = some (.int .i64 0) := (blk_cell BK196.out 0).trans rfl; have hcz34_1 : w31.cell? ⟨gb196, 1, none⟩ = some (.int .i64 0) := (blk_cell BK196.out 1).trans rfl; have hfz34_0 := blk_frozen BK196.out 0; have hfz34_1 := blk_frozen BK196.out 1))
       have n0_ : Aside0 (((w31.setCell ⟨gb196, 0, none⟩ (.int .i64 ((rd_T23 l0 x11_1).f0))).setCell ⟨gb196, 1, none⟩ (.int .i64 ((rd_T23 l0 x11_1).f1))).heap[gb193]? = some (.cells #[.int .i64 x194000_1, .int .i64 x194001_1] 23 (0, 0))) := ⟨by (repeat with_reducible first | refine XPrint.d1 ?_ | refine XPrint.d2 ?_ _ | refine XPrint.d3 ?_ _); refine blk_far ?_ NB193_196.out _; (repeat with_reducible first | refine XPrint.d1 ?_ | refine XPrint.d2 ?_ _ | refine XPrint.d3 ?_ _); refine blk_far ?_ NB193_196.out _; (repeat with_reducible first | refine XPrint.d1 ?_ | refine XPrint.d2 ?_ _ | refine XPrint.d3 ?_ _); exact BK193.out⟩
       have n1_ : Aside0 (((w31.setCell ⟨gb196, 0, none⟩ (.int .i64 ((rd_T23 l0 x11_1).f0))).setCell ⟨gb196, 1, none⟩ (.int .i64 ((rd_T23 l0 x11_1).f1))).heap[gb194]? = some (.cells #[.int .i64 x195000_1, .int .i64 x195001_1] 23 (0, 0))) := ⟨by (repeat with_reducible first | refine XPrint.d1 ?_ | refine XPrint.d2 ?_ _ | refine XPrint.d3 ?_ _); refine blk_far ?_ NB194_196.out _; (repeat with_reducible first | refine XPrint.d1 ?_ | refine XPrint.d2 ?_ _ | refine XPrint.d3 ?_ _); refine blk_far ?_ NB194_196.out _; (repeat with_reducible first | refine XPrint.d1 ?_ | refine XPrint.d2 ?_ _ | refine XPrint.d3 ?_ _); exact BK194.out⟩
       have n2_ : Aside0 (((w31.setCell ⟨gb196, 0, none⟩ (.int .i64 ((rd_T23 l0 x11_1).f0))).setCell ⟨gb196, 1, none⟩ (.int .i64 ((rd_T23 l0 x11_1).f1))).heap[gb196]? = some (.cells #[.int .i64 ((rd_T23 l0 x11_1).f0), .int .i64 ((rd_T23 l0 x11_1).f1)] 23 (0, 0))) := ⟨by (repeat with_reducible first | refine XPrint.d1 ?_ | refine XPrint.d2 ?_ _ | refine XPrint.d3 ?_ _); refine blk_put (cs := #[.int .i64 ((rd_T23 l0 x11_1).f0), .int .i64 0]) ?_ 1 _ rfl; (repeat with_reducible first | refine XPrint.d1 ?_ | refine XPrint.d2 ?_ _ | refine XPrint.d3 ?_ _); refine blk_put (cs := #[.int .i64 0, .int .i64 0]) ?_ 0 _ rfl; (repeat with_reducible first | refine XPrint.d1 ?_ | refine XPrint.d2 ?_ _ | refine XPrint.d3 ?_ _); exact BK196.out⟩
       have n3_ : Aside0 (Below w.heap.size w ((w31.setCell ⟨gb196, 0, none⟩ (.int .i64 ((rd_T23 l0 x11_1).f0))).setCell ⟨gb196, 1, none⟩ (.int .i64 ((rd_T23 l0 x11_1).f1)))) := ⟨by repeat (first | (with_reducible first | exact HB.out | apply below_alloc | apply pw_below_drewN | apply below_drew1 | refine below_set ?_ GE193.out | refine below_set ?_ GE194.out | refine below_set ?_ GE196.out) | exact HB.out)⟩
       (try clear BK193)
       (try clear BK194)
       (try clear BK196)
       (try clear HB)
       generalize ((w31.setCell ⟨gb196, 0, none⟩ (.int .i64 ((rd_T23 l0 x11_1).f0))).setCell ⟨gb196, 1, none⟩ (.int .i64 ((rd_T23 l0 x11_1).f1))) = w35 at n0_ n1_ n2_ n3_ ⊢
       have BK193 := n0_
       have BK194 := n1_
       have BK196 := n2_
       have HB := n3_
       clear n0_ n1_ n2_ n3_
       replace BK193 := XPrint.A0 (blk_drew BK193.out)
       replace BK194 := XPrint.A0 (blk_drew BK194.out)
       replace BK196 := XPrint.A0 (blk_drew BK196.out)
       replace HB := XPrint.A0 (below_drew1 HB.out)
       refine start_ (n := 12) (S := fun w' => w'.cell? ⟨gb194, 0, none⟩ = some (.int .i64 x195000_1) ∧ w'.cell? ⟨gb194, 1, none⟩ = some (.int .i64 x195001_1) ∧ w'.cell? ⟨gb196, 0, none⟩ = some (.int .i64 ((rd_T23 l0 x11_1).f0)) ∧ w'.cell? ⟨gb196, 1, none⟩ = some (.int .i64 ((rd_T23 l0 x11_1).f1))) (ds := []) #[false, false, false, false, false, false, false, false, false, false, false, false] (by kernel_rfl) rfl rfl ⟨(blk_cell BK194.out 0).trans rfl, (blk_cell BK194.out 1).trans rfl, (blk_cell BK196.out 0).trans rfl, (blk_cell BK196.out 1).trans rfl⟩ (fun hHeld => ?_); refine with_tabW vec_Add.tab5 vec_Add.bits5 (fun HT_ HW_ => ?_)
       generalize w35.drew = w36 at BK193 BK194 BK196 HB hHeld ⊢
       refine XPrint.ta 0 16 (XPrint.L 12 1) HT_.out HW_.out (v := ?_) (a' := ?_) ?_ hHeld ?_ ?_
       rotate_left
       ·rintro w' ⟨s0, s1, s2, s3⟩
        go_simp
        with_reducible rfl
       rotate_left
       ·simp only [XPrint.pw, i64_w, i32_w]
        rfl
       refine XPrint.ta 1 17 (XPrint.L 12 3) HT_.out HW_.out (v := ?_) (a' := ?_) ?_ hHeld ?_ ?_
       rotate_left
       ·rintro w' ⟨s0, s1, s2, s3⟩
        go_simp
        with_reducible rfl
       rotate_left
       ·simp only [XPrint.pw, i64_w, i32_w]
        rfl
       refine XPrint.ta 3 19 (XPrint.L 12 11) HT_.out HW_.out (v := ?_) (a' := ?_) ?_ hHeld ?_ ?_
       rotate_left
       ·rintro w' ⟨s0, s1, s2, s3⟩
        go_simp
        with_reducible rfl
       rotate_left
       ·simp only [XPrint.pw, i64_w, i32_w]
        rfl
       refine join_ (σ := Value × Nat) 2 (XPrint.L 12 1023) (fun s_ => [(18, .agg #[.int .i64 t197, .int .i64 t198]), (20, s_.1), (21, .tuple #[.agg #[.int .i64 t202, .int .i64 t203], .int .i64 t204]), (7, .pointer (some ⟨s_.2, 0, none⟩)), (15, .tuple #[.agg #[.int .i64 t202, .int .i64 t203], .int .i64 t204]), (22, .agg #[.int .i64 t202, .int .i64 t203]), (23, .int .i64 t204)]) (fun s_ w' => (w'.cell? ⟨gb194, 0, none⟩ = some (.int .i64 x195000_1) ∧ w'.cell? ⟨gb194, 1, none⟩ = some (.int .i64 x195001_1) ∧ w'.cell? ⟨gb196, 0, none⟩ = some (.int .i64 ((rd_T23 l0 x11_1).f0)) ∧ w'.cell? ⟨gb196, 1, none⟩ = some (.int .i64 ((rd_T23 l0 x11_1).f1))) ∧ (Kd.R k23 23 w' w.heap.size (fun k_ => k_ ≠ gb193 ∧ k_ ≠ gb194 ∧ k_ ≠ gb196 ∧ k_ ≠ s_.2) s_.1 y199) ∧ (w'.heap[gb193]? = some (.cells #[.int .i64 x194000_1, .int .i64 x194001_1] 23 (0, 0))) ∧ (w'.heap[gb194]? = some (.cells #[.int .i64 x195000_1, .int .i64 x195001_1] 23 (0, 0))) ∧ (w'.heap[gb196]? = some (.cells #[.int .i64 ((rd_T23 l0 x11_1).f0), .int .i64 ((rd_T23 l0 x11_1).f1)] 23 (0, 0))) ∧ (w'.heap[s_.2]? = some (.cells #[.int .i64 0, .int .i64 0] 23 (0, 0))) ∧ (w.heap.size ≤ s_.2) ∧ (w.heap.size ≤ s_.2) ∧ (gb193 ≠ s_.2) ∧ (s_.2 ≠ gb193) ∧ (gb194 ≠ s_.2) ∧ (s_.2 ≠ gb194) ∧ (gb196 ≠ s_.2) ∧ (s_.2 ≠ gb196) ∧ (Below w.heap.size w w')) ?_ ?_
       rotate_left
       ·intro hCont
        refine two_ (i := 2) (j := 9) (Ni := some 18) (Nj := some 7) (XPrint.L 12 15) (XPrint.L 12 523) rfl rfl rfl rfl (two_of HT_.out (by kernel_rfl)) (by decide) (by decide) (fun K hK => ?_) (fun K hK => ?_)
        ·skip
         refine XPrint.gs Try.func52 #[.agg #[.int .i64 x195000_1, .int .i64 x195001_1], .agg #[.int .i64 ((rd_T23 l0 x11_1).f0), .int .i64 ((rd_T23 l0 x11_1).f1)], (.func (.func 64) #[] #[])] ?_
         with_reducible refine (vec_made_at_vec_Add_1.calls x195000_1 x195001_1 ((rd_T23 l0 x11_1).f0) ((rd_T23 l0 x11_1).f1)  t197 t198 _ A7.out).mono ?_
         rintro e w37 ⟨rfl, hb⟩
         refine ⟨_, rfl, ?_⟩
         replace BK193 := XPrint.A0 (XPrint.ab BK193.out hb)
         replace BK194 := XPrint.A0 (XPrint.ab BK194.out hb)
         replace BK196 := XPrint.A0 (XPrint.ab BK196.out hb)
         replace HB := XPrint.A0 (below_step (by exact XPrint.bz HB.out) hb)
         (try clear hb)
         (try clear hb2)
         (try clear hk)
         (try clear hi)
         refine hK.out _ _ ⟨(blk_cell BK194.out 0).trans rfl, (blk_cell BK194.out 1).trans rfl, (blk_cell BK196.out 0).trans rfl, (blk_cell BK196.out 1).trans rfl⟩ (fun hHeld => ?_)
         clear hK K
         refine norm_ (a' := ?_) ?_ ?_
         rotate_left
         ·show Act.put _ (some 18) _ = _
          simp only [XPrint.pw, i64_w, i32_w]
          rfl
         refine two_ (i := 4) (j := 9) (Ni := some 20) (Nj := some 7) (XPrint.L 12 31) (XPrint.L 12 527) rfl rfl rfl rfl (two_of HT_.out (by kernel_rfl)) (by decide) (by decide) (fun K hK => ?_) (fun K hK => ?_)
         ·skip
          refine Kd.R_lit_step k23 _ 23 ?hg (N := 20) ?hd (xs := ([(⟨t197, t198⟩ : S23), (⟨(rd_T23 l0 x11_1).f0, (rd_T23 l0 x11_1).f1⟩ : S23)] : List (S23))) (inner := [.int .i64 t197, .int .i64 t198, .int .i64 ((rd_T23 l0 x11_1).f0), .int .i64 ((rd_T23 l0 x11_1).f1)]) (ok := fun _ => True) (okp := fun _ => True) ?hr ?hp (fun _ hk => hk) trivial (Below.refl _ _) (Nat.le_refl _) (by simp) ?_; (case hd => rfl); (case hg => rfl); (case hr => first | (go_simp; done) | (go_simp; rfl)); (case hp => exact (Reps.c2 (show Kd.M k23 _ _ _ (⟨t197, t198⟩ : S23) [.int .i64 t197, .int .i64 t198] from (k23_mkM _ _ _ (⟨t197, t198⟩ : S23) )) (Reps.c2 (show Kd.M k23 _ _ _ (⟨(rd_T23 l0 x11_1).f0, (rd_T23 l0 x11_1).f1⟩ : S23) [.int .i64 ((rd_T23 l0 x11_1).f0), .int .i64 ((rd_T23 l0 x11_1).f1)] from (k23_mkM _ _ _ (⟨(rd_T23 l0 x11_1).f0, (rd_T23 l0 x11_1).f1⟩ : S23) )) (Reps.none _ _))))
          intro v200 w38 ho39 hb hg_ hnew_
          clear hg_ hnew_
          (first | rw [← Ny199.out] at ho39 | (simp only [Int.reduceToNat] at ho39; rw [← Ny199.out] at ho39))
          have HO201 := XPrint.A0 (Kd.R_lower (Kd.R_newB (Kd.R_newB (Kd.R_newB ho39 (g := gb193) (o := .cells #[.int .i64 x194000_1, .int .i64 x194001_1] 23 (0, 0)) (XPrint.ak BK193.out)) (g := gb194) (o := .cells #[.int .i64 x195000_1, .int .i64 x195001_1] 23 (0, 0)) (XPrint.ak BK194.out)) (g := gb196) (o := .cells #[.int .i64 ((rd_T23 l0 x11_1).f0), .int .i64 ((rd_T23 l0 x11_1).f1)] 23 (0, 0)) (XPrint.ak BK196.out)) (below_size (by exact XPrint.bz HB.out)))
          replace BK193 := XPrint.A0 (XPrint.ab BK193.out hb)
          replace BK194 := XPrint.A0 (XPrint.ab BK194.out hb)
          replace BK196 := XPrint.A0 (XPrint.ab BK196.out hb)
          replace HB := XPrint.A0 (below_step (by exact XPrint.bz HB.out) hb)
          clear hb ho39
          obtain ⟨Ao40, co40, eo40⟩ := Kd.R_slice HO201.out
          (first | subst eo40 | (injection eo40 with f1_ f2_ f3_; have f4_ := f1_.symm; have f5_ := f3_.symm; clear f1_ f2_ f3_; subst f4_; subst f5_))
          refine hK.out _ _ ⟨(blk_cell BK194.out 0).trans rfl, (blk_cell BK194.out 1).trans rfl, (blk_cell BK196.out 0).trans rfl, (blk_cell BK196.out 1).trans rfl⟩ (fun hHeld => ?_)
          clear hK K
          refine norm_ (a' := ?_) ?_ ?_
          rotate_left
          ·show Act.put _ (some 20) _ = _
           simp only [XPrint.pw, i64_w, i32_w]
           rfl
          refine two_ (i := 5) (j := 9) (Ni := some 21) (Nj := some 7) (XPrint.L 12 63) (XPrint.L 12 543) rfl rfl rfl rfl (two_of HT_.out (by kernel_rfl)) (by decide) (by decide) (fun K hK => ?_) (fun K hK => ?_)
          ·skip
           refine XPrint.gs Try.func51 #[.slice Ao40 y199.length co40] ?_
           with_reducible refine (vec_told.calls k1 _ _ y199 t202 t203 t204 _ ?side1 ?side2 A8.out).mono ?_
           (case side1 => repeat (first | exact (Kd.R_reads' HO201.out).2.2 | (with_reducible refine Kd.C_alloc ?_ _) | (with_reducible refine Kd.C_drewN ?_ _) | (with_reducible refine Kd.C_drew ?_)))
           (case side2 => exact (Kd.R_reads' HO201.out).2.1)
           rintro e w41 ⟨rfl, hb⟩
           refine ⟨_, rfl, ?_⟩
           replace HO201 := XPrint.A0 (XPrint.rb HO201.out hb)
           replace BK193 := XPrint.A0 (XPrint.ab BK193.out hb)
           replace BK194 := XPrint.A0 (XPrint.ab BK194.out hb)
           replace BK196 := XPrint.A0 (XPrint.ab BK196.out hb)
           replace HB := XPrint.A0 (below_step (by exact XPrint.bz HB.out) hb)
           (try clear hb)
           (try clear hb2)
           (try clear hk)
           (try clear hi)
           refine hK.out _ _ ⟨(blk_cell BK194.out 0).trans rfl, (blk_cell BK194.out 1).trans rfl, (blk_cell BK196.out 0).trans rfl, (blk_cell BK196.out 1).trans rfl⟩ (fun hHeld => ?_)
           clear hK K
           refine norm_ (a' := ?_) ?_ ?_
           rotate_left
           ·show Act.put _ (some 21) _ = _
            simp only [XPrint.pw, i64_w, i32_w]
            rfl
           refine XPrint.pu 6 15 (XPrint.L 12 127) HT_.out (v := ?_) (a' := ?_) ?_ ?_ ?_
           rotate_left
           ·intro w'
            go_simp
            with_reducible rfl
           rotate_left
           ·simp only [XPrint.pw, i64_w, i32_w]
            rfl
           refine XPrint.pu 7 22 (XPrint.L 12 255) HT_.out (v := ?_) (a' := ?_) ?_ ?_ ?_
           rotate_left
           ·intro w'
            go_simp
            with_reducible rfl
           rotate_left
           ·simp only [XPrint.pw, i64_w, i32_w]
            rfl
           refine XPrint.pu 8 23 (XPrint.L 12 511) HT_.out (v := ?_) (a' := ?_) ?_ ?_ ?_
           rotate_left
           ·intro w'
            go_simp
            with_reducible rfl
           rotate_left
           ·simp only [XPrint.pw, i64_w, i32_w]
            rfl
           refine one_ (i := 9) (N := some 7) (XPrint.L 12 1023) rfl rfl (one_of HT_.out (by kernel_rfl)) (by decide) (fun K hK => ?_)
           refine box_step ?hg (N := 7) ?hd (cs := #[.int .i64 0, .int .i64 0]) (t := 23) ?hr ?_; (case hd => rfl); (case hg => rfl); (case hr => first | (go_simp; done) | (go_simp; rfl))
           intro gb205 hg w42 hbox hb
           have BK205 := XPrint.A0 (hbox)
           have GW205 := XPrint.A0 (XPrint.gz HB.out hg)
           have GE205 := XPrint.A0 (XPrint.gz HB.out hg)
           have NB193_205 := XPrint.A1 (by rw [hg]; exact Nat.ne_of_lt (XPrint.al BK193.out) : gb193 ≠ gb205)
           have NB205_193 := XPrint.A1 (by rw [hg]; exact Nat.ne_of_gt (XPrint.al BK193.out) : gb205 ≠ gb193)
           have NB194_205 := XPrint.A1 (by rw [hg]; exact Nat.ne_of_lt (XPrint.al BK194.out) : gb194 ≠ gb205)
           have NB205_194 := XPrint.A1 (by rw [hg]; exact Nat.ne_of_gt (XPrint.al BK194.out) : gb205 ≠ gb194)
           have NB196_205 := XPrint.A1 (by rw [hg]; exact Nat.ne_of_lt (XPrint.al BK196.out) : gb196 ≠ gb205)
           have NB205_196 := XPrint.A1 (by rw [hg]; exact Nat.ne_of_gt (XPrint.al BK196.out) : gb205 ≠ gb196)
           replace HO201 := XPrint.A0 (Kd.R_below (Kd.R_elderB (by (with_reducible repeat (first | apply Kd.R_alloc | apply Kd.R_drewN | apply Kd.R_drew)); exact HO201.out) gb205 (Nat.le_of_eq hg.symm)) hb)
           replace BK193 := XPrint.A0 (XPrint.ab BK193.out hb)
           replace BK194 := XPrint.A0 (XPrint.ab BK194.out hb)
           replace BK196 := XPrint.A0 (XPrint.ab BK196.out hb)
           replace HB := XPrint.A0 (below_step (by exact XPrint.bz HB.out) hb)
           clear hb hbox hg
           refine hK.out _ _ ⟨(blk_cell BK194.out 0).trans rfl, (blk_cell BK194.out 1).trans rfl, (blk_cell BK196.out 0).trans rfl, (blk_cell BK196.out 1).trans rfl⟩ (fun hHeld => ?_)
           clear hK K
           refine norm_ (a' := ?_) ?_ ?_
           rotate_left
           ·show Act.put _ (some 7) _ = _
            simp only [XPrint.pw, i64_w, i32_w]
            rfl
           exact norm_ (by simp only [putAll, XPrint.pw]) (hCont (.slice Ao40 y199.length co40, gb205) _ ⟨hHeld, (by (with_reducible repeat (first | apply Kd.R_alloc | apply Kd.R_drewN | apply Kd.R_drew)); exact Kd.R_mono HO201.out (fun _ hk => ⟨hk.1.1.1.2, ⟨hk.1.1.2, ⟨hk.1.2, hk.2⟩⟩⟩)), (XPrint.ak BK193.out), (XPrint.ak BK194.out), (XPrint.ak BK196.out), (XPrint.ak BK205.out), GW205.out, GE205.out, NB193_205.out, NB205_193.out, NB194_205.out, NB205_194.out, NB196_205.out, NB205_196.out, (by exact XPrint.bz HB.out)⟩)
          ·skip
           refine box_step ?hg (N := 7) ?hd (cs := #[.int .i64 0, .int .i64 0]) (t := 23) ?hr ?_; (case hd => rfl); (case hg => rfl); (case hr => first | (go_simp; done) | (go_simp; rfl))
           intro gb205 hg w40 hbox hb
           have BK205 := XPrint.A0 (hbox)
           have GW205 := XPrint.A0 (XPrint.gz HB.out hg)
           have GE205 := XPrint.A0 (XPrint.gz HB.out hg)
           have NB193_205 := XPrint.A1 (by rw [hg]; exact Nat.ne_of_lt (XPrint.al BK193.out) : gb193 ≠ gb205)
           have NB205_193 := XPrint.A1 (by rw [hg]; exact Nat.ne_of_gt (XPrint.al BK193.out) : gb205 ≠ gb193)
           have NB194_205 := XPrint.A1 (by rw [hg]; exact Nat.ne_of_lt (XPrint.al BK194.out) : gb194 ≠ gb205)
           have NB205_194 := XPrint.A1 (by rw [hg]; exact Nat.ne_of_gt (XPrint.al BK194.out) : gb205 ≠ gb194)
           have NB196_205 := XPrint.A1 (by rw [hg]; exact Nat.ne_of_lt (XPrint.al BK196.out) : gb196 ≠ gb205)
           have NB205_196 := XPrint.A1 (by rw [hg]; exact Nat.ne_of_gt (XPrint.al BK196.out) : gb205 ≠ gb196)
           replace HO201 := XPrint.A0 (Kd.R_below (Kd.R_elderB (by (with_reducible repeat (first | apply Kd.R_alloc | apply Kd.R_drewN | apply Kd.R_drew)); exact HO201.out) gb205 (Nat.le_of_eq hg.symm)) hb)
           replace BK193 := XPrint.A0 (XPrint.ab BK193.out hb)
           replace BK194 := XPrint.A0 (XPrint.ab BK194.out hb)
           replace BK196 := XPrint.A0 (XPrint.ab BK196.out hb)
           replace HB := XPrint.A0 (below_step (by exact XPrint.bz HB.out) hb)
           clear hb hbox hg
           obtain ⟨Ao41, co41, eo41⟩ := Kd.R_slice HO201.out
           (first | subst eo41 | (injection eo41 with f1_ f2_ f3_; have f4_ := f1_.symm; have f5_ := f3_.symm; clear f1_ f2_ f3_; subst f4_; subst f5_))
           refine hK.out _ _ ⟨(blk_cell BK194.out 0).trans rfl, (blk_cell BK194.out 1).trans rfl, (blk_cell BK196.out 0).trans rfl, (blk_cell BK196.out 1).trans rfl⟩ (fun hHeld => ?_)
           clear hK K
           refine norm_ (a' := ?_) ?_ ?_
           rotate_left
           ·show Act.put _ (some 7) _ = _
            simp only [XPrint.pw, i64_w, i32_w]
            rfl
           refine one_ (i := 5) (N := some 21) (XPrint.L 12 575) rfl rfl (one_of HT_.out (by kernel_rfl)) (by decide) (fun K hK => ?_)
           refine XPrint.gs Try.func51 #[.slice Ao41 y199.length co41] ?_
           with_reducible refine (vec_told.calls k1 _ _ y199 t202 t203 t204 _ ?side1 ?side2 A8.out).mono ?_
           (case side1 => repeat (first | exact (Kd.R_reads' HO201.out).2.2 | (with_reducible refine Kd.C_alloc ?_ _) | (with_reducible refine Kd.C_drewN ?_ _) | (with_reducible refine Kd.C_drew ?_)))
           (case side2 => exact (Kd.R_reads' HO201.out).2.1)
           rintro e w42 ⟨rfl, hb⟩
           refine ⟨_, rfl, ?_⟩
           replace HO201 := XPrint.A0 (XPrint.rb HO201.out hb)
           replace BK193 := XPrint.A0 (XPrint.ab BK193.out hb)
           replace BK194 := XPrint.A0 (XPrint.ab BK194.out hb)
           replace BK196 := XPrint.A0 (XPrint.ab BK196.out hb)
           replace BK205 := XPrint.A0 (XPrint.ab BK205.out hb)
           replace HB := XPrint.A0 (below_step (by exact XPrint.bz HB.out) hb)
           (try clear hb)
           (try clear hb2)
           (try clear hk)
           (try clear hi)
           refine hK.out _ _ ⟨(blk_cell BK194.out 0).trans rfl, (blk_cell BK194.out 1).trans rfl, (blk_cell BK196.out 0).trans rfl, (blk_cell BK196.out 1).trans rfl⟩ (fun hHeld => ?_)
           clear hK K
           refine norm_ (a' := ?_) ?_ ?_
           rotate_left
           ·show Act.put _ (some 21) _ = _
            simp only [XPrint.pw, i64_w, i32_w]
            rfl
           refine XPrint.pu 6 15 (XPrint.L 12 639) HT_.out (v := ?_) (a' := ?_) ?_ ?_ ?_
           rotate_left
           ·intro w'
            go_simp
            with_reducible rfl
           rotate_left
           ·simp only [XPrint.pw, i64_w, i32_w]
            rfl
           refine XPrint.pu 7 22 (XPrint.L 12 767) HT_.out (v := ?_) (a' := ?_) ?_ ?_ ?_
           rotate_left
           ·intro w'
            go_simp
            with_reducible rfl
           rotate_left
           ·simp only [XPrint.pw, i64_w, i32_w]
            rfl
           refine XPrint.pu 8 23 (XPrint.L 12 1023) HT_.out (v := ?_) (a' := ?_) ?_ ?_ ?_
           rotate_left
           ·intro w'
            go_simp
            with_reducible rfl
           rotate_left
           ·simp only [XPrint.pw, i64_w, i32_w]
            rfl
           exact norm_ (by simp only [putAll, XPrint.pw]) (hCont (.slice Ao41 y199.length co41, gb205) _ ⟨hHeld, (by (with_reducible repeat (first | apply Kd.R_alloc | apply Kd.R_drewN | apply Kd.R_drew)); exact Kd.R_mono HO201.out (fun _ hk => ⟨hk.1.1.1.2, ⟨hk.1.1.2, ⟨hk.1.2, hk.2⟩⟩⟩)), (XPrint.ak BK193.out), (XPrint.ak BK194.out), (XPrint.ak BK196.out), (XPrint.ak BK205.out), GW205.out, GE205.out, NB193_205.out, NB205_193.out, NB194_205.out, NB205_194.out, NB196_205.out, NB205_196.out, (by exact XPrint.bz HB.out)⟩)
         ·skip
          refine box_step ?hg (N := 7) ?hd (cs := #[.int .i64 0, .int .i64 0]) (t := 23) ?hr ?_; (case hd => rfl); (case hg => rfl); (case hr => first | (go_simp; done) | (go_simp; rfl))
          intro gb205 hg w38 hbox hb
          have BK205 := XPrint.A0 (hbox)
          have GW205 := XPrint.A0 (XPrint.gz HB.out hg)
          have GE205 := XPrint.A0 (XPrint.gz HB.out hg)
          have NB193_205 := XPrint.A1 (by rw [hg]; exact Nat.ne_of_lt (XPrint.al BK193.out) : gb193 ≠ gb205)
          have NB205_193 := XPrint.A1 (by rw [hg]; exact Nat.ne_of_gt (XPrint.al BK193.out) : gb205 ≠ gb193)
          have NB194_205 := XPrint.A1 (by rw [hg]; exact Nat.ne_of_lt (XPrint.al BK194.out) : gb194 ≠ gb205)
          have NB205_194 := XPrint.A1 (by rw [hg]; exact Nat.ne_of_gt (XPrint.al BK194.out) : gb205 ≠ gb194)
          have NB196_205 := XPrint.A1 (by rw [hg]; exact Nat.ne_of_lt (XPrint.al BK196.out) : gb196 ≠ gb205)
          have NB205_196 := XPrint.A1 (by rw [hg]; exact Nat.ne_of_gt (XPrint.al BK196.out) : gb205 ≠ gb196)
          replace BK193 := XPrint.A0 (XPrint.ab BK193.out hb)
          replace BK194 := XPrint.A0 (XPrint.ab BK194.out hb)
          replace BK196 := XPrint.A0 (XPrint.ab BK196.out hb)
          replace HB := XPrint.A0 (below_step (by exact XPrint.bz HB.out) hb)
          clear hb hbox hg
          refine hK.out _ _ ⟨(blk_cell BK194.out 0).trans rfl, (blk_cell BK194.out 1).trans rfl, (blk_cell BK196.out 0).trans rfl, (blk_cell BK196.out 1).trans rfl⟩ (fun hHeld => ?_)
          clear hK K
          refine norm_ (a' := ?_) ?_ ?_
          rotate_left
          ·show Act.put _ (some 7) _ = _
           simp only [XPrint.pw, i64_w, i32_w]
           rfl
          refine one_ (i := 4) (N := some 20) (XPrint.L 12 543) rfl rfl (one_of HT_.out (by kernel_rfl)) (by decide) (fun K hK => ?_)
          refine Kd.R_lit_step k23 _ 23 ?hg (N := 20) ?hd (xs := ([(⟨t197, t198⟩ : S23), (⟨(rd_T23 l0 x11_1).f0, (rd_T23 l0 x11_1).f1⟩ : S23)] : List (S23))) (inner := [.int .i64 t197, .int .i64 t198, .int .i64 ((rd_T23 l0 x11_1).f0), .int .i64 ((rd_T23 l0 x11_1).f1)]) (ok := fun _ => True) (okp := fun _ => True) ?hr ?hp (fun _ hk => hk) trivial (Below.refl _ _) (Nat.le_refl _) (by simp) ?_; (case hd => rfl); (case hg => rfl); (case hr => first | (go_simp; done) | (go_simp; rfl)); (case hp => exact (Reps.c2 (show Kd.M k23 _ _ _ (⟨t197, t198⟩ : S23) [.int .i64 t197, .int .i64 t198] from (k23_mkM _ _ _ (⟨t197, t198⟩ : S23) )) (Reps.c2 (show Kd.M k23 _ _ _ (⟨(rd_T23 l0 x11_1).f0, (rd_T23 l0 x11_1).f1⟩ : S23) [.int .i64 ((rd_T23 l0 x11_1).f0), .int .i64 ((rd_T23 l0 x11_1).f1)] from (k23_mkM _ _ _ (⟨(rd_T23 l0 x11_1).f0, (rd_T23 l0 x11_1).f1⟩ : S23) )) (Reps.none _ _))))
          intro v200 w39 ho40 hb hg_ hnew_
          clear hg_ hnew_
          (first | rw [← Ny199.out] at ho40 | (simp only [Int.reduceToNat] at ho40; rw [← Ny199.out] at ho40))
          have HO201 := XPrint.A0 (Kd.R_lower (Kd.R_newB (Kd.R_newB (Kd.R_newB (Kd.R_newB ho40 (g := gb193) (o := .cells #[.int .i64 x194000_1, .int .i64 x194001_1] 23 (0, 0)) (XPrint.ak BK193.out)) (g := gb194) (o := .cells #[.int .i64 x195000_1, .int .i64 x195001_1] 23 (0, 0)) (XPrint.ak BK194.out)) (g := gb196) (o := .cells #[.int .i64 ((rd_T23 l0 x11_1).f0), .int .i64 ((rd_T23 l0 x11_1).f1)] 23 (0, 0)) (XPrint.ak BK196.out)) (g := gb205) (o := .cells #[.int .i64 0, .int .i64 0] 23 (0, 0)) (XPrint.ak BK205.out)) (below_size (by exact XPrint.bz HB.out)))
          replace BK193 := XPrint.A0 (XPrint.ab BK193.out hb)
          replace BK194 := XPrint.A0 (XPrint.ab BK194.out hb)
          replace BK196 := XPrint.A0 (XPrint.ab BK196.out hb)
          replace BK205 := XPrint.A0 (XPrint.ab BK205.out hb)
          replace HB := XPrint.A0 (below_step (by exact XPrint.bz HB.out) hb)
          clear hb ho40
          obtain ⟨Ao41, co41, eo41⟩ := Kd.R_slice HO201.out
          (first | subst eo41 | (injection eo41 with f1_ f2_ f3_; have f4_ := f1_.symm; have f5_ := f3_.symm; clear f1_ f2_ f3_; subst f4_; subst f5_))
          refine hK.out _ _ ⟨(blk_cell BK194.out 0).trans rfl, (blk_cell BK194.out 1).trans rfl, (blk_cell BK196.out 0).trans rfl, (blk_cell BK196.out 1).trans rfl⟩ (fun hHeld => ?_)
          clear hK K
          refine norm_ (a' := ?_) ?_ ?_
          rotate_left
          ·show Act.put _ (some 20) _ = _
           simp only [XPrint.pw, i64_w, i32_w]
           rfl
          refine one_ (i := 5) (N := some 21) (XPrint.L 12 575) rfl rfl (one_of HT_.out (by kernel_rfl)) (by decide) (fun K hK => ?_)
          refine XPrint.gs Try.func51 #[.slice Ao41 y199.length co41] ?_
          with_reducible refine (vec_told.calls k1 _ _ y199 t202 t203 t204 _ ?side1 ?side2 A8.out).mono ?_
          (case side1 => repeat (first | exact (Kd.R_reads' HO201.out).2.2 | (with_reducible refine Kd.C_alloc ?_ _) | (with_reducible refine Kd.C_drewN ?_ _) | (with_reducible refine Kd.C_drew ?_)))
          (case side2 => exact (Kd.R_reads' HO201.out).2.1)
          rintro e w42 ⟨rfl, hb⟩
          refine ⟨_, rfl, ?_⟩
          replace HO201 := XPrint.A0 (XPrint.rb HO201.out hb)
          replace BK193 := XPrint.A0 (XPrint.ab BK193.out hb)
          replace BK194 := XPrint.A0 (XPrint.ab BK194.out hb)
          replace BK196 := XPrint.A0 (XPrint.ab BK196.out hb)
          replace BK205 := XPrint.A0 (XPrint.ab BK205.out hb)
          replace HB := XPrint.A0 (below_step (by exact XPrint.bz HB.out) hb)
          (try clear hb)
          (try clear hb2)
          (try clear hk)
          (try clear hi)
          refine hK.out _ _ ⟨(blk_cell BK194.out 0).trans rfl, (blk_cell BK194.out 1).trans rfl, (blk_cell BK196.out 0).trans rfl, (blk_cell BK196.out 1).trans rfl⟩ (fun hHeld => ?_)
          clear hK K
          refine norm_ (a' := ?_) ?_ ?_
          rotate_left
          ·show Act.put _ (some 21) _ = _
           simp only [XPrint.pw, i64_w, i32_w]
           rfl
          refine XPrint.pu 6 15 (XPrint.L 12 639) HT_.out (v := ?_) (a' := ?_) ?_ ?_ ?_
          rotate_left
          ·intro w'
           go_simp
           with_reducible rfl
          rotate_left
          ·simp only [XPrint.pw, i64_w, i32_w]
           rfl
          refine XPrint.pu 7 22 (XPrint.L 12 767) HT_.out (v := ?_) (a' := ?_) ?_ ?_ ?_
          rotate_left
          ·intro w'
           go_simp
           with_reducible rfl
          rotate_left
          ·simp only [XPrint.pw, i64_w, i32_w]
           rfl
          refine XPrint.pu 8 23 (XPrint.L 12 1023) HT_.out (v := ?_) (a' := ?_) ?_ ?_ ?_
          rotate_left
          ·intro w'
           go_simp
           with_reducible rfl
          rotate_left
          ·simp only [XPrint.pw, i64_w, i32_w]
           rfl
          exact norm_ (by simp only [putAll, XPrint.pw]) (hCont (.slice Ao41 y199.length co41, gb205) _ ⟨hHeld, (by (with_reducible repeat (first | apply Kd.R_alloc | apply Kd.R_drewN | apply Kd.R_drew)); exact Kd.R_mono HO201.out (fun _ hk => ⟨hk.1.1.1.2, ⟨hk.1.1.2, ⟨hk.1.2, hk.2⟩⟩⟩)), (XPrint.ak BK193.out), (XPrint.ak BK194.out), (XPrint.ak BK196.out), (XPrint.ak BK205.out), GW205.out, GE205.out, NB193_205.out, NB205_193.out, NB194_205.out, NB205_194.out, NB196_205.out, NB205_196.out, (by exact XPrint.bz HB.out)⟩)
        ·skip
         refine box_step ?hg (N := 7) ?hd (cs := #[.int .i64 0, .int .i64 0]) (t := 23) ?hr ?_; (case hd => rfl); (case hg => rfl); (case hr => first | (go_simp; done) | (go_simp; rfl))
         intro gb205 hg w37 hbox hb
         have BK205 := XPrint.A0 (hbox)
         have GW205 := XPrint.A0 (XPrint.gz HB.out hg)
         have GE205 := XPrint.A0 (XPrint.gz HB.out hg)
         have NB193_205 := XPrint.A1 (by rw [hg]; exact Nat.ne_of_lt (XPrint.al BK193.out) : gb193 ≠ gb205)
         have NB205_193 := XPrint.A1 (by rw [hg]; exact Nat.ne_of_gt (XPrint.al BK193.out) : gb205 ≠ gb193)
         have NB194_205 := XPrint.A1 (by rw [hg]; exact Nat.ne_of_lt (XPrint.al BK194.out) : gb194 ≠ gb205)
         have NB205_194 := XPrint.A1 (by rw [hg]; exact Nat.ne_of_gt (XPrint.al BK194.out) : gb205 ≠ gb194)
         have NB196_205 := XPrint.A1 (by rw [hg]; exact Nat.ne_of_lt (XPrint.al BK196.out) : gb196 ≠ gb205)
         have NB205_196 := XPrint.A1 (by rw [hg]; exact Nat.ne_of_gt (XPrint.al BK196.out) : gb205 ≠ gb196)
         replace BK193 := XPrint.A0 (XPrint.ab BK193.out hb)
         replace BK194 := XPrint.A0 (XPrint.ab BK194.out hb)
         replace BK196 := XPrint.A0 (XPrint.ab BK196.out hb)
         replace HB := XPrint.A0 (below_step (by exact XPrint.bz HB.out) hb)
         clear hb hbox hg
         refine hK.out _ _ ⟨(blk_cell BK194.out 0).trans rfl, (blk_cell BK194.out 1).trans rfl, (blk_cell BK196.out 0).trans rfl, (blk_cell BK196.out 1).trans rfl⟩ (fun hHeld => ?_)
         clear hK K
         refine norm_ (a' := ?_) ?_ ?_
         rotate_left
         ·show Act.put _ (some 7) _ = _
          simp only [XPrint.pw, i64_w, i32_w]
          rfl
         refine one_ (i := 2) (N := some 18) (XPrint.L 12 527) rfl rfl (one_of HT_.out (by kernel_rfl)) (by decide) (fun K hK => ?_)
         refine XPrint.gs Try.func52 #[.agg #[.int .i64 x195000_1, .int .i64 x195001_1], .agg #[.int .i64 ((rd_T23 l0 x11_1).f0), .int .i64 ((rd_T23 l0 x11_1).f1)], (.func (.func 64) #[] #[])] ?_
         with_reducible refine (vec_made_at_vec_Add_1.calls x195000_1 x195001_1 ((rd_T23 l0 x11_1).f0) ((rd_T23 l0 x11_1).f1)  t197 t198 _ A7.out).mono ?_
         rintro e w38 ⟨rfl, hb⟩
         refine ⟨_, rfl, ?_⟩
         replace BK193 := XPrint.A0 (XPrint.ab BK193.out hb)
         replace BK194 := XPrint.A0 (XPrint.ab BK194.out hb)
         replace BK196 := XPrint.A0 (XPrint.ab BK196.out hb)
         replace BK205 := XPrint.A0 (XPrint.ab BK205.out hb)
         replace HB := XPrint.A0 (below_step (by exact XPrint.bz HB.out) hb)
         (try clear hb)
         (try clear hb2)
         (try clear hk)
         (try clear hi)
         refine hK.out _ _ ⟨(blk_cell BK194.out 0).trans rfl, (blk_cell BK194.out 1).trans rfl, (blk_cell BK196.out 0).trans rfl, (blk_cell BK196.out 1).trans rfl⟩ (fun hHeld => ?_)
         clear hK K
         refine norm_ (a' := ?_) ?_ ?_
         rotate_left
         ·show Act.put _ (some 18) _ = _
          simp only [XPrint.pw, i64_w, i32_w]
          rfl
         refine one_ (i := 4) (N := some 20) (XPrint.L 12 543) rfl rfl (one_of HT_.out (by kernel_rfl)) (by decide) (fun K hK => ?_)
         refine Kd.R_lit_step k23 _ 23 ?hg (N := 20) ?hd (xs := ([(⟨t197, t198⟩ : S23), (⟨(rd_T23 l0 x11_1).f0, (rd_T23 l0 x11_1).f1⟩ : S23)] : List (S23))) (inner := [.int .i64 t197, .int .i64 t198, .int .i64 ((rd_T23 l0 x11_1).f0), .int .i64 ((rd_T23 l0 x11_1).f1)]) (ok := fun _ => True) (okp := fun _ => True) ?hr ?hp (fun _ hk => hk) trivial (Below.refl _ _) (Nat.le_refl _) (by simp) ?_; (case hd => rfl); (case hg => rfl); (case hr => first | (go_simp; done) | (go_simp; rfl)); (case hp => exact (Reps.c2 (show Kd.M k23 _ _ _ (⟨t197, t198⟩ : S23) [.int .i64 t197, .int .i64 t198] from (k23_mkM _ _ _ (⟨t197, t198⟩ : S23) )) (Reps.c2 (show Kd.M k23 _ _ _ (⟨(rd_T23 l0 x11_1).f0, (rd_T23 l0 x11_1).f1⟩ : S23) [.int .i64 ((rd_T23 l0 x11_1).f0), .int .i64 ((rd_T23 l0 x11_1).f1)] from (k23_mkM _ _ _ (⟨(rd_T23 l0 x11_1).f0, (rd_T23 l0 x11_1).f1⟩ : S23) )) (Reps.none _ _))))
         intro v200 w39 ho40 hb hg_ hnew_
         clear hg_ hnew_
         (first | rw [← Ny199.out] at ho40 | (simp only [Int.reduceToNat] at ho40; rw [← Ny199.out] at ho40))
         have HO201 := XPrint.A0 (Kd.R_lower (Kd.R_newB (Kd.R_newB (Kd.R_newB (Kd.R_newB ho40 (g := gb193) (o := .cells #[.int .i64 x194000_1, .int .i64 x194001_1] 23 (0, 0)) (XPrint.ak BK193.out)) (g := gb194) (o := .cells #[.int .i64 x195000_1, .int .i64 x195001_1] 23 (0, 0)) (XPrint.ak BK194.out)) (g := gb196) (o := .cells #[.int .i64 ((rd_T23 l0 x11_1).f0), .int .i64 ((rd_T23 l0 x11_1).f1)] 23 (0, 0)) (XPrint.ak BK196.out)) (g := gb205) (o := .cells #[.int .i64 0, .int .i64 0] 23 (0, 0)) (XPrint.ak BK205.out)) (below_size (by exact XPrint.bz HB.out)))
         replace BK193 := XPrint.A0 (XPrint.ab BK193.out hb)
         replace BK194 := XPrint.A0 (XPrint.ab BK194.out hb)
         replace BK196 := XPrint.A0 (XPrint.ab BK196.out hb)
         replace BK205 := XPrint.A0 (XPrint.ab BK205.out hb)
         replace HB := XPrint.A0 (below_step (by exact XPrint.bz HB.out) hb)
         clear hb ho40
         obtain ⟨Ao41, co41, eo41⟩ := Kd.R_slice HO201.out
         (first | subst eo41 | (injection eo41 with f1_ f2_ f3_; have f4_ := f1_.symm; have f5_ := f3_.symm; clear f1_ f2_ f3_; subst f4_; subst f5_))
         refine hK.out _ _ ⟨(blk_cell BK194.out 0).trans rfl, (blk_cell BK194.out 1).trans rfl, (blk_cell BK196.out 0).trans rfl, (blk_cell BK196.out 1).trans rfl⟩ (fun hHeld => ?_)
         clear hK K
         refine norm_ (a' := ?_) ?_ ?_
         rotate_left
         ·show Act.put _ (some 20) _ = _
          simp only [XPrint.pw, i64_w, i32_w]
          rfl
         refine one_ (i := 5) (N := some 21) (XPrint.L 12 575) rfl rfl (one_of HT_.out (by kernel_rfl)) (by decide) (fun K hK => ?_)
         refine XPrint.gs Try.func51 #[.slice Ao41 y199.length co41] ?_
         with_reducible refine (vec_told.calls k1 _ _ y199 t202 t203 t204 _ ?side1 ?side2 A8.out).mono ?_
         (case side1 => repeat (first | exact (Kd.R_reads' HO201.out).2.2 | (with_reducible refine Kd.C_alloc ?_ _) | (with_reducible refine Kd.C_drewN ?_ _) | (with_reducible refine Kd.C_drew ?_)))
         (case side2 => exact (Kd.R_reads' HO201.out).2.1)
         rintro e w42 ⟨rfl, hb⟩
         refine ⟨_, rfl, ?_⟩
         replace HO201 := XPrint.A0 (XPrint.rb HO201.out hb)
         replace BK193 := XPrint.A0 (XPrint.ab BK193.out hb)
         replace BK194 := XPrint.A0 (XPrint.ab BK194.out hb)
         replace BK196 := XPrint.A0 (XPrint.ab BK196.out hb)
         replace BK205 := XPrint.A0 (XPrint.ab BK205.out hb)
         replace HB := XPrint.A0 (below_step (by exact XPrint.bz HB.out) hb)
         (try clear hb)
         (try clear hb2)
         (try clear hk)
         (try clear hi)
         refine hK.out _ _ ⟨(blk_cell BK194.out 0).trans rfl, (blk_cell BK194.out 1).trans rfl, (blk_cell BK196.out 0).trans rfl, (blk_cell BK196.out 1).trans rfl⟩ (fun hHeld => ?_)
         clear hK K
         refine norm_ (a' := ?_) ?_ ?_
         rotate_left
         ·show Act.put _ (some 21) _ = _
          simp only [XPrint.pw, i64_w, i32_w]
          rfl
         refine XPrint.pu 6 15 (XPrint.L 12 639) HT_.out (v := ?_) (a' := ?_) ?_ ?_ ?_
         rotate_left
         ·intro w'
          go_simp
          with_reducible rfl
         rotate_left
         ·simp only [XPrint.pw, i64_w, i32_w]
          rfl
         refine XPrint.pu 7 22 (XPrint.L 12 767) HT_.out (v := ?_) (a' := ?_) ?_ ?_ ?_
         rotate_left
         ·intro w'
          go_simp
          with_reducible rfl
         rotate_left
         ·simp only [XPrint.pw, i64_w, i32_w]
          rfl
         refine XPrint.pu 8 23 (XPrint.L 12 1023) HT_.out (v := ?_) (a' := ?_) ?_ ?_ ?_
         rotate_left
         ·intro w'
          go_simp
          with_reducible rfl
         rotate_left
         ·simp only [XPrint.pw, i64_w, i32_w]
          rfl
         exact norm_ (by simp only [putAll, XPrint.pw]) (hCont (.slice Ao41 y199.length co41, gb205) _ ⟨hHeld, (by (with_reducible repeat (first | apply Kd.R_alloc | apply Kd.R_drewN | apply Kd.R_drew)); exact Kd.R_mono HO201.out (fun _ hk => ⟨hk.1.1.1.2, ⟨hk.1.1.2, ⟨hk.1.2, hk.2⟩⟩⟩)), (XPrint.ak BK193.out), (XPrint.ak BK194.out), (XPrint.ak BK196.out), (XPrint.ak BK205.out), GW205.out, GE205.out, NB193_205.out, NB205_193.out, NB194_205.out, NB205_194.out, NB196_205.out, NB205_196.out, (by exact XPrint.bz HB.out)⟩)
       rintro ⟨v200, gb205⟩ w43 ⟨hS_, h0_, h1_, h2_, h3_, h4_, h5_, h6_, h7_, h8_, h9_, h10_, h11_, h12_, h13_⟩
       have HO201 := XPrint.A0 h0_
       have BK205 := XPrint.A0 h4_
       have GW205 := XPrint.A0 h5_
       have GE205 := XPrint.A0 h6_
       have NB193_205 := XPrint.A1 h7_
       have NB205_193 := XPrint.A1 h8_
       have NB194_205 := XPrint.A1 h9_
       have NB205_194 := XPrint.A1 h10_
       have NB196_205 := XPrint.A1 h11_
       have NB205_196 := XPrint.A1 h12_
       replace BK193 := XPrint.A0 h1_
       replace BK194 := XPrint.A0 h2_
       replace BK196 := XPrint.A0 h3_
       replace HB := XPrint.A0 h13_
       clear h0_ h1_ h2_ h3_ h4_ h5_ h6_ h7_ h8_ h9_ h10_ h11_ h12_ h13_
       have hHeld : w43.cell? ⟨gb194, 0, none⟩ = some (.int .i64 x195000_1) ∧ w43.cell? ⟨gb194, 1, none⟩ = some (.int .i64 x195001_1) ∧ w43.cell? ⟨gb196, 0, none⟩ = some (.int .i64 ((rd_T23 l0 x11_1).f0)) ∧ w43.cell? ⟨gb196, 1, none⟩ = some (.int .i64 ((rd_T23 l0 x11_1).f1)) := hS_
       refine norm_ (a' := ?_) ?_ ?_
       rotate_left
       ·simp only [putAll, XPrint.pw]
        rfl
       refine one_ (i := 10) (N := none) (XPrint.L 12 2047) rfl rfl (one_of HT_.out (by kernel_rfl)) (by decide) (fun K hK => ?_)
       have hs44 : w43.cell? ⟨gb205, 0, none⟩ = some (.int .i64 0) := (blk_cell BK205.out 0).trans rfl
       have hfs44 := blk_frozen BK205.out 0
       have hns44_0 := NB193_205.out
       have hns44_1 := NB194_205.out
       have hns44_2 := NB196_205.out
       have hms44_0 := NB205_193.out
       have hms44_1 := NB205_194.out
       have hms44_2 := NB205_196.out
       have hs45 : w43.cell? ⟨gb205, 1, none⟩ = some (.int .i64 0) := (blk_cell BK205.out 1).trans rfl
       have hfs45 := blk_frozen BK205.out 1
       have hns45_0 := NB193_205.out
       have hns45_1 := NB194_205.out
       have hns45_2 := NB196_205.out
       have hms45_0 := NB205_193.out
       have hms45_1 := NB205_194.out
       have hms45_2 := NB205_196.out
       refine skip_ (w1 := ?_) (by rfl) rfl ?_ ?_
       rotate_left
       ·go_simp
        rfl
       refine hK.out _ _ ⟨((cell_far (p := ⟨gb205, _, none⟩) NB194_205.out _).trans (((cell_far (p := ⟨gb205, _, none⟩) NB194_205.out _).trans (hHeld.1)))), ((cell_far (p := ⟨gb205, _, none⟩) NB194_205.out _).trans (((cell_far (p := ⟨gb205, _, none⟩) NB194_205.out _).trans (hHeld.2.1)))), ((cell_far (p := ⟨gb205, _, none⟩) NB196_205.out _).trans (((cell_far (p := ⟨gb205, _, none⟩) NB196_205.out _).trans (hHeld.2.2.1)))), ((cell_far (p := ⟨gb205, _, none⟩) NB196_205.out _).trans (((cell_far (p := ⟨gb205, _, none⟩) NB196_205.out _).trans (hHeld.2.2.2))))⟩ (fun hHeld => ?_)
       clear hK K
       refine XPrint.pu 11 8 (XPrint.L 12 4095) HT_.out (v := ?_) (a' := ?_) ?_ ?_ ?_
       rotate_left
       ·intro w'
        go_simp
        with_reducible rfl
       rotate_left
       ·simp only [XPrint.pw, i64_w, i32_w]
        rfl
       refine done_ (done_of HT_.out (by kernel_rfl)) ?_
       have hnb46 := NB193_194.out
       have hnc46 := NB194_193.out
       have hnb47 := NB193_205.out
       have hnc47 := NB205_193.out
       have hcz48_0 : w43.cell? ⟨gb193, 0, none⟩ = some (.int .i64 x194000_1) := (blk_cell BK193.out 0).trans rfl
       have hcz48_1 : w43.cell? ⟨gb193, 1, none⟩ = some (.int .i64 x194001_1) := (blk_cell BK193.out 1).trans rfl
       have hfz48_0 := blk_frozen BK193.out 0
       have hfz48_1 := blk_frozen BK193.out 1
       try go_wp2
       refine bodyPost_ret (results_ct rfl _ _ gb193 23 #[.int .i64 0, .int .i64 0] (0, 0) _ rfl (by (repeat with_reducible first | refine XPrint.d1 ?_ | refine XPrint.d2 ?_ _ | refine XPrint.d3 ?_ _); refine blk_put (cs := #[.int .i64 0, .int .i64 x194001_1]) ?_ 1 _ rfl; (repeat with_reducible first | refine XPrint.d1 ?_ | refine XPrint.d2 ?_ _ | refine XPrint.d3 ?_ _); refine blk_put (cs := #[.int .i64 x194000_1, .int .i64 x194001_1]) ?_ 0 _ rfl; (repeat with_reducible first | refine XPrint.d1 ?_ | refine XPrint.d2 ?_ _ | refine XPrint.d3 ?_ _); refine blk_far ?_ NB193_205.out _; (repeat with_reducible first | refine XPrint.d1 ?_ | refine XPrint.d2 ?_ _ | refine XPrint.d3 ?_ _); refine blk_far ?_ NB193_205.out _; (repeat with_reducible first | refine XPrint.d1 ?_ | refine XPrint.d2 ?_ _ | refine XPrint.d3 ?_ _); exact BK193.out) Try.underlying23 rfl (by kernel_rfl)) rfl ?_
       exact ⟨by first | rfl | (simp [errW_none, errW_some] <;> rfl) | (simp [*, errW_none, errW_some] <;> rfl), by repeat (first | (with_reducible first | exact HB.out | apply below_alloc | apply pw_below_drewN | apply below_drew1 | refine below_set ?_ GE193.out | refine below_set ?_ GE194.out | refine below_set ?_ GE196.out | refine below_set ?_ GE205.out) | exact HB.out)⟩
     ·rw [if_neg c6] at H
      exact absurd H (by simp)
    ·rw [if_neg c5] at H
     exact absurd H (by simp)
   ·rw [if_neg c4] at H
    have c4b0 : decide (x11_1 < (l0.length : Int)) = false := decide_eq_false c4
    clear c4
    simp only [Option.some.injEq, Prod.mk.injEq] at H
    obtain ⟨rfl, rfl, rfl⟩ := H
    have hnb49 := NB194_193.out
    have hnc49 := NB193_194.out
    have hcz50_0 : wr.cell? ⟨gb194, 0, none⟩ = some (.int .i64 x195000_1) := (blk_cell BK194.out 0).trans rfl
    have hcz50_1 : wr.cell? ⟨gb194, 1, none⟩ = some (.int .i64 x195001_1) := (blk_cell BK194.out 1).trans rfl
    have hfz50_0 := blk_frozen BK194.out 0
    have hfz50_1 := blk_frozen BK194.out 1
    have hcz51_0 : wr.cell? ⟨gb193, 0, none⟩ = some (.int .i64 x194000_1) := (blk_cell BK193.out 0).trans rfl
    have hcz51_1 : wr.cell? ⟨gb193, 1, none⟩ = some (.int .i64 x194001_1) := (blk_cell BK193.out 1).trans rfl
    have hfz51_0 := blk_frozen BK193.out 0
    have hfz51_1 := blk_frozen BK193.out 1
    go_wp2
    refine bodyPost_ret (results_ct rfl _ _ gb193 23 #[.int .i64 x195000_1, .int .i64 x195001_1] (0, 0) _ rfl (by (repeat with_reducible first | refine XPrint.d1 ?_ | refine XPrint.d2 ?_ _ | refine XPrint.d3 ?_ _); refine blk_put (cs := #[.int .i64 x195000_1, .int .i64 x194001_1]) ?_ 1 _ rfl; (repeat with_reducible first | refine XPrint.d1 ?_ | refine XPrint.d2 ?_ _ | refine XPrint.d3 ?_ _); refine blk_put (cs := #[.int .i64 x194000_1, .int .i64 x194001_1]) ?_ 0 _ rfl; (repeat with_reducible first | refine XPrint.d1 ?_ | refine XPrint.d2 ?_ _ | refine XPrint.d3 ?_ _); exact BK193.out) Try.underlying23 rfl (by kernel_rfl)) rfl ?_
    exact ⟨by first | rfl | (simp [errW_none, errW_some] <;> rfl) | (simp [*, errW_none, errW_some] <;> rfl), by repeat (first | (with_reducible first | exact HB.out | apply below_alloc | apply pw_below_drewN | apply below_drew1 | refine below_set ?_ GE193.out | refine below_set ?_ GE194.out) | exact HB.out)⟩

end Go.Proofs.Ytdcgilnmncanfaa.PVecOrder
