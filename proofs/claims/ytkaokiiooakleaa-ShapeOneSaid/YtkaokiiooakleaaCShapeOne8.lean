-- printed by this session's own driver over the kit's printer: Lean checks it
import Derived.Test.YtkaokiiooakleaaCShapeOne0
import Derived.Test.YtkaokiiooakleaaCShapeOne3
import Derived.Test.YtkaokiiooakleaaCShapeOne7
namespace Go.Proofs.Ytkaokiiooakleaa.PShapeOne
open Go.RowKit Go.Proofs.YtkaokiiooakleaaW.PrintWords Go.Proofs.YtkaokiiooakleaaW.PrintLast Go.Proofs.YtkaokiiooakleaaW.PrintMore
attribute [local go_sem] max2_int min2_int max_two min_two max_three min_three max_four min_four   -- for this text's walks alone
set_option linter.unusedVariables false
set_option linter.unusedSimpArgs false

/-! ### liverylaw08_ShapeOne: function 9 -/
mutual
def liverylaw08_ShapeOne.j0 : Nat → Int → Bool → Int → Int → List (S65) → Int → Int → Int → Int → Int → Option (Bool)
 | 0, _, _, _, _, _, _, _, _, _, _ => none
 | k + 1, x2, x40, x191000, x191001, x191002, x192000, x192001, x192002, x192003, x192004 => if x40 = true then ((liverylaw08_head.f k).bind fun t194 => (some t194)) else ((some (([] : List (S65)) : List (S65))).bind fun y197 => (if y197.length + x191002.length < 4398046511104 then ((some (y197 ++ x191002 : List (S65))).bind fun y200 => ((some (([(⟨x192000, x192001, x192002, x192003, x192004⟩ : S65)] : List (S65)) : List (S65))).bind fun y203 => (if y200.length + y203.length < 4398046511104 then (if 0 ≤ (wrap64 ((x191002.length : Int) - 1)) then (if (wrap64 ((x191002.length : Int) - 1)) ≤ (x191002.length : Int) then ((shape_Check.f x191000 x191001 (y200 ++ y203)).bind fun bt213 => ((shape_Check.f x191000 x191001 (x191002.take ((wrap64 ((x191002.length : Int) - 1)) : Int).toNat)).bind fun bt215 => (if bt213.2 = 81 then (if bt213.1 = (x191002.length : Int) then (if bt215.2 = 81 then (liverylaw08_ShapeOne.j1 k x2 (bt215.1 != (wrap64 ((x191002.length : Int) - 1))) x191000 x191001 x191002) else (none)) else (none)) else (none)))) else (none)) else (none)) else (none)))) else (none)))
def liverylaw08_ShapeOne.j1 : Nat → Int → Bool → Int → Int → List (S65) → Option (Bool)
 | 0, _, _, _, _, _ => none
 | k + 1, x2, x90, x191000, x191001, x191002 => if x90 = true then (none) else ((shape_Check.f (wrap64 (Int.tmod x2 549755813888)) (wrap64 ((wrap64 (Int.tmod x2 549755813888)) + 4096)) x191002).bind fun bt218 => ((shape_Check.f (wrap64 (Int.tmod x2 549755813888)) (wrap64 ((wrap64 ((wrap64 (Int.tmod x2 549755813888)) + 4096)) + 1)) x191002).bind fun bt220 => ((shape_Check.f (wrap64 (Int.tmod x2 549755813888)) (wrap64 (Int.tmod x2 549755813888)) x191002).bind fun bt222 => ((shape_Check.f (-1) (wrap64 (Int.tmod x2 549755813888)) x191002).bind fun bt224 => ((shape_Check.f 1099511627775 1099511627776 x191002).bind fun bt226 => ((shape_Check.f 1099511627775 (1099511627776 + 1) x191002).bind fun bt228 => (if bt218.2 = 0 then (if bt220.2 = 82 then (if bt220.1 = (-1) then (if bt222.2 = 82 then (if bt224.2 = 82 then (if bt226.2 = 0 then (if bt228.2 = 82 then ((liverylaw08_head.f k).bind fun t230 => (some t230)) else (none)) else (none)) else (none)) else (none)) else (none)) else (none)) else (none))))))))
end
def liverylaw08_ShapeOne.f (k : Nat) (a0_0 : Int) (a0_1 : Int) (l0_2 : List (S65)) (a1_0 : Int) (a1_1 : Int) (a1_2 : Int) (a1_3 : Int) (a1_4 : Int) (a2 : Int) : Option (Bool) := (shape_Check.f a0_0 a0_1 l0_2).bind fun bt192 => (if bt192.2 = 0 then (liverylaw08_ShapeOne.j0 k a2 (decide ((l0_2.length : Int) > 200)) a0_0 a0_1 l0_2 a1_0 a1_1 a1_2 a1_3 a1_4) else (liverylaw08_ShapeOne.j0 k a2 true a0_0 a0_1 l0_2 a1_0 a1_1 a1_2 a1_3 a1_4))
theorem liverylaw08_ShapeOne.mono_l : ∀ k, (∀ y0 y1 y2 y3 y4 y5 y6 y7 y8 y9, LeO (liverylaw08_ShapeOne.j0 k y0 y1 y2 y3 y4 y5 y6 y7 y8 y9) (liverylaw08_ShapeOne.j0 (k + 1) y0 y1 y2 y3 y4 y5 y6 y7 y8 y9)) ∧ (∀ y0 y1 y2 y3 y4, LeO (liverylaw08_ShapeOne.j1 k y0 y1 y2 y3 y4) (liverylaw08_ShapeOne.j1 (k + 1) y0 y1 y2 y3 y4))
 | 0 => ⟨fun _ _ _ _ _ _ _ _ _ _ r h => by simp [liverylaw08_ShapeOne.j0] at h, fun _ _ _ _ _ r h => by simp [liverylaw08_ShapeOne.j1] at h⟩
 | k + 1 => by
  obtain ⟨ih0, ih1⟩ := liverylaw08_ShapeOne.mono_l k
  refine ⟨?_, ?_⟩
  ·intro y0 y1 y2 y3 y4 y5 y6 y7 y8 y9
   unfold liverylaw08_ShapeOne.j0
   repeat' first
   | (with_reducible exact ih0 _ _ _ _ _ _ _ _ _ _)
   | (with_reducible exact ih1 _ _ _ _ _)
   | (with_reducible exact liverylaw08_head.mono _)
   | (with_reducible exact LeO.refl _)
   | (with_reducible exact LeO.none _)
   | (with_reducible refine LeO.ite ?_ ?_)
   | (with_reducible refine LeO.bind ?_ (fun _ => ?_))
   | exact ih0 _ _ _ _ _ _ _ _ _ _
   | exact ih1 _ _ _ _ _
   | exact liverylaw08_head.mono _
   | exact LeO.none _
   | refine LeO.ite ?_ ?_
   | refine LeO.bind ?_ (fun _ => ?_)
  ·intro y0 y1 y2 y3 y4
   unfold liverylaw08_ShapeOne.j1
   repeat' first
   | (with_reducible exact ih0 _ _ _ _ _ _ _ _ _ _)
   | (with_reducible exact ih1 _ _ _ _ _)
   | (with_reducible exact liverylaw08_head.mono _)
   | (with_reducible exact LeO.refl _)
   | (with_reducible exact LeO.none _)
   | (with_reducible refine LeO.ite ?_ ?_)
   | (with_reducible refine LeO.bind ?_ (fun _ => ?_))
   | exact ih0 _ _ _ _ _ _ _ _ _ _
   | exact ih1 _ _ _ _ _
   | exact liverylaw08_head.mono _
   | exact LeO.none _
   | refine LeO.ite ?_ ?_
   | refine LeO.bind ?_ (fun _ => ?_)
theorem liverylaw08_ShapeOne.mono : ∀ a0 a1 a2 a3 a4 a5 a6 a7 a8 k, LeO (liverylaw08_ShapeOne.f k a0 a1 a2 a3 a4 a5 a6 a7 a8) (liverylaw08_ShapeOne.f (k + 1) a0 a1 a2 a3 a4 a5 a6 a7 a8) := by
 intro a0 a1 a2 a3 a4 a5 a6 a7 a8 k
 obtain ⟨ih0, ih1⟩ := liverylaw08_ShapeOne.mono_l k
 unfold liverylaw08_ShapeOne.f
 repeat' first
   | (with_reducible exact ih0 _ _ _ _ _ _ _ _ _ _)
   | (with_reducible exact ih1 _ _ _ _ _)
   | (with_reducible exact liverylaw08_head.mono _)
   | (with_reducible exact LeO.refl _)
   | (with_reducible exact LeO.none _)
   | (with_reducible refine LeO.ite ?_ ?_)
   | (with_reducible refine LeO.bind ?_ (fun _ => ?_))
   | exact ih0 _ _ _ _ _ _ _ _ _ _
   | exact ih1 _ _ _ _ _
   | exact liverylaw08_head.mono _
   | exact LeO.none _
   | refine LeO.ite ?_ ?_
   | refine LeO.bind ?_ (fun _ => ?_)
def liverylaw08_ShapeOne.T5 : Bool × List (List Nat × List Nat) := (true, [([], []), ([], []), ([1], [1]), ([0, 2], [0, 2]), ([], []), ([4], [4]), ([3, 5, 3], [3, 5]), ([0, 1, 2, 3, 4, 5, 6], []), ([7, 6, 6, 0, 1, 2, 3, 4, 5, 6], [6, 7])])
def liverylaw08_ShapeOne.B5 : List Nat := [0, 0, 2, 7, 0, 16, 63, 127, 255]
theorem liverylaw08_ShapeOne.tab5 : rtab .any (opsOf Try.f9 5) = liverylaw08_ShapeOne.T5 := by kernel_rfl
theorem liverylaw08_ShapeOne.bits5 : waitsOk liverylaw08_ShapeOne.T5.2 liverylaw08_ShapeOne.B5 = true := by kernel_rfl
set_option maxHeartbeats 8000000 in
set_option maxRecDepth 100000 in
theorem liverylaw08_ShapeOne.calls (k : Nat) (a0_0 : Int) (a0_1 : Int) (A0_2 : Option Addr) (c0_2 : Nat) (l0_2 : List (S65)) (a1_0 : Int) (a1_1 : Int) (a1_2 : Int) (a1_3 : Int) (a1_4 : Int) (a2 : Int) (r : Bool) (w : World) (hr0_2 : Kd.C k65 w A0_2 l0_2.length l0_2) (hc0_2 : l0_2.length ≤ c0_2) (h : liverylaw08_ShapeOne.f k a0_0 a0_1 l0_2 a1_0 a1_1 a1_2 a1_3 a1_4 a2 = some r) :
  Calls Try.prog 9 #[.agg #[.int .i64 a0_0, .int .i64 a0_1, .slice A0_2 l0_2.length c0_2], .agg #[.int .u8 a1_0, .int .u32 a1_1, .int .u32 a1_2, .int .i64 a1_3, .int .i64 a1_4], .int .u64 a2] w fun e w' => e = .returned (.bool r) ∧ Below w.heap.size w w' := by
 have hu50 := Try.underlying50
 have hu65 := Try.underlying65
 have HR0_2 := XPrint.A0 hr0_2
 have HC0_2 := XPrint.A0 hc0_2
 clear hr0_2 hc0_2
 have HB := XPrint.A0 (Below.refl w.heap.size w)
 have H : ((shape_Check.f a0_0 a0_1 l0_2).bind fun bt192 => (if bt192.2 = 0 then (liverylaw08_ShapeOne.j0 k a2 (decide ((l0_2.length : Int) > 200)) a0_0 a0_1 l0_2 a1_0 a1_1 a1_2 a1_3 a1_4) else (liverylaw08_ShapeOne.j0 k a2 true a0_0 a0_1 l0_2 a1_0 a1_1 a1_2 a1_3 a1_4))) = some r := h
 clear h
 replace H := Option.bind_eq_some_iff.mp H
 obtain ⟨⟨t192, t193⟩, A40, H⟩ := H
 replace H : (if t193 = 0 then (liverylaw08_ShapeOne.j0 k a2 (decide ((l0_2.length : Int) > 200)) a0_0 a0_1 l0_2 a1_0 a1_1 a1_2 a1_3 a1_4) else (liverylaw08_ShapeOne.j0 k a2 true a0_0 a0_1 l0_2 a1_0 a1_1 a1_2 a1_3 a1_4)) = some r := H
 have A4 := XPrint.A0 A40
 clear A40
 have HC5 := XPrint.A0 H
 clear H
 go_enter Try.func9, Try.ntmps9
 go_upto_region 2 with (first | ((with_reducible refine gate_dst (N := 3) rfl ?_); (try (refine gate_guard (by rfl) ?_; dsimp only)); refine box_event ?hg (N := 3) ?hd (cs := #[.int .i64 a0_0, .int .i64 a0_1, .slice A0_2 l0_2.length c0_2]) (t := 50) ?hr ?_; (case hd => rfl); (case hg => rfl); (case hr => first | (go_simp; done) | (go_simp; rfl)); intro gb190 hg w6 hbox hb; have n0_ := XPrint.A0 (below_step (by exact XPrint.bz HB.out) hb); have n1_ := XPrint.A0 (hbox); have n2_ := XPrint.A0 (XPrint.gz HB.out hg); have n3_ := XPrint.A0 (XPrint.gz HB.out hg); clear HB; have HB := n0_; have BK190 := n1_; have GW190 := n2_; have GE190 := n3_; clear n0_ n1_ n2_ n3_; clear hb hbox hg) | ((with_reducible refine gate_dst (N := 4) rfl ?_); (try (refine gate_guard (by rfl) ?_; dsimp only)); refine box_event ?hg (N := 4) ?hd (cs := #[.int .u8 a1_0, .int .u32 a1_1, .int .u32 a1_2, .int .i64 a1_3, .int .i64 a1_4]) (t := 65) ?hr ?_; (case hd => rfl); (case hg => rfl); (case hr => first | (go_simp; done) | (go_simp; rfl)); intro gb191 hg w7 hbox hb; have n0_ := XPrint.A0 (XPrint.ab BK190.out hb); have n1_ := XPrint.A0 (below_step (by exact XPrint.bz HB.out) hb); have n2_ := XPrint.A0 (hbox); have n3_ := XPrint.A0 (XPrint.gz HB.out hg); have n4_ := XPrint.A0 (XPrint.gz HB.out hg); have n5_ := XPrint.A1 (by rw [hg]; exact Nat.ne_of_lt (XPrint.al BK190.out) : gb190 ≠ gb191); have n6_ := XPrint.A1 (by rw [hg]; exact Nat.ne_of_gt (XPrint.al BK190.out) : gb191 ≠ gb190); clear BK190; clear HB; have BK190 := n0_; have HB := n1_; have BK191 := n2_; have GW191 := n3_; have GE191 := n4_; have NB190_191 := n5_; have NB191_190 := n6_; clear n0_ n1_ n2_ n3_ n4_ n5_ n6_; clear hb hbox hg; have hnb8 := NB190_191.out; have hnc8 := NB191_190.out; have hcz9_0 : w7.cell? ⟨gb190, 0, none⟩ = some (.int .i64 a0_0) := (blk_cell BK190.out 0).trans rfl; have hcz9_1 : w7.cell? ⟨gb190, 1, none⟩ = some (.int .i64 a0_1) := (blk_cell BK190.out 1).trans rfl; have hcz9_2 : w7.cell? ⟨gb190, 2, none⟩ = some (.slice A0_2 l0_2.length c0_2) := (blk_cell BK190.out 2).trans rfl; have hfz9_0 := blk_frozen BK190.out 0; have hfz9_1 := blk_frozen BK190.out 1; have hfz9_2 := blk_frozen BK190.out 2) | ((with_reducible refine gate_callee (f := 33) rfl ?_); refine XPrint.gl (some 30) Try.func33 #[.agg #[.int .i64 a0_0, .int .i64 a0_1, .slice A0_2 l0_2.length c0_2]] ?_; (with_reducible refine (shape_Check.calls a0_0 a0_1 _ _ l0_2 t192 t193 _ ?side1 ?side2 A4.out).mono ?_); (case side1 => repeat (first | exact (Kd.C_below HR0_2.out HB.out) | (with_reducible refine Kd.C_alloc ?_ _) | (with_reducible refine Kd.C_drewN ?_ _) | (with_reducible refine Kd.C_drew ?_))); (case side2 => exact HC0_2.out); rintro e w10 ⟨rfl, hb⟩; refine ⟨_, rfl, ?_⟩; have n0_ := XPrint.A0 (XPrint.ab BK190.out hb); have n1_ := XPrint.A0 (XPrint.ab BK191.out hb); have n2_ := XPrint.A0 (below_step (by exact XPrint.bz HB.out) hb); clear BK190; clear BK191; clear HB; have BK190 := n0_; have BK191 := n1_; have HB := n2_; clear n0_ n1_ n2_; (try clear hb); (try clear hb2); (try clear hk); (try clear hi)))
 (try simp only [XPrint.pw])
 go_cut [40] (fun v40 wc => ∃ (kq : Nat) (x40_4 : Bool), v40 = .bool x40_4 ∧ Aside0 (liverylaw08_ShapeOne.j0 kq a2 x40_4 a0_0 a0_1 l0_2 a1_0 a1_1 a1_2 a1_3 a1_4 = some r) ∧ Aside0 (kq ≤ k) ∧ Aside0 (wc.heap[gb190]? = some (.cells #[.int .i64 a0_0, .int .i64 a0_1, (.slice A0_2 l0_2.length c0_2)] 50 (0, 0))) ∧ Aside0 (wc.heap[gb191]? = some (.cells #[.int .u8 a1_0, .int .u32 a1_1, .int .u32 a1_2, .int .i64 a1_3, .int .i64 a1_4] 65 (0, 0))) ∧ Aside0 (Below w.heap.size w wc))
 case first =>
  have H := HC5.out
  clear HC5
  by_cases c11 : t193 = 0
  ·rw [if_pos c11] at H
   have c11b0 : (t193 == 0) = true := beq_iff_eq.mpr c11
   have c11b1 : (t193 != 0) = false := bne_eq_false_iff_eq.mpr c11
   clear c11
   (first | rw [c11b0] | (simp only [i64_w, i32_w]; rw [c11b0]) | skip)
   have H' := XPrint.A0 H
   clear H
   have hnb12 := NB190_191.out
   have hnc12 := NB191_190.out
   have hcz13_0 : w10.cell? ⟨gb190, 0, none⟩ = some (.int .i64 a0_0) := (blk_cell BK190.out 0).trans rfl
   have hcz13_1 : w10.cell? ⟨gb190, 1, none⟩ = some (.int .i64 a0_1) := (blk_cell BK190.out 1).trans rfl
   have hcz13_2 : w10.cell? ⟨gb190, 2, none⟩ = some (.slice A0_2 l0_2.length c0_2) := (blk_cell BK190.out 2).trans rfl
   have hfz13_0 := blk_frozen BK190.out 0
   have hfz13_1 := blk_frozen BK190.out 1
   have hfz13_2 := blk_frozen BK190.out 2
   go_wp2
   go_meet
   case rel => exact ⟨_, (decide ((l0_2.length : Int) > 200)), (by first | rfl | (simp; done) | (simp [*]; done)), H', ⟨by first | omega | exact Nat.le_refl _⟩, ⟨by (repeat with_reducible first | refine XPrint.d1 ?_ | refine XPrint.d2 ?_ _ | refine XPrint.d3 ?_ _); exact BK190.out⟩, ⟨by (repeat with_reducible first | refine XPrint.d1 ?_ | refine XPrint.d2 ?_ _ | refine XPrint.d3 ?_ _); exact BK191.out⟩, ⟨by exact XPrint.bz HB.out⟩⟩
  ·rw [if_neg c11] at H
   have c11b0 : (t193 == 0) = false := beq_eq_false_iff_ne.mpr c11
   have c11b1 : (t193 != 0) = true := bne_iff_ne.mpr c11
   (first | rw [c11b0] | (simp only [i64_w, i32_w]; rw [c11b0]) | skip)
   have H' := XPrint.A0 H
   clear H
   go_wp2
   go_meet
   case rel => exact ⟨_, (true), (by first | rfl | (simp; done) | (simp [*]; done)), H', ⟨by first | omega | exact Nat.le_refl _⟩, ⟨by (repeat with_reducible first | refine XPrint.d1 ?_ | refine XPrint.d2 ?_ _ | refine XPrint.d3 ?_ _); exact BK190.out⟩, ⟨by (repeat with_reducible first | refine XPrint.d1 ?_ | refine XPrint.d2 ?_ _ | refine XPrint.d3 ?_ _); exact BK191.out⟩, ⟨by exact XPrint.bz HB.out⟩⟩
 case rest =>
  clear HC5
  try clear c1
  try clear p2
  try clear c3
  try clear c8
  try clear c9
  try clear c11
  try clear c11b0
  try clear c11b1
  try clear c12
  try clear hcz13_0
  try clear hcz13_1
  try clear hcz13_2
  try clear hcz9_0
  try clear hcz9_1
  try clear hcz9_2
  try clear hfz13_0
  try clear hfz13_1
  try clear hfz13_2
  try clear hfz9_0
  try clear hfz9_1
  try clear hfz9_2
  obtain ⟨kq, x40_4, rfl, HA, HJ4, BK190, BK191, HB⟩ := hcut
  cases kq with
  | zero => exact absurd HA.out (by simp [liverylaw08_ShapeOne.j0])
  | succ kj4 =>
   have H := HA.out
   clear HA
   simp only [liverylaw08_ShapeOne.j0] at H
   by_cases c14 : x40_4 = true
   ·subst c14
    have H1 := H; rw [if_pos rfl] at H1
    clear H
    have H := H1
    clear H1
    replace H := Option.bind_eq_some_iff.mp H
    obtain ⟨t194, A150, H⟩ := H
    try set_option simprocs false in dsimp only at H
    have A15 := XPrint.A0 A150
    clear A150
    obtain rfl := Option.some.inj H
    go_wp2_with (first | ((with_reducible refine gate_callee (f := 32) rfl ?_); refine XPrint.gl (some 41) Try.func32 #[] ?_; (with_reducible refine (liverylaw08_head.calls kj4  t194 _ A15.out).mono ?_); rintro e w16 ⟨rfl, hb⟩; refine ⟨_, rfl, ?_⟩; replace BK190 := XPrint.A0 (XPrint.ab BK190.out hb); replace BK191 := XPrint.A0 (XPrint.ab BK191.out hb); replace HB := XPrint.A0 (below_step (by exact XPrint.bz HB.out) hb); (try clear hb); (try clear hb2); (try clear hk); (try clear hi)))
    go_ret
    exact ⟨by first | rfl | (simp [errW_none, errW_some] <;> rfl) | (simp [*, errW_none, errW_some] <;> rfl), by exact XPrint.bz HB.out⟩
   ·replace c14 := Bool.eq_false_iff.mpr c14
    subst c14
    have H1 := H; rw [if_neg (show ¬ (false = true) by decide)] at H1
    clear H
    have H := H1
    clear H1
    obtain ⟨y197, hy197⟩ : ∃ y_ : List (S65), y_ = (([] : List (S65))) := ⟨_, rfl⟩
    replace H : (if y197.length + l0_2.length < 4398046511104 then ((some (y197 ++ l0_2 : List (S65))).bind fun y200 => ((some (([(⟨a1_0, a1_1, a1_2, a1_3, a1_4⟩ : S65)] : List (S65)) : List (S65))).bind fun y203 => (if y200.length + y203.length < 4398046511104 then (if 0 ≤ (wrap64 ((l0_2.length : Int) - 1)) then (if (wrap64 ((l0_2.length : Int) - 1)) ≤ (l0_2.length : Int) then ((shape_Check.f a0_0 a0_1 (y200 ++ y203)).bind fun bt213 => ((shape_Check.f a0_0 a0_1 (l0_2.take ((wrap64 ((l0_2.length : Int) - 1)) : Int).toNat)).bind fun bt215 => (if bt213.2 = 81 then (if bt213.1 = (l0_2.length : Int) then (if bt215.2 = 81 then (liverylaw08_ShapeOne.j1 kj4 a2 (bt215.1 != (wrap64 ((l0_2.length : Int) - 1))) a0_0 a0_1 l0_2) else (none)) else (none)) else (none)))) else (none)) else (none)) else (none)))) else (none)) = some r := by first | (rw [hy197]; with_reducible exact H) | (have H2_ := (Option.bind_some _ _).symm.trans H; rw [hy197]; with_reducible exact H2_) | (have H2_ := (Option.bind_some _ _).symm.trans H; with_reducible exact H2_) | with_reducible exact H | (rw [hy197]; exact H) | exact H
    have Ny197 := XPrint.A0 hy197
    clear hy197
    by_cases c17 : y197.length + l0_2.length < 4398046511104
    ·rw [if_pos c17] at H
     have LMc17 := XPrint.A0 c17
     clear c17
     obtain ⟨y200, hy200⟩ : ∃ y_ : List (S65), y_ = (y197 ++ l0_2) := ⟨_, rfl⟩
     replace H : ((some (([(⟨a1_0, a1_1, a1_2, a1_3, a1_4⟩ : S65)] : List (S65)) : List (S65))).bind fun y203 => (if y200.length + y203.length < 4398046511104 then (if 0 ≤ (wrap64 ((l0_2.length : Int) - 1)) then (if (wrap64 ((l0_2.length : Int) - 1)) ≤ (l0_2.length : Int) then ((shape_Check.f a0_0 a0_1 (y200 ++ y203)).bind fun bt213 => ((shape_Check.f a0_0 a0_1 (l0_2.take ((wrap64 ((l0_2.length : Int) - 1)) : Int).toNat)).bind fun bt215 => (if bt213.2 = 81 then (if bt213.1 = (l0_2.length : Int) then (if bt215.2 = 81 then (liverylaw08_ShapeOne.j1 kj4 a2 (bt215.1 != (wrap64 ((l0_2.length : Int) - 1))) a0_0 a0_1 l0_2) else (none)) else (none)) else (none)))) else (none)) else (none)) else (none))) = some r := by first | (rw [hy200]; with_reducible exact H) | (have H2_ := (Option.bind_some _ _).symm.trans H; rw [hy200]; with_reducible exact H2_) | (have H2_ := (Option.bind_some _ _).symm.trans H; with_reducible exact H2_) | with_reducible exact H | (rw [hy200]; exact H) | exact H
     have Ny200 := XPrint.A0 hy200
     clear hy200
     obtain ⟨y203, hy203⟩ : ∃ y_ : List (S65), y_ = (([(⟨a1_0, a1_1, a1_2, a1_3, a1_4⟩ : S65)] : List (S65))) := ⟨_, rfl⟩
     replace H : (if y200.length + y203.length < 4398046511104 then (if 0 ≤ (wrap64 ((l0_2.length : Int) - 1)) then (if (wrap64 ((l0_2.length : Int) - 1)) ≤ (l0_2.length : Int) then ((shape_Check.f a0_0 a0_1 (y200 ++ y203)).bind fun bt213 => ((shape_Check.f a0_0 a0_1 (l0_2.take ((wrap64 ((l0_2.length : Int) - 1)) : Int).toNat)).bind fun bt215 => (if bt213.2 = 81 then (if bt213.1 = (l0_2.length : Int) then (if bt215.2 = 81 then (liverylaw08_ShapeOne.j1 kj4 a2 (bt215.1 != (wrap64 ((l0_2.length : Int) - 1))) a0_0 a0_1 l0_2) else (none)) else (none)) else (none)))) else (none)) else (none)) else (none)) = some r := by first | (rw [hy203]; with_reducible exact H) | (have H2_ := (Option.bind_some _ _).symm.trans H; rw [hy203]; with_reducible exact H2_) | (have H2_ := (Option.bind_some _ _).symm.trans H; with_reducible exact H2_) | with_reducible exact H | (rw [hy203]; exact H) | exact H
     have Ny203 := XPrint.A0 hy203
     clear hy203
     by_cases c18 : y200.length + y203.length < 4398046511104
     ·rw [if_pos c18] at H
      have LMc18 := XPrint.A0 c18
      clear c18
      obtain ⟨y206, hy206⟩ : ∃ y_ : List (S65), y_ = (y200 ++ y203) := ⟨_, rfl⟩
      replace H : (if 0 ≤ (wrap64 ((l0_2.length : Int) - 1)) then (if (wrap64 ((l0_2.length : Int) - 1)) ≤ (l0_2.length : Int) then ((shape_Check.f a0_0 a0_1 y206).bind fun bt213 => ((shape_Check.f a0_0 a0_1 (l0_2.take ((wrap64 ((l0_2.length : Int) - 1)) : Int).toNat)).bind fun bt215 => (if bt213.2 = 81 then (if bt213.1 = (l0_2.length : Int) then (if bt215.2 = 81 then (liverylaw08_ShapeOne.j1 kj4 a2 (bt215.1 != (wrap64 ((l0_2.length : Int) - 1))) a0_0 a0_1 l0_2) else (none)) else (none)) else (none)))) else (none)) else (none)) = some r := by first | (rw [hy206]; with_reducible exact H) | (have H2_ := (Option.bind_some _ _).symm.trans H; rw [hy206]; with_reducible exact H2_) | (have H2_ := (Option.bind_some _ _).symm.trans H; with_reducible exact H2_) | with_reducible exact H | (rw [hy206]; exact H) | exact H
      have Ny206 := XPrint.A0 hy206
      clear hy206
      obtain ⟨ji19, hji19⟩ : ∃ j_ : Int, (wrap64 ((l0_2.length : Int) - 1)) = j_ := ⟨_, rfl⟩
      replace H : (if 0 ≤ (ji19) then (if (ji19) ≤ (l0_2.length : Int) then ((shape_Check.f a0_0 a0_1 y206).bind fun bt213 => ((shape_Check.f a0_0 a0_1 (l0_2.take ((ji19) : Int).toNat)).bind fun bt215 => (if bt213.2 = 81 then (if bt213.1 = (l0_2.length : Int) then (if bt215.2 = 81 then (liverylaw08_ShapeOne.j1 kj4 a2 (bt215.1 != (ji19)) a0_0 a0_1 l0_2) else (none)) else (none)) else (none)))) else (none)) else (none)) = some r := by first | (rw [hji19] at H; exact H) | (simp only [hji19] at H ⊢; exact H)
      have hji19w : (IntKind.i64.wrap ((l0_2.length : Int) - 1)) = ji19 := (i64_w _).trans hji19
      by_cases c20 : 0 ≤ (ji19)
      ·rw [if_pos c20] at H
       have c20b0 := eq_true c20
       have c20b1 : decide (0 ≤ (ji19)) = true := decide_eq_true c20
       clear c20
       by_cases c21 : (ji19) ≤ (l0_2.length : Int)
       ·rw [if_pos c21] at H
        have c21b0 := eq_true c21
        have c21b1 : decide ((ji19) ≤ (l0_2.length : Int)) = true := decide_eq_true c21
        clear c21
        obtain ⟨y209, hy209⟩ : ∃ y_ : List (S65), y_ = (l0_2.take ((ji19) : Int).toNat) := ⟨_, rfl⟩
        replace H : ((shape_Check.f a0_0 a0_1 y206).bind fun bt213 => ((shape_Check.f a0_0 a0_1 y209).bind fun bt215 => (if bt213.2 = 81 then (if bt213.1 = (l0_2.length : Int) then (if bt215.2 = 81 then (liverylaw08_ShapeOne.j1 kj4 a2 (bt215.1 != (ji19)) a0_0 a0_1 l0_2) else (none)) else (none)) else (none)))) = some r := by first | (rw [hy209]; with_reducible exact H) | (have H2_ := (Option.bind_some _ _).symm.trans H; rw [hy209]; with_reducible exact H2_) | (have H2_ := (Option.bind_some _ _).symm.trans H; with_reducible exact H2_) | with_reducible exact H | (rw [hy209]; exact H) | exact H
        have Ny209 := XPrint.A0 hy209
        clear hy209
        replace H := Option.bind_eq_some_iff.mp H
        obtain ⟨⟨t213, t214⟩, A220, H⟩ := H
        replace H : ((shape_Check.f a0_0 a0_1 y209).bind fun bt215 => (if t214 = 81 then (if t213 = (l0_2.length : Int) then (if bt215.2 = 81 then (liverylaw08_ShapeOne.j1 kj4 a2 (bt215.1 != (ji19)) a0_0 a0_1 l0_2) else (none)) else (none)) else (none))) = some r := H
        have A22 := XPrint.A0 A220
        clear A220
        replace H := Option.bind_eq_some_iff.mp H
        obtain ⟨⟨t215, t216⟩, A230, H⟩ := H
        replace H : (if t214 = 81 then (if t213 = (l0_2.length : Int) then (if t216 = 81 then (liverylaw08_ShapeOne.j1 kj4 a2 (t215 != (ji19)) a0_0 a0_1 l0_2) else (none)) else (none)) else (none)) = some r := H
        have A23 := XPrint.A0 A230
        clear A230
        have HC24 := XPrint.A0 H
        clear H
        try go_wp2
        replace BK190 := XPrint.A0 (blk_drew BK190.out)
        replace BK191 := XPrint.A0 (blk_drew BK191.out)
        replace HB := XPrint.A0 (below_drew1 HB.out)
        refine start_ (n := 6) (S := fun w' => w'.cell? ⟨gb190, 0, none⟩ = some (.int .i64 a0_0) ∧ w'.cell? ⟨gb190, 1, none⟩ = some (.int .i64 a0_1) ∧ w'.cell? ⟨gb190, 2, none⟩ = some (.slice A0_2 l0_2.length c0_2)) (ds := []) #[false, false, false, false, false, false] (by kernel_rfl) rfl rfl ⟨(blk_cell BK190.out 0).trans rfl, (blk_cell BK190.out 1).trans rfl, (blk_cell BK190.out 2).trans rfl⟩ (fun hHeld => ?_)
        generalize wc.drew = w25 at BK190 BK191 HB hHeld ⊢
        refine take_ (i := 0) (N := some 42) (v := ?_) (a' := ?_) (XPrint.L 6 1) rfl rfl (by kernel_rfl) (fun _ _ _ h => h) (Or.inl ⟨by rfl, ?_⟩) hHeld ?_ ?_
        rotate_left
        ·rintro w' ⟨s0, s1, s2⟩
         go_simp
         with_reducible rfl
        rotate_left
        ·simp only [XPrint.pw, i64_w, i32_w]
         rfl
        refine take_ (i := 1) (N := some 43) (v := ?_) (a' := ?_) (XPrint.L 6 3) rfl rfl (by kernel_rfl) (fun _ _ _ h => h) (Or.inl ⟨by rfl, ?_⟩) hHeld ?_ ?_
        rotate_left
        ·rintro w' ⟨s0, s1, s2⟩
         go_simp
         with_reducible rfl
        rotate_left
        ·simp only [XPrint.pw, i64_w, i32_w]
         rfl
        refine join_ (σ := Nat × Nat) 2 (XPrint.L 6 15) (fun s_ => [(9, .pointer (some ⟨s_.1, 0, none⟩)), (10, .pointer (some ⟨s_.2, 0, none⟩))]) (fun s_ w' => (w'.cell? ⟨gb190, 0, none⟩ = some (.int .i64 a0_0) ∧ w'.cell? ⟨gb190, 1, none⟩ = some (.int .i64 a0_1) ∧ w'.cell? ⟨gb190, 2, none⟩ = some (.slice A0_2 l0_2.length c0_2)) ∧ (w'.heap[gb190]? = some (.cells #[.int .i64 a0_0, .int .i64 a0_1, .slice A0_2 l0_2.length c0_2] 50 (0, 0))) ∧ (w'.heap[gb191]? = some (.cells #[.int .u8 a1_0, .int .u32 a1_1, .int .u32 a1_2, .int .i64 a1_3, .int .i64 a1_4] 65 (0, 0))) ∧ (w'.heap[s_.1]? = some (.cells #[.int .i64 0, .int .i64 0, .slice none 0 0] 50 (0, 0))) ∧ (w'.heap[s_.2]? = some (.cells #[.int .i64 0, .int .i64 0, .slice none 0 0] 50 (0, 0))) ∧ (w.heap.size ≤ s_.1) ∧ (w.heap.size ≤ s_.1) ∧ (gb190 ≠ s_.1) ∧ (s_.1 ≠ gb190) ∧ (gb191 ≠ s_.1) ∧ (s_.1 ≠ gb191) ∧ (s_.2 ≠ s_.1) ∧ (s_.1 ≠ s_.2) ∧ (w.heap.size ≤ s_.2) ∧ (w.heap.size ≤ s_.2) ∧ (gb190 ≠ s_.2) ∧ (s_.2 ≠ gb190) ∧ (gb191 ≠ s_.2) ∧ (s_.2 ≠ gb191) ∧ (Below w.heap.size w w')) ?_ ?_
        rotate_left
        ·intro hCont
         refine two_ (i := 2) (j := 3) (Ni := some 9) (Nj := some 10) (XPrint.L 6 7) (XPrint.L 6 11) rfl rfl rfl rfl (by kernel_rfl) (by decide) (by decide) (fun K hK => ?_) (fun K hK => ?_)
         ·skip
          refine box_step ?hg (N := 9) ?hd (cs := #[.int .i64 0, .int .i64 0, .slice none 0 0]) (t := 50) ?hr ?_; (case hd => rfl); (case hg => rfl); (case hr => first | (go_simp; done) | (go_simp; rfl))
          intro gb195 hg w26 hbox hb
          have BK195 := XPrint.A0 (hbox)
          have GW195 := XPrint.A0 (XPrint.gz HB.out hg)
          have GE195 := XPrint.A0 (XPrint.gz HB.out hg)
          have NB190_195 := XPrint.A1 (by rw [hg]; exact Nat.ne_of_lt (XPrint.al BK190.out) : gb190 ≠ gb195)
          have NB195_190 := XPrint.A1 (by rw [hg]; exact Nat.ne_of_gt (XPrint.al BK190.out) : gb195 ≠ gb190)
          have NB191_195 := XPrint.A1 (by rw [hg]; exact Nat.ne_of_lt (XPrint.al BK191.out) : gb191 ≠ gb195)
          have NB195_191 := XPrint.A1 (by rw [hg]; exact Nat.ne_of_gt (XPrint.al BK191.out) : gb195 ≠ gb191)
          replace BK190 := XPrint.A0 (XPrint.ab BK190.out hb)
          replace BK191 := XPrint.A0 (XPrint.ab BK191.out hb)
          replace HB := XPrint.A0 (below_step (by exact XPrint.bz HB.out) hb)
          clear hb hbox hg
          refine hK.out _ _ ⟨(blk_cell BK190.out 0).trans rfl, (blk_cell BK190.out 1).trans rfl, (blk_cell BK190.out 2).trans rfl⟩ (fun hHeld => ?_)
          clear hK K
          refine norm_ (a' := ?_) ?_ ?_
          rotate_left
          ·show Act.put _ (some 9) _ = _
           simp only [XPrint.pw, i64_w, i32_w]
           rfl
          refine one_ (i := 3) (N := some 10) (XPrint.L 6 15) rfl rfl (by kernel_rfl) (by decide) (fun K hK => ?_)
          refine box_step ?hg (N := 10) ?hd (cs := #[.int .i64 0, .int .i64 0, .slice none 0 0]) (t := 50) ?hr ?_; (case hd => rfl); (case hg => rfl); (case hr => first | (go_simp; done) | (go_simp; rfl))
          intro gb196 hg w27 hbox hb
          have BK196 := XPrint.A0 (hbox)
          have GW196 := XPrint.A0 (XPrint.gz HB.out hg)
          have GE196 := XPrint.A0 (XPrint.gz HB.out hg)
          have NB190_196 := XPrint.A1 (by rw [hg]; exact Nat.ne_of_lt (XPrint.al BK190.out) : gb190 ≠ gb196)
          have NB196_190 := XPrint.A1 (by rw [hg]; exact Nat.ne_of_gt (XPrint.al BK190.out) : gb196 ≠ gb190)
          have NB191_196 := XPrint.A1 (by rw [hg]; exact Nat.ne_of_lt (XPrint.al BK191.out) : gb191 ≠ gb196)
          have NB196_191 := XPrint.A1 (by rw [hg]; exact Nat.ne_of_gt (XPrint.al BK191.out) : gb196 ≠ gb191)
          have NB195_196 := XPrint.A1 (by rw [hg]; exact Nat.ne_of_lt (XPrint.al BK195.out) : gb195 ≠ gb196)
          have NB196_195 := XPrint.A1 (by rw [hg]; exact Nat.ne_of_gt (XPrint.al BK195.out) : gb196 ≠ gb195)
          replace BK190 := XPrint.A0 (XPrint.ab BK190.out hb)
          replace BK191 := XPrint.A0 (XPrint.ab BK191.out hb)
          replace BK195 := XPrint.A0 (XPrint.ab BK195.out hb)
          replace HB := XPrint.A0 (below_step (by exact XPrint.bz HB.out) hb)
          clear hb hbox hg
          refine hK.out _ _ ⟨(blk_cell BK190.out 0).trans rfl, (blk_cell BK190.out 1).trans rfl, (blk_cell BK190.out 2).trans rfl⟩ (fun hHeld => ?_)
          clear hK K
          refine norm_ (a' := ?_) ?_ ?_
          rotate_left
          ·show Act.put _ (some 10) _ = _
           simp only [XPrint.pw, i64_w, i32_w]
           rfl
          exact norm_ (by simp only [putAll, XPrint.pw]) (hCont (gb195, gb196) _ ⟨hHeld, (XPrint.ak BK190.out), (XPrint.ak BK191.out), (XPrint.ak BK195.out), (XPrint.ak BK196.out), GW195.out, GE195.out, NB190_195.out, NB195_190.out, NB191_195.out, NB195_191.out, NB196_195.out, NB195_196.out, GW196.out, GE196.out, NB190_196.out, NB196_190.out, NB191_196.out, NB196_191.out, (by exact XPrint.bz HB.out)⟩)
         ·skip
          refine box_step ?hg (N := 10) ?hd (cs := #[.int .i64 0, .int .i64 0, .slice none 0 0]) (t := 50) ?hr ?_; (case hd => rfl); (case hg => rfl); (case hr => first | (go_simp; done) | (go_simp; rfl))
          intro gb196 hg w26 hbox hb
          have BK196 := XPrint.A0 (hbox)
          have GW196 := XPrint.A0 (XPrint.gz HB.out hg)
          have GE196 := XPrint.A0 (XPrint.gz HB.out hg)
          have NB190_196 := XPrint.A1 (by rw [hg]; exact Nat.ne_of_lt (XPrint.al BK190.out) : gb190 ≠ gb196)
          have NB196_190 := XPrint.A1 (by rw [hg]; exact Nat.ne_of_gt (XPrint.al BK190.out) : gb196 ≠ gb190)
          have NB191_196 := XPrint.A1 (by rw [hg]; exact Nat.ne_of_lt (XPrint.al BK191.out) : gb191 ≠ gb196)
          have NB196_191 := XPrint.A1 (by rw [hg]; exact Nat.ne_of_gt (XPrint.al BK191.out) : gb196 ≠ gb191)
          replace BK190 := XPrint.A0 (XPrint.ab BK190.out hb)
          replace BK191 := XPrint.A0 (XPrint.ab BK191.out hb)
          replace HB := XPrint.A0 (below_step (by exact XPrint.bz HB.out) hb)
          clear hb hbox hg
          refine hK.out _ _ ⟨(blk_cell BK190.out 0).trans rfl, (blk_cell BK190.out 1).trans rfl, (blk_cell BK190.out 2).trans rfl⟩ (fun hHeld => ?_)
          clear hK K
          refine norm_ (a' := ?_) ?_ ?_
          rotate_left
          ·show Act.put _ (some 10) _ = _
           simp only [XPrint.pw, i64_w, i32_w]
           rfl
          refine one_ (i := 2) (N := some 9) (XPrint.L 6 15) rfl rfl (by kernel_rfl) (by decide) (fun K hK => ?_)
          refine box_step ?hg (N := 9) ?hd (cs := #[.int .i64 0, .int .i64 0, .slice none 0 0]) (t := 50) ?hr ?_; (case hd => rfl); (case hg => rfl); (case hr => first | (go_simp; done) | (go_simp; rfl))
          intro gb195 hg w27 hbox hb
          have BK195 := XPrint.A0 (hbox)
          have GW195 := XPrint.A0 (XPrint.gz HB.out hg)
          have GE195 := XPrint.A0 (XPrint.gz HB.out hg)
          have NB190_195 := XPrint.A1 (by rw [hg]; exact Nat.ne_of_lt (XPrint.al BK190.out) : gb190 ≠ gb195)
          have NB195_190 := XPrint.A1 (by rw [hg]; exact Nat.ne_of_gt (XPrint.al BK190.out) : gb195 ≠ gb190)
          have NB191_195 := XPrint.A1 (by rw [hg]; exact Nat.ne_of_lt (XPrint.al BK191.out) : gb191 ≠ gb195)
          have NB195_191 := XPrint.A1 (by rw [hg]; exact Nat.ne_of_gt (XPrint.al BK191.out) : gb195 ≠ gb191)
          have NB196_195 := XPrint.A1 (by rw [hg]; exact Nat.ne_of_lt (XPrint.al BK196.out) : gb196 ≠ gb195)
          have NB195_196 := XPrint.A1 (by rw [hg]; exact Nat.ne_of_gt (XPrint.al BK196.out) : gb195 ≠ gb196)
          replace BK190 := XPrint.A0 (XPrint.ab BK190.out hb)
          replace BK191 := XPrint.A0 (XPrint.ab BK191.out hb)
          replace BK196 := XPrint.A0 (XPrint.ab BK196.out hb)
          replace HB := XPrint.A0 (below_step (by exact XPrint.bz HB.out) hb)
          clear hb hbox hg
          refine hK.out _ _ ⟨(blk_cell BK190.out 0).trans rfl, (blk_cell BK190.out 1).trans rfl, (blk_cell BK190.out 2).trans rfl⟩ (fun hHeld => ?_)
          clear hK K
          refine norm_ (a' := ?_) ?_ ?_
          rotate_left
          ·show Act.put _ (some 9) _ = _
           simp only [XPrint.pw, i64_w, i32_w]
           rfl
          exact norm_ (by simp only [putAll, XPrint.pw]) (hCont (gb195, gb196) _ ⟨hHeld, (XPrint.ak BK190.out), (XPrint.ak BK191.out), (XPrint.ak BK195.out), (XPrint.ak BK196.out), GW195.out, GE195.out, NB190_195.out, NB195_190.out, NB191_195.out, NB195_191.out, NB196_195.out, NB195_196.out, GW196.out, GE196.out, NB190_196.out, NB196_190.out, NB191_196.out, NB196_191.out, (by exact XPrint.bz HB.out)⟩)
        rintro ⟨gb195, gb196⟩ w28 ⟨hS_, h0_, h1_, h2_, h3_, h4_, h5_, h6_, h7_, h8_, h9_, h10_, h11_, h12_, h13_, h14_, h15_, h16_, h17_, h18_⟩
        have BK195 := XPrint.A0 h2_
        have BK196 := XPrint.A0 h3_
        have GW195 := XPrint.A0 h4_
        have GE195 := XPrint.A0 h5_
        have NB190_195 := XPrint.A1 h6_
        have NB195_190 := XPrint.A1 h7_
        have NB191_195 := XPrint.A1 h8_
        have NB195_191 := XPrint.A1 h9_
        have NB196_195 := XPrint.A1 h10_
        have NB195_196 := XPrint.A1 h11_
        have GW196 := XPrint.A0 h12_
        have GE196 := XPrint.A0 h13_
        have NB190_196 := XPrint.A1 h14_
        have NB196_190 := XPrint.A1 h15_
        have NB191_196 := XPrint.A1 h16_
        have NB196_191 := XPrint.A1 h17_
        replace BK190 := XPrint.A0 h0_
        replace BK191 := XPrint.A0 h1_
        replace HB := XPrint.A0 h18_
        clear h0_ h1_ h2_ h3_ h4_ h5_ h6_ h7_ h8_ h9_ h10_ h11_ h12_ h13_ h14_ h15_ h16_ h17_ h18_
        have hHeld : w28.cell? ⟨gb190, 0, none⟩ = some (.int .i64 a0_0) ∧ w28.cell? ⟨gb190, 1, none⟩ = some (.int .i64 a0_1) ∧ w28.cell? ⟨gb190, 2, none⟩ = some (.slice A0_2 l0_2.length c0_2) := hS_
        refine norm_ (a' := ?_) ?_ ?_
        rotate_left
        ·simp only [putAll, XPrint.pw]
         rfl
        refine one_ (i := 4) (N := none) (XPrint.L 6 31) rfl rfl (by kernel_rfl) (by decide) (fun K hK => ?_)
        have hs29 : w28.cell? ⟨gb195, 0, none⟩ = some (.int .i64 0) := (blk_cell BK195.out 0).trans rfl
        have hfs29 := blk_frozen BK195.out 0
        have hns29_0 := NB190_195.out
        have hns29_1 := NB191_195.out
        have hns29_3 := NB196_195.out
        have hms29_0 := NB195_190.out
        have hms29_1 := NB195_191.out
        have hms29_3 := NB195_196.out
        have hs30 : w28.cell? ⟨gb195, 1, none⟩ = some (.int .i64 0) := (blk_cell BK195.out 1).trans rfl
        have hfs30 := blk_frozen BK195.out 1
        have hns30_0 := NB190_195.out
        have hns30_1 := NB191_195.out
        have hns30_3 := NB196_195.out
        have hms30_0 := NB195_190.out
        have hms30_1 := NB195_191.out
        have hms30_3 := NB195_196.out
        have hs31 : w28.cell? ⟨gb195, 2, none⟩ = some (.slice none 0 0) := (blk_cell BK195.out 2).trans rfl
        have hfs31 := blk_frozen BK195.out 2
        have hns31_0 := NB190_195.out
        have hns31_1 := NB191_195.out
        have hns31_3 := NB196_195.out
        have hms31_0 := NB195_190.out
        have hms31_1 := NB195_191.out
        have hms31_3 := NB195_196.out
        refine skip_ (w1 := ?_) (by rfl) rfl ?_ ?_
        rotate_left
        ·go_simp
         rfl
        refine hK.out _ _ ⟨((cell_far (p := ⟨gb195, _, none⟩) NB190_195.out _).trans (((cell_far (p := ⟨gb195, _, none⟩) NB190_195.out _).trans (((cell_far (p := ⟨gb195, _, none⟩) NB190_195.out _).trans (hHeld.1)))))), ((cell_far (p := ⟨gb195, _, none⟩) NB190_195.out _).trans (((cell_far (p := ⟨gb195, _, none⟩) NB190_195.out _).trans (((cell_far (p := ⟨gb195, _, none⟩) NB190_195.out _).trans (hHeld.2.1)))))), ((cell_far (p := ⟨gb195, _, none⟩) NB190_195.out _).trans (((cell_far (p := ⟨gb195, _, none⟩) NB190_195.out _).trans (((cell_far (p := ⟨gb195, _, none⟩) NB190_195.out _).trans (hHeld.2.2))))))⟩ (fun hHeld => ?_)
        clear hK K
        refine one_ (i := 5) (N := none) (XPrint.L 6 63) rfl rfl (by kernel_rfl) (by decide) (fun K hK => ?_)
        have hs32 : w28.cell? ⟨gb196, 0, none⟩ = some (.int .i64 0) := (blk_cell BK196.out 0).trans rfl
        have hfs32 := blk_frozen BK196.out 0
        have hns32_0 := NB190_196.out
        have hns32_1 := NB191_196.out
        have hns32_2 := NB195_196.out
        have hms32_0 := NB196_190.out
        have hms32_1 := NB196_191.out
        have hms32_2 := NB196_195.out
        have hs33 : w28.cell? ⟨gb196, 1, none⟩ = some (.int .i64 0) := (blk_cell BK196.out 1).trans rfl
        have hfs33 := blk_frozen BK196.out 1
        have hns33_0 := NB190_196.out
        have hns33_1 := NB191_196.out
        have hns33_2 := NB195_196.out
        have hms33_0 := NB196_190.out
        have hms33_1 := NB196_191.out
        have hms33_2 := NB196_195.out
        have hs34 : w28.cell? ⟨gb196, 2, none⟩ = some (.slice none 0 0) := (blk_cell BK196.out 2).trans rfl
        have hfs34 := blk_frozen BK196.out 2
        have hns34_0 := NB190_196.out
        have hns34_1 := NB191_196.out
        have hns34_2 := NB195_196.out
        have hms34_0 := NB196_190.out
        have hms34_1 := NB196_191.out
        have hms34_2 := NB196_195.out
        refine skip_ (w1 := ?_) (by rfl) rfl ?_ ?_
        rotate_left
        ·go_simp
         rfl
        refine hK.out _ _ ⟨((cell_far (p := ⟨gb196, _, none⟩) NB190_196.out _).trans (((cell_far (p := ⟨gb196, _, none⟩) NB190_196.out _).trans (((cell_far (p := ⟨gb196, _, none⟩) NB190_196.out _).trans (hHeld.1)))))), ((cell_far (p := ⟨gb196, _, none⟩) NB190_196.out _).trans (((cell_far (p := ⟨gb196, _, none⟩) NB190_196.out _).trans (((cell_far (p := ⟨gb196, _, none⟩) NB190_196.out _).trans (hHeld.2.1)))))), ((cell_far (p := ⟨gb196, _, none⟩) NB190_196.out _).trans (((cell_far (p := ⟨gb196, _, none⟩) NB190_196.out _).trans (((cell_far (p := ⟨gb196, _, none⟩) NB190_196.out _).trans (hHeld.2.2))))))⟩ (fun hHeld => ?_)
        clear hK K
        refine done_ (by kernel_rfl) ?_
        try go_wp2
        have n0_ : Aside0 (((((((w28.setCell ⟨gb195, 0, none⟩ (.int .i64 a0_0)).setCell ⟨gb195, 1, none⟩ (.int .i64 a0_1)).setCell ⟨gb195, 2, none⟩ (.slice A0_2 l0_2.length c0_2)).setCell ⟨gb196, 0, none⟩ (.int .i64 a0_0)).setCell ⟨gb196, 1, none⟩ (.int .i64 a0_1)).setCell ⟨gb196, 2, none⟩ (.slice A0_2 l0_2.length c0_2)).heap[gb190]? = some (.cells #[.int .i64 a0_0, .int .i64 a0_1, .slice A0_2 l0_2.length c0_2] 50 (0, 0))) := ⟨by (repeat with_reducible first | refine XPrint.d1 ?_ | refine XPrint.d2 ?_ _ | refine XPrint.d3 ?_ _); refine blk_far ?_ NB190_196.out _; (repeat with_reducible first | refine XPrint.d1 ?_ | refine XPrint.d2 ?_ _ | refine XPrint.d3 ?_ _); refine blk_far ?_ NB190_196.out _; (repeat with_reducible first | refine XPrint.d1 ?_ | refine XPrint.d2 ?_ _ | refine XPrint.d3 ?_ _); refine blk_far ?_ NB190_196.out _; (repeat with_reducible first | refine XPrint.d1 ?_ | refine XPrint.d2 ?_ _ | refine XPrint.d3 ?_ _); refine blk_far ?_ NB190_195.out _; (repeat with_reducible first | refine XPrint.d1 ?_ | refine XPrint.d2 ?_ _ | refine XPrint.d3 ?_ _); refine blk_far ?_ NB190_195.out _; (repeat with_reducible first | refine XPrint.d1 ?_ | refine XPrint.d2 ?_ _ | refine XPrint.d3 ?_ _); refine blk_far ?_ NB190_195.out _; (repeat with_reducible first | refine XPrint.d1 ?_ | refine XPrint.d2 ?_ _ | refine XPrint.d3 ?_ _); exact BK190.out⟩
        have n1_ : Aside0 (((((((w28.setCell ⟨gb195, 0, none⟩ (.int .i64 a0_0)).setCell ⟨gb195, 1, none⟩ (.int .i64 a0_1)).setCell ⟨gb195, 2, none⟩ (.slice A0_2 l0_2.length c0_2)).setCell ⟨gb196, 0, none⟩ (.int .i64 a0_0)).setCell ⟨gb196, 1, none⟩ (.int .i64 a0_1)).setCell ⟨gb196, 2, none⟩ (.slice A0_2 l0_2.length c0_2)).heap[gb191]? = some (.cells #[.int .u8 a1_0, .int .u32 a1_1, .int .u32 a1_2, .int .i64 a1_3, .int .i64 a1_4] 65 (0, 0))) := ⟨by (repeat with_reducible first | refine XPrint.d1 ?_ | refine XPrint.d2 ?_ _ | refine XPrint.d3 ?_ _); refine blk_far ?_ NB191_196.out _; (repeat with_reducible first | refine XPrint.d1 ?_ | refine XPrint.d2 ?_ _ | refine XPrint.d3 ?_ _); refine blk_far ?_ NB191_196.out _; (repeat with_reducible first | refine XPrint.d1 ?_ | refine XPrint.d2 ?_ _ | refine XPrint.d3 ?_ _); refine blk_far ?_ NB191_196.out _; (repeat with_reducible first | refine XPrint.d1 ?_ | refine XPrint.d2 ?_ _ | refine XPrint.d3 ?_ _); refine blk_far ?_ NB191_195.out _; (repeat with_reducible first | refine XPrint.d1 ?_ | refine XPrint.d2 ?_ _ | refine XPrint.d3 ?_ _); refine blk_far ?_ NB191_195.out _; (repeat with_reducible first | refine XPrint.d1 ?_ | refine XPrint.d2 ?_ _ | refine XPrint.d3 ?_ _); refine blk_far ?_ NB191_195.out _; (repeat with_reducible first | refine XPrint.d1 ?_ | refine XPrint.d2 ?_ _ | refine XPrint.d3 ?_ _); exact BK191.out⟩
        have n2_ : Aside0 (((((((w28.setCell ⟨gb195, 0, none⟩ (.int .i64 a0_0)).setCell ⟨gb195, 1, none⟩ (.int .i64 a0_1)).setCell ⟨gb195, 2, none⟩ (.slice A0_2 l0_2.length c0_2)).setCell ⟨gb196, 0, none⟩ (.int .i64 a0_0)).setCell ⟨gb196, 1, none⟩ (.int .i64 a0_1)).setCell ⟨gb196, 2, none⟩ (.slice A0_2 l0_2.length c0_2)).heap[gb195]? = some (.cells #[.int .i64 a0_0, .int .i64 a0_1, .slice A0_2 l0_2.length c0_2] 50 (0, 0))) := ⟨by (repeat with_reducible first | refine XPrint.d1 ?_ | refine XPrint.d2 ?_ _ | refine XPrint.d3 ?_ _); refine blk_far ?_ NB195_196.out _; (repeat with_reducible first | refine XPrint.d1 ?_ | refine XPrint.d2 ?_ _ | refine XPrint.d3 ?_ _); refine blk_far ?_ NB195_196.out _; (repeat with_reducible first | refine XPrint.d1 ?_ | refine XPrint.d2 ?_ _ | refine XPrint.d3 ?_ _); refine blk_far ?_ NB195_196.out _; (repeat with_reducible first | refine XPrint.d1 ?_ | refine XPrint.d2 ?_ _ | refine XPrint.d3 ?_ _); refine blk_put (cs := #[.int .i64 a0_0, .int .i64 a0_1, .slice none 0 0]) ?_ 2 _ rfl; (repeat with_reducible first | refine XPrint.d1 ?_ | refine XPrint.d2 ?_ _ | refine XPrint.d3 ?_ _); refine blk_put (cs := #[.int .i64 a0_0, .int .i64 0, .slice none 0 0]) ?_ 1 _ rfl; (repeat with_reducible first | refine XPrint.d1 ?_ | refine XPrint.d2 ?_ _ | refine XPrint.d3 ?_ _); refine blk_put (cs := #[.int .i64 0, .int .i64 0, .slice none 0 0]) ?_ 0 _ rfl; (repeat with_reducible first | refine XPrint.d1 ?_ | refine XPrint.d2 ?_ _ | refine XPrint.d3 ?_ _); exact BK195.out⟩
        have n3_ : Aside0 (((((((w28.setCell ⟨gb195, 0, none⟩ (.int .i64 a0_0)).setCell ⟨gb195, 1, none⟩ (.int .i64 a0_1)).setCell ⟨gb195, 2, none⟩ (.slice A0_2 l0_2.length c0_2)).setCell ⟨gb196, 0, none⟩ (.int .i64 a0_0)).setCell ⟨gb196, 1, none⟩ (.int .i64 a0_1)).setCell ⟨gb196, 2, none⟩ (.slice A0_2 l0_2.length c0_2)).heap[gb196]? = some (.cells #[.int .i64 a0_0, .int .i64 a0_1, .slice A0_2 l0_2.length c0_2] 50 (0, 0))) := ⟨by (repeat with_reducible first | refine XPrint.d1 ?_ | refine XPrint.d2 ?_ _ | refine XPrint.d3 ?_ _); refine blk_put (cs := #[.int .i64 a0_0, .int .i64 a0_1, .slice none 0 0]) ?_ 2 _ rfl; (repeat with_reducible first | refine XPrint.d1 ?_ | refine XPrint.d2 ?_ _ | refine XPrint.d3 ?_ _); refine blk_put (cs := #[.int .i64 a0_0, .int .i64 0, .slice none 0 0]) ?_ 1 _ rfl; (repeat with_reducible first | refine XPrint.d1 ?_ | refine XPrint.d2 ?_ _ | refine XPrint.d3 ?_ _); refine blk_put (cs := #[.int .i64 0, .int .i64 0, .slice none 0 0]) ?_ 0 _ rfl; (repeat with_reducible first | refine XPrint.d1 ?_ | refine XPrint.d2 ?_ _ | refine XPrint.d3 ?_ _); refine blk_far ?_ NB196_195.out _; (repeat with_reducible first | refine XPrint.d1 ?_ | refine XPrint.d2 ?_ _ | refine XPrint.d3 ?_ _); refine blk_far ?_ NB196_195.out _; (repeat with_reducible first | refine XPrint.d1 ?_ | refine XPrint.d2 ?_ _ | refine XPrint.d3 ?_ _); refine blk_far ?_ NB196_195.out _; (repeat with_reducible first | refine XPrint.d1 ?_ | refine XPrint.d2 ?_ _ | refine XPrint.d3 ?_ _); exact BK196.out⟩
        have n4_ : Aside0 (Below w.heap.size w ((((((w28.setCell ⟨gb195, 0, none⟩ (.int .i64 a0_0)).setCell ⟨gb195, 1, none⟩ (.int .i64 a0_1)).setCell ⟨gb195, 2, none⟩ (.slice A0_2 l0_2.length c0_2)).setCell ⟨gb196, 0, none⟩ (.int .i64 a0_0)).setCell ⟨gb196, 1, none⟩ (.int .i64 a0_1)).setCell ⟨gb196, 2, none⟩ (.slice A0_2 l0_2.length c0_2))) := ⟨by repeat (first | (with_reducible first | exact HB.out | apply below_alloc | apply pw_below_drewN | apply below_drew1 | refine below_set ?_ GE190.out | refine below_set ?_ GE191.out | refine below_set ?_ GE195.out | refine below_set ?_ GE196.out) | exact HB.out)⟩
        (try clear BK190)
        (try clear BK191)
        (try clear BK195)
        (try clear BK196)
        (try clear HB)
        generalize ((((((w28.setCell ⟨gb195, 0, none⟩ (.int .i64 a0_0)).setCell ⟨gb195, 1, none⟩ (.int .i64 a0_1)).setCell ⟨gb195, 2, none⟩ (.slice A0_2 l0_2.length c0_2)).setCell ⟨gb196, 0, none⟩ (.int .i64 a0_0)).setCell ⟨gb196, 1, none⟩ (.int .i64 a0_1)).setCell ⟨gb196, 2, none⟩ (.slice A0_2 l0_2.length c0_2)) = w35 at n0_ n1_ n2_ n3_ n4_ ⊢
        have BK190 := n0_
        have BK191 := n1_
        have BK195 := n2_
        have BK196 := n3_
        have HB := n4_
        clear n0_ n1_ n2_ n3_ n4_
        replace BK190 := XPrint.A0 (blk_drew BK190.out)
        replace BK191 := XPrint.A0 (blk_drew BK191.out)
        replace BK195 := XPrint.A0 (blk_drew BK195.out)
        replace BK196 := XPrint.A0 (blk_drew BK196.out)
        replace HB := XPrint.A0 (below_drew1 HB.out)
        refine start_ (n := 9) (S := fun w' => w'.cell? ⟨gb190, 0, none⟩ = some (.int .i64 a0_0) ∧ w'.cell? ⟨gb190, 1, none⟩ = some (.int .i64 a0_1) ∧ w'.cell? ⟨gb190, 2, none⟩ = some (.slice A0_2 l0_2.length c0_2) ∧ w'.cell? ⟨gb191, 0, none⟩ = some (.int .u8 a1_0) ∧ w'.cell? ⟨gb191, 1, none⟩ = some (.int .u32 a1_1) ∧ w'.cell? ⟨gb191, 2, none⟩ = some (.int .u32 a1_2) ∧ w'.cell? ⟨gb191, 3, none⟩ = some (.int .i64 a1_3) ∧ w'.cell? ⟨gb191, 4, none⟩ = some (.int .i64 a1_4)) (ds := []) #[false, false, false, false, false, false, false, false, false] (by kernel_rfl) rfl rfl ⟨(blk_cell BK190.out 0).trans rfl, (blk_cell BK190.out 1).trans rfl, (blk_cell BK190.out 2).trans rfl, (blk_cell BK191.out 0).trans rfl, (blk_cell BK191.out 1).trans rfl, (blk_cell BK191.out 2).trans rfl, (blk_cell BK191.out 3).trans rfl, (blk_cell BK191.out 4).trans rfl⟩ (fun hHeld => ?_); refine with_tabW liverylaw08_ShapeOne.tab5 liverylaw08_ShapeOne.bits5 (fun HT_ HW_ => ?_)
        generalize w35.drew = w36 at BK190 BK191 BK195 BK196 HB hHeld ⊢
        refine XPrint.pu 1 45 (XPrint.L 9 2) HT_.out (v := ?_) (a' := ?_) ?_ ?_ ?_
        rotate_left
        ·intro w'
         go_simp
         with_reducible rfl
        rotate_left
        ·simp only [XPrint.pw, i64_w, i32_w]
         rfl
        refine XPrint.ta 2 46 (XPrint.L 9 6) HT_.out HW_.out (v := ?_) (a' := ?_) ?_ hHeld ?_ ?_
        rotate_left
        ·rintro w' ⟨s0, s1, s2, s3, s4, s5, s6, s7⟩
         go_simp
         with_reducible rfl
        rotate_left
        ·simp only [XPrint.pw, i64_w, i32_w]
         rfl
        refine XPrint.ta 4 48 (XPrint.L 9 22) HT_.out HW_.out (v := ?_) (a' := ?_) ?_ hHeld ?_ ?_
        rotate_left
        ·rintro w' ⟨s0, s1, s2, s3, s4, s5, s6, s7⟩
         go_simp
         with_reducible rfl
        rotate_left
        ·simp only [XPrint.pw, i64_w, i32_w]
         rfl
        refine join_ (σ := Value × Value × Value) 3 (XPrint.L 9 63) (fun s_ => [(44, s_.1), (47, s_.2.1), (49, s_.2.2)]) (fun s_ w' => (w'.cell? ⟨gb190, 0, none⟩ = some (.int .i64 a0_0) ∧ w'.cell? ⟨gb190, 1, none⟩ = some (.int .i64 a0_1) ∧ w'.cell? ⟨gb190, 2, none⟩ = some (.slice A0_2 l0_2.length c0_2) ∧ w'.cell? ⟨gb191, 0, none⟩ = some (.int .u8 a1_0) ∧ w'.cell? ⟨gb191, 1, none⟩ = some (.int .u32 a1_1) ∧ w'.cell? ⟨gb191, 2, none⟩ = some (.int .u32 a1_2) ∧ w'.cell? ⟨gb191, 3, none⟩ = some (.int .i64 a1_3) ∧ w'.cell? ⟨gb191, 4, none⟩ = some (.int .i64 a1_4)) ∧ (Kd.R k65 65 w' w.heap.size (fun k_ => some k_ ≠ (s_.2.2 : Value).ownBlock ∧ k_ ≠ gb191) s_.2.1 y200) ∧ (Kd.R k65 65 w' w.heap.size (fun k_ => some k_ ≠ (s_.2.1 : Value).ownBlock ∧ k_ ≠ gb191) s_.2.2 y203) ∧ (w'.heap[gb190]? = some (.cells #[.int .i64 a0_0, .int .i64 a0_1, .slice A0_2 l0_2.length c0_2] 50 (0, 0))) ∧ (w'.heap[gb191]? = some (.cells #[.int .u8 a1_0, .int .u32 a1_1, .int .u32 a1_2, .int .i64 a1_3, .int .i64 a1_4] 65 (0, 0))) ∧ (w'.heap[gb195]? = some (.cells #[.int .i64 a0_0, .int .i64 a0_1, .slice A0_2 l0_2.length c0_2] 50 (0, 0))) ∧ (w'.heap[gb196]? = some (.cells #[.int .i64 a0_0, .int .i64 a0_1, .slice A0_2 l0_2.length c0_2] 50 (0, 0))) ∧ (Below w.heap.size w w')) ?_ ?_
        rotate_left
        ·intro hCont
         refine two_ (i := 0) (j := 5) (Ni := some 44) (Nj := some 49) (XPrint.L 9 23) (XPrint.L 9 54) rfl rfl rfl rfl (two_of HT_.out (by kernel_rfl)) (by decide) (by decide) (fun K hK => ?_) (fun K hK => ?_)
         ·skip
          refine Kd.R_lit_step k65 _ 65 ?hg (N := 44) ?hd (xs := ([] : List (S65))) (inner := []) (ok := fun _ => True) (okp := fun _ => True) ?hr ?hp (fun _ hk => hk) trivial (Below.refl _ _) (Nat.le_refl _) (by simp) ?_; (case hd => rfl); (case hg => rfl); (case hr => first | (go_simp; done) | (go_simp; rfl)); (case hp => exact (Reps.none _ _))
          intro v198 w37 ho38 hb hg_ hnew_
          clear hg_ hnew_
          (first | rw [← Ny197.out] at ho38 | (simp only [Int.reduceToNat] at ho38; rw [← Ny197.out] at ho38))
          have HO199 := XPrint.A0 (Kd.R_lower (Kd.R_newB ho38 (g := gb191) (o := .cells #[.int .u8 a1_0, .int .u32 a1_1, .int .u32 a1_2, .int .i64 a1_3, .int .i64 a1_4] 65 (0, 0)) (XPrint.ak BK191.out)) (below_size (by exact XPrint.bz HB.out)))
          replace BK190 := XPrint.A0 (XPrint.ab BK190.out hb)
          replace BK191 := XPrint.A0 (XPrint.ab BK191.out hb)
          replace BK195 := XPrint.A0 (XPrint.ab BK195.out hb)
          replace BK196 := XPrint.A0 (XPrint.ab BK196.out hb)
          replace HB := XPrint.A0 (below_step (by exact XPrint.bz HB.out) hb)
          clear hb ho38
          refine hK.out _ _ ⟨(blk_cell BK190.out 0).trans rfl, (blk_cell BK190.out 1).trans rfl, (blk_cell BK190.out 2).trans rfl, (blk_cell BK191.out 0).trans rfl, (blk_cell BK191.out 1).trans rfl, (blk_cell BK191.out 2).trans rfl, (blk_cell BK191.out 3).trans rfl, (blk_cell BK191.out 4).trans rfl⟩ (fun hHeld => ?_)
          clear hK K
          refine norm_ (a' := ?_) ?_ ?_
          rotate_left
          ·show Act.put _ (some 44) _ = _
           simp only [XPrint.pw, i64_w, i32_w]
           rfl
          refine two_ (i := 3) (j := 5) (Ni := some 47) (Nj := some 49) (XPrint.L 9 31) (XPrint.L 9 55) rfl rfl rfl rfl (two_of HT_.out (by kernel_rfl)) (by decide) (by decide) (fun K hK => ?_) (fun K hK => ?_)
          ·skip
           refine Kd.R_append_rows_step k65 (w0 := w) w.heap.size (by rfl) (.tmp 44) (.tmp 46) 48 65 (.agg #[(.int .u8 0), (.int .u32 0), (.int .u32 0), (.int .i64 0), (.int .i64 0)]) 32 rfl Try.underlying48 info65 rfl (by decide) (by omega) v198 y197 l0_2 _ _ _ (fun k_ => k_ ≠ gb191) (fun _ => False) rfl rfl ?aO ?aR (fun _ _ h => h) (fun _ h => h.elim) ?aF ?aB ?aS ?aL ?_
           (case aR => repeat (first | exact (Kd.C_below HR0_2.out HB.out) | (with_reducible refine Kd.C_alloc ?_ _) | (with_reducible refine Kd.C_drewN ?_ _) | (with_reducible refine Kd.C_drew ?_)))
           (case aB => exact (by exact XPrint.bz HB.out))
           (case aF => exact (fun k_ hk => Kd.freshB (g := gb191) (o := .cells #[.int .u8 a1_0, .int .u32 a1_1, .int .u32 a1_2, .int .i64 a1_3, .int .i64 a1_4] 65 (0, 0)) (XPrint.ak BK191.out) k_ hk))
           (case aO => exact (by (with_reducible repeat (first | apply Kd.R_alloc | apply Kd.R_drewN | apply Kd.R_drew)); exact Kd.R_mono HO199.out (fun _ hk => hk.2)))
           (case aS => exact (below_size (by exact XPrint.bz HB.out)))
           (case aL => have := LMc17.out; omega)
           intro v201 w39 ho hb hg hat
           rw [← Ny200.out] at ho
           have HO202 := XPrint.A0 (ho)
           replace BK190 := XPrint.A0 (blk_grown (g := gb190) (o := .cells #[.int .i64 a0_0, .int .i64 a0_1, .slice A0_2 l0_2.length c0_2] 50 (0, 0)) (XPrint.ak BK190.out) hg (Kd.R_ne HO199.out BK190.out (by decide)))
           replace BK191 := XPrint.A0 (blk_grown (g := gb191) (o := .cells #[.int .u8 a1_0, .int .u32 a1_1, .int .u32 a1_2, .int .i64 a1_3, .int .i64 a1_4] 65 (0, 0)) (XPrint.ak BK191.out) hg (Kd.R_away HO199.out (fun _ hk => hk.2)))
           replace BK195 := XPrint.A0 (blk_grown (g := gb195) (o := .cells #[.int .i64 a0_0, .int .i64 a0_1, .slice A0_2 l0_2.length c0_2] 50 (0, 0)) (XPrint.ak BK195.out) hg (Kd.R_ne HO199.out BK195.out (by decide)))
           replace BK196 := XPrint.A0 (blk_grown (g := gb196) (o := .cells #[.int .i64 a0_0, .int .i64 a0_1, .slice A0_2 l0_2.length c0_2] 50 (0, 0)) (XPrint.ak BK196.out) hg (Kd.R_ne HO199.out BK196.out (by decide)))
           replace HB := XPrint.A0 (hb)
           clear HO199 ho hb hg hat
           refine hK.out _ _ ⟨(blk_cell BK190.out 0).trans rfl, (blk_cell BK190.out 1).trans rfl, (blk_cell BK190.out 2).trans rfl, (blk_cell BK191.out 0).trans rfl, (blk_cell BK191.out 1).trans rfl, (blk_cell BK191.out 2).trans rfl, (blk_cell BK191.out 3).trans rfl, (blk_cell BK191.out 4).trans rfl⟩ (fun hHeld => ?_)
           clear hK K
           refine norm_ (a' := ?_) ?_ ?_
           rotate_left
           ·show Act.put _ (some 47) _ = _
            simp only [XPrint.pw, i64_w, i32_w]
            rfl
           refine one_ (i := 5) (N := some 49) (XPrint.L 9 63) rfl rfl (one_of HT_.out (by kernel_rfl)) (by decide) (fun K hK => ?_)
           refine Kd.R_lit_step k65 _ 65 ?hg (N := 49) ?hd (xs := ([(⟨a1_0, a1_1, a1_2, a1_3, a1_4⟩ : S65)] : List (S65))) (inner := [.int .u8 a1_0, .int .u32 a1_1, .int .u32 a1_2, .int .i64 a1_3, .int .i64 a1_4]) (ok := fun _ => True) (okp := fun _ => True) ?hr ?hp (fun _ hk => hk) trivial (Below.refl _ _) (Nat.le_refl _) (by simp) ?_; (case hd => rfl); (case hg => rfl); (case hr => first | (go_simp; done) | (go_simp; rfl)); (case hp => exact (Reps.c5 (show Kd.M k65 _ _ _ (⟨a1_0, a1_1, a1_2, a1_3, a1_4⟩ : S65) [.int .u8 a1_0, .int .u32 a1_1, .int .u32 a1_2, .int .i64 a1_3, .int .i64 a1_4] from (k65_mkM _ _ _ (⟨a1_0, a1_1, a1_2, a1_3, a1_4⟩ : S65) )) (Reps.none _ _)))
           intro v204 w40 ho41 hb hg_ hnew_
           clear hg_ hnew_
           (first | rw [← Ny203.out] at ho41 | (simp only [Int.reduceToNat] at ho41; rw [← Ny203.out] at ho41))
           have HO205 := XPrint.A0 (Kd.R_lower (Kd.R_newB (Kd.R_new' ho41 (Kd.R_lt (by (with_reducible repeat (first | apply Kd.R_alloc | apply Kd.R_drewN | apply Kd.R_drew)); exact HO202.out))) (g := gb191) (o := .cells #[.int .u8 a1_0, .int .u32 a1_1, .int .u32 a1_2, .int .i64 a1_3, .int .i64 a1_4] 65 (0, 0)) (XPrint.ak BK191.out)) (below_size (by exact XPrint.bz HB.out)))
           replace HO202 := XPrint.A0 (Kd.R_elder' (by (with_reducible repeat (first | apply Kd.R_alloc | apply Kd.R_drewN | apply Kd.R_drew)); exact HO202.out) (Kd.R_base ho41) hb)
           replace BK190 := XPrint.A0 (XPrint.ab BK190.out hb)
           replace BK191 := XPrint.A0 (XPrint.ab BK191.out hb)
           replace BK195 := XPrint.A0 (XPrint.ab BK195.out hb)
           replace BK196 := XPrint.A0 (XPrint.ab BK196.out hb)
           replace HB := XPrint.A0 (below_step (by exact XPrint.bz HB.out) hb)
           clear hb ho41
           refine hK.out _ _ ⟨(blk_cell BK190.out 0).trans rfl, (blk_cell BK190.out 1).trans rfl, (blk_cell BK190.out 2).trans rfl, (blk_cell BK191.out 0).trans rfl, (blk_cell BK191.out 1).trans rfl, (blk_cell BK191.out 2).trans rfl, (blk_cell BK191.out 3).trans rfl, (blk_cell BK191.out 4).trans rfl⟩ (fun hHeld => ?_)
           clear hK K
           refine norm_ (a' := ?_) ?_ ?_
           rotate_left
           ·show Act.put _ (some 49) _ = _
            simp only [XPrint.pw, i64_w, i32_w]
            rfl
           exact norm_ (by simp only [putAll, XPrint.pw]) (hCont (v198, v201, v204) _ ⟨hHeld, (by (with_reducible repeat (first | apply Kd.R_alloc | apply Kd.R_drewN | apply Kd.R_drew)); exact Kd.R_mono HO202.out (fun _ hk => ⟨hk.2, hk.1⟩)), (by (with_reducible repeat (first | apply Kd.R_alloc | apply Kd.R_drewN | apply Kd.R_drew)); exact Kd.R_mono HO205.out (fun _ hk => ⟨hk.1.2, hk.2⟩)), (XPrint.ak BK190.out), (XPrint.ak BK191.out), (XPrint.ak BK195.out), (XPrint.ak BK196.out), (by exact XPrint.bz HB.out)⟩)
          ·skip
           refine Kd.R_lit_step k65 _ 65 ?hg (N := 49) ?hd (xs := ([(⟨a1_0, a1_1, a1_2, a1_3, a1_4⟩ : S65)] : List (S65))) (inner := [.int .u8 a1_0, .int .u32 a1_1, .int .u32 a1_2, .int .i64 a1_3, .int .i64 a1_4]) (ok := fun _ => True) (okp := fun _ => True) ?hr ?hp (fun _ hk => hk) trivial (Below.refl _ _) (Nat.le_refl _) (by simp) ?_; (case hd => rfl); (case hg => rfl); (case hr => first | (go_simp; done) | (go_simp; rfl)); (case hp => exact (Reps.c5 (show Kd.M k65 _ _ _ (⟨a1_0, a1_1, a1_2, a1_3, a1_4⟩ : S65) [.int .u8 a1_0, .int .u32 a1_1, .int .u32 a1_2, .int .i64 a1_3, .int .i64 a1_4] from (k65_mkM _ _ _ (⟨a1_0, a1_1, a1_2, a1_3, a1_4⟩ : S65) )) (Reps.none _ _)))
           intro v204 w39 ho40 hb hg_ hnew_
           clear hg_ hnew_
           (first | rw [← Ny203.out] at ho40 | (simp only [Int.reduceToNat] at ho40; rw [← Ny203.out] at ho40))
           have HO205 := XPrint.A0 (Kd.R_lower (Kd.R_newB (Kd.R_new' ho40 (Kd.R_lt (by (with_reducible repeat (first | apply Kd.R_alloc | apply Kd.R_drewN | apply Kd.R_drew)); exact HO199.out))) (g := gb191) (o := .cells #[.int .u8 a1_0, .int .u32 a1_1, .int .u32 a1_2, .int .i64 a1_3, .int .i64 a1_4] 65 (0, 0)) (XPrint.ak BK191.out)) (below_size (by exact XPrint.bz HB.out)))
           replace HO199 := XPrint.A0 (Kd.R_elder' (by (with_reducible repeat (first | apply Kd.R_alloc | apply Kd.R_drewN | apply Kd.R_drew)); exact HO199.out) (Kd.R_base ho40) hb)
           replace BK190 := XPrint.A0 (XPrint.ab BK190.out hb)
           replace BK191 := XPrint.A0 (XPrint.ab BK191.out hb)
           replace BK195 := XPrint.A0 (XPrint.ab BK195.out hb)
           replace BK196 := XPrint.A0 (XPrint.ab BK196.out hb)
           replace HB := XPrint.A0 (below_step (by exact XPrint.bz HB.out) hb)
           clear hb ho40
           refine hK.out _ _ ⟨(blk_cell BK190.out 0).trans rfl, (blk_cell BK190.out 1).trans rfl, (blk_cell BK190.out 2).trans rfl, (blk_cell BK191.out 0).trans rfl, (blk_cell BK191.out 1).trans rfl, (blk_cell BK191.out 2).trans rfl, (blk_cell BK191.out 3).trans rfl, (blk_cell BK191.out 4).trans rfl⟩ (fun hHeld => ?_)
           clear hK K
           refine norm_ (a' := ?_) ?_ ?_
           rotate_left
           ·show Act.put _ (some 49) _ = _
            simp only [XPrint.pw, i64_w, i32_w]
            rfl
           refine one_ (i := 3) (N := some 47) (XPrint.L 9 63) rfl rfl (one_of HT_.out (by kernel_rfl)) (by decide) (fun K hK => ?_)
           refine Kd.R_append_rows_step k65 (w0 := w) w.heap.size (by rfl) (.tmp 44) (.tmp 46) 48 65 (.agg #[(.int .u8 0), (.int .u32 0), (.int .u32 0), (.int .i64 0), (.int .i64 0)]) 32 rfl Try.underlying48 info65 rfl (by decide) (by omega) v198 y197 l0_2 _ _ _ (fun k_ => some k_ ≠ (v204 : Value).ownBlock ∧ k_ ≠ gb191) (fun _ => False) rfl rfl ?aO ?aR (fun _ _ h => h) (fun _ h => h.elim) ?aF ?aB ?aS ?aL ?_
           (case aR => repeat (first | exact (Kd.C_below HR0_2.out HB.out) | (with_reducible refine Kd.C_alloc ?_ _) | (with_reducible refine Kd.C_drewN ?_ _) | (with_reducible refine Kd.C_drew ?_)))
           (case aB => exact (by exact XPrint.bz HB.out))
           (case aF => exact (fun k_ hk => ⟨Kd.fresh' (Kd.R_lt (by (with_reducible repeat (first | apply Kd.R_alloc | apply Kd.R_drewN | apply Kd.R_drew)); exact HO205.out)) k_ hk, Kd.freshB (g := gb191) (o := .cells #[.int .u8 a1_0, .int .u32 a1_1, .int .u32 a1_2, .int .i64 a1_3, .int .i64 a1_4] 65 (0, 0)) (XPrint.ak BK191.out) k_ hk⟩))
           (case aO => exact (by (with_reducible repeat (first | apply Kd.R_alloc | apply Kd.R_drewN | apply Kd.R_drew)); exact Kd.R_mono HO199.out (fun _ hk => ⟨hk.2, hk.1.2⟩)))
           (case aS => exact (below_size (by exact XPrint.bz HB.out)))
           (case aL => have := LMc17.out; omega)
           intro v201 w41 ho hb hg hat
           rw [← Ny200.out] at ho
           have HO202 := XPrint.A0 (ho)
           replace BK190 := XPrint.A0 (blk_grown (g := gb190) (o := .cells #[.int .i64 a0_0, .int .i64 a0_1, .slice A0_2 l0_2.length c0_2] 50 (0, 0)) (XPrint.ak BK190.out) hg (Kd.R_ne HO199.out BK190.out (by decide)))
           replace BK191 := XPrint.A0 (blk_grown (g := gb191) (o := .cells #[.int .u8 a1_0, .int .u32 a1_1, .int .u32 a1_2, .int .i64 a1_3, .int .i64 a1_4] 65 (0, 0)) (XPrint.ak BK191.out) hg (Kd.R_away HO199.out (fun _ hk => hk.1.2)))
           replace BK195 := XPrint.A0 (blk_grown (g := gb195) (o := .cells #[.int .i64 a0_0, .int .i64 a0_1, .slice A0_2 l0_2.length c0_2] 50 (0, 0)) (XPrint.ak BK195.out) hg (Kd.R_ne HO199.out BK195.out (by decide)))
           replace BK196 := XPrint.A0 (blk_grown (g := gb196) (o := .cells #[.int .i64 a0_0, .int .i64 a0_1, .slice A0_2 l0_2.length c0_2] 50 (0, 0)) (XPrint.ak BK196.out) hg (Kd.R_ne HO199.out BK196.out (by decide)))
           replace HO205 := XPrint.A0 (Kd.R_after (ok := (fun k_ => k_ ≠ gb191)) (by (with_reducible repeat (first | apply Kd.R_alloc | apply Kd.R_drewN | apply Kd.R_drew)); exact Kd.R_mono HO205.out (fun _ hk => ⟨hk.2, hk.1.2⟩)) hg hat)
           replace HB := XPrint.A0 (hb)
           clear HO199 ho hb hg hat
           refine hK.out _ _ ⟨(blk_cell BK190.out 0).trans rfl, (blk_cell BK190.out 1).trans rfl, (blk_cell BK190.out 2).trans rfl, (blk_cell BK191.out 0).trans rfl, (blk_cell BK191.out 1).trans rfl, (blk_cell BK191.out 2).trans rfl, (blk_cell BK191.out 3).trans rfl, (blk_cell BK191.out 4).trans rfl⟩ (fun hHeld => ?_)
           clear hK K
           refine norm_ (a' := ?_) ?_ ?_
           rotate_left
           ·show Act.put _ (some 47) _ = _
            simp only [XPrint.pw, i64_w, i32_w]
            rfl
           exact norm_ (by simp only [putAll, XPrint.pw]) (hCont (v198, v201, v204) _ ⟨hHeld, (by (with_reducible repeat (first | apply Kd.R_alloc | apply Kd.R_drewN | apply Kd.R_drew)); exact HO202.out), (by (with_reducible repeat (first | apply Kd.R_alloc | apply Kd.R_drewN | apply Kd.R_drew)); exact Kd.R_mono HO205.out (fun _ hk => ⟨hk.2, hk.1⟩)), (XPrint.ak BK190.out), (XPrint.ak BK191.out), (XPrint.ak BK195.out), (XPrint.ak BK196.out), (by exact XPrint.bz HB.out)⟩)
         ·skip
          refine Kd.R_lit_step k65 _ 65 ?hg (N := 49) ?hd (xs := ([(⟨a1_0, a1_1, a1_2, a1_3, a1_4⟩ : S65)] : List (S65))) (inner := [.int .u8 a1_0, .int .u32 a1_1, .int .u32 a1_2, .int .i64 a1_3, .int .i64 a1_4]) (ok := fun _ => True) (okp := fun _ => True) ?hr ?hp (fun _ hk => hk) trivial (Below.refl _ _) (Nat.le_refl _) (by simp) ?_; (case hd => rfl); (case hg => rfl); (case hr => first | (go_simp; done) | (go_simp; rfl)); (case hp => exact (Reps.c5 (show Kd.M k65 _ _ _ (⟨a1_0, a1_1, a1_2, a1_3, a1_4⟩ : S65) [.int .u8 a1_0, .int .u32 a1_1, .int .u32 a1_2, .int .i64 a1_3, .int .i64 a1_4] from (k65_mkM _ _ _ (⟨a1_0, a1_1, a1_2, a1_3, a1_4⟩ : S65) )) (Reps.none _ _)))
          intro v204 w37 ho38 hb hg_ hnew_
          clear hg_ hnew_
          (first | rw [← Ny203.out] at ho38 | (simp only [Int.reduceToNat] at ho38; rw [← Ny203.out] at ho38))
          have HO205 := XPrint.A0 (Kd.R_lower (Kd.R_newB ho38 (g := gb191) (o := .cells #[.int .u8 a1_0, .int .u32 a1_1, .int .u32 a1_2, .int .i64 a1_3, .int .i64 a1_4] 65 (0, 0)) (XPrint.ak BK191.out)) (below_size (by exact XPrint.bz HB.out)))
          replace BK190 := XPrint.A0 (XPrint.ab BK190.out hb)
          replace BK191 := XPrint.A0 (XPrint.ab BK191.out hb)
          replace BK195 := XPrint.A0 (XPrint.ab BK195.out hb)
          replace BK196 := XPrint.A0 (XPrint.ab BK196.out hb)
          replace HB := XPrint.A0 (below_step (by exact XPrint.bz HB.out) hb)
          clear hb ho38
          refine hK.out _ _ ⟨(blk_cell BK190.out 0).trans rfl, (blk_cell BK190.out 1).trans rfl, (blk_cell BK190.out 2).trans rfl, (blk_cell BK191.out 0).trans rfl, (blk_cell BK191.out 1).trans rfl, (blk_cell BK191.out 2).trans rfl, (blk_cell BK191.out 3).trans rfl, (blk_cell BK191.out 4).trans rfl⟩ (fun hHeld => ?_)
          clear hK K
          refine norm_ (a' := ?_) ?_ ?_
          rotate_left
          ·show Act.put _ (some 49) _ = _
           simp only [XPrint.pw, i64_w, i32_w]
           rfl
          refine one_ (i := 0) (N := some 44) (XPrint.L 9 55) rfl rfl (one_of HT_.out (by kernel_rfl)) (by decide) (fun K hK => ?_)
          refine Kd.R_lit_step k65 _ 65 ?hg (N := 44) ?hd (xs := ([] : List (S65))) (inner := []) (ok := fun _ => True) (okp := fun _ => True) ?hr ?hp (fun _ hk => hk) trivial (Below.refl _ _) (Nat.le_refl _) (by simp) ?_; (case hd => rfl); (case hg => rfl); (case hr => first | (go_simp; done) | (go_simp; rfl)); (case hp => exact (Reps.none _ _))
          intro v198 w39 ho40 hb hg_ hnew_
          clear hg_ hnew_
          (first | rw [← Ny197.out] at ho40 | (simp only [Int.reduceToNat] at ho40; rw [← Ny197.out] at ho40))
          have HO199 := XPrint.A0 (Kd.R_lower (Kd.R_newB (Kd.R_new' ho40 (Kd.R_lt (by (with_reducible repeat (first | apply Kd.R_alloc | apply Kd.R_drewN | apply Kd.R_drew)); exact HO205.out))) (g := gb191) (o := .cells #[.int .u8 a1_0, .int .u32 a1_1, .int .u32 a1_2, .int .i64 a1_3, .int .i64 a1_4] 65 (0, 0)) (XPrint.ak BK191.out)) (below_size (by exact XPrint.bz HB.out)))
          replace HO205 := XPrint.A0 (Kd.R_elder' (by (with_reducible repeat (first | apply Kd.R_alloc | apply Kd.R_drewN | apply Kd.R_drew)); exact HO205.out) (Kd.R_base ho40) hb)
          replace BK190 := XPrint.A0 (XPrint.ab BK190.out hb)
          replace BK191 := XPrint.A0 (XPrint.ab BK191.out hb)
          replace BK195 := XPrint.A0 (XPrint.ab BK195.out hb)
          replace BK196 := XPrint.A0 (XPrint.ab BK196.out hb)
          replace HB := XPrint.A0 (below_step (by exact XPrint.bz HB.out) hb)
          clear hb ho40
          refine hK.out _ _ ⟨(blk_cell BK190.out 0).trans rfl, (blk_cell BK190.out 1).trans rfl, (blk_cell BK190.out 2).trans rfl, (blk_cell BK191.out 0).trans rfl, (blk_cell BK191.out 1).trans rfl, (blk_cell BK191.out 2).trans rfl, (blk_cell BK191.out 3).trans rfl, (blk_cell BK191.out 4).trans rfl⟩ (fun hHeld => ?_)
          clear hK K
          refine norm_ (a' := ?_) ?_ ?_
          rotate_left
          ·show Act.put _ (some 44) _ = _
           simp only [XPrint.pw, i64_w, i32_w]
           rfl
          refine one_ (i := 3) (N := some 47) (XPrint.L 9 63) rfl rfl (one_of HT_.out (by kernel_rfl)) (by decide) (fun K hK => ?_)
          refine Kd.R_append_rows_step k65 (w0 := w) w.heap.size (by rfl) (.tmp 44) (.tmp 46) 48 65 (.agg #[(.int .u8 0), (.int .u32 0), (.int .u32 0), (.int .i64 0), (.int .i64 0)]) 32 rfl Try.underlying48 info65 rfl (by decide) (by omega) v198 y197 l0_2 _ _ _ (fun k_ => some k_ ≠ (v204 : Value).ownBlock ∧ k_ ≠ gb191) (fun _ => False) rfl rfl ?aO ?aR (fun _ _ h => h) (fun _ h => h.elim) ?aF ?aB ?aS ?aL ?_
          (case aR => repeat (first | exact (Kd.C_below HR0_2.out HB.out) | (with_reducible refine Kd.C_alloc ?_ _) | (with_reducible refine Kd.C_drewN ?_ _) | (with_reducible refine Kd.C_drew ?_)))
          (case aB => exact (by exact XPrint.bz HB.out))
          (case aF => exact (fun k_ hk => ⟨Kd.fresh' (Kd.R_lt (by (with_reducible repeat (first | apply Kd.R_alloc | apply Kd.R_drewN | apply Kd.R_drew)); exact HO205.out)) k_ hk, Kd.freshB (g := gb191) (o := .cells #[.int .u8 a1_0, .int .u32 a1_1, .int .u32 a1_2, .int .i64 a1_3, .int .i64 a1_4] 65 (0, 0)) (XPrint.ak BK191.out) k_ hk⟩))
          (case aO => exact (by (with_reducible repeat (first | apply Kd.R_alloc | apply Kd.R_drewN | apply Kd.R_drew)); exact Kd.R_mono HO199.out (fun _ hk => ⟨hk.1.2, hk.2⟩)))
          (case aS => exact (below_size (by exact XPrint.bz HB.out)))
          (case aL => have := LMc17.out; omega)
          intro v201 w41 ho hb hg hat
          rw [← Ny200.out] at ho
          have HO202 := XPrint.A0 (ho)
          replace BK190 := XPrint.A0 (blk_grown (g := gb190) (o := .cells #[.int .i64 a0_0, .int .i64 a0_1, .slice A0_2 l0_2.length c0_2] 50 (0, 0)) (XPrint.ak BK190.out) hg (Kd.R_ne HO199.out BK190.out (by decide)))
          replace BK191 := XPrint.A0 (blk_grown (g := gb191) (o := .cells #[.int .u8 a1_0, .int .u32 a1_1, .int .u32 a1_2, .int .i64 a1_3, .int .i64 a1_4] 65 (0, 0)) (XPrint.ak BK191.out) hg (Kd.R_away HO199.out (fun _ hk => hk.2)))
          replace BK195 := XPrint.A0 (blk_grown (g := gb195) (o := .cells #[.int .i64 a0_0, .int .i64 a0_1, .slice A0_2 l0_2.length c0_2] 50 (0, 0)) (XPrint.ak BK195.out) hg (Kd.R_ne HO199.out BK195.out (by decide)))
          replace BK196 := XPrint.A0 (blk_grown (g := gb196) (o := .cells #[.int .i64 a0_0, .int .i64 a0_1, .slice A0_2 l0_2.length c0_2] 50 (0, 0)) (XPrint.ak BK196.out) hg (Kd.R_ne HO199.out BK196.out (by decide)))
          replace HO205 := XPrint.A0 (Kd.R_after (ok := (fun k_ => k_ ≠ gb191)) (by (with_reducible repeat (first | apply Kd.R_alloc | apply Kd.R_drewN | apply Kd.R_drew)); exact Kd.R_mono HO205.out (fun _ hk => ⟨hk.1.2, hk.2⟩)) hg hat)
          replace HB := XPrint.A0 (hb)
          clear HO199 ho hb hg hat
          refine hK.out _ _ ⟨(blk_cell BK190.out 0).trans rfl, (blk_cell BK190.out 1).trans rfl, (blk_cell BK190.out 2).trans rfl, (blk_cell BK191.out 0).trans rfl, (blk_cell BK191.out 1).trans rfl, (blk_cell BK191.out 2).trans rfl, (blk_cell BK191.out 3).trans rfl, (blk_cell BK191.out 4).trans rfl⟩ (fun hHeld => ?_)
          clear hK K
          refine norm_ (a' := ?_) ?_ ?_
          rotate_left
          ·show Act.put _ (some 47) _ = _
           simp only [XPrint.pw, i64_w, i32_w]
           rfl
          exact norm_ (by simp only [putAll, XPrint.pw]) (hCont (v198, v201, v204) _ ⟨hHeld, (by (with_reducible repeat (first | apply Kd.R_alloc | apply Kd.R_drewN | apply Kd.R_drew)); exact HO202.out), (by (with_reducible repeat (first | apply Kd.R_alloc | apply Kd.R_drewN | apply Kd.R_drew)); exact Kd.R_mono HO205.out (fun _ hk => ⟨hk.2, hk.1⟩)), (XPrint.ak BK190.out), (XPrint.ak BK191.out), (XPrint.ak BK195.out), (XPrint.ak BK196.out), (by exact XPrint.bz HB.out)⟩)
        rintro ⟨v198, v201, v204⟩ w42 ⟨hS_, h0_, h1_, h2_, h3_, h4_, h5_, h6_⟩
        have HO202 := XPrint.A0 h0_
        have HO205 := XPrint.A0 h1_
        replace BK190 := XPrint.A0 h2_
        replace BK191 := XPrint.A0 h3_
        replace BK195 := XPrint.A0 h4_
        replace BK196 := XPrint.A0 h5_
        replace HB := XPrint.A0 h6_
        clear h0_ h1_ h2_ h3_ h4_ h5_ h6_
        have hHeld : w42.cell? ⟨gb190, 0, none⟩ = some (.int .i64 a0_0) ∧ w42.cell? ⟨gb190, 1, none⟩ = some (.int .i64 a0_1) ∧ w42.cell? ⟨gb190, 2, none⟩ = some (.slice A0_2 l0_2.length c0_2) ∧ w42.cell? ⟨gb191, 0, none⟩ = some (.int .u8 a1_0) ∧ w42.cell? ⟨gb191, 1, none⟩ = some (.int .u32 a1_1) ∧ w42.cell? ⟨gb191, 2, none⟩ = some (.int .u32 a1_2) ∧ w42.cell? ⟨gb191, 3, none⟩ = some (.int .i64 a1_3) ∧ w42.cell? ⟨gb191, 4, none⟩ = some (.int .i64 a1_4) := hS_
        obtain ⟨Ao44, co44, eo44⟩ := Kd.R_slice HO205.out
        (first | subst eo44 | (injection eo44 with f1_ f2_ f3_; have f4_ := f1_.symm; have f5_ := f3_.symm; clear f1_ f2_ f3_; subst f4_; subst f5_))
        refine norm_ (a' := ?_) ?_ ?_
        rotate_left
        ·simp only [putAll, XPrint.pw]
         rfl
        refine one_ (i := 6) (N := some 50) (XPrint.L 9 127) rfl rfl (one_of HT_.out (by kernel_rfl)) (by decide) (fun K hK => ?_)
        refine Kd.R_append_rows_step k65 (w0 := w) w.heap.size (by rfl) (.tmp 47) (.tmp 49) 48 65 (.agg #[(.int .u8 0), (.int .u32 0), (.int .u32 0), (.int .i64 0), (.int .i64 0)]) 32 rfl Try.underlying48 info65 rfl (by decide) (by omega) v201 y200 y203 _ _ _ (fun k_ => some k_ ≠ (.slice Ao44 y203.length co44 : Value).ownBlock ∧ k_ ≠ gb191) (fun _ => False) rfl rfl ?aO ?aR (fun _ _ h => h) (fun _ h => h.elim) ?aF ?aB ?aS ?aL ?_
        (case aR => repeat (first | exact (Kd.R_reads' HO205.out).2.2 | (with_reducible refine Kd.C_alloc ?_ _) | (with_reducible refine Kd.C_drewN ?_ _) | (with_reducible refine Kd.C_drew ?_)))
        (case aB => exact (by exact XPrint.bz HB.out))
        (case aF => exact (fun k_ hk => ⟨Kd.fresh' (Kd.R_lt (by (with_reducible repeat (first | apply Kd.R_alloc | apply Kd.R_drewN | apply Kd.R_drew)); exact HO205.out)) k_ hk, Kd.freshB (g := gb191) (o := .cells #[.int .u8 a1_0, .int .u32 a1_1, .int .u32 a1_2, .int .i64 a1_3, .int .i64 a1_4] 65 (0, 0)) (XPrint.ak BK191.out) k_ hk⟩))
        (case aO => exact (by (with_reducible repeat (first | apply Kd.R_alloc | apply Kd.R_drewN | apply Kd.R_drew)); exact HO202.out))
        (case aS => exact (below_size (by exact XPrint.bz HB.out)))
        (case aL => have := LMc18.out; omega)
        intro v207 w43 ho hb hg hat
        rw [← Ny206.out] at ho
        have HO208 := XPrint.A0 (ho)
        replace BK190 := XPrint.A0 (blk_grown (g := gb190) (o := .cells #[.int .i64 a0_0, .int .i64 a0_1, .slice A0_2 l0_2.length c0_2] 50 (0, 0)) (XPrint.ak BK190.out) hg (Kd.R_ne HO202.out BK190.out (by decide)))
        replace BK191 := XPrint.A0 (blk_grown (g := gb191) (o := .cells #[.int .u8 a1_0, .int .u32 a1_1, .int .u32 a1_2, .int .i64 a1_3, .int .i64 a1_4] 65 (0, 0)) (XPrint.ak BK191.out) hg (Kd.R_away HO202.out (fun _ hk => hk.2)))
        replace BK195 := XPrint.A0 (blk_grown (g := gb195) (o := .cells #[.int .i64 a0_0, .int .i64 a0_1, .slice A0_2 l0_2.length c0_2] 50 (0, 0)) (XPrint.ak BK195.out) hg (Kd.R_ne HO202.out BK195.out (by decide)))
        replace BK196 := XPrint.A0 (blk_grown (g := gb196) (o := .cells #[.int .i64 a0_0, .int .i64 a0_1, .slice A0_2 l0_2.length c0_2] 50 (0, 0)) (XPrint.ak BK196.out) hg (Kd.R_ne HO202.out BK196.out (by decide)))
        replace HO205 := XPrint.A0 (Kd.R_after (ok := (fun k_ => k_ ≠ gb191)) (by (with_reducible repeat (first | apply Kd.R_alloc | apply Kd.R_drewN | apply Kd.R_drew)); exact Kd.R_mono HO205.out (fun _ hk => ⟨hk.2, hk.1⟩)) hg hat)
        replace HB := XPrint.A0 (hb)
        clear HO202 ho hb hg hat
        obtain ⟨Ao45, co45, eo45⟩ := Kd.R_slice HO208.out
        (first | subst eo45 | (injection eo45 with f1_ f2_ f3_; have f4_ := f1_.symm; have f5_ := f3_.symm; clear f1_ f2_ f3_; subst f4_; subst f5_))
        refine hK.out _ _ ⟨(blk_cell BK190.out 0).trans rfl, (blk_cell BK190.out 1).trans rfl, (blk_cell BK190.out 2).trans rfl, (blk_cell BK191.out 0).trans rfl, (blk_cell BK191.out 1).trans rfl, (blk_cell BK191.out 2).trans rfl, (blk_cell BK191.out 3).trans rfl, (blk_cell BK191.out 4).trans rfl⟩ (fun hHeld => ?_)
        clear hK K
        refine norm_ (a' := ?_) ?_ ?_
        rotate_left
        ·show Act.put _ (some 50) _ = _
         simp only [XPrint.pw, i64_w, i32_w]
         rfl
        refine XPrint.pu 7 51 (XPrint.L 9 255) HT_.out (v := ?_) (a' := ?_) ?_ ?_ ?_
        rotate_left
        ·intro w'
         go_simp
         with_reducible rfl
        rotate_left
        ·simp only [XPrint.pw, i64_w, i32_w]
         rfl
        refine one_ (i := 8) (N := none) (XPrint.L 9 511) rfl rfl (one_of HT_.out (by kernel_rfl)) (by decide) (fun K hK => ?_)
        have hs46 : w43.cell? ⟨gb195, 2, none⟩ = some (.slice A0_2 l0_2.length c0_2) := (blk_cell BK195.out 2).trans rfl
        have hfs46 := blk_frozen BK195.out 2
        have hns46_0 := NB190_195.out
        have hns46_1 := NB191_195.out
        have hns46_3 := NB196_195.out
        have hms46_0 := NB195_190.out
        have hms46_1 := NB195_191.out
        have hms46_3 := NB195_196.out
        refine skip_ (w1 := ?_) (by rfl) rfl ?_ ?_
        rotate_left
        ·go_simp
         rfl
        refine hK.out _ _ ⟨((cell_far (p := ⟨gb195, _, none⟩) NB190_195.out _).trans (hHeld.1)), ((cell_far (p := ⟨gb195, _, none⟩) NB190_195.out _).trans (hHeld.2.1)), ((cell_far (p := ⟨gb195, _, none⟩) NB190_195.out _).trans (hHeld.2.2.1)), ((cell_far (p := ⟨gb195, _, none⟩) NB191_195.out _).trans (hHeld.2.2.2.1)), ((cell_far (p := ⟨gb195, _, none⟩) NB191_195.out _).trans (hHeld.2.2.2.2.1)), ((cell_far (p := ⟨gb195, _, none⟩) NB191_195.out _).trans (hHeld.2.2.2.2.2.1)), ((cell_far (p := ⟨gb195, _, none⟩) NB191_195.out _).trans (hHeld.2.2.2.2.2.2.1)), ((cell_far (p := ⟨gb195, _, none⟩) NB191_195.out _).trans (hHeld.2.2.2.2.2.2.2))⟩ (fun hHeld => ?_)
        clear hK K
        refine done_ (done_of HT_.out (by kernel_rfl)) ?_
        have n0_ : Aside0 (Kd.R k65 65 (w43.setCell ⟨gb195, 2, none⟩ (.slice Ao45 y206.length co45)) w.heap.size (fun k_ => some k_ ≠ (.slice Ao45 y206.length co45 : Value).ownBlock ∧ k_ ≠ gb191) (.slice Ao44 y203.length co44) y203) := ⟨by (with_reducible repeat (first | apply Kd.R_alloc | apply Kd.R_drewN | apply Kd.R_drew)); exact Kd.R_mono (Kd.R_far (p := ⟨gb195, 2, none⟩) (Kd.R_types HO205.out BK195.out (by decide)) (fun _ hk => hk.2) (.slice Ao45 y206.length co45)) (fun _ hk => ⟨hk.1.2, hk.1.1⟩)⟩
        have n1_ : Aside0 (Kd.R k65 65 (w43.setCell ⟨gb195, 2, none⟩ (.slice Ao45 y206.length co45)) w.heap.size (fun k_ => some k_ ≠ (.slice Ao44 y203.length co44 : Value).ownBlock ∧ k_ ≠ gb191) (.slice Ao45 y206.length co45) y206) := ⟨by (with_reducible repeat (first | apply Kd.R_alloc | apply Kd.R_drewN | apply Kd.R_drew)); exact Kd.R_mono (Kd.R_far (p := ⟨gb195, 2, none⟩) (Kd.R_types HO208.out BK195.out (by decide)) (fun _ hk => hk.2) (.slice Ao45 y206.length co45)) (fun _ hk => ⟨hk.1.1, hk.1.2⟩)⟩
        have n2_ : Aside0 ((w43.setCell ⟨gb195, 2, none⟩ (.slice Ao45 y206.length co45)).heap[gb190]? = some (.cells #[.int .i64 a0_0, .int .i64 a0_1, .slice A0_2 l0_2.length c0_2] 50 (0, 0))) := ⟨by (repeat with_reducible first | refine XPrint.d1 ?_ | refine XPrint.d2 ?_ _ | refine XPrint.d3 ?_ _); refine blk_far ?_ NB190_195.out _; (repeat with_reducible first | refine XPrint.d1 ?_ | refine XPrint.d2 ?_ _ | refine XPrint.d3 ?_ _); exact BK190.out⟩
        have n3_ : Aside0 ((w43.setCell ⟨gb195, 2, none⟩ (.slice Ao45 y206.length co45)).heap[gb191]? = some (.cells #[.int .u8 a1_0, .int .u32 a1_1, .int .u32 a1_2, .int .i64 a1_3, .int .i64 a1_4] 65 (0, 0))) := ⟨by (repeat with_reducible first | refine XPrint.d1 ?_ | refine XPrint.d2 ?_ _ | refine XPrint.d3 ?_ _); refine blk_far ?_ NB191_195.out _; (repeat with_reducible first | refine XPrint.d1 ?_ | refine XPrint.d2 ?_ _ | refine XPrint.d3 ?_ _); exact BK191.out⟩
        have n4_ : Aside0 ((w43.setCell ⟨gb195, 2, none⟩ (.slice Ao45 y206.length co45)).heap[gb195]? = some (.cells #[.int .i64 a0_0, .int .i64 a0_1, .slice Ao45 y206.length co45] 50 (0, 0))) := ⟨by (repeat with_reducible first | refine XPrint.d1 ?_ | refine XPrint.d2 ?_ _ | refine XPrint.d3 ?_ _); refine blk_put (cs := #[.int .i64 a0_0, .int .i64 a0_1, .slice A0_2 l0_2.length c0_2]) ?_ 2 _ rfl; (repeat with_reducible first | refine XPrint.d1 ?_ | refine XPrint.d2 ?_ _ | refine XPrint.d3 ?_ _); exact BK195.out⟩
        have n5_ : Aside0 ((w43.setCell ⟨gb195, 2, none⟩ (.slice Ao45 y206.length co45)).heap[gb196]? = some (.cells #[.int .i64 a0_0, .int .i64 a0_1, .slice A0_2 l0_2.length c0_2] 50 (0, 0))) := ⟨by (repeat with_reducible first | refine XPrint.d1 ?_ | refine XPrint.d2 ?_ _ | refine XPrint.d3 ?_ _); refine blk_far ?_ NB196_195.out _; (repeat with_reducible first | refine XPrint.d1 ?_ | refine XPrint.d2 ?_ _ | refine XPrint.d3 ?_ _); exact BK196.out⟩
        have n6_ : Aside0 (Below w.heap.size w (w43.setCell ⟨gb195, 2, none⟩ (.slice Ao45 y206.length co45))) := ⟨by repeat (first | (with_reducible first | exact HB.out | apply below_alloc | apply pw_below_drewN | apply below_drew1 | refine below_set ?_ GE190.out | refine below_set ?_ GE191.out | refine below_set ?_ GE195.out | refine below_set ?_ GE196.out) | exact HB.out)⟩
        (try clear HO205)
        (try clear HO208)
        (try clear BK190)
        (try clear BK191)
        (try clear BK195)
        (try clear BK196)
        (try clear HB)
        generalize (w43.setCell ⟨gb195, 2, none⟩ (.slice Ao45 y206.length co45)) = w47 at n0_ n1_ n2_ n3_ n4_ n5_ n6_ ⊢
        have HO205 := n0_
        have HO208 := n1_
        have BK190 := n2_
        have BK191 := n3_
        have BK195 := n4_
        have BK196 := n5_
        have HB := n6_
        clear n0_ n1_ n2_ n3_ n4_ n5_ n6_
        have hnb48 := NB190_191.out
        have hnc48 := NB191_190.out
        have hnb49 := NB190_195.out
        have hnc49 := NB195_190.out
        have hnb50 := NB190_196.out
        have hnc50 := NB196_190.out
        have hcz51_0 : w47.cell? ⟨gb190, 0, none⟩ = some (.int .i64 a0_0) := (blk_cell BK190.out 0).trans rfl
        have hcz51_1 : w47.cell? ⟨gb190, 1, none⟩ = some (.int .i64 a0_1) := (blk_cell BK190.out 1).trans rfl
        have hcz51_2 : w47.cell? ⟨gb190, 2, none⟩ = some (.slice A0_2 l0_2.length c0_2) := (blk_cell BK190.out 2).trans rfl
        have hfz51_0 := blk_frozen BK190.out 0
        have hfz51_1 := blk_frozen BK190.out 1
        have hfz51_2 := blk_frozen BK190.out 2
        have q52 : ((ji19) : Int) ≤ ((l0_2.length : Int) : Int) := of_decide_eq_true (by first | (with_reducible assumption) | assumption)
        obtain ⟨i052, hi052, _, hsz52, _⟩ := info_parts info65
        have hroom52 : l0_2.length ≤ c0_2 := HC0_2.out
        have hC52 : Kd.C k65 _ A0_2 l0_2.length l0_2 := HR0_2.out
        have hcut52 := cut_to (P := Try.prog) 48 65 .i64 Try.underlying48 hi052 A0_2 l0_2.length c0_2 (ji19) (of_decide_eq_true (by first | (with_reducible assumption) | assumption)) q52 hroom52
        have hr52 := Kd.C_take (m := ((ji19) : Int).toNat) hC52 (by omega)
        have hy52 : y209.length = ((ji19) : Int).toNat := (by rw [Ny209.out, List.length_take]; omega)
        rw [← Ny209.out] at hr52
        rw [← hy52] at hcut52
        have HR212 := XPrint.A0 hr52
        have HC212 := XPrint.A0 (show y209.length ≤ c0_2 from by omega)
        clear hr52 hC52 hroom52 hi052 hsz52
        have KY52 := XPrint.A0 hy52
        clear hy52
        replace q52 := eq_true q52
        have hnb53 := NB196_191.out
        have hnc53 := NB191_196.out
        have hnb54 := NB196_195.out
        have hnc54 := NB195_196.out
        have hcz55_0 : w47.cell? ⟨gb196, 0, none⟩ = some (.int .i64 a0_0) := (blk_cell BK196.out 0).trans rfl
        have hcz55_1 : w47.cell? ⟨gb196, 1, none⟩ = some (.int .i64 a0_1) := (blk_cell BK196.out 1).trans rfl
        have hcz55_2 : w47.cell? ⟨gb196, 2, none⟩ = some (.slice A0_2 l0_2.length c0_2) := (blk_cell BK196.out 2).trans rfl
        have hfz55_0 := blk_frozen BK196.out 0
        have hfz55_1 := blk_frozen BK196.out 1
        have hfz55_2 := blk_frozen BK196.out 2
        have hnb56 := NB195_191.out
        have hnc56 := NB191_195.out
        have hcz57_0 : w47.cell? ⟨gb195, 0, none⟩ = some (.int .i64 a0_0) := (blk_cell BK195.out 0).trans rfl
        have hcz57_1 : w47.cell? ⟨gb195, 1, none⟩ = some (.int .i64 a0_1) := (blk_cell BK195.out 1).trans rfl
        have hcz57_2 : w47.cell? ⟨gb195, 2, none⟩ = some (.slice Ao45 y206.length co45) := (blk_cell BK195.out 2).trans rfl
        have hfz57_0 := blk_frozen BK195.out 0
        have hfz57_1 := blk_frozen BK195.out 1
        have hfz57_2 := blk_frozen BK195.out 2
        go_upto_region 9 with (first | ((with_reducible refine gate_callee (f := 33) rfl ?_); refine XPrint.gl (some 62) Try.func33 #[.agg #[.int .i64 a0_0, .int .i64 a0_1, .slice Ao45 y206.length co45]] ?_; (with_reducible refine (shape_Check.calls a0_0 a0_1 _ _ y206 t213 t214 _ ?side1 ?side2 A22.out).mono ?_); (case side1 => refine (Kd.R_reads' (e := 65) (base := w.heap.size) (ok := fun k_ => (some k_ ≠ (.slice Ao44 y203.length co44 : Value).ownBlock ∧ k_ ≠ gb191)) (n := y206.length) (c := co45) ?_).2.2; exact (by (with_reducible repeat (first | apply Kd.R_alloc | apply Kd.R_drewN | apply Kd.R_drew)); exact (Kd.R_mono (Kd.R_far (p := ⟨gb196, 2, none⟩) (Kd.R_types HO208.out BK196.out (by decide)) (fun _ hk => hk.2) (.slice A0_2 y209.length c0_2)) (fun _ h_ => by first | exact h_.1 | (simp only [XPrint.own_slice] at h_ ⊢; exact h_.1))))); (case side2 => exact (Kd.R_reads' HO208.out).2.1); rintro e w58 ⟨rfl, hb⟩; refine ⟨_, rfl, ?_⟩; have n0_ := XPrint.A0 (Kd.R_below (by (with_reducible repeat (first | apply Kd.R_alloc | apply Kd.R_drewN | apply Kd.R_drew)); exact (Kd.R_mono (Kd.R_far (p := ⟨gb196, 2, none⟩) (Kd.R_types HO205.out BK196.out (by decide)) (fun _ hk => hk.2) (.slice A0_2 y209.length c0_2)) (fun _ h_ => by first | exact h_.1 | (simp only [XPrint.own_slice] at h_ ⊢; exact h_.1)))) hb); have n1_ := XPrint.A0 (Kd.R_below (by (with_reducible repeat (first | apply Kd.R_alloc | apply Kd.R_drewN | apply Kd.R_drew)); exact (Kd.R_mono (Kd.R_far (p := ⟨gb196, 2, none⟩) (Kd.R_types HO208.out BK196.out (by decide)) (fun _ hk => hk.2) (.slice A0_2 y209.length c0_2)) (fun _ h_ => by first | exact h_.1 | (simp only [XPrint.own_slice] at h_ ⊢; exact h_.1)))) hb); have n2_ := XPrint.A0 (XPrint.ab BK190.out hb); have n3_ := XPrint.A0 (XPrint.ab BK191.out hb); have n4_ := XPrint.A0 (XPrint.ab BK195.out hb); have n5_ := XPrint.A0 (blk_below (g := gb196) (o := .cells #[.int .i64 a0_0, .int .i64 a0_1, .slice A0_2 y209.length c0_2] 50 (0, 0)) (by (repeat with_reducible first | refine XPrint.d1 ?_ | refine XPrint.d2 ?_ _ | refine XPrint.d3 ?_ _); refine blk_put (cs := #[.int .i64 a0_0, .int .i64 a0_1, .slice A0_2 l0_2.length c0_2]) ?_ 2 _ rfl; (repeat with_reducible first | refine XPrint.d1 ?_ | refine XPrint.d2 ?_ _ | refine XPrint.d3 ?_ _); exact BK196.out) hb); have n6_ := XPrint.A0 (below_step (by repeat (first | (with_reducible first | exact HB.out | apply below_alloc | apply pw_below_drewN | apply below_drew1 | refine below_set ?_ GE190.out | refine below_set ?_ GE191.out | refine below_set ?_ GE195.out | refine below_set ?_ GE196.out) | exact HB.out)) hb); clear HO205; clear HO208; clear BK190; clear BK191; clear BK195; clear BK196; clear HB; have HO205 := n0_; have HO208 := n1_; have BK190 := n2_; have BK191 := n3_; have BK195 := n4_; have BK196 := n5_; have HB := n6_; clear n0_ n1_ n2_ n3_ n4_ n5_ n6_; (try clear hb); (try clear hb2); (try clear hk); (try clear hi); have hcz59_0 : w58.cell? ⟨gb196, 0, none⟩ = some (.int .i64 a0_0) := (blk_cell BK196.out 0).trans rfl; have hcz59_1 : w58.cell? ⟨gb196, 1, none⟩ = some (.int .i64 a0_1) := (blk_cell BK196.out 1).trans rfl; have hcz59_2 : w58.cell? ⟨gb196, 2, none⟩ = some (.slice A0_2 y209.length c0_2) := (blk_cell BK196.out 2).trans rfl; have hfz59_0 := blk_frozen BK196.out 0; have hfz59_1 := blk_frozen BK196.out 1; have hfz59_2 := blk_frozen BK196.out 2) | ((with_reducible refine gate_callee (f := 33) rfl ?_); refine XPrint.gl (some 67) Try.func33 #[.agg #[.int .i64 a0_0, .int .i64 a0_1, .slice A0_2 y209.length c0_2]] ?_; (with_reducible refine (shape_Check.calls a0_0 a0_1 _ _ y209 t215 t216 _ ?side1 ?side2 A23.out).mono ?_); (case side1 => repeat (first | exact (Kd.C_below HR212.out HB.out) | (with_reducible refine Kd.C_alloc ?_ _) | (with_reducible refine Kd.C_drewN ?_ _) | (with_reducible refine Kd.C_drew ?_))); (case side2 => exact HC212.out); rintro e w60 ⟨rfl, hb⟩; refine ⟨_, rfl, ?_⟩; have n0_ := XPrint.A0 (XPrint.rb HO205.out hb); have n1_ := XPrint.A0 (XPrint.rb HO208.out hb); have n2_ := XPrint.A0 (XPrint.ab BK190.out hb); have n3_ := XPrint.A0 (XPrint.ab BK191.out hb); have n4_ := XPrint.A0 (XPrint.ab BK195.out hb); have n5_ := XPrint.A0 (XPrint.ab BK196.out hb); have n6_ := XPrint.A0 (below_step (by exact XPrint.bz HB.out) hb); clear HO205; clear HO208; clear BK190; clear BK191; clear BK195; clear BK196; clear HB; have HO205 := n0_; have HO208 := n1_; have BK190 := n2_; have BK191 := n3_; have BK195 := n4_; have BK196 := n5_; have HB := n6_; clear n0_ n1_ n2_ n3_ n4_ n5_ n6_; (try clear hb); (try clear hb2); (try clear hk); (try clear hi)))
        (try simp only [XPrint.pw])
        go_cut [90] (fun v90 wc => ∃ (kq : Nat) (x90_23 : Bool), v90 = .bool x90_23 ∧ Aside0 (liverylaw08_ShapeOne.j1 kq a2 x90_23 a0_0 a0_1 l0_2 = some r) ∧ Aside0 (kq ≤ kj4) ∧ Aside0 (Kd.R k65 65 wc w.heap.size (fun k_ => k_ ≠ gb191) (.slice Ao45 y206.length co45) y206) ∧ Aside0 (wc.heap[gb190]? = some (.cells #[.int .i64 a0_0, .int .i64 a0_1, (.slice A0_2 l0_2.length c0_2)] 50 (0, 0))) ∧ Aside0 (wc.heap[gb191]? = some (.cells #[.int .u8 a1_0, .int .u32 a1_1, .int .u32 a1_2, .int .i64 a1_3, .int .i64 a1_4] 65 (0, 0))) ∧ Aside0 (wc.heap[gb195]? = some (.cells #[.int .i64 a0_0, .int .i64 a0_1, (.slice Ao45 y206.length co45)] 50 (0, 0))) ∧ Aside0 (wc.heap[gb196]? = some (.cells #[.int .i64 a0_0, .int .i64 a0_1, (.slice A0_2 y209.length c0_2)] 50 (0, 0))) ∧ Aside0 (Below w.heap.size w wc))
        case first =>
         have H := HC24.out
         clear HC24
         by_cases c61 : t214 = 81
         ·rw [if_pos c61] at H
          have c61b0 : (t214 == 81) = true := beq_iff_eq.mpr c61
          have c61b1 : (t214 != 81) = false := bne_eq_false_iff_eq.mpr c61
          clear c61
          (first | rw [c61b0] | (simp only [i64_w, i32_w]; rw [c61b0]) | skip)
          by_cases c62 : t213 = (l0_2.length : Int)
          ·rw [if_pos c62] at H
           have c62b0 : (t213 == (l0_2.length : Int)) = true := beq_iff_eq.mpr c62
           have c62b1 : (t213 != (l0_2.length : Int)) = false := bne_eq_false_iff_eq.mpr c62
           clear c62
           by_cases c63 : t216 = 81
           ·rw [if_pos c63] at H
            have c63b0 : (t216 == 81) = true := beq_iff_eq.mpr c63
            have c63b1 : (t216 != 81) = false := bne_eq_false_iff_eq.mpr c63
            clear c63
            have H' := XPrint.A0 H
            clear H
            have hnb64 := NB190_191.out
            have hnc64 := NB191_190.out
            have hnb65 := NB190_195.out
            have hnc65 := NB195_190.out
            have hnb66 := NB190_196.out
            have hnc66 := NB196_190.out
            have hcz67_0 : w60.cell? ⟨gb190, 0, none⟩ = some (.int .i64 a0_0) := (blk_cell BK190.out 0).trans rfl
            have hcz67_1 : w60.cell? ⟨gb190, 1, none⟩ = some (.int .i64 a0_1) := (blk_cell BK190.out 1).trans rfl
            have hcz67_2 : w60.cell? ⟨gb190, 2, none⟩ = some (.slice A0_2 l0_2.length c0_2) := (blk_cell BK190.out 2).trans rfl
            have hfz67_0 := blk_frozen BK190.out 0
            have hfz67_1 := blk_frozen BK190.out 1
            have hfz67_2 := blk_frozen BK190.out 2
            go_wp2
            go_meet
            case rel => exact ⟨_, ((t215 != (ji19))), (by first | rfl | (simp; done) | (simp only [← hji19] <;> (first | rfl | simp)) | (simp [*]; done)), H', ⟨by have := HJ4.out; first | omega | exact Nat.le_refl _⟩, ⟨by (with_reducible repeat (first | apply Kd.R_alloc | apply Kd.R_drewN | apply Kd.R_drew)); exact Kd.R_mono HO208.out (fun _ hk => hk.2)⟩, ⟨by (repeat with_reducible first | refine XPrint.d1 ?_ | refine XPrint.d2 ?_ _ | refine XPrint.d3 ?_ _); exact BK190.out⟩, ⟨by (repeat with_reducible first | refine XPrint.d1 ?_ | refine XPrint.d2 ?_ _ | refine XPrint.d3 ?_ _); exact BK191.out⟩, ⟨by (repeat with_reducible first | refine XPrint.d1 ?_ | refine XPrint.d2 ?_ _ | refine XPrint.d3 ?_ _); exact BK195.out⟩, ⟨by (repeat with_reducible first | refine XPrint.d1 ?_ | refine XPrint.d2 ?_ _ | refine XPrint.d3 ?_ _); exact BK196.out⟩, ⟨by exact XPrint.bz HB.out⟩⟩
           ·rw [if_neg c63] at H
            exact absurd H (by simp)
          ·rw [if_neg c62] at H
           exact absurd H (by simp)
         ·rw [if_neg c61] at H
          exact absurd H (by simp)
        case rest =>
         clear HC24
         try clear c1
         try clear p2
         try clear c3
         try clear c4
         try clear c5
         try clear q5
         try clear c6
         try clear c17
         try clear c18
         try clear c33
         try clear c48
         try clear c49
         try clear c50
         try clear q52
         try clear c53
         try clear c54
         try clear c56
         try clear c61
         try clear c61b0
         try clear c61b1
         try clear c62
         try clear c62b0
         try clear c62b1
         try clear c63
         try clear c63b0
         try clear c63b1
         try clear c64
         try clear c65
         try clear c66
         try clear hcz51_0
         try clear hcz51_1
         try clear hcz51_2
         try clear hcz55_0
         try clear hcz55_1
         try clear hcz55_2
         try clear hcz57_0
         try clear hcz57_1
         try clear hcz57_2
         try clear hcz59_0
         try clear hcz59_1
         try clear hcz59_2
         try clear hcz67_0
         try clear hcz67_1
         try clear hcz67_2
         try clear hfz51_0
         try clear hfz51_1
         try clear hfz51_2
         try clear hfz55_0
         try clear hfz55_1
         try clear hfz55_2
         try clear hfz57_0
         try clear hfz57_1
         try clear hfz57_2
         try clear hfz59_0
         try clear hfz59_1
         try clear hfz59_2
         try clear hfz67_0
         try clear hfz67_1
         try clear hfz67_2
         try clear q52
         obtain ⟨kq, x90_23, rfl, HA, HJ23, HO_196002, BK190, BK191, BK195, BK196, HB⟩ := hcut
         cases kq with
         | zero => exact absurd HA.out (by simp [liverylaw08_ShapeOne.j1])
         | succ kj23 =>
          have H := HA.out
          clear HA
          simp only [liverylaw08_ShapeOne.j1] at H
          by_cases c68 : x90_23 = true
          ·subst c68
           have H1 := H; rw [if_pos rfl] at H1
           clear H
           have H := H1
           clear H1
           exact absurd H (by simp)
          ·replace c68 := Bool.eq_false_iff.mpr c68
           subst c68
           have H1 := H; rw [if_neg (show ¬ (false = true) by decide)] at H1
           clear H
           have H := H1
           clear H1
           replace H := Option.bind_eq_some_iff.mp H
           obtain ⟨⟨t218, t219⟩, A690, H⟩ := H
           replace H : ((shape_Check.f (wrap64 (Int.tmod a2 549755813888)) (wrap64 ((wrap64 ((wrap64 (Int.tmod a2 549755813888)) + 4096)) + 1)) l0_2).bind fun bt220 => ((shape_Check.f (wrap64 (Int.tmod a2 549755813888)) (wrap64 (Int.tmod a2 549755813888)) l0_2).bind fun bt222 => ((shape_Check.f (-1) (wrap64 (Int.tmod a2 549755813888)) l0_2).bind fun bt224 => ((shape_Check.f 1099511627775 1099511627776 l0_2).bind fun bt226 => ((shape_Check.f 1099511627775 (1099511627776 + 1) l0_2).bind fun bt228 => (if t219 = 0 then (if bt220.2 = 82 then (if bt220.1 = (-1) then (if bt222.2 = 82 then (if bt224.2 = 82 then (if bt226.2 = 0 then (if bt228.2 = 82 then ((liverylaw08_head.f kj23).bind fun t230 => (some t230)) else (none)) else (none)) else (none)) else (none)) else (none)) else (none)) else (none))))))) = some r := H
           have A69 := XPrint.A0 A690
           clear A690
           replace H := Option.bind_eq_some_iff.mp H
           obtain ⟨⟨t220, t221⟩, A700, H⟩ := H
           replace H : ((shape_Check.f (wrap64 (Int.tmod a2 549755813888)) (wrap64 (Int.tmod a2 549755813888)) l0_2).bind fun bt222 => ((shape_Check.f (-1) (wrap64 (Int.tmod a2 549755813888)) l0_2).bind fun bt224 => ((shape_Check.f 1099511627775 1099511627776 l0_2).bind fun bt226 => ((shape_Check.f 1099511627775 (1099511627776 + 1) l0_2).bind fun bt228 => (if t219 = 0 then (if t221 = 82 then (if t220 = (-1) then (if bt222.2 = 82 then (if bt224.2 = 82 then (if bt226.2 = 0 then (if bt228.2 = 82 then ((liverylaw08_head.f kj23).bind fun t230 => (some t230)) else (none)) else (none)) else (none)) else (none)) else (none)) else (none)) else (none)))))) = some r := H
           have A70 := XPrint.A0 A700
           clear A700
           replace H := Option.bind_eq_some_iff.mp H
           obtain ⟨⟨t222, t223⟩, A710, H⟩ := H
           replace H : ((shape_Check.f (-1) (wrap64 (Int.tmod a2 549755813888)) l0_2).bind fun bt224 => ((shape_Check.f 1099511627775 1099511627776 l0_2).bind fun bt226 => ((shape_Check.f 1099511627775 (1099511627776 + 1) l0_2).bind fun bt228 => (if t219 = 0 then (if t221 = 82 then (if t220 = (-1) then (if t223 = 82 then (if bt224.2 = 82 then (if bt226.2 = 0 then (if bt228.2 = 82 then ((liverylaw08_head.f kj23).bind fun t230 => (some t230)) else (none)) else (none)) else (none)) else (none)) else (none)) else (none)) else (none))))) = some r := H
           have A71 := XPrint.A0 A710
           clear A710
           replace H := Option.bind_eq_some_iff.mp H
           obtain ⟨⟨t224, t225⟩, A720, H⟩ := H
           replace H : ((shape_Check.f 1099511627775 1099511627776 l0_2).bind fun bt226 => ((shape_Check.f 1099511627775 (1099511627776 + 1) l0_2).bind fun bt228 => (if t219 = 0 then (if t221 = 82 then (if t220 = (-1) then (if t223 = 82 then (if t225 = 82 then (if bt226.2 = 0 then (if bt228.2 = 82 then ((liverylaw08_head.f kj23).bind fun t230 => (some t230)) else (none)) else (none)) else (none)) else (none)) else (none)) else (none)) else (none)))) = some r := H
           have A72 := XPrint.A0 A720
           clear A720
           replace H := Option.bind_eq_some_iff.mp H
           obtain ⟨⟨t226, t227⟩, A730, H⟩ := H
           replace H : ((shape_Check.f 1099511627775 (1099511627776 + 1) l0_2).bind fun bt228 => (if t219 = 0 then (if t221 = 82 then (if t220 = (-1) then (if t223 = 82 then (if t225 = 82 then (if t227 = 0 then (if bt228.2 = 82 then ((liverylaw08_head.f kj23).bind fun t230 => (some t230)) else (none)) else (none)) else (none)) else (none)) else (none)) else (none)) else (none))) = some r := H
           have A73 := XPrint.A0 A730
           clear A730
           replace H := Option.bind_eq_some_iff.mp H
           obtain ⟨⟨t228, t229⟩, A740, H⟩ := H
           replace H : (if t219 = 0 then (if t221 = 82 then (if t220 = (-1) then (if t223 = 82 then (if t225 = 82 then (if t227 = 0 then (if t229 = 82 then ((liverylaw08_head.f kj23).bind fun t230 => (some t230)) else (none)) else (none)) else (none)) else (none)) else (none)) else (none)) else (none)) = some r := H
           have A74 := XPrint.A0 A740
           clear A740
           by_cases c75 : t219 = 0
           ·rw [if_pos c75] at H
            have c75b0 : (t219 == 0) = true := beq_iff_eq.mpr c75
            have c75b1 : (t219 != 0) = false := bne_eq_false_iff_eq.mpr c75
            clear c75
            by_cases c76 : t221 = 82
            ·rw [if_pos c76] at H
             have c76b0 : (t221 == 82) = true := beq_iff_eq.mpr c76
             have c76b1 : (t221 != 82) = false := bne_eq_false_iff_eq.mpr c76
             clear c76
             by_cases c77 : t220 = (-1)
             ·rw [if_pos c77] at H
              have c77b0 : (t220 == (-1)) = true := beq_iff_eq.mpr c77
              have c77b1 : (t220 != (-1)) = false := bne_eq_false_iff_eq.mpr c77
              clear c77
              by_cases c78 : t223 = 82
              ·rw [if_pos c78] at H
               have c78b0 : (t223 == 82) = true := beq_iff_eq.mpr c78
               have c78b1 : (t223 != 82) = false := bne_eq_false_iff_eq.mpr c78
               clear c78
               by_cases c79 : t225 = 82
               ·rw [if_pos c79] at H
                have c79b0 : (t225 == 82) = true := beq_iff_eq.mpr c79
                have c79b1 : (t225 != 82) = false := bne_eq_false_iff_eq.mpr c79
                clear c79
                by_cases c80 : t227 = 0
                ·rw [if_pos c80] at H
                 have c80b0 : (t227 == 0) = true := beq_iff_eq.mpr c80
                 have c80b1 : (t227 != 0) = false := bne_eq_false_iff_eq.mpr c80
                 clear c80
                 by_cases c81 : t229 = 82
                 ·rw [if_pos c81] at H
                  have c81b0 : (t229 == 82) = true := beq_iff_eq.mpr c81
                  have c81b1 : (t229 != 82) = false := bne_eq_false_iff_eq.mpr c81
                  clear c81
                  replace H := Option.bind_eq_some_iff.mp H
                  obtain ⟨t230, A820, H⟩ := H
                  try set_option simprocs false in dsimp only at H
                  have A82 := XPrint.A0 A820
                  clear A820
                  obtain rfl := Option.some.inj H
                  have hnb83 := NB190_191.out
                  have hnc83 := NB191_190.out
                  have hnb84 := NB190_195.out
                  have hnc84 := NB195_190.out
                  have hnb85 := NB190_196.out
                  have hnc85 := NB196_190.out
                  have hcz86_0 : wc.cell? ⟨gb190, 0, none⟩ = some (.int .i64 a0_0) := (blk_cell BK190.out 0).trans rfl
                  have hcz86_1 : wc.cell? ⟨gb190, 1, none⟩ = some (.int .i64 a0_1) := (blk_cell BK190.out 1).trans rfl
                  have hcz86_2 : wc.cell? ⟨gb190, 2, none⟩ = some (.slice A0_2 l0_2.length c0_2) := (blk_cell BK190.out 2).trans rfl
                  have hfz86_0 := blk_frozen BK190.out 0
                  have hfz86_1 := blk_frozen BK190.out 1
                  have hfz86_2 := blk_frozen BK190.out 2
                  go_wp2_with (first | ((with_reducible refine gate_dst (N := 15) rfl ?_); (try (refine gate_guard (by rfl) ?_; dsimp only)); refine box_event ?hg (N := 15) ?hd (cs := #[.int .i64 0, .int .i64 0, .slice none 0 0]) (t := 50) ?hr ?_; (case hd => rfl); (case hg => rfl); (case hr => first | (go_simp; done) | (go_simp; rfl)); intro gb217 hg w87 hbox hb; have BK217 := XPrint.A0 (hbox); have GW217 := XPrint.A0 (XPrint.gz HB.out hg); have GE217 := XPrint.A0 (XPrint.gz HB.out hg); have NB190_217 := XPrint.A1 (by rw [hg]; exact Nat.ne_of_lt (XPrint.al BK190.out) : gb190 ≠ gb217); have NB217_190 := XPrint.A1 (by rw [hg]; exact Nat.ne_of_gt (XPrint.al BK190.out) : gb217 ≠ gb190); have NB191_217 := XPrint.A1 (by rw [hg]; exact Nat.ne_of_lt (XPrint.al BK191.out) : gb191 ≠ gb217); have NB217_191 := XPrint.A1 (by rw [hg]; exact Nat.ne_of_gt (XPrint.al BK191.out) : gb217 ≠ gb191); have NB195_217 := XPrint.A1 (by rw [hg]; exact Nat.ne_of_lt (XPrint.al BK195.out) : gb195 ≠ gb217); have NB217_195 := XPrint.A1 (by rw [hg]; exact Nat.ne_of_gt (XPrint.al BK195.out) : gb217 ≠ gb195); have NB196_217 := XPrint.A1 (by rw [hg]; exact Nat.ne_of_lt (XPrint.al BK196.out) : gb196 ≠ gb217); have NB217_196 := XPrint.A1 (by rw [hg]; exact Nat.ne_of_gt (XPrint.al BK196.out) : gb217 ≠ gb196); replace HO_196002 := XPrint.A0 (Kd.R_below (by (with_reducible repeat (first | apply Kd.R_alloc | apply Kd.R_drewN | apply Kd.R_drew)); exact HO_196002.out) hb); replace BK190 := XPrint.A0 (XPrint.ab BK190.out hb); replace BK191 := XPrint.A0 (XPrint.ab BK191.out hb); replace BK195 := XPrint.A0 (XPrint.ab BK195.out hb); replace BK196 := XPrint.A0 (XPrint.ab BK196.out hb); replace HB := XPrint.A0 (below_step (by exact XPrint.bz HB.out) hb); clear hb hbox hg; have hnb88 := NB217_190.out; have hnc88 := NB190_217.out; have hnb89 := NB217_191.out; have hnc89 := NB191_217.out; have hnb90 := NB217_195.out; have hnc90 := NB195_217.out; have hnb91 := NB217_196.out; have hnc91 := NB196_217.out; have hcz92_0 : w87.cell? ⟨gb217, 0, none⟩ = some (.int .i64 0) := (blk_cell BK217.out 0).trans rfl; have hcz92_1 : w87.cell? ⟨gb217, 1, none⟩ = some (.int .i64 0) := (blk_cell BK217.out 1).trans rfl; have hcz92_2 : w87.cell? ⟨gb217, 2, none⟩ = some (.slice none 0 0) := (blk_cell BK217.out 2).trans rfl; have hfz92_0 := blk_frozen BK217.out 0; have hfz92_1 := blk_frozen BK217.out 1; have hfz92_2 := blk_frozen BK217.out 2; have hq92_0 : ∀ a0 : Value, (w87.setCell ⟨gb217, 0, none⟩ a0).cell? ⟨gb217, 0, none⟩ = some a0 := (by intro a0; go_simp); have hq92_1 : ∀ a0 a1 : Value, ((w87.setCell ⟨gb217, 0, none⟩ a0).setCell ⟨gb217, 1, none⟩ a1).cell? ⟨gb217, 1, none⟩ = some a1 := (by intro a0 a1; go_simp); have hq92_2 : ∀ a0 a1 a2 : Value, (((w87.setCell ⟨gb217, 0, none⟩ a0).setCell ⟨gb217, 1, none⟩ a1).setCell ⟨gb217, 2, none⟩ a2).cell? ⟨gb217, 2, none⟩ = some a2 := (by intro a0 a1 a2; go_simp)) | ((with_reducible refine gate_callee (f := 33) rfl ?_); refine XPrint.gl (some 102) Try.func33 #[.agg #[.int .i64 (wrap64 (Int.tmod a2 549755813888)), .int .i64 (wrap64 ((wrap64 (Int.tmod a2 549755813888)) + 4096)), .slice A0_2 l0_2.length c0_2]] ?_; (with_reducible refine (shape_Check.calls (wrap64 (Int.tmod a2 549755813888)) (wrap64 ((wrap64 (Int.tmod a2 549755813888)) + 4096)) _ _ l0_2 t218 t219 _ ?side1 ?side2 A69.out).mono ?_); (case side1 => exact Kd.C_below HR0_2.out (by repeat (first | (with_reducible first | exact HB.out | apply below_alloc | apply pw_below_drewN | apply below_drew1 | refine below_set ?_ GE190.out | refine below_set ?_ GE191.out | refine below_set ?_ GE195.out | refine below_set ?_ GE196.out | refine below_set ?_ GE217.out) | exact HB.out))); (case side2 => exact HC0_2.out); rintro e w93 ⟨rfl, hb⟩; refine ⟨_, rfl, ?_⟩; replace HO_196002 := XPrint.A0 (Kd.R_below (by (with_reducible repeat (first | apply Kd.R_alloc | apply Kd.R_drewN | apply Kd.R_drew)); exact (Kd.R_mono (Kd.R_far (p := ⟨gb217, 1, none⟩) (Kd.R_far (p := ⟨gb217, 0, none⟩) (Kd.R_far (p := ⟨gb217, 2, none⟩) (Kd.R_far (p := ⟨gb217, 1, none⟩) (Kd.R_far (p := ⟨gb217, 0, none⟩) (Kd.R_types HO_196002.out BK217.out (by decide)) (fun _ hk => hk.2) (.int .i64 a0_0)) (fun _ hk => hk.2) (.int .i64 a0_1)) (fun _ hk => hk.2) (.slice A0_2 l0_2.length c0_2)) (fun _ hk => hk.2) (.int .i64 (wrap64 (Int.tmod a2 549755813888)))) (fun _ hk => hk.2) (.int .i64 (wrap64 ((wrap64 (Int.tmod a2 549755813888)) + 4096)))) (fun _ h_ => by first | exact h_.1 | (simp only [XPrint.own_slice] at h_ ⊢; exact h_.1)))) hb); replace BK190 := XPrint.A0 (XPrint.ab BK190.out hb); replace BK191 := XPrint.A0 (XPrint.ab BK191.out hb); replace BK195 := XPrint.A0 (XPrint.ab BK195.out hb); replace BK196 := XPrint.A0 (XPrint.ab BK196.out hb); replace BK217 := XPrint.A0 (blk_below (g := gb217) (o := .cells #[.int .i64 (wrap64 (Int.tmod a2 549755813888)), .int .i64 (wrap64 ((wrap64 (Int.tmod a2 549755813888)) + 4096)), .slice A0_2 l0_2.length c0_2] 50 (0, 0)) (by (repeat with_reducible first | refine XPrint.d1 ?_ | refine XPrint.d2 ?_ _ | refine XPrint.d3 ?_ _); refine blk_put (cs := #[.int .i64 (wrap64 (Int.tmod a2 549755813888)), .int .i64 a0_1, .slice A0_2 l0_2.length c0_2]) ?_ 1 _ rfl; (repeat with_reducible first | refine XPrint.d1 ?_ | refine XPrint.d2 ?_ _ | refine XPrint.d3 ?_ _); refine blk_put (cs := #[.int .i64 a0_0, .int .i64 a0_1, .slice A0_2 l0_2.length c0_2]) ?_ 0 _ rfl; (repeat with_reducible first | refine XPrint.d1 ?_ | refine XPrint.d2 ?_ _ | refine XPrint.d3 ?_ _); refine blk_put (cs := #[.int .i64 a0_0, .int .i64 a0_1, .slice none 0 0]) ?_ 2 _ rfl; (repeat with_reducible first | refine XPrint.d1 ?_ | refine XPrint.d2 ?_ _ | refine XPrint.d3 ?_ _); refine blk_put (cs := #[.int .i64 a0_0, .int .i64 0, .slice none 0 0]) ?_ 1 _ rfl; (repeat with_reducible first | refine XPrint.d1 ?_ | refine XPrint.d2 ?_ _ | refine XPrint.d3 ?_ _); refine blk_put (cs := #[.int .i64 0, .int .i64 0, .slice none 0 0]) ?_ 0 _ rfl; (repeat with_reducible first | refine XPrint.d1 ?_ | refine XPrint.d2 ?_ _ | refine XPrint.d3 ?_ _); exact BK217.out) hb); replace HB := XPrint.A0 (below_step (by repeat (first | (with_reducible first | exact HB.out | apply below_alloc | apply pw_below_drewN | apply below_drew1 | refine below_set ?_ GE190.out | refine below_set ?_ GE191.out | refine below_set ?_ GE195.out | refine below_set ?_ GE196.out | refine below_set ?_ GE217.out) | exact HB.out)) hb); (try clear hb); (try clear hb2); (try clear hk); (try clear hi); have hcz94_0 : w93.cell? ⟨gb217, 0, none⟩ = some (.int .i64 (wrap64 (Int.tmod a2 549755813888))) := (blk_cell BK217.out 0).trans rfl; have hcz94_1 : w93.cell? ⟨gb217, 1, none⟩ = some (.int .i64 (wrap64 ((wrap64 (Int.tmod a2 549755813888)) + 4096))) := (blk_cell BK217.out 1).trans rfl; have hcz94_2 : w93.cell? ⟨gb217, 2, none⟩ = some (.slice A0_2 l0_2.length c0_2) := (blk_cell BK217.out 2).trans rfl; have hfz94_0 := blk_frozen BK217.out 0; have hfz94_1 := blk_frozen BK217.out 1; have hfz94_2 := blk_frozen BK217.out 2) | ((with_reducible refine gate_callee (f := 33) rfl ?_); refine XPrint.gl (some 111) Try.func33 #[.agg #[.int .i64 (wrap64 (Int.tmod a2 549755813888)), .int .i64 (wrap64 ((wrap64 ((wrap64 (Int.tmod a2 549755813888)) + 4096)) + 1)), .slice A0_2 l0_2.length c0_2]] ?_; (with_reducible refine (shape_Check.calls (wrap64 (Int.tmod a2 549755813888)) (wrap64 ((wrap64 ((wrap64 (Int.tmod a2 549755813888)) + 4096)) + 1)) _ _ l0_2 t220 t221 _ ?side1 ?side2 A70.out).mono ?_); (case side1 => exact Kd.C_below HR0_2.out (by repeat (first | (with_reducible first | exact HB.out | apply below_alloc | apply pw_below_drewN | apply below_drew1 | refine below_set ?_ GE190.out | refine below_set ?_ GE191.out | refine below_set ?_ GE195.out | refine below_set ?_ GE196.out | refine below_set ?_ GE217.out) | exact HB.out))); (case side2 => exact HC0_2.out); rintro e w95 ⟨rfl, hb⟩; refine ⟨_, rfl, ?_⟩; replace HO_196002 := XPrint.A0 (Kd.R_below (by (with_reducible repeat (first | apply Kd.R_alloc | apply Kd.R_drewN | apply Kd.R_drew)); exact (Kd.R_mono (Kd.R_far (p := ⟨gb217, 1, none⟩) (Kd.R_types HO_196002.out BK217.out (by decide)) (fun _ hk => hk.2) (.int .i64 (wrap64 ((wrap64 ((wrap64 (Int.tmod a2 549755813888)) + 4096)) + 1)))) (fun _ h_ => by first | exact h_.1 | (simp only [XPrint.own_slice] at h_ ⊢; exact h_.1)))) hb); replace BK190 := XPrint.A0 (XPrint.ab BK190.out hb); replace BK191 := XPrint.A0 (XPrint.ab BK191.out hb); replace BK195 := XPrint.A0 (XPrint.ab BK195.out hb); replace BK196 := XPrint.A0 (XPrint.ab BK196.out hb); replace BK217 := XPrint.A0 (blk_below (g := gb217) (o := .cells #[.int .i64 (wrap64 (Int.tmod a2 549755813888)), .int .i64 (wrap64 ((wrap64 ((wrap64 (Int.tmod a2 549755813888)) + 4096)) + 1)), .slice A0_2 l0_2.length c0_2] 50 (0, 0)) (by (repeat with_reducible first | refine XPrint.d1 ?_ | refine XPrint.d2 ?_ _ | refine XPrint.d3 ?_ _); refine blk_put (cs := #[.int .i64 (wrap64 (Int.tmod a2 549755813888)), .int .i64 (wrap64 ((wrap64 (Int.tmod a2 549755813888)) + 4096)), .slice A0_2 l0_2.length c0_2]) ?_ 1 _ rfl; (repeat with_reducible first | refine XPrint.d1 ?_ | refine XPrint.d2 ?_ _ | refine XPrint.d3 ?_ _); exact BK217.out) hb); replace HB := XPrint.A0 (below_step (by repeat (first | (with_reducible first | exact HB.out | apply below_alloc | apply pw_below_drewN | apply below_drew1 | refine below_set ?_ GE190.out | refine below_set ?_ GE191.out | refine below_set ?_ GE195.out | refine below_set ?_ GE196.out | refine below_set ?_ GE217.out) | exact HB.out)) hb); (try clear hb); (try clear hb2); (try clear hk); (try clear hi); have hcz96_0 : w95.cell? ⟨gb217, 0, none⟩ = some (.int .i64 (wrap64 (Int.tmod a2 549755813888))) := (blk_cell BK217.out 0).trans rfl; have hcz96_1 : w95.cell? ⟨gb217, 1, none⟩ = some (.int .i64 (wrap64 ((wrap64 ((wrap64 (Int.tmod a2 549755813888)) + 4096)) + 1))) := (blk_cell BK217.out 1).trans rfl; have hcz96_2 : w95.cell? ⟨gb217, 2, none⟩ = some (.slice A0_2 l0_2.length c0_2) := (blk_cell BK217.out 2).trans rfl; have hfz96_0 := blk_frozen BK217.out 0; have hfz96_1 := blk_frozen BK217.out 1; have hfz96_2 := blk_frozen BK217.out 2) | ((with_reducible refine gate_callee (f := 33) rfl ?_); refine XPrint.gl (some 119) Try.func33 #[.agg #[.int .i64 (wrap64 (Int.tmod a2 549755813888)), .int .i64 (wrap64 (Int.tmod a2 549755813888)), .slice A0_2 l0_2.length c0_2]] ?_; (with_reducible refine (shape_Check.calls (wrap64 (Int.tmod a2 549755813888)) (wrap64 (Int.tmod a2 549755813888)) _ _ l0_2 t222 t223 _ ?side1 ?side2 A71.out).mono ?_); (case side1 => exact Kd.C_below HR0_2.out (by repeat (first | (with_reducible first | exact HB.out | apply below_alloc | apply pw_below_drewN | apply below_drew1 | refine below_set ?_ GE190.out | refine below_set ?_ GE191.out | refine below_set ?_ GE195.out | refine below_set ?_ GE196.out | refine below_set ?_ GE217.out) | exact HB.out))); (case side2 => exact HC0_2.out); rintro e w97 ⟨rfl, hb⟩; refine ⟨_, rfl, ?_⟩; replace HO_196002 := XPrint.A0 (Kd.R_below (by (with_reducible repeat (first | apply Kd.R_alloc | apply Kd.R_drewN | apply Kd.R_drew)); exact (Kd.R_mono (Kd.R_far (p := ⟨gb217, 1, none⟩) (Kd.R_types HO_196002.out BK217.out (by decide)) (fun _ hk => hk.2) (.int .i64 (wrap64 (Int.tmod a2 549755813888)))) (fun _ h_ => by first | exact h_.1 | (simp only [XPrint.own_slice] at h_ ⊢; exact h_.1)))) hb); replace BK190 := XPrint.A0 (XPrint.ab BK190.out hb); replace BK191 := XPrint.A0 (XPrint.ab BK191.out hb); replace BK195 := XPrint.A0 (XPrint.ab BK195.out hb); replace BK196 := XPrint.A0 (XPrint.ab BK196.out hb); replace BK217 := XPrint.A0 (blk_below (g := gb217) (o := .cells #[.int .i64 (wrap64 (Int.tmod a2 549755813888)), .int .i64 (wrap64 (Int.tmod a2 549755813888)), .slice A0_2 l0_2.length c0_2] 50 (0, 0)) (by (repeat with_reducible first | refine XPrint.d1 ?_ | refine XPrint.d2 ?_ _ | refine XPrint.d3 ?_ _); refine blk_put (cs := #[.int .i64 (wrap64 (Int.tmod a2 549755813888)), .int .i64 (wrap64 ((wrap64 ((wrap64 (Int.tmod a2 549755813888)) + 4096)) + 1)), .slice A0_2 l0_2.length c0_2]) ?_ 1 _ rfl; (repeat with_reducible first | refine XPrint.d1 ?_ | refine XPrint.d2 ?_ _ | refine XPrint.d3 ?_ _); exact BK217.out) hb); replace HB := XPrint.A0 (below_step (by repeat (first | (with_reducible first | exact HB.out | apply below_alloc | apply pw_below_drewN | apply below_drew1 | refine below_set ?_ GE190.out | refine below_set ?_ GE191.out | refine below_set ?_ GE195.out | refine below_set ?_ GE196.out | refine below_set ?_ GE217.out) | exact HB.out)) hb); (try clear hb); (try clear hb2); (try clear hk); (try clear hi); have hcz98_0 : w97.cell? ⟨gb217, 0, none⟩ = some (.int .i64 (wrap64 (Int.tmod a2 549755813888))) := (blk_cell BK217.out 0).trans rfl; have hcz98_1 : w97.cell? ⟨gb217, 1, none⟩ = some (.int .i64 (wrap64 (Int.tmod a2 549755813888))) := (blk_cell BK217.out 1).trans rfl; have hcz98_2 : w97.cell? ⟨gb217, 2, none⟩ = some (.slice A0_2 l0_2.length c0_2) := (blk_cell BK217.out 2).trans rfl; have hfz98_0 := blk_frozen BK217.out 0; have hfz98_1 := blk_frozen BK217.out 1; have hfz98_2 := blk_frozen BK217.out 2) | ((with_reducible refine gate_callee (f := 33) rfl ?_); refine XPrint.gl (some 125) Try.func33 #[.agg #[.int .i64 (-1), .int .i64 (wrap64 (Int.tmod a2 549755813888)), .slice A0_2 l0_2.length c0_2]] ?_; (with_reducible refine (shape_Check.calls (-1) (wrap64 (Int.tmod a2 549755813888)) _ _ l0_2 t224 t225 _ ?side1 ?side2 A72.out).mono ?_); (case side1 => exact Kd.C_below HR0_2.out (by repeat (first | (with_reducible first | exact HB.out | apply below_alloc | apply pw_below_drewN | apply below_drew1 | refine below_set ?_ GE190.out | refine below_set ?_ GE191.out | refine below_set ?_ GE195.out | refine below_set ?_ GE196.out | refine below_set ?_ GE217.out) | exact HB.out))); (case side2 => exact HC0_2.out); rintro e w99 ⟨rfl, hb⟩; refine ⟨_, rfl, ?_⟩; replace HO_196002 := XPrint.A0 (Kd.R_below (by (with_reducible repeat (first | apply Kd.R_alloc | apply Kd.R_drewN | apply Kd.R_drew)); exact (Kd.R_mono (Kd.R_far (p := ⟨gb217, 0, none⟩) (Kd.R_types HO_196002.out BK217.out (by decide)) (fun _ hk => hk.2) (.int .i64 (-1))) (fun _ h_ => by first | exact h_.1 | (simp only [XPrint.own_slice] at h_ ⊢; exact h_.1)))) hb); replace BK190 := XPrint.A0 (XPrint.ab BK190.out hb); replace BK191 := XPrint.A0 (XPrint.ab BK191.out hb); replace BK195 := XPrint.A0 (XPrint.ab BK195.out hb); replace BK196 := XPrint.A0 (XPrint.ab BK196.out hb); replace BK217 := XPrint.A0 (blk_below (g := gb217) (o := .cells #[.int .i64 (-1), .int .i64 (wrap64 (Int.tmod a2 549755813888)), .slice A0_2 l0_2.length c0_2] 50 (0, 0)) (by (repeat with_reducible first | refine XPrint.d1 ?_ | refine XPrint.d2 ?_ _ | refine XPrint.d3 ?_ _); refine blk_put (cs := #[.int .i64 (wrap64 (Int.tmod a2 549755813888)), .int .i64 (wrap64 (Int.tmod a2 549755813888)), .slice A0_2 l0_2.length c0_2]) ?_ 0 _ rfl; (repeat with_reducible first | refine XPrint.d1 ?_ | refine XPrint.d2 ?_ _ | refine XPrint.d3 ?_ _); exact BK217.out) hb); replace HB := XPrint.A0 (below_step (by repeat (first | (with_reducible first | exact HB.out | apply below_alloc | apply pw_below_drewN | apply below_drew1 | refine below_set ?_ GE190.out | refine below_set ?_ GE191.out | refine below_set ?_ GE195.out | refine below_set ?_ GE196.out | refine below_set ?_ GE217.out) | exact HB.out)) hb); (try clear hb); (try clear hb2); (try clear hk); (try clear hi); have hcz100_0 : w99.cell? ⟨gb217, 0, none⟩ = some (.int .i64 (-1)) := (blk_cell BK217.out 0).trans rfl; have hcz100_1 : w99.cell? ⟨gb217, 1, none⟩ = some (.int .i64 (wrap64 (Int.tmod a2 549755813888))) := (blk_cell BK217.out 1).trans rfl; have hcz100_2 : w99.cell? ⟨gb217, 2, none⟩ = some (.slice A0_2 l0_2.length c0_2) := (blk_cell BK217.out 2).trans rfl; have hfz100_0 := blk_frozen BK217.out 0; have hfz100_1 := blk_frozen BK217.out 1; have hfz100_2 := blk_frozen BK217.out 2) | ((with_reducible refine gate_callee (f := 33) rfl ?_); refine XPrint.gl (some 132) Try.func33 #[.agg #[.int .i64 1099511627775, .int .i64 1099511627776, .slice A0_2 l0_2.length c0_2]] ?_; (with_reducible refine (shape_Check.calls 1099511627775 1099511627776 _ _ l0_2 t226 t227 _ ?side1 ?side2 A73.out).mono ?_); (case side1 => exact Kd.C_below HR0_2.out (by repeat (first | (with_reducible first | exact HB.out | apply below_alloc | apply pw_below_drewN | apply below_drew1 | refine below_set ?_ GE190.out | refine below_set ?_ GE191.out | refine below_set ?_ GE195.out | refine below_set ?_ GE196.out | refine below_set ?_ GE217.out) | exact HB.out))); (case side2 => exact HC0_2.out); rintro e w101 ⟨rfl, hb⟩; refine ⟨_, rfl, ?_⟩; replace HO_196002 := XPrint.A0 (Kd.R_below (by (with_reducible repeat (first | apply Kd.R_alloc | apply Kd.R_drewN | apply Kd.R_drew)); exact (Kd.R_mono (Kd.R_far (p := ⟨gb217, 1, none⟩) (Kd.R_far (p := ⟨gb217, 0, none⟩) (Kd.R_types HO_196002.out BK217.out (by decide)) (fun _ hk => hk.2) (.int .i64 1099511627775)) (fun _ hk => hk.2) (.int .i64 1099511627776)) (fun _ h_ => by first | exact h_.1 | (simp only [XPrint.own_slice] at h_ ⊢; exact h_.1)))) hb); replace BK190 := XPrint.A0 (XPrint.ab BK190.out hb); replace BK191 := XPrint.A0 (XPrint.ab BK191.out hb); replace BK195 := XPrint.A0 (XPrint.ab BK195.out hb); replace BK196 := XPrint.A0 (XPrint.ab BK196.out hb); replace BK217 := XPrint.A0 (blk_below (g := gb217) (o := .cells #[.int .i64 1099511627775, .int .i64 1099511627776, .slice A0_2 l0_2.length c0_2] 50 (0, 0)) (by (repeat with_reducible first | refine XPrint.d1 ?_ | refine XPrint.d2 ?_ _ | refine XPrint.d3 ?_ _); refine blk_put (cs := #[.int .i64 1099511627775, .int .i64 (wrap64 (Int.tmod a2 549755813888)), .slice A0_2 l0_2.length c0_2]) ?_ 1 _ rfl; (repeat with_reducible first | refine XPrint.d1 ?_ | refine XPrint.d2 ?_ _ | refine XPrint.d3 ?_ _); refine blk_put (cs := #[.int .i64 (-1), .int .i64 (wrap64 (Int.tmod a2 549755813888)), .slice A0_2 l0_2.length c0_2]) ?_ 0 _ rfl; (repeat with_reducible first | refine XPrint.d1 ?_ | refine XPrint.d2 ?_ _ | refine XPrint.d3 ?_ _); exact BK217.out) hb); replace HB := XPrint.A0 (below_step (by repeat (first | (with_reducible first | exact HB.out | apply below_alloc | apply pw_below_drewN | apply below_drew1 | refine below_set ?_ GE190.out | refine below_set ?_ GE191.out | refine below_set ?_ GE195.out | refine below_set ?_ GE196.out | refine below_set ?_ GE217.out) | exact HB.out)) hb); (try clear hb); (try clear hb2); (try clear hk); (try clear hi); have hcz102_0 : w101.cell? ⟨gb217, 0, none⟩ = some (.int .i64 1099511627775) := (blk_cell BK217.out 0).trans rfl; have hcz102_1 : w101.cell? ⟨gb217, 1, none⟩ = some (.int .i64 1099511627776) := (blk_cell BK217.out 1).trans rfl; have hcz102_2 : w101.cell? ⟨gb217, 2, none⟩ = some (.slice A0_2 l0_2.length c0_2) := (blk_cell BK217.out 2).trans rfl; have hfz102_0 := blk_frozen BK217.out 0; have hfz102_1 := blk_frozen BK217.out 1; have hfz102_2 := blk_frozen BK217.out 2) | ((with_reducible refine gate_callee (f := 33) rfl ?_); refine XPrint.gl (some 141) Try.func33 #[.agg #[.int .i64 1099511627775, .int .i64 (1099511627776 + 1), .slice A0_2 l0_2.length c0_2]] ?_; (with_reducible refine (shape_Check.calls 1099511627775 (1099511627776 + 1) _ _ l0_2 t228 t229 _ ?side1 ?side2 A74.out).mono ?_); (case side1 => exact Kd.C_below HR0_2.out (by repeat (first | (with_reducible first | exact HB.out | apply below_alloc | apply pw_below_drewN | apply below_drew1 | refine below_set ?_ GE190.out | refine below_set ?_ GE191.out | refine below_set ?_ GE195.out | refine below_set ?_ GE196.out | refine below_set ?_ GE217.out) | exact HB.out))); (case side2 => exact HC0_2.out); rintro e w103 ⟨rfl, hb⟩; refine ⟨_, rfl, ?_⟩; replace HO_196002 := XPrint.A0 (Kd.R_below (by (with_reducible repeat (first | apply Kd.R_alloc | apply Kd.R_drewN | apply Kd.R_drew)); exact (Kd.R_mono (Kd.R_far (p := ⟨gb217, 1, none⟩) (Kd.R_types HO_196002.out BK217.out (by decide)) (fun _ hk => hk.2) (.int .i64 (1099511627776 + 1))) (fun _ h_ => by first | exact h_.1 | (simp only [XPrint.own_slice] at h_ ⊢; exact h_.1)))) hb); replace BK190 := XPrint.A0 (XPrint.ab BK190.out hb); replace BK191 := XPrint.A0 (XPrint.ab BK191.out hb); replace BK195 := XPrint.A0 (XPrint.ab BK195.out hb); replace BK196 := XPrint.A0 (XPrint.ab BK196.out hb); replace BK217 := XPrint.A0 (blk_below (g := gb217) (o := .cells #[.int .i64 1099511627775, .int .i64 (1099511627776 + 1), .slice A0_2 l0_2.length c0_2] 50 (0, 0)) (by (repeat with_reducible first | refine XPrint.d1 ?_ | refine XPrint.d2 ?_ _ | refine XPrint.d3 ?_ _); refine blk_put (cs := #[.int .i64 1099511627775, .int .i64 1099511627776, .slice A0_2 l0_2.length c0_2]) ?_ 1 _ rfl; (repeat with_reducible first | refine XPrint.d1 ?_ | refine XPrint.d2 ?_ _ | refine XPrint.d3 ?_ _); exact BK217.out) hb); replace HB := XPrint.A0 (below_step (by repeat (first | (with_reducible first | exact HB.out | apply below_alloc | apply pw_below_drewN | apply below_drew1 | refine below_set ?_ GE190.out | refine below_set ?_ GE191.out | refine below_set ?_ GE195.out | refine below_set ?_ GE196.out | refine below_set ?_ GE217.out) | exact HB.out)) hb); (try clear hb); (try clear hb2); (try clear hk); (try clear hi)) | (go_at_call 32; (with_reducible refine (liverylaw08_head.calls kj23  t230 _ A82.out).mono ?_); rintro e w104 ⟨rfl, hb⟩; replace HO_196002 := XPrint.A0 (Kd.R_below (by (with_reducible repeat (first | apply Kd.R_alloc | apply Kd.R_drewN | apply Kd.R_drew)); exact HO_196002.out) hb); replace BK190 := XPrint.A0 (XPrint.ab BK190.out hb); replace BK191 := XPrint.A0 (XPrint.ab BK191.out hb); replace BK195 := XPrint.A0 (XPrint.ab BK195.out hb); replace BK196 := XPrint.A0 (XPrint.ab BK196.out hb); replace BK217 := XPrint.A0 (XPrint.ab BK217.out hb); replace HB := XPrint.A0 (below_step (by exact XPrint.bz HB.out) hb); (try clear hb); (try clear hb2); (try clear hk); (try clear hi)))
                  go_ret
                  exact ⟨by first | rfl | (simp [errW_none, errW_some] <;> rfl) | (simp only [← hji19]; first | rfl | (simp [errW_none, errW_some] <;> rfl)) | (simp [*, errW_none, errW_some] <;> rfl), by exact XPrint.bz HB.out⟩
                 ·rw [if_neg c81] at H
                  exact absurd H (by simp)
                ·rw [if_neg c80] at H
                 exact absurd H (by simp)
               ·rw [if_neg c79] at H
                exact absurd H (by simp)
              ·rw [if_neg c78] at H
               exact absurd H (by simp)
             ·rw [if_neg c77] at H
              exact absurd H (by simp)
            ·rw [if_neg c76] at H
             exact absurd H (by simp)
           ·rw [if_neg c75] at H
            exact absurd H (by simp)
       ·rw [if_neg c21] at H
        exact absurd H (by simp)
      ·rw [if_neg c20] at H
       exact absurd H (by simp)
     ·rw [if_neg c18] at H
      exact absurd H (by simp)
    ·rw [if_neg c17] at H
     exact absurd H (by simp)

end Go.Proofs.Ytkaokiiooakleaa.PShapeOne
