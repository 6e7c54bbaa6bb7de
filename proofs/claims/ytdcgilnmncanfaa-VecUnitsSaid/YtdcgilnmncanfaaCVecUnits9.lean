-- printed by this session's own driver over the kit's printer: Lean checks it
import Derived.Test.YtdcgilnmncanfaaCVecUnits0
import Derived.Test.YtdcgilnmncanfaaCVecUnits3
import Derived.Test.YtdcgilnmncanfaaCVecUnits4
import Derived.Test.YtdcgilnmncanfaaCVecUnits6
import Derived.Test.YtdcgilnmncanfaaCVecUnits7
import Derived.Test.YtdcgilnmncanfaaCVecUnits8
namespace Go.Proofs.Ytdcgilnmncanfaa.PVecUnits
open Go.RowKit Go.Proofs.YtdcgilnmncanfaaW.PrintWords Go.Proofs.YtdcgilnmncanfaaW.PrintLast Go.Proofs.YtdcgilnmncanfaaW.PrintMore
attribute [local go_sem] max2_int min2_int max_two min_two max_three min_three max_four min_four   -- for this text's walks alone
set_option linter.unusedVariables false
set_option linter.unusedSimpArgs false

/-! ### liverylaw01_VecUnits: function 6 -/
def liverylaw01_VecUnits.f (k : Nat) (a0_0 : Int) (a0_1 : Int) (a1 : Int) (a2_0 : Int) (a2_1 : Int) : Option (Bool) := (liverylaw01_of.f (1 + ((mx a0_0 0) % 1048576)) (1 + ((mx a0_1 0) % 1048576))).bind fun bt301 => ((vec_Scale.f bt301.1 bt301.2 (wrap64 (Int.tmod a1 1048576))).bind fun bt304 => (if bt301.1 = 0 then (none) else ((liverylaw01_of.f ((mx a2_0 0) % bt301.1) ((mx a2_1 0) % 1048576)).bind fun bt308 => ((vec_Add.f k (([(⟨bt304.1, bt304.2.1⟩ : S23), (⟨bt308.1, bt308.2⟩ : S23)] : List (S23)))).bind fun bt313 => ((vec_Units.f k bt313.1 bt313.2.1 bt301.1 bt301.2).bind fun bt317 => ((vec_Scale.f bt301.1 bt301.2 (wrap64 (bt317.1 + 1))).bind fun bt319 => ((vec_Scale.f bt301.1 bt301.2 bt317.1).bind fun bt323 => (if bt304.2.2 = 0 then (if bt313.2.2 = 0 then (if bt317.2 = 0 then (if bt319.2.2 = 0 then (if bt323.2.2 = 0 then (if bt317.1 = (wrap64 (Int.tmod a1 1048576)) then ((vec_LE.f bt323.1 bt323.2.1 bt313.1 bt313.2.1).bind fun t327 => (if t327 = true then ((vec_LE.f bt319.1 bt319.2.1 bt313.1 bt313.2.1).bind fun t328 => (if t328 = true then (none) else ((liverylaw01_head.f k).bind fun t329 => (some t329)))) else (none))) else (none)) else (none)) else (none)) else (none)) else (none)) else (none)))))))))
theorem liverylaw01_VecUnits.mono : ∀ a0 a1 a2 a3 a4 k, LeO (liverylaw01_VecUnits.f k a0 a1 a2 a3 a4) (liverylaw01_VecUnits.f (k + 1) a0 a1 a2 a3 a4) := by
 intro a0 a1 a2 a3 a4 k
 unfold liverylaw01_VecUnits.f
 repeat' first
   | (with_reducible exact liverylaw01_head.mono _)
   | (with_reducible exact vec_Add.mono _ _)
   | (with_reducible exact vec_Units.mono _ _ _ _ _)
   | (with_reducible exact LeO.refl _)
   | (with_reducible exact LeO.none _)
   | (with_reducible refine LeO.ite ?_ ?_)
   | (with_reducible refine LeO.bind ?_ (fun _ => ?_))
   | exact liverylaw01_head.mono _
   | exact vec_Add.mono _ _
   | exact vec_Units.mono _ _ _ _ _
   | exact LeO.none _
   | refine LeO.ite ?_ ?_
   | refine LeO.bind ?_ (fun _ => ?_)
def liverylaw01_VecUnits.T4 : Bool × List (List Nat × List Nat) := (true, [([], []), ([], []), ([1], [1]), ([2], [2]), ([], []), ([4], [4]), ([3, 5], [3, 5]), ([], []), ([7], [7]), ([8], [8]), ([9], [9]), ([6, 10], [6, 10]), ([0, 11], [0, 11]), ([12, 11], [12]), ([13], [13]), ([14], [14]), ([14], [14]), ([], []), ([17, 15, 13, 0, 1, 2, 3, 4, 5, 6, 7, 8, 9, 10, 11, 12, 13, 14, 15, 17], [15, 17]), ([16, 18, 0, 1, 2, 3, 4, 5, 6, 7, 8, 9, 10, 11, 12, 13, 14, 15, 16, 17, 18], [16])])
def liverylaw01_VecUnits.B4 : List Nat := [0, 0, 2, 6, 0, 16, 62, 0, 128, 384, 896, 2046, 4095, 8191, 16383, 32767, 32767, 0, 196607, 524287]
theorem liverylaw01_VecUnits.tab4 : rtab .any (opsOf Try.f6 4) = liverylaw01_VecUnits.T4 := by kernel_rfl
theorem liverylaw01_VecUnits.bits4 : waitsOk liverylaw01_VecUnits.T4.2 liverylaw01_VecUnits.B4 = true := by kernel_rfl
set_option maxHeartbeats 8000000 in
set_option maxRecDepth 100000 in
theorem liverylaw01_VecUnits.calls (k : Nat) (a0_0 : Int) (a0_1 : Int) (a1 : Int) (a2_0 : Int) (a2_1 : Int) (r : Bool) (w : World) (h : liverylaw01_VecUnits.f k a0_0 a0_1 a1 a2_0 a2_1 = some r) :
  Calls Try.prog 6 #[.agg #[.int .i64 a0_0, .int .i64 a0_1], .int .u32 a1, .agg #[.int .i64 a2_0, .int .i64 a2_1]] w fun e w' => e = .returned (.bool r) ∧ Below w.heap.size w w' := by
 have hu23 := Try.underlying23
 have HB := XPrint.A0 (Below.refl w.heap.size w)
 have H : ((liverylaw01_of.f (1 + ((mx a0_0 0) % 1048576)) (1 + ((mx a0_1 0) % 1048576))).bind fun bt301 => ((vec_Scale.f bt301.1 bt301.2 (wrap64 (Int.tmod a1 1048576))).bind fun bt304 => (if bt301.1 = 0 then (none) else ((liverylaw01_of.f ((mx a2_0 0) % bt301.1) ((mx a2_1 0) % 1048576)).bind fun bt308 => ((vec_Add.f k (([(⟨bt304.1, bt304.2.1⟩ : S23), (⟨bt308.1, bt308.2⟩ : S23)] : List (S23)))).bind fun bt313 => ((vec_Units.f k bt313.1 bt313.2.1 bt301.1 bt301.2).bind fun bt317 => ((vec_Scale.f bt301.1 bt301.2 (wrap64 (bt317.1 + 1))).bind fun bt319 => ((vec_Scale.f bt301.1 bt301.2 bt317.1).bind fun bt323 => (if bt304.2.2 = 0 then (if bt313.2.2 = 0 then (if bt317.2 = 0 then (if bt319.2.2 = 0 then (if bt323.2.2 = 0 then (if bt317.1 = (wrap64 (Int.tmod a1 1048576)) then ((vec_LE.f bt323.1 bt323.2.1 bt313.1 bt313.2.1).bind fun t327 => (if t327 = true then ((vec_LE.f bt319.1 bt319.2.1 bt313.1 bt313.2.1).bind fun t328 => (if t328 = true then (none) else ((liverylaw01_head.f k).bind fun t329 => (some t329)))) else (none))) else (none)) else (none)) else (none)) else (none)) else (none)) else (none)))))))))) = some r := h
 clear h
 obtain ⟨ji4, hji4⟩ : ∃ j_ : Int, (mx a0_0 0) = j_ := ⟨_, rfl⟩
 have hjl4 : 0 ≤ ji4 := by rw [← hji4]; unfold mx; split <;> omega
 replace H : ((liverylaw01_of.f (1 + ((ji4) % 1048576)) (1 + ((mx a0_1 0) % 1048576))).bind fun bt301 => ((vec_Scale.f bt301.1 bt301.2 (wrap64 (Int.tmod a1 1048576))).bind fun bt304 => (if bt301.1 = 0 then (none) else ((liverylaw01_of.f ((mx a2_0 0) % bt301.1) ((mx a2_1 0) % 1048576)).bind fun bt308 => ((vec_Add.f k (([(⟨bt304.1, bt304.2.1⟩ : S23), (⟨bt308.1, bt308.2⟩ : S23)] : List (S23)))).bind fun bt313 => ((vec_Units.f k bt313.1 bt313.2.1 bt301.1 bt301.2).bind fun bt317 => ((vec_Scale.f bt301.1 bt301.2 (wrap64 (bt317.1 + 1))).bind fun bt319 => ((vec_Scale.f bt301.1 bt301.2 bt317.1).bind fun bt323 => (if bt304.2.2 = 0 then (if bt313.2.2 = 0 then (if bt317.2 = 0 then (if bt319.2.2 = 0 then (if bt323.2.2 = 0 then (if bt317.1 = (wrap64 (Int.tmod a1 1048576)) then ((vec_LE.f bt323.1 bt323.2.1 bt313.1 bt313.2.1).bind fun t327 => (if t327 = true then ((vec_LE.f bt319.1 bt319.2.1 bt313.1 bt313.2.1).bind fun t328 => (if t328 = true then (none) else ((liverylaw01_head.f k).bind fun t329 => (some t329)))) else (none))) else (none)) else (none)) else (none)) else (none)) else (none)) else (none)))))))))) = some r := by first | (rw [hji4] at H; exact H) | (simp only [hji4] at H ⊢; exact H)
 (try (have hji4l : 0 ≤ ji4 := by (rw [← hji4]; unfold mx; (repeat' split) <;> omega)))
 (try (have hji4m : 0 ≤ ji4 := by omega))
 have hji4_ : (if a0_0 < 0 then 0 else a0_0) = ji4 := hji4
 obtain ⟨ji5, hji5⟩ : ∃ j_ : Int, (mx a0_1 0) = j_ := ⟨_, rfl⟩
 have hjl5 : 0 ≤ ji5 := by rw [← hji5]; unfold mx; split <;> omega
 replace H : ((liverylaw01_of.f (1 + ((ji4) % 1048576)) (1 + ((ji5) % 1048576))).bind fun bt301 => ((vec_Scale.f bt301.1 bt301.2 (wrap64 (Int.tmod a1 1048576))).bind fun bt304 => (if bt301.1 = 0 then (none) else ((liverylaw01_of.f ((mx a2_0 0) % bt301.1) ((mx a2_1 0) % 1048576)).bind fun bt308 => ((vec_Add.f k (([(⟨bt304.1, bt304.2.1⟩ : S23), (⟨bt308.1, bt308.2⟩ : S23)] : List (S23)))).bind fun bt313 => ((vec_Units.f k bt313.1 bt313.2.1 bt301.1 bt301.2).bind fun bt317 => ((vec_Scale.f bt301.1 bt301.2 (wrap64 (bt317.1 + 1))).bind fun bt319 => ((vec_Scale.f bt301.1 bt301.2 bt317.1).bind fun bt323 => (if bt304.2.2 = 0 then (if bt313.2.2 = 0 then (if bt317.2 = 0 then (if bt319.2.2 = 0 then (if bt323.2.2 = 0 then (if bt317.1 = (wrap64 (Int.tmod a1 1048576)) then ((vec_LE.f bt323.1 bt323.2.1 bt313.1 bt313.2.1).bind fun t327 => (if t327 = true then ((vec_LE.f bt319.1 bt319.2.1 bt313.1 bt313.2.1).bind fun t328 => (if t328 = true then (none) else ((liverylaw01_head.f k).bind fun t329 => (some t329)))) else (none))) else (none)) else (none)) else (none)) else (none)) else (none)) else (none)))))))))) = some r := by first | (rw [hji5] at H; exact H) | (simp only [hji5] at H ⊢; exact H)
 (try (have hji5l : 0 ≤ ji5 := by (rw [← hji5]; unfold mx; (repeat' split) <;> omega)))
 (try (have hji5m : 0 ≤ ji5 := by omega))
 have hji5_ : (if a0_1 < 0 then 0 else a0_1) = ji5 := hji5
 replace H := Option.bind_eq_some_iff.mp H
 obtain ⟨⟨t301, t302⟩, A60, H⟩ := H
 replace H : ((vec_Scale.f t301 t302 (wrap64 (Int.tmod a1 1048576))).bind fun bt304 => (if t301 = 0 then (none) else ((liverylaw01_of.f ((mx a2_0 0) % t301) ((mx a2_1 0) % 1048576)).bind fun bt308 => ((vec_Add.f k (([(⟨bt304.1, bt304.2.1⟩ : S23), (⟨bt308.1, bt308.2⟩ : S23)] : List (S23)))).bind fun bt313 => ((vec_Units.f k bt313.1 bt313.2.1 t301 t302).bind fun bt317 => ((vec_Scale.f t301 t302 (wrap64 (bt317.1 + 1))).bind fun bt319 => ((vec_Scale.f t301 t302 bt317.1).bind fun bt323 => (if bt304.2.2 = 0 then (if bt313.2.2 = 0 then (if bt317.2 = 0 then (if bt319.2.2 = 0 then (if bt323.2.2 = 0 then (if bt317.1 = (wrap64 (Int.tmod a1 1048576)) then ((vec_LE.f bt323.1 bt323.2.1 bt313.1 bt313.2.1).bind fun t327 => (if t327 = true then ((vec_LE.f bt319.1 bt319.2.1 bt313.1 bt313.2.1).bind fun t328 => (if t328 = true then (none) else ((liverylaw01_head.f k).bind fun t329 => (some t329)))) else (none))) else (none)) else (none)) else (none)) else (none)) else (none)) else (none))))))))) = some r := H
 have A6 := XPrint.A0 A60
 clear A60
 replace H := Option.bind_eq_some_iff.mp H
 obtain ⟨⟨t304, t305, t306⟩, A70, H⟩ := H
 replace H : (if t301 = 0 then (none) else ((liverylaw01_of.f ((mx a2_0 0) % t301) ((mx a2_1 0) % 1048576)).bind fun bt308 => ((vec_Add.f k (([(⟨t304, t305⟩ : S23), (⟨bt308.1, bt308.2⟩ : S23)] : List (S23)))).bind fun bt313 => ((vec_Units.f k bt313.1 bt313.2.1 t301 t302).bind fun bt317 => ((vec_Scale.f t301 t302 (wrap64 (bt317.1 + 1))).bind fun bt319 => ((vec_Scale.f t301 t302 bt317.1).bind fun bt323 => (if t306 = 0 then (if bt313.2.2 = 0 then (if bt317.2 = 0 then (if bt319.2.2 = 0 then (if bt323.2.2 = 0 then (if bt317.1 = (wrap64 (Int.tmod a1 1048576)) then ((vec_LE.f bt323.1 bt323.2.1 bt313.1 bt313.2.1).bind fun t327 => (if t327 = true then ((vec_LE.f bt319.1 bt319.2.1 bt313.1 bt313.2.1).bind fun t328 => (if t328 = true then (none) else ((liverylaw01_head.f k).bind fun t329 => (some t329)))) else (none))) else (none)) else (none)) else (none)) else (none)) else (none)) else (none)))))))) = some r := H
 have A7 := XPrint.A0 A70
 clear A70
 obtain ⟨ji8, hji8⟩ : ∃ j_ : Int, (mx a2_0 0) = j_ := ⟨_, rfl⟩
 have hjl8 : 0 ≤ ji8 := by rw [← hji8]; unfold mx; split <;> omega
 replace H : (if t301 = 0 then (none) else ((liverylaw01_of.f ((ji8) % t301) ((mx a2_1 0) % 1048576)).bind fun bt308 => ((vec_Add.f k (([(⟨t304, t305⟩ : S23), (⟨bt308.1, bt308.2⟩ : S23)] : List (S23)))).bind fun bt313 => ((vec_Units.f k bt313.1 bt313.2.1 t301 t302).bind fun bt317 => ((vec_Scale.f t301 t302 (wrap64 (bt317.1 + 1))).bind fun bt319 => ((vec_Scale.f t301 t302 bt317.1).bind fun bt323 => (if t306 = 0 then (if bt313.2.2 = 0 then (if bt317.2 = 0 then (if bt319.2.2 = 0 then (if bt323.2.2 = 0 then (if bt317.1 = (wrap64 (Int.tmod a1 1048576)) then ((vec_LE.f bt323.1 bt323.2.1 bt313.1 bt313.2.1).bind fun t327 => (if t327 = true then ((vec_LE.f bt319.1 bt319.2.1 bt313.1 bt313.2.1).bind fun t328 => (if t328 = true then (none) else ((liverylaw01_head.f k).bind fun t329 => (some t329)))) else (none))) else (none)) else (none)) else (none)) else (none)) else (none)) else (none)))))))) = some r := by first | (rw [hji8] at H; exact H) | (simp only [hji8] at H ⊢; exact H)
 (try rw [hji8] at A6)
 (try rw [hji8] at A7)
 (try (have hji8l : 0 ≤ ji8 := by (rw [← hji8]; unfold mx; (repeat' split) <;> omega)))
 (try (have hji8m : 0 ≤ ji8 := by omega))
 have hji8_ : (if a2_0 < 0 then 0 else a2_0) = ji8 := hji8
 by_cases c9 : t301 = 0
 ·rw [if_pos c9] at H
  exact absurd H (by simp)
 ·rw [if_neg c9] at H
  have c9b0 : (t301 == 0) = false := beq_eq_false_iff_ne.mpr c9
  have c9b1 : (t301 != 0) = true := bne_iff_ne.mpr c9
  obtain ⟨ji10, hji10⟩ : ∃ j_ : Int, (mx a2_1 0) = j_ := ⟨_, rfl⟩
  have hjl10 : 0 ≤ ji10 := by rw [← hji10]; unfold mx; split <;> omega
  replace H : ((liverylaw01_of.f ((ji8) % t301) ((ji10) % 1048576)).bind fun bt308 => ((vec_Add.f k (([(⟨t304, t305⟩ : S23), (⟨bt308.1, bt308.2⟩ : S23)] : List (S23)))).bind fun bt313 => ((vec_Units.f k bt313.1 bt313.2.1 t301 t302).bind fun bt317 => ((vec_Scale.f t301 t302 (wrap64 (bt317.1 + 1))).bind fun bt319 => ((vec_Scale.f t301 t302 bt317.1).bind fun bt323 => (if t306 = 0 then (if bt313.2.2 = 0 then (if bt317.2 = 0 then (if bt319.2.2 = 0 then (if bt323.2.2 = 0 then (if bt317.1 = (wrap64 (Int.tmod a1 1048576)) then ((vec_LE.f bt323.1 bt323.2.1 bt313.1 bt313.2.1).bind fun t327 => (if t327 = true then ((vec_LE.f bt319.1 bt319.2.1 bt313.1 bt313.2.1).bind fun t328 => (if t328 = true then (none) else ((liverylaw01_head.f k).bind fun t329 => (some t329)))) else (none))) else (none)) else (none)) else (none)) else (none)) else (none)) else (none))))))) = some r := by first | (rw [hji10] at H; exact H) | (simp only [hji10] at H ⊢; exact H)
  (try rw [hji10] at A6)
  (try rw [hji10] at A7)
  (try (have hji10l : 0 ≤ ji10 := by (rw [← hji10]; unfold mx; (repeat' split) <;> omega)))
  (try (have hji10m : 0 ≤ ji10 := by omega))
  have hji10_ : (if a2_1 < 0 then 0 else a2_1) = ji10 := hji10
  replace H := Option.bind_eq_some_iff.mp H
  obtain ⟨⟨t308, t309⟩, A110, H⟩ := H
  replace H : ((vec_Add.f k (([(⟨t304, t305⟩ : S23), (⟨t308, t309⟩ : S23)] : List (S23)))).bind fun bt313 => ((vec_Units.f k bt313.1 bt313.2.1 t301 t302).bind fun bt317 => ((vec_Scale.f t301 t302 (wrap64 (bt317.1 + 1))).bind fun bt319 => ((vec_Scale.f t301 t302 bt317.1).bind fun bt323 => (if t306 = 0 then (if bt313.2.2 = 0 then (if bt317.2 = 0 then (if bt319.2.2 = 0 then (if bt323.2.2 = 0 then (if bt317.1 = (wrap64 (Int.tmod a1 1048576)) then ((vec_LE.f bt323.1 bt323.2.1 bt313.1 bt313.2.1).bind fun t327 => (if t327 = true then ((vec_LE.f bt319.1 bt319.2.1 bt313.1 bt313.2.1).bind fun t328 => (if t328 = true then (none) else ((liverylaw01_head.f k).bind fun t329 => (some t329)))) else (none))) else (none)) else (none)) else (none)) else (none)) else (none)) else (none)))))) = some r := H
  have A11 := XPrint.A0 A110
  clear A110
  obtain ⟨y310, hy310⟩ : ∃ y_ : List (S23), y_ = (([(⟨t304, t305⟩ : S23), (⟨t308, t309⟩ : S23)] : List (S23))) := ⟨_, rfl⟩
  replace H : ((vec_Add.f k y310).bind fun bt313 => ((vec_Units.f k bt313.1 bt313.2.1 t301 t302).bind fun bt317 => ((vec_Scale.f t301 t302 (wrap64 (bt317.1 + 1))).bind fun bt319 => ((vec_Scale.f t301 t302 bt317.1).bind fun bt323 => (if t306 = 0 then (if bt313.2.2 = 0 then (if bt317.2 = 0 then (if bt319.2.2 = 0 then (if bt323.2.2 = 0 then (if bt317.1 = (wrap64 (Int.tmod a1 1048576)) then ((vec_LE.f bt323.1 bt323.2.1 bt313.1 bt313.2.1).bind fun t327 => (if t327 = true then ((vec_LE.f bt319.1 bt319.2.1 bt313.1 bt313.2.1).bind fun t328 => (if t328 = true then (none) else ((liverylaw01_head.f k).bind fun t329 => (some t329)))) else (none))) else (none)) else (none)) else (none)) else (none)) else (none)) else (none)))))) = some r := by first | (rw [hy310]; with_reducible exact H) | (have H2_ := (Option.bind_some _ _).symm.trans H; rw [hy310]; with_reducible exact H2_) | (have H2_ := (Option.bind_some _ _).symm.trans H; with_reducible exact H2_) | with_reducible exact H | (rw [hy310]; exact H) | exact H
  have Ny310 := XPrint.A0 hy310
  clear hy310
  replace H := Option.bind_eq_some_iff.mp H
  obtain ⟨⟨t313, t314, t315⟩, A120, H⟩ := H
  replace H : ((vec_Units.f k t313 t314 t301 t302).bind fun bt317 => ((vec_Scale.f t301 t302 (wrap64 (bt317.1 + 1))).bind fun bt319 => ((vec_Scale.f t301 t302 bt317.1).bind fun bt323 => (if t306 = 0 then (if t315 = 0 then (if bt317.2 = 0 then (if bt319.2.2 = 0 then (if bt323.2.2 = 0 then (if bt317.1 = (wrap64 (Int.tmod a1 1048576)) then ((vec_LE.f bt323.1 bt323.2.1 t313 t314).bind fun t327 => (if t327 = true then ((vec_LE.f bt319.1 bt319.2.1 t313 t314).bind fun t328 => (if t328 = true then (none) else ((liverylaw01_head.f k).bind fun t329 => (some t329)))) else (none))) else (none)) else (none)) else (none)) else (none)) else (none)) else (none))))) = some r := H
  have A12 := XPrint.A0 A120
  clear A120
  replace H := Option.bind_eq_some_iff.mp H
  obtain ⟨⟨t317, t318⟩, A130, H⟩ := H
  replace H : ((vec_Scale.f t301 t302 (wrap64 (t317 + 1))).bind fun bt319 => ((vec_Scale.f t301 t302 t317).bind fun bt323 => (if t306 = 0 then (if t315 = 0 then (if t318 = 0 then (if bt319.2.2 = 0 then (if bt323.2.2 = 0 then (if t317 = (wrap64 (Int.tmod a1 1048576)) then ((vec_LE.f bt323.1 bt323.2.1 t313 t314).bind fun t327 => (if t327 = true then ((vec_LE.f bt319.1 bt319.2.1 t313 t314).bind fun t328 => (if t328 = true then (none) else ((liverylaw01_head.f k).bind fun t329 => (some t329)))) else (none))) else (none)) else (none)) else (none)) else (none)) else (none)) else (none)))) = some r := H
  have A13 := XPrint.A0 A130
  clear A130
  replace H := Option.bind_eq_some_iff.mp H
  obtain ⟨⟨t319, t320, t321⟩, A140, H⟩ := H
  replace H : ((vec_Scale.f t301 t302 t317).bind fun bt323 => (if t306 = 0 then (if t315 = 0 then (if t318 = 0 then (if t321 = 0 then (if bt323.2.2 = 0 then (if t317 = (wrap64 (Int.tmod a1 1048576)) then ((vec_LE.f bt323.1 bt323.2.1 t313 t314).bind fun t327 => (if t327 = true then ((vec_LE.f t319 t320 t313 t314).bind fun t328 => (if t328 = true then (none) else ((liverylaw01_head.f k).bind fun t329 => (some t329)))) else (none))) else (none)) else (none)) else (none)) else (none)) else (none)) else (none))) = some r := H
  have A14 := XPrint.A0 A140
  clear A140
  replace H := Option.bind_eq_some_iff.mp H
  obtain ⟨⟨t323, t324, t325⟩, A150, H⟩ := H
  replace H : (if t306 = 0 then (if t315 = 0 then (if t318 = 0 then (if t321 = 0 then (if t325 = 0 then (if t317 = (wrap64 (Int.tmod a1 1048576)) then ((vec_LE.f t323 t324 t313 t314).bind fun t327 => (if t327 = true then ((vec_LE.f t319 t320 t313 t314).bind fun t328 => (if t328 = true then (none) else ((liverylaw01_head.f k).bind fun t329 => (some t329)))) else (none))) else (none)) else (none)) else (none)) else (none)) else (none)) else (none)) = some r := H
  have A15 := XPrint.A0 A150
  clear A150
  by_cases c16 : t306 = 0
  ·rw [if_pos c16] at H
   have c16b0 : (t306 == 0) = true := beq_iff_eq.mpr c16
   have c16b1 : (t306 != 0) = false := bne_eq_false_iff_eq.mpr c16
   clear c16
   by_cases c17 : t315 = 0
   ·rw [if_pos c17] at H
    have c17b0 : (t315 == 0) = true := beq_iff_eq.mpr c17
    have c17b1 : (t315 != 0) = false := bne_eq_false_iff_eq.mpr c17
    clear c17
    by_cases c18 : t318 = 0
    ·rw [if_pos c18] at H
     have c18b0 : (t318 == 0) = true := beq_iff_eq.mpr c18
     have c18b1 : (t318 != 0) = false := bne_eq_false_iff_eq.mpr c18
     clear c18
     by_cases c19 : t321 = 0
     ·rw [if_pos c19] at H
      have c19b0 : (t321 == 0) = true := beq_iff_eq.mpr c19
      have c19b1 : (t321 != 0) = false := bne_eq_false_iff_eq.mpr c19
      clear c19
      by_cases c20 : t325 = 0
      ·rw [if_pos c20] at H
       have c20b0 : (t325 == 0) = true := beq_iff_eq.mpr c20
       have c20b1 : (t325 != 0) = false := bne_eq_false_iff_eq.mpr c20
       clear c20
       by_cases c21 : t317 = (wrap64 (Int.tmod a1 1048576))
       ·rw [if_pos c21] at H
        have c21b0 : (t317 == (wrap64 (Int.tmod a1 1048576))) = true := beq_iff_eq.mpr c21
        have c21b1 : (t317 != (wrap64 (Int.tmod a1 1048576))) = false := bne_eq_false_iff_eq.mpr c21
        clear c21
        replace H := Option.bind_eq_some_iff.mp H
        obtain ⟨t327, A220, H⟩ := H
        replace H : (if t327 = true then ((vec_LE.f t319 t320 t313 t314).bind fun t328 => (if t328 = true then (none) else ((liverylaw01_head.f k).bind fun t329 => (some t329)))) else (none)) = some r := H
        have A22 := XPrint.A0 A220
        clear A220
        by_cases c23 : t327 = true
        ·subst c23
         have H1 : ((vec_LE.f t319 t320 t313 t314).bind fun t328 => (if t328 = true then (none) else ((liverylaw01_head.f k).bind fun t329 => (some t329)))) = some r := by rw [if_pos rfl] at H; exact H
         clear H
         have H := H1
         clear H1
         replace H := Option.bind_eq_some_iff.mp H
         obtain ⟨t328, A240, H⟩ := H
         replace H : (if t328 = true then (none) else ((liverylaw01_head.f k).bind fun t329 => (some t329))) = some r := H
         have A24 := XPrint.A0 A240
         clear A240
         by_cases c25 : t328 = true
         ·subst c25
          have H1 : (none) = some r := by rw [if_pos rfl] at H; exact H
          clear H
          have H := H1
          clear H1
          exact absurd H (by simp)
         ·replace c25 := Bool.eq_false_iff.mpr c25
          subst c25
          have H1 : ((liverylaw01_head.f k).bind fun t329 => (some t329)) = some r := by rw [if_neg (show ¬ (false = true) by decide)] at H; exact H
          clear H
          have H := H1
          clear H1
          replace H := Option.bind_eq_some_iff.mp H
          obtain ⟨t329, A260, H⟩ := H
          replace H : (some t329) = some r := H
          have A26 := XPrint.A0 A260
          clear A260
          obtain rfl := Option.some.inj H
          go_enter Try.func6, Try.ntmps6
          try go_wp2_with (first | ((with_reducible refine gate_dst (N := 3) rfl ?_); refine box_event ?hg (N := 3) ?hd (cs := #[.int .i64 a0_0, .int .i64 a0_1]) (t := 23) ?hr ?_; (case hd => rfl); (case hg => rfl); (case hr => first | (go_simp; done) | (go_simp; rfl)); intro gb299 hg w27 hbox hb; have n0_ := XPrint.A0 (below_step (by exact XPrint.bz HB.out) hb); have n1_ := XPrint.A0 (hbox); have n2_ := XPrint.A0 ((by rw [hg]; exact (below_size (by exact XPrint.bz HB.out)) : w.heap.size ≤ gb299)); have n3_ := XPrint.A0 ((by rw [hg]; exact (below_size (by exact XPrint.bz HB.out)) : w.heap.size ≤ gb299)); clear HB; have HB := n0_; have BK299 := n1_; have GW299 := n2_; have GE299 := n3_; clear n0_ n1_ n2_ n3_; clear hb hbox hg) | ((with_reducible refine gate_dst (N := 5) rfl ?_); refine box_event ?hg (N := 5) ?hd (cs := #[.int .i64 a2_0, .int .i64 a2_1]) (t := 23) ?hr ?_; (case hd => rfl); (case hg => rfl); (case hr => first | (go_simp; done) | (go_simp; rfl)); intro gb300 hg w28 hbox hb; have n0_ := XPrint.A0 (XPrint.bb BK299.out hb); have n1_ := XPrint.A0 (below_step (by exact XPrint.bz HB.out) hb); have n2_ := XPrint.A0 (hbox); have n3_ := XPrint.A0 ((by rw [hg]; exact (below_size (by exact XPrint.bz HB.out)) : w.heap.size ≤ gb300)); have n4_ := XPrint.A0 ((by rw [hg]; exact (below_size (by exact XPrint.bz HB.out)) : w.heap.size ≤ gb300)); have n5_ := XPrint.A0 ((by rw [hg]; exact Nat.ne_of_lt (XPrint.bl BK299.out) : gb299 ≠ gb300)); have n6_ := XPrint.A0 ((by rw [hg]; exact Nat.ne_of_gt (XPrint.bl BK299.out) : gb300 ≠ gb299)); clear BK299; clear HB; have BK299 := n0_; have HB := n1_; have BK300 := n2_; have GW300 := n3_; have GE300 := n4_; have NB299_300 := n5_; have NB300_299 := n6_; clear n0_ n1_ n2_ n3_ n4_ n5_ n6_; clear hb hbox hg; have hnb29 := NB299_300.out; have hnc29 := NB300_299.out; have hcz30_0 : w28.cell? ⟨gb299, 0, none⟩ = some (.int .i64 a0_0) := (blk_cell BK299.out 0).trans rfl; have hcz30_1 : w28.cell? ⟨gb299, 1, none⟩ = some (.int .i64 a0_1) := (blk_cell BK299.out 1).trans rfl; have hfz30_0 := blk_frozen BK299.out 0; have hfz30_1 := blk_frozen BK299.out 1) | ((with_reducible refine gate_callee (f := 31) rfl ?_); refine goesL_ (some 29) rfl rfl Try.func31 (by kernel_rfl) rfl #[.int .i64 (1 + ((ji4) % 1048576)), .int .i64 (1 + ((ji5) % 1048576))] rfl (by (try simp only [List.map_toArray, List.map_cons, List.map_nil]); first | done | (simp only [Int.tmod_eq_emod_of_nonneg hjl4, Int.tmod_eq_emod_of_nonneg hjl5]; rfl) | (simp only [hji4, hji5]; rfl) | rfl | (simp only [List.length_drop, List.length_take]; rfl)) ?_; (with_reducible refine (liverylaw01_of.calls (1 + ((ji4) % 1048576)) (1 + ((ji5) % 1048576)) t301 t302 _ A6.out).mono ?_); rintro e w31 ⟨rfl, hb⟩; refine ⟨_, rfl, ?_⟩; have n0_ := XPrint.A0 (XPrint.bb BK299.out hb); have n1_ := XPrint.A0 (XPrint.bb BK300.out hb); have n2_ := XPrint.A0 (below_step (by exact XPrint.bz HB.out) hb); clear BK299; clear BK300; clear HB; have BK299 := n0_; have BK300 := n1_; have HB := n2_; clear n0_ n1_ n2_; (try clear hb); (try clear hb2); (try clear hk); (try clear hi)) | ((with_reducible refine gate_dst (N := 7) rfl ?_); refine box_event ?hg (N := 7) ?hd (cs := #[.int .i64 0, .int .i64 0]) (t := 23) ?hr ?_; (case hd => rfl); (case hg => rfl); (case hr => first | (go_simp; done) | (go_simp; rfl)); intro gb303 hg w32 hbox hb; have n0_ := XPrint.A0 (XPrint.bb BK299.out hb); have n1_ := XPrint.A0 (XPrint.bb BK300.out hb); have n2_ := XPrint.A0 (below_step (by exact XPrint.bz HB.out) hb); have n3_ := XPrint.A0 (hbox); have n4_ := XPrint.A0 ((by rw [hg]; exact (below_size (by exact XPrint.bz HB.out)) : w.heap.size ≤ gb303)); have n5_ := XPrint.A0 ((by rw [hg]; exact (below_size (by exact XPrint.bz HB.out)) : w.heap.size ≤ gb303)); have n6_ := XPrint.A0 ((by rw [hg]; exact Nat.ne_of_lt (XPrint.bl BK299.out) : gb299 ≠ gb303)); have n7_ := XPrint.A0 ((by rw [hg]; exact Nat.ne_of_gt (XPrint.bl BK299.out) : gb303 ≠ gb299)); have n8_ := XPrint.A0 ((by rw [hg]; exact Nat.ne_of_lt (XPrint.bl BK300.out) : gb300 ≠ gb303)); have n9_ := XPrint.A0 ((by rw [hg]; exact Nat.ne_of_gt (XPrint.bl BK300.out) : gb303 ≠ gb300)); clear BK299; clear BK300; clear HB; have BK299 := n0_; have BK300 := n1_; have HB := n2_; have BK303 := n3_; have GW303 := n4_; have GE303 := n5_; have NB299_303 := n6_; have NB303_299 := n7_; have NB300_303 := n8_; have NB303_300 := n9_; clear n0_ n1_ n2_ n3_ n4_ n5_ n6_ n7_ n8_ n9_; clear hb hbox hg; have hnb33 := NB303_299.out; have hnc33 := NB299_303.out; have hnb34 := NB303_300.out; have hnc34 := NB300_303.out; have hcz35_0 : w32.cell? ⟨gb303, 0, none⟩ = some (.int .i64 0) := (blk_cell BK303.out 0).trans rfl; have hcz35_1 : w32.cell? ⟨gb303, 1, none⟩ = some (.int .i64 0) := (blk_cell BK303.out 1).trans rfl; have hfz35_0 := blk_frozen BK303.out 0; have hfz35_1 := blk_frozen BK303.out 1) | ((with_reducible refine gate_callee (f := 16) rfl ?_); refine goesL_ (some 36) rfl rfl Try.func16 (by kernel_rfl) rfl #[.agg #[.int .i64 t301, .int .i64 t302], .int .i64 (wrap64 (Int.tmod a1 1048576))] rfl (by (try simp only [List.map_toArray, List.map_cons, List.map_nil]); first | done | rfl | (simp only [List.length_drop, List.length_take]; rfl)) ?_; (with_reducible refine (vec_Scale.calls t301 t302 (wrap64 (Int.tmod a1 1048576)) t304 t305 t306 _ A7.out).mono ?_); rintro e w36 ⟨rfl, hb⟩; refine ⟨_, rfl, ?_⟩; have n0_ := XPrint.A0 (blk_below (g := gb299) (o := .cells #[.int .i64 a0_0, .int .i64 a0_1] 23 (0, 0)) (by (with_reducible repeat (first | refine blk_drewN ?_ _ | refine blk_drew ?_ | refine blk_alloc ?_ _)); refine blk_far ?_ NB299_303.out _; (with_reducible repeat (first | refine blk_drewN ?_ _ | refine blk_drew ?_ | refine blk_alloc ?_ _)); refine blk_far ?_ NB299_303.out _; (with_reducible repeat (first | refine blk_drewN ?_ _ | refine blk_drew ?_ | refine blk_alloc ?_ _)); exact BK299.out) hb); have n1_ := XPrint.A0 (blk_below (g := gb300) (o := .cells #[.int .i64 a2_0, .int .i64 a2_1] 23 (0, 0)) (by (with_reducible repeat (first | refine blk_drewN ?_ _ | refine blk_drew ?_ | refine blk_alloc ?_ _)); refine blk_far ?_ NB300_303.out _; (with_reducible repeat (first | refine blk_drewN ?_ _ | refine blk_drew ?_ | refine blk_alloc ?_ _)); refine blk_far ?_ NB300_303.out _; (with_reducible repeat (first | refine blk_drewN ?_ _ | refine blk_drew ?_ | refine blk_alloc ?_ _)); exact BK300.out) hb); have n2_ := XPrint.A0 (blk_below (g := gb303) (o := .cells #[.int .i64 t301, .int .i64 t302] 23 (0, 0)) (by (with_reducible repeat (first | refine blk_drewN ?_ _ | refine blk_drew ?_ | refine blk_alloc ?_ _)); refine blk_put (cs := #[.int .i64 t301, .int .i64 0]) ?_ 1 _ rfl; (with_reducible repeat (first | refine blk_drewN ?_ _ | refine blk_drew ?_ | refine blk_alloc ?_ _)); refine blk_put (cs := #[.int .i64 0, .int .i64 0]) ?_ 0 _ rfl; (with_reducible repeat (first | refine blk_drewN ?_ _ | refine blk_drew ?_ | refine blk_alloc ?_ _)); exact BK303.out) hb); have n3_ := XPrint.A0 (below_step (by repeat (first | (with_reducible first | exact HB.out | apply below_alloc | apply pw_below_drewN | apply below_drew1 | refine below_set ?_ GE299.out | refine below_set ?_ GE300.out | refine below_set ?_ GE303.out) | exact HB.out)) hb); clear BK299; clear BK300; clear BK303; clear HB; have BK299 := n0_; have BK300 := n1_; have BK303 := n2_; have HB := n3_; clear n0_ n1_ n2_ n3_; (try clear hb); (try clear hb2); (try clear hk); (try clear hi)) | ((with_reducible refine gate_dst (N := 9) rfl ?_); refine box_event ?hg (N := 9) ?hd (cs := #[.int .i64 0, .int .i64 0]) (t := 23) ?hr ?_; (case hd => rfl); (case hg => rfl); (case hr => first | (go_simp; done) | (go_simp; rfl)); intro gb307 hg w37 hbox hb; have n0_ := XPrint.A0 (XPrint.bb BK299.out hb); have n1_ := XPrint.A0 (XPrint.bb BK300.out hb); have n2_ := XPrint.A0 (XPrint.bb BK303.out hb); have n3_ := XPrint.A0 (below_step (by exact XPrint.bz HB.out) hb); have n4_ := XPrint.A0 (hbox); have n5_ := XPrint.A0 ((by rw [hg]; exact (below_size (by exact XPrint.bz HB.out)) : w.heap.size ≤ gb307)); have n6_ := XPrint.A0 ((by rw [hg]; exact (below_size (by exact XPrint.bz HB.out)) : w.heap.size ≤ gb307)); have n7_ := XPrint.A0 ((by rw [hg]; exact Nat.ne_of_lt (XPrint.bl BK299.out) : gb299 ≠ gb307)); have n8_ := XPrint.A0 ((by rw [hg]; exact Nat.ne_of_gt (XPrint.bl BK299.out) : gb307 ≠ gb299)); have n9_ := XPrint.A0 ((by rw [hg]; exact Nat.ne_of_lt (XPrint.bl BK300.out) : gb300 ≠ gb307)); have n10_ := XPrint.A0 ((by rw [hg]; exact Nat.ne_of_gt (XPrint.bl BK300.out) : gb307 ≠ gb300)); have n11_ := XPrint.A0 ((by rw [hg]; exact Nat.ne_of_lt (XPrint.bl BK303.out) : gb303 ≠ gb307)); have n12_ := XPrint.A0 ((by rw [hg]; exact Nat.ne_of_gt (XPrint.bl BK303.out) : gb307 ≠ gb303)); clear BK299; clear BK300; clear BK303; clear HB; have BK299 := n0_; have BK300 := n1_; have BK303 := n2_; have HB := n3_; have BK307 := n4_; have GW307 := n5_; have GE307 := n6_; have NB299_307 := n7_; have NB307_299 := n8_; have NB300_307 := n9_; have NB307_300 := n10_; have NB303_307 := n11_; have NB307_303 := n12_; clear n0_ n1_ n2_ n3_ n4_ n5_ n6_ n7_ n8_ n9_ n10_ n11_ n12_; clear hb hbox hg; have hnb38 := NB307_299.out; have hnc38 := NB299_307.out; have hnb39 := NB307_300.out; have hnc39 := NB300_307.out; have hnb40 := NB307_303.out; have hnc40 := NB303_307.out; have hcz41_0 : w37.cell? ⟨gb307, 0, none⟩ = some (.int .i64 0) := (blk_cell BK307.out 0).trans rfl; have hcz41_1 : w37.cell? ⟨gb307, 1, none⟩ = some (.int .i64 0) := (blk_cell BK307.out 1).trans rfl; have hfz41_0 := blk_frozen BK307.out 0; have hfz41_1 := blk_frozen BK307.out 1))
          have n0_ : Aside0 (((w37.setCell ⟨gb307, 0, none⟩ (.int .i64 t304)).setCell ⟨gb307, 1, none⟩ (.int .i64 t305)).heap[gb299]? = some (.cells #[.int .i64 a0_0, .int .i64 a0_1] 23 (0, 0))) := ⟨by (with_reducible repeat (first | refine blk_drewN ?_ _ | refine blk_drew ?_ | refine blk_alloc ?_ _)); refine blk_far ?_ NB299_307.out _; (with_reducible repeat (first | refine blk_drewN ?_ _ | refine blk_drew ?_ | refine blk_alloc ?_ _)); refine blk_far ?_ NB299_307.out _; (with_reducible repeat (first | refine blk_drewN ?_ _ | refine blk_drew ?_ | refine blk_alloc ?_ _)); exact BK299.out⟩
          have n1_ : Aside0 (((w37.setCell ⟨gb307, 0, none⟩ (.int .i64 t304)).setCell ⟨gb307, 1, none⟩ (.int .i64 t305)).heap[gb300]? = some (.cells #[.int .i64 a2_0, .int .i64 a2_1] 23 (0, 0))) := ⟨by (with_reducible repeat (first | refine blk_drewN ?_ _ | refine blk_drew ?_ | refine blk_alloc ?_ _)); refine blk_far ?_ NB300_307.out _; (with_reducible repeat (first | refine blk_drewN ?_ _ | refine blk_drew ?_ | refine blk_alloc ?_ _)); refine blk_far ?_ NB300_307.out _; (with_reducible repeat (first | refine blk_drewN ?_ _ | refine blk_drew ?_ | refine blk_alloc ?_ _)); exact BK300.out⟩
          have n2_ : Aside0 (((w37.setCell ⟨gb307, 0, none⟩ (.int .i64 t304)).setCell ⟨gb307, 1, none⟩ (.int .i64 t305)).heap[gb303]? = some (.cells #[.int .i64 t301, .int .i64 t302] 23 (0, 0))) := ⟨by (with_reducible repeat (first | refine blk_drewN ?_ _ | refine blk_drew ?_ | refine blk_alloc ?_ _)); refine blk_far ?_ NB303_307.out _; (with_reducible repeat (first | refine blk_drewN ?_ _ | refine blk_drew ?_ | refine blk_alloc ?_ _)); refine blk_far ?_ NB303_307.out _; (with_reducible repeat (first | refine blk_drewN ?_ _ | refine blk_drew ?_ | refine blk_alloc ?_ _)); exact BK303.out⟩
          have n3_ : Aside0 (((w37.setCell ⟨gb307, 0, none⟩ (.int .i64 t304)).setCell ⟨gb307, 1, none⟩ (.int .i64 t305)).heap[gb307]? = some (.cells #[.int .i64 t304, .int .i64 t305] 23 (0, 0))) := ⟨by (with_reducible repeat (first | refine blk_drewN ?_ _ | refine blk_drew ?_ | refine blk_alloc ?_ _)); refine blk_put (cs := #[.int .i64 t304, .int .i64 0]) ?_ 1 _ rfl; (with_reducible repeat (first | refine blk_drewN ?_ _ | refine blk_drew ?_ | refine blk_alloc ?_ _)); refine blk_put (cs := #[.int .i64 0, .int .i64 0]) ?_ 0 _ rfl; (with_reducible repeat (first | refine blk_drewN ?_ _ | refine blk_drew ?_ | refine blk_alloc ?_ _)); exact BK307.out⟩
          have n4_ : Aside0 (Below w.heap.size w ((w37.setCell ⟨gb307, 0, none⟩ (.int .i64 t304)).setCell ⟨gb307, 1, none⟩ (.int .i64 t305))) := ⟨by repeat (first | (with_reducible first | exact HB.out | apply below_alloc | apply pw_below_drewN | apply below_drew1 | refine below_set ?_ GE299.out | refine below_set ?_ GE300.out | refine below_set ?_ GE303.out | refine below_set ?_ GE307.out) | exact HB.out)⟩
          (try clear BK299)
          (try clear BK300)
          (try clear BK303)
          (try clear BK307)
          (try clear HB)
          generalize ((w37.setCell ⟨gb307, 0, none⟩ (.int .i64 t304)).setCell ⟨gb307, 1, none⟩ (.int .i64 t305)) = w42 at n0_ n1_ n2_ n3_ n4_ ⊢
          have BK299 := n0_; have BK300 := n1_; have BK303 := n2_; have BK307 := n3_; have HB := n4_
          clear n0_ n1_ n2_ n3_ n4_
          have n0_ := XPrint.A0 (blk_drew BK299.out)
          have n1_ := XPrint.A0 (blk_drew BK300.out)
          have n2_ := XPrint.A0 (blk_drew BK303.out)
          have n3_ := XPrint.A0 (blk_drew BK307.out)
          have n4_ := XPrint.A0 (below_drew1 HB.out)
          clear BK299 BK300 BK303 BK307 HB
          have BK299 := n0_; have BK300 := n1_; have BK303 := n2_; have BK307 := n3_; have HB := n4_
          clear n0_ n1_ n2_ n3_ n4_
          refine start_ (n := 20) (S := fun w' => w'.cell? ⟨gb307, 0, none⟩ = some (.int .i64 t304) ∧ w'.cell? ⟨gb307, 1, none⟩ = some (.int .i64 t305) ∧ w'.cell? ⟨gb300, 0, none⟩ = some (.int .i64 a2_0) ∧ w'.cell? ⟨gb300, 1, none⟩ = some (.int .i64 a2_1) ∧ w'.cell? ⟨gb303, 0, none⟩ = some (.int .i64 t301) ∧ w'.cell? ⟨gb303, 1, none⟩ = some (.int .i64 t302)) (ds := []) #[false, false, false, false, false, false, false, false, false, false, false, false, false, false, false, false, false, false, false, false] (by kernel_rfl) rfl rfl ⟨(blk_cell BK307.out 0).trans rfl, (blk_cell BK307.out 1).trans rfl, (blk_cell BK300.out 0).trans rfl, (blk_cell BK300.out 1).trans rfl, (blk_cell BK303.out 0).trans rfl, (blk_cell BK303.out 1).trans rfl⟩ (fun hHeld => ?_); refine with_tabW liverylaw01_VecUnits.tab4 liverylaw01_VecUnits.bits4 (fun HT_ HW_ => ?_)
          generalize w42.drew = w43 at BK299 BK300 BK303 BK307 HB hHeld ⊢
          refine pure_ (i := 1) (N := some 41) (v := ?_) (a' := ?_) #[false, true, false, false, false, false, false, false, false, false, false, false, false, false, false, false, false, false, false, false] rfl rfl (any_of HT_.out (by kernel_rfl)) (fun _ _ _ h => h) (Or.inl ⟨by rfl, ?_⟩) ?_ ?_
          rotate_left
          ·intro w'
           go_simp
           with_reducible rfl
          rotate_left
          ·simp only [Act.put, List.setIfInBounds_toArray, List.set_cons_zero, List.set_cons_succ, i64_w, i32_w]
           rfl
          refine pure_ (i := 4) (N := some 44) (v := ?_) (a' := ?_) #[false, true, false, false, true, false, false, false, false, false, false, false, false, false, false, false, false, false, false, false] rfl rfl (any_of HT_.out (by kernel_rfl)) (fun _ _ _ h => h) (Or.inl ⟨by rfl, ?_⟩) ?_ ?_
          rotate_left
          ·intro w'
           go_simp
           with_reducible rfl
          rotate_left
          ·simp only [Act.put, List.setIfInBounds_toArray, List.set_cons_zero, List.set_cons_succ, i64_w, i32_w]
           rfl
          refine pure_ (i := 7) (N := some 47) (v := ?_) (a' := ?_) #[false, true, false, false, true, false, false, true, false, false, false, false, false, false, false, false, false, false, false, false] rfl rfl (any_of HT_.out (by kernel_rfl)) (fun _ _ _ h => h) (Or.inl ⟨by rfl, ?_⟩) ?_ ?_
          rotate_left
          ·intro w'
           go_simp
           with_reducible rfl
          rotate_left
          ·simp only [Act.put, List.setIfInBounds_toArray, List.set_cons_zero, List.set_cons_succ, i64_w, i32_w]
           rfl
          refine take_ (i := 0) (N := some 40) (v := ?_) (a' := ?_) #[true, true, false, false, true, false, false, true, false, false, false, false, false, false, false, false, false, false, false, false] rfl rfl (take_ofW HT_.out HW_.out (by kernel_rfl)) (fun _ _ _ h => h) (Or.inl ⟨by rfl, ?_⟩) hHeld ?_ ?_
          rotate_left
          ·rintro w' ⟨s0, s1, s2, s3, s4, s5⟩
           go_simp
           with_reducible rfl
          rotate_left
          ·simp only [Act.put, List.setIfInBounds_toArray, List.set_cons_zero, List.set_cons_succ, i64_w, i32_w]
           rfl
          refine take_ (i := 2) (N := some 42) (v := ?_) (a' := ?_) #[true, true, true, false, true, false, false, true, false, false, false, false, false, false, false, false, false, false, false, false] rfl rfl (take_ofW HT_.out HW_.out (by kernel_rfl)) (fun _ _ _ h => h) (Or.inl ⟨by rfl, ?_⟩) hHeld ?_ ?_
          rotate_left
          ·rintro w' ⟨s0, s1, s2, s3, s4, s5⟩
           go_simp
           with_reducible rfl
          rotate_left
          ·simp only [Act.put, List.setIfInBounds_toArray, List.set_cons_zero, List.set_cons_succ, i64_w, i32_w]
           rfl
          refine pure_ (i := 3) (N := some 43) (v := ?_) (a' := ?_) #[true, true, true, true, true, false, false, true, false, false, false, false, false, false, false, false, false, false, false, false] rfl rfl (any_of HT_.out (by kernel_rfl)) (fun _ _ _ h => h) (Or.inl ⟨by rfl, ?_⟩) ?_ ?_
          rotate_left
          ·intro w'
           go_simp
           with_reducible rfl
          rotate_left
          ·simp only [Act.put, List.setIfInBounds_toArray, List.set_cons_zero, List.set_cons_succ, i64_w, i32_w]
           rfl
          refine take_ (i := 5) (N := some 45) (v := ?_) (a' := ?_) #[true, true, true, true, true, true, false, true, false, false, false, false, false, false, false, false, false, false, false, false] rfl rfl (take_ofW HT_.out HW_.out (by kernel_rfl)) (fun _ _ _ h => h) (Or.inl ⟨by rfl, ?_⟩) hHeld ?_ ?_
          rotate_left
          ·rintro w' ⟨s0, s1, s2, s3, s4, s5⟩
           go_simp
           with_reducible rfl
          rotate_left
          ·simp only [Act.put, List.setIfInBounds_toArray, List.set_cons_zero, List.set_cons_succ, i64_w, i32_w]
           rfl
          refine pure_ (i := 6) (N := some 46) (v := ?_) (a' := ?_) #[true, true, true, true, true, true, true, true, false, false, false, false, false, false, false, false, false, false, false, false] rfl rfl (any_of HT_.out (by kernel_rfl)) (fun _ _ _ h => h) (Or.inl ⟨by rfl, ?_⟩) ?_ ?_
          rotate_left
          ·intro w'
           go_simp
           with_reducible rfl
          rotate_left
          ·simp only [Act.put, List.setIfInBounds_toArray, List.set_cons_zero, List.set_cons_succ, i64_w, i32_w]
           rfl
          refine take_ (i := 8) (N := some 48) (v := ?_) (a' := ?_) #[true, true, true, true, true, true, true, true, true, false, false, false, false, false, false, false, false, false, false, false] rfl rfl (take_ofW HT_.out HW_.out (by kernel_rfl)) (fun _ _ _ h => h) (Or.inl ⟨by rfl, ?_⟩) hHeld ?_ ?_
          rotate_left
          ·rintro w' ⟨s0, s1, s2, s3, s4, s5⟩
           go_simp
           with_reducible rfl
          rotate_left
          ·simp only [Act.put, List.setIfInBounds_toArray, List.set_cons_zero, List.set_cons_succ, i64_w, i32_w]
           rfl
          refine pure_ (i := 9) (N := some 49) (v := ?_) (a' := ?_) #[true, true, true, true, true, true, true, true, true, true, false, false, false, false, false, false, false, false, false, false] rfl rfl (any_of HT_.out (by kernel_rfl)) (fun _ _ _ h => h) (Or.inl ⟨by rfl, ?_⟩) ?_ ?_
          rotate_left
          ·intro w'
           go_simp
           with_reducible rfl
          rotate_left
          ·simp only [Act.put, List.setIfInBounds_toArray, List.set_cons_zero, List.set_cons_succ, i64_w, i32_w]
           rfl
          refine pure_ (i := 10) (N := some 50) (v := ?_) (a' := ?_) #[true, true, true, true, true, true, true, true, true, true, true, false, false, false, false, false, false, false, false, false] rfl rfl (any_of HT_.out (by kernel_rfl)) (fun _ _ _ h => h) (Or.inl ⟨by rfl, ?_⟩) ?_ ?_
          rotate_left
          ·intro w'
           go_simp
           with_reducible rfl
          rotate_left
          ·simp only [Act.put, List.setIfInBounds_toArray, List.set_cons_zero, List.set_cons_succ, i64_w, i32_w]
           rfl
          refine join_ (σ := Value × Nat) 2 #[true, true, true, true, true, true, true, true, true, true, true, true, true, true, true, true, true, true, false, false] (fun s_ => [(51, .agg #[.int .i64 t308, .int .i64 t309]), (52, s_.1), (53, .tuple #[.agg #[.int .i64 t313, .int .i64 t314], .int .i64 t315]), (11, .pointer (some ⟨s_.2, 0, none⟩)), (39, .tuple #[.agg #[.int .i64 t313, .int .i64 t314], .int .i64 t315]), (54, .agg #[.int .i64 t313, .int .i64 t314]), (55, .int .i64 t315)]) (fun s_ w' => (w'.cell? ⟨gb307, 0, none⟩ = some (.int .i64 t304) ∧ w'.cell? ⟨gb307, 1, none⟩ = some (.int .i64 t305) ∧ w'.cell? ⟨gb300, 0, none⟩ = some (.int .i64 a2_0) ∧ w'.cell? ⟨gb300, 1, none⟩ = some (.int .i64 a2_1) ∧ w'.cell? ⟨gb303, 0, none⟩ = some (.int .i64 t301) ∧ w'.cell? ⟨gb303, 1, none⟩ = some (.int .i64 t302)) ∧ (Kd.R k23 23 w' w.heap.size (fun k_ => k_ ≠ gb299 ∧ k_ ≠ gb300 ∧ k_ ≠ gb303 ∧ k_ ≠ gb307 ∧ k_ ≠ s_.2) s_.1 y310) ∧ (w'.heap[gb299]? = some (.cells #[.int .i64 a0_0, .int .i64 a0_1] 23 (0, 0))) ∧ (w'.heap[gb300]? = some (.cells #[.int .i64 a2_0, .int .i64 a2_1] 23 (0, 0))) ∧ (w'.heap[gb303]? = some (.cells #[.int .i64 t301, .int .i64 t302] 23 (0, 0))) ∧ (w'.heap[gb307]? = some (.cells #[.int .i64 t304, .int .i64 t305] 23 (0, 0))) ∧ (w'.heap[s_.2]? = some (.cells #[.int .i64 0, .int .i64 0] 23 (0, 0))) ∧ (w.heap.size ≤ s_.2) ∧ (w.heap.size ≤ s_.2) ∧ (gb299 ≠ s_.2) ∧ (s_.2 ≠ gb299) ∧ (gb300 ≠ s_.2) ∧ (s_.2 ≠ gb300) ∧ (gb303 ≠ s_.2) ∧ (s_.2 ≠ gb303) ∧ (gb307 ≠ s_.2) ∧ (s_.2 ≠ gb307) ∧ (Below w.heap.size w w')) ?_ ?_
          rotate_left
          ·intro hCont
           refine two_ (i := 11) (j := 17) (Ni := some 51) (Nj := some 11) #[true, true, true, true, true, true, true, true, true, true, true, true, false, false, false, false, false, false, false, false] #[true, true, true, true, true, true, true, true, true, true, true, false, false, false, false, false, false, true, false, false] rfl rfl rfl rfl (two_of HT_.out (by kernel_rfl)) (by decide) (by decide) (fun K hK => ?_) (fun K hK => ?_)
           ·skip
            refine goes_ Try.func31 (by kernel_rfl) rfl #[.int .i64 ((ji8) % t301), .int .i64 ((ji10) % 1048576)] (by rfl) rfl rfl (by (try simp only [List.map_toArray, List.map_cons, List.map_nil]); first | done | (simp only [Int.tmod_eq_emod_of_nonneg hjl10, Int.tmod_eq_emod_of_nonneg hjl8]; rfl) | (simp only [hji10, hji8]; rfl) | rfl | (simp only [List.length_drop, List.length_take]; rfl)) ?_
            with_reducible refine (liverylaw01_of.calls ((ji8) % t301) ((ji10) % 1048576) t308 t309 _ A11.out).mono ?_
            rintro e w44 ⟨rfl, hb⟩
            refine ⟨_, rfl, ?_⟩
            have n0_ := XPrint.A0 (XPrint.bb BK299.out hb)
            have n1_ := XPrint.A0 (XPrint.bb BK300.out hb)
            have n2_ := XPrint.A0 (XPrint.bb BK303.out hb)
            have n3_ := XPrint.A0 (XPrint.bb BK307.out hb)
            have n4_ := XPrint.A0 (below_step (by exact XPrint.bz HB.out) hb)
            clear BK299 BK300 BK303 BK307 HB
            have BK299 := n0_; have BK300 := n1_; have BK303 := n2_; have BK307 := n3_; have HB := n4_
            clear n0_ n1_ n2_ n3_ n4_
            (try clear hb)
            (try clear hb2)
            (try clear hk)
            (try clear hi)
            refine hK.out _ _ ⟨(blk_cell BK307.out 0).trans rfl, (blk_cell BK307.out 1).trans rfl, (blk_cell BK300.out 0).trans rfl, (blk_cell BK300.out 1).trans rfl, (blk_cell BK303.out 0).trans rfl, (blk_cell BK303.out 1).trans rfl⟩ (fun hHeld => ?_)
            clear hK K
            refine norm_ (a' := ?_) ?_ ?_
            rotate_left
            ·show Act.put _ (some 51) _ = _
             simp only [Act.put, List.setIfInBounds_toArray, List.set_cons_zero, List.set_cons_succ, i64_w, i32_w]
             rfl
            refine two_ (i := 12) (j := 17) (Ni := some 52) (Nj := some 11) #[true, true, true, true, true, true, true, true, true, true, true, true, true, false, false, false, false, false, false, false] #[true, true, true, true, true, true, true, true, true, true, true, true, false, false, false, false, false, true, false, false] rfl rfl rfl rfl (two_of HT_.out (by kernel_rfl)) (by decide) (by decide) (fun K hK => ?_) (fun K hK => ?_)
            ·skip
             refine Kd.R_lit_step k23 _ 23 ?hg (N := 52) ?hd (xs := ([(⟨t304, t305⟩ : S23), (⟨t308, t309⟩ : S23)] : List (S23))) (inner := [.int .i64 t304, .int .i64 t305, .int .i64 t308, .int .i64 t309]) (ok := fun _ => True) (okp := fun _ => True) ?hr ?hp (fun _ hk => hk) trivial (Below.refl _ _) (Nat.le_refl _) (by simp) ?_; (case hd => rfl); (case hg => rfl); (case hr => first | (go_simp; done) | (go_simp; rfl)); (case hp => exact (Reps.c2 (show Kd.M k23 _ _ _ (⟨t304, t305⟩ : S23) [.int .i64 t304, .int .i64 t305] from (k23_mkM _ _ _ (⟨t304, t305⟩ : S23) )) (Reps.c2 (show Kd.M k23 _ _ _ (⟨t308, t309⟩ : S23) [.int .i64 t308, .int .i64 t309] from (k23_mkM _ _ _ (⟨t308, t309⟩ : S23) )) (Reps.none _ _))))
             intro v311 w45 ho46 hb hg_ hnew_
             clear hg_ hnew_
             (first | rw [← Ny310.out] at ho46 | (simp only [Int.reduceToNat] at ho46; rw [← Ny310.out] at ho46))
             have n0_ := XPrint.A0 (Kd.R_lower (Kd.R_newB (Kd.R_newB (Kd.R_newB (Kd.R_newB ho46 (g := gb299) (o := .cells #[.int .i64 a0_0, .int .i64 a0_1] 23 (0, 0)) (XPrint.bk BK299.out)) (g := gb300) (o := .cells #[.int .i64 a2_0, .int .i64 a2_1] 23 (0, 0)) (XPrint.bk BK300.out)) (g := gb303) (o := .cells #[.int .i64 t301, .int .i64 t302] 23 (0, 0)) (XPrint.bk BK303.out)) (g := gb307) (o := .cells #[.int .i64 t304, .int .i64 t305] 23 (0, 0)) (XPrint.bk BK307.out)) (below_size (by exact XPrint.bz HB.out)))
             have n1_ := XPrint.A0 (XPrint.bb BK299.out hb)
             have n2_ := XPrint.A0 (XPrint.bb BK300.out hb)
             have n3_ := XPrint.A0 (XPrint.bb BK303.out hb)
             have n4_ := XPrint.A0 (XPrint.bb BK307.out hb)
             have n5_ := XPrint.A0 (below_step (by exact XPrint.bz HB.out) hb)
             clear BK299 BK300 BK303 BK307 HB
             have HO312 := n0_; have BK299 := n1_; have BK300 := n2_; have BK303 := n3_; have BK307 := n4_; have HB := n5_
             clear n0_ n1_ n2_ n3_ n4_ n5_ hb ho46
             obtain ⟨Ao47, co47, eo47⟩ := Kd.R_slice HO312.out
             (first | subst eo47 | (injection eo47 with f1_ f2_ f3_; have f4_ := f1_.symm; have f5_ := f3_.symm; clear f1_ f2_ f3_; subst f4_; subst f5_))
             refine hK.out _ _ ⟨(blk_cell BK307.out 0).trans rfl, (blk_cell BK307.out 1).trans rfl, (blk_cell BK300.out 0).trans rfl, (blk_cell BK300.out 1).trans rfl, (blk_cell BK303.out 0).trans rfl, (blk_cell BK303.out 1).trans rfl⟩ (fun hHeld => ?_)
             clear hK K
             refine norm_ (a' := ?_) ?_ ?_
             rotate_left
             ·show Act.put _ (some 52) _ = _
              simp only [Act.put, List.setIfInBounds_toArray, List.set_cons_zero, List.set_cons_succ, i64_w, i32_w]
              rfl
             refine two_ (i := 13) (j := 17) (Ni := some 53) (Nj := some 11) #[true, true, true, true, true, true, true, true, true, true, true, true, true, true, false, false, false, false, false, false] #[true, true, true, true, true, true, true, true, true, true, true, true, true, false, false, false, false, true, false, false] rfl rfl rfl rfl (two_of HT_.out (by kernel_rfl)) (by decide) (by decide) (fun K hK => ?_) (fun K hK => ?_)
             ·skip
              refine goes_ Try.func29 (by kernel_rfl) rfl #[.slice Ao47 y310.length co47] (by rfl) rfl rfl (by (try simp only [List.map_toArray, List.map_cons, List.map_nil]); first | done | rfl | (simp only [List.length_drop, List.length_take]; rfl)) ?_
              with_reducible refine (vec_Add.calls k _ _ y310 t313 t314 t315 _ ?side1 ?side2 A12.out).mono ?_
              (case side1 => repeat (first | exact (Kd.R_reads' HO312.out).2.2 | (with_reducible refine Kd.C_alloc ?_ _) | (with_reducible refine Kd.C_drewN ?_ _) | (with_reducible refine Kd.C_drew ?_)))
              (case side2 => exact (Kd.R_reads' HO312.out).2.1)
              rintro e w48 ⟨rfl, hb⟩
              refine ⟨_, rfl, ?_⟩
              have n0_ := XPrint.A0 (XPrint.rb HO312.out hb)
              have n1_ := XPrint.A0 (XPrint.bb BK299.out hb)
              have n2_ := XPrint.A0 (XPrint.bb BK300.out hb)
              have n3_ := XPrint.A0 (XPrint.bb BK303.out hb)
              have n4_ := XPrint.A0 (XPrint.bb BK307.out hb)
              have n5_ := XPrint.A0 (below_step (by exact XPrint.bz HB.out) hb)
              clear HO312 BK299 BK300 BK303 BK307 HB
              have HO312 := n0_; have BK299 := n1_; have BK300 := n2_; have BK303 := n3_; have BK307 := n4_; have HB := n5_
              clear n0_ n1_ n2_ n3_ n4_ n5_
              (try clear hb)
              (try clear hb2)
              (try clear hk)
              (try clear hi)
              refine hK.out _ _ ⟨(blk_cell BK307.out 0).trans rfl, (blk_cell BK307.out 1).trans rfl, (blk_cell BK300.out 0).trans rfl, (blk_cell BK300.out 1).trans rfl, (blk_cell BK303.out 0).trans rfl, (blk_cell BK303.out 1).trans rfl⟩ (fun hHeld => ?_)
              clear hK K
              refine norm_ (a' := ?_) ?_ ?_
              rotate_left
              ·show Act.put _ (some 53) _ = _
               simp only [Act.put, List.setIfInBounds_toArray, List.set_cons_zero, List.set_cons_succ, i64_w, i32_w]
               rfl
              refine pure_ (i := 14) (N := some 39) (v := ?_) (a' := ?_) #[true, true, true, true, true, true, true, true, true, true, true, true, true, true, true, false, false, false, false, false] rfl rfl (any_of HT_.out (by kernel_rfl)) (fun _ _ _ h => h) (Or.inl ⟨by rfl, ?_⟩) ?_ ?_
              rotate_left
              ·intro w'
               go_simp
               with_reducible rfl
              rotate_left
              ·simp only [Act.put, List.setIfInBounds_toArray, List.set_cons_zero, List.set_cons_succ, i64_w, i32_w]
               rfl
              refine pure_ (i := 15) (N := some 54) (v := ?_) (a' := ?_) #[true, true, true, true, true, true, true, true, true, true, true, true, true, true, true, true, false, false, false, false] rfl rfl (any_of HT_.out (by kernel_rfl)) (fun _ _ _ h => h) (Or.inl ⟨by rfl, ?_⟩) ?_ ?_
              rotate_left
              ·intro w'
               go_simp
               with_reducible rfl
              rotate_left
              ·simp only [Act.put, List.setIfInBounds_toArray, List.set_cons_zero, List.set_cons_succ, i64_w, i32_w]
               rfl
              refine pure_ (i := 16) (N := some 55) (v := ?_) (a' := ?_) #[true, true, true, true, true, true, true, true, true, true, true, true, true, true, true, true, true, false, false, false] rfl rfl (any_of HT_.out (by kernel_rfl)) (fun _ _ _ h => h) (Or.inl ⟨by rfl, ?_⟩) ?_ ?_
              rotate_left
              ·intro w'
               go_simp
               with_reducible rfl
              rotate_left
              ·simp only [Act.put, List.setIfInBounds_toArray, List.set_cons_zero, List.set_cons_succ, i64_w, i32_w]
               rfl
              refine one_ (i := 17) (N := some 11) #[true, true, true, true, true, true, true, true, true, true, true, true, true, true, true, true, true, true, false, false] rfl rfl (one_of HT_.out (by kernel_rfl)) (by decide) (fun K hK => ?_)
              refine box_step ?hg (N := 11) ?hd (cs := #[.int .i64 0, .int .i64 0]) (t := 23) ?hr ?_; (case hd => rfl); (case hg => rfl); (case hr => first | (go_simp; done) | (go_simp; rfl))
              intro gb316 hg w49 hbox hb
              have n0_ := XPrint.A0 (Kd.R_below (Kd.R_elderB (by (with_reducible repeat (first | apply Kd.R_alloc | apply Kd.R_drewN | apply Kd.R_drew)); exact HO312.out) gb316 (Nat.le_of_eq hg.symm)) hb)
              have n1_ := XPrint.A0 (XPrint.bb BK299.out hb)
              have n2_ := XPrint.A0 (XPrint.bb BK300.out hb)
              have n3_ := XPrint.A0 (XPrint.bb BK303.out hb)
              have n4_ := XPrint.A0 (XPrint.bb BK307.out hb)
              have n5_ := XPrint.A0 (below_step (by exact XPrint.bz HB.out) hb)
              have n6_ := XPrint.A0 (hbox)
              have n7_ := XPrint.A0 ((by rw [hg]; exact (below_size (by exact XPrint.bz HB.out)) : w.heap.size ≤ gb316))
              have n8_ := XPrint.A0 ((by rw [hg]; exact (below_size (by exact XPrint.bz HB.out)) : w.heap.size ≤ gb316))
              have n9_ := XPrint.A0 ((by rw [hg]; exact Nat.ne_of_lt (XPrint.bl BK299.out) : gb299 ≠ gb316))
              have n10_ := XPrint.A0 ((by rw [hg]; exact Nat.ne_of_gt (XPrint.bl BK299.out) : gb316 ≠ gb299))
              have n11_ := XPrint.A0 ((by rw [hg]; exact Nat.ne_of_lt (XPrint.bl BK300.out) : gb300 ≠ gb316))
              have n12_ := XPrint.A0 ((by rw [hg]; exact Nat.ne_of_gt (XPrint.bl BK300.out) : gb316 ≠ gb300))
              have n13_ := XPrint.A0 ((by rw [hg]; exact Nat.ne_of_lt (XPrint.bl BK303.out) : gb303 ≠ gb316))
              have n14_ := XPrint.A0 ((by rw [hg]; exact Nat.ne_of_gt (XPrint.bl BK303.out) : gb316 ≠ gb303))
              have n15_ := XPrint.A0 ((by rw [hg]; exact Nat.ne_of_lt (XPrint.bl BK307.out) : gb307 ≠ gb316))
              have n16_ := XPrint.A0 ((by rw [hg]; exact Nat.ne_of_gt (XPrint.bl BK307.out) : gb316 ≠ gb307))
              clear HO312 BK299 BK300 BK303 BK307 HB
              have HO312 := n0_; have BK299 := n1_; have BK300 := n2_; have BK303 := n3_; have BK307 := n4_; have HB := n5_; have BK316 := n6_; have GW316 := n7_; have GE316 := n8_; have NB299_316 := n9_; have NB316_299 := n10_; have NB300_316 := n11_; have NB316_300 := n12_; have NB303_316 := n13_; have NB316_303 := n14_; have NB307_316 := n15_; have NB316_307 := n16_
              clear n0_ n1_ n2_ n3_ n4_ n5_ n6_ n7_ n8_ n9_ n10_ n11_ n12_ n13_ n14_ n15_ n16_ hb hbox hg
              refine hK.out _ _ ⟨(blk_cell BK307.out 0).trans rfl, (blk_cell BK307.out 1).trans rfl, (blk_cell BK300.out 0).trans rfl, (blk_cell BK300.out 1).trans rfl, (blk_cell BK303.out 0).trans rfl, (blk_cell BK303.out 1).trans rfl⟩ (fun hHeld => ?_)
              clear hK K
              refine norm_ (a' := ?_) ?_ ?_
              rotate_left
              ·show Act.put _ (some 11) _ = _
               simp only [Act.put, List.setIfInBounds_toArray, List.set_cons_zero, List.set_cons_succ, i64_w, i32_w]
               rfl
              exact norm_ (by simp only [putAll, Act.put, List.setIfInBounds_toArray, List.set_cons_zero, List.set_cons_succ]) (hCont (.slice Ao47 y310.length co47, gb316) _ ⟨hHeld, (by (with_reducible repeat (first | apply Kd.R_alloc | apply Kd.R_drewN | apply Kd.R_drew)); exact Kd.R_mono HO312.out (fun _ hk => ⟨hk.1.1.1.1.2, ⟨hk.1.1.1.2, ⟨hk.1.1.2, ⟨hk.1.2, hk.2⟩⟩⟩⟩)), (XPrint.bk BK299.out), (XPrint.bk BK300.out), (XPrint.bk BK303.out), (XPrint.bk BK307.out), (XPrint.bk BK316.out), GW316.out, GE316.out, NB299_316.out, NB316_299.out, NB300_316.out, NB316_300.out, NB303_316.out, NB316_303.out, NB307_316.out, NB316_307.out, (by exact XPrint.bz HB.out)⟩)
             ·skip
              refine box_step ?hg (N := 11) ?hd (cs := #[.int .i64 0, .int .i64 0]) (t := 23) ?hr ?_; (case hd => rfl); (case hg => rfl); (case hr => first | (go_simp; done) | (go_simp; rfl))
              intro gb316 hg w47 hbox hb
              have n0_ := XPrint.A0 (Kd.R_below (Kd.R_elderB (by (with_reducible repeat (first | apply Kd.R_alloc | apply Kd.R_drewN | apply Kd.R_drew)); exact HO312.out) gb316 (Nat.le_of_eq hg.symm)) hb)
              have n1_ := XPrint.A0 (XPrint.bb BK299.out hb)
              have n2_ := XPrint.A0 (XPrint.bb BK300.out hb)
              have n3_ := XPrint.A0 (XPrint.bb BK303.out hb)
              have n4_ := XPrint.A0 (XPrint.bb BK307.out hb)
              have n5_ := XPrint.A0 (below_step (by exact XPrint.bz HB.out) hb)
              have n6_ := XPrint.A0 (hbox)
              have n7_ := XPrint.A0 ((by rw [hg]; exact (below_size (by exact XPrint.bz HB.out)) : w.heap.size ≤ gb316))
              have n8_ := XPrint.A0 ((by rw [hg]; exact (below_size (by exact XPrint.bz HB.out)) : w.heap.size ≤ gb316))
              have n9_ := XPrint.A0 ((by rw [hg]; exact Nat.ne_of_lt (XPrint.bl BK299.out) : gb299 ≠ gb316))
              have n10_ := XPrint.A0 ((by rw [hg]; exact Nat.ne_of_gt (XPrint.bl BK299.out) : gb316 ≠ gb299))
              have n11_ := XPrint.A0 ((by rw [hg]; exact Nat.ne_of_lt (XPrint.bl BK300.out) : gb300 ≠ gb316))
              have n12_ := XPrint.A0 ((by rw [hg]; exact Nat.ne_of_gt (XPrint.bl BK300.out) : gb316 ≠ gb300))
              have n13_ := XPrint.A0 ((by rw [hg]; exact Nat.ne_of_lt (XPrint.bl BK303.out) : gb303 ≠ gb316))
              have n14_ := XPrint.A0 ((by rw [hg]; exact Nat.ne_of_gt (XPrint.bl BK303.out) : gb316 ≠ gb303))
              have n15_ := XPrint.A0 ((by rw [hg]; exact Nat.ne_of_lt (XPrint.bl BK307.out) : gb307 ≠ gb316))
              have n16_ := XPrint.A0 ((by rw [hg]; exact Nat.ne_of_gt (XPrint.bl BK307.out) : gb316 ≠ gb307))
              clear HO312 BK299 BK300 BK303 BK307 HB
              have HO312 := n0_; have BK299 := n1_; have BK300 := n2_; have BK303 := n3_; have BK307 := n4_; have HB := n5_; have BK316 := n6_; have GW316 := n7_; have GE316 := n8_; have NB299_316 := n9_; have NB316_299 := n10_; have NB300_316 := n11_; have NB316_300 := n12_; have NB303_316 := n13_; have NB316_303 := n14_; have NB307_316 := n15_; have NB316_307 := n16_
              clear n0_ n1_ n2_ n3_ n4_ n5_ n6_ n7_ n8_ n9_ n10_ n11_ n12_ n13_ n14_ n15_ n16_ hb hbox hg
              obtain ⟨Ao48, co48, eo48⟩ := Kd.R_slice HO312.out
              (first | subst eo48 | (injection eo48 with f1_ f2_ f3_; have f4_ := f1_.symm; have f5_ := f3_.symm; clear f1_ f2_ f3_; subst f4_; subst f5_))
              refine hK.out _ _ ⟨(blk_cell BK307.out 0).trans rfl, (blk_cell BK307.out 1).trans rfl, (blk_cell BK300.out 0).trans rfl, (blk_cell BK300.out 1).trans rfl, (blk_cell BK303.out 0).trans rfl, (blk_cell BK303.out 1).trans rfl⟩ (fun hHeld => ?_)
              clear hK K
              refine norm_ (a' := ?_) ?_ ?_
              rotate_left
              ·show Act.put _ (some 11) _ = _
               simp only [Act.put, List.setIfInBounds_toArray, List.set_cons_zero, List.set_cons_succ, i64_w, i32_w]
               rfl
              refine one_ (i := 13) (N := some 53) #[true, true, true, true, true, true, true, true, true, true, true, true, true, true, false, false, false, true, false, false] rfl rfl (one_of HT_.out (by kernel_rfl)) (by decide) (fun K hK => ?_)
              refine goes_ Try.func29 (by kernel_rfl) rfl #[.slice Ao48 y310.length co48] (by rfl) rfl rfl (by (try simp only [List.map_toArray, List.map_cons, List.map_nil]); first | done | rfl | (simp only [List.length_drop, List.length_take]; rfl)) ?_
              with_reducible refine (vec_Add.calls k _ _ y310 t313 t314 t315 _ ?side1 ?side2 A12.out).mono ?_
              (case side1 => repeat (first | exact (Kd.R_reads' HO312.out).2.2 | (with_reducible refine Kd.C_alloc ?_ _) | (with_reducible refine Kd.C_drewN ?_ _) | (with_reducible refine Kd.C_drew ?_)))
              (case side2 => exact (Kd.R_reads' HO312.out).2.1)
              rintro e w49 ⟨rfl, hb⟩
              refine ⟨_, rfl, ?_⟩
              have n0_ := XPrint.A0 (XPrint.rb HO312.out hb)
              have n1_ := XPrint.A0 (XPrint.bb BK299.out hb)
              have n2_ := XPrint.A0 (XPrint.bb BK300.out hb)
              have n3_ := XPrint.A0 (XPrint.bb BK303.out hb)
              have n4_ := XPrint.A0 (XPrint.bb BK307.out hb)
              have n5_ := XPrint.A0 (XPrint.bb BK316.out hb)
              have n6_ := XPrint.A0 (below_step (by exact XPrint.bz HB.out) hb)
              clear HO312 BK299 BK300 BK303 BK307 BK316 HB
              have HO312 := n0_; have BK299 := n1_; have BK300 := n2_; have BK303 := n3_; have BK307 := n4_; have BK316 := n5_; have HB := n6_
              clear n0_ n1_ n2_ n3_ n4_ n5_ n6_
              (try clear hb)
              (try clear hb2)
              (try clear hk)
              (try clear hi)
              refine hK.out _ _ ⟨(blk_cell BK307.out 0).trans rfl, (blk_cell BK307.out 1).trans rfl, (blk_cell BK300.out 0).trans rfl, (blk_cell BK300.out 1).trans rfl, (blk_cell BK303.out 0).trans rfl, (blk_cell BK303.out 1).trans rfl⟩ (fun hHeld => ?_)
              clear hK K
              refine norm_ (a' := ?_) ?_ ?_
              rotate_left
              ·show Act.put _ (some 53) _ = _
               simp only [Act.put, List.setIfInBounds_toArray, List.set_cons_zero, List.set_cons_succ, i64_w, i32_w]
               rfl
              refine pure_ (i := 14) (N := some 39) (v := ?_) (a' := ?_) #[true, true, true, true, true, true, true, true, true, true, true, true, true, true, true, false, false, true, false, false] rfl rfl (any_of HT_.out (by kernel_rfl)) (fun _ _ _ h => h) (Or.inl ⟨by rfl, ?_⟩) ?_ ?_
              rotate_left
              ·intro w'
               go_simp
               with_reducible rfl
              rotate_left
              ·simp only [Act.put, List.setIfInBounds_toArray, List.set_cons_zero, List.set_cons_succ, i64_w, i32_w]
               rfl
              refine pure_ (i := 15) (N := some 54) (v := ?_) (a' := ?_) #[true, true, true, true, true, true, true, true, true, true, true, true, true, true, true, true, false, true, false, false] rfl rfl (any_of HT_.out (by kernel_rfl)) (fun _ _ _ h => h) (Or.inl ⟨by rfl, ?_⟩) ?_ ?_
              rotate_left
              ·intro w'
               go_simp
               with_reducible rfl
              rotate_left
              ·simp only [Act.put, List.setIfInBounds_toArray, List.set_cons_zero, List.set_cons_succ, i64_w, i32_w]
               rfl
              refine pure_ (i := 16) (N := some 55) (v := ?_) (a' := ?_) #[true, true, true, true, true, true, true, true, true, true, true, true, true, true, true, true, true, true, false, false] rfl rfl (any_of HT_.out (by kernel_rfl)) (fun _ _ _ h => h) (Or.inl ⟨by rfl, ?_⟩) ?_ ?_
              rotate_left
              ·intro w'
               go_simp
               with_reducible rfl
              rotate_left
              ·simp only [Act.put, List.setIfInBounds_toArray, List.set_cons_zero, List.set_cons_succ, i64_w, i32_w]
               rfl
              exact norm_ (by simp only [putAll, Act.put, List.setIfInBounds_toArray, List.set_cons_zero, List.set_cons_succ]) (hCont (.slice Ao48 y310.length co48, gb316) _ ⟨hHeld, (by (with_reducible repeat (first | apply Kd.R_alloc | apply Kd.R_drewN | apply Kd.R_drew)); exact Kd.R_mono HO312.out (fun _ hk => ⟨hk.1.1.1.1.2, ⟨hk.1.1.1.2, ⟨hk.1.1.2, ⟨hk.1.2, hk.2⟩⟩⟩⟩)), (XPrint.bk BK299.out), (XPrint.bk BK300.out), (XPrint.bk BK303.out), (XPrint.bk BK307.out), (XPrint.bk BK316.out), GW316.out, GE316.out, NB299_316.out, NB316_299.out, NB300_316.out, NB316_300.out, NB303_316.out, NB316_303.out, NB307_316.out, NB316_307.out, (by exact XPrint.bz HB.out)⟩)
            ·skip
             refine box_step ?hg (N := 11) ?hd (cs := #[.int .i64 0, .int .i64 0]) (t := 23) ?hr ?_; (case hd => rfl); (case hg => rfl); (case hr => first | (go_simp; done) | (go_simp; rfl))
             intro gb316 hg w45 hbox hb
             have n0_ := XPrint.A0 (XPrint.bb BK299.out hb)
             have n1_ := XPrint.A0 (XPrint.bb BK300.out hb)
             have n2_ := XPrint.A0 (XPrint.bb BK303.out hb)
             have n3_ := XPrint.A0 (XPrint.bb BK307.out hb)
             have n4_ := XPrint.A0 (below_step (by exact XPrint.bz HB.out) hb)
             have n5_ := XPrint.A0 (hbox)
             have n6_ := XPrint.A0 ((by rw [hg]; exact (below_size (by exact XPrint.bz HB.out)) : w.heap.size ≤ gb316))
             have n7_ := XPrint.A0 ((by rw [hg]; exact (below_size (by exact XPrint.bz HB.out)) : w.heap.size ≤ gb316))
             have n8_ := XPrint.A0 ((by rw [hg]; exact Nat.ne_of_lt (XPrint.bl BK299.out) : gb299 ≠ gb316))
             have n9_ := XPrint.A0 ((by rw [hg]; exact Nat.ne_of_gt (XPrint.bl BK299.out) : gb316 ≠ gb299))
             have n10_ := XPrint.A0 ((by rw [hg]; exact Nat.ne_of_lt (XPrint.bl BK300.out) : gb300 ≠ gb316))
             have n11_ := XPrint.A0 ((by rw [hg]; exact Nat.ne_of_gt (XPrint.bl BK300.out) : gb316 ≠ gb300))
             have n12_ := XPrint.A0 ((by rw [hg]; exact Nat.ne_of_lt (XPrint.bl BK303.out) : gb303 ≠ gb316))
             have n13_ := XPrint.A0 ((by rw [hg]; exact Nat.ne_of_gt (XPrint.bl BK303.out) : gb316 ≠ gb303))
             have n14_ := XPrint.A0 ((by rw [hg]; exact Nat.ne_of_lt (XPrint.bl BK307.out) : gb307 ≠ gb316))
             have n15_ := XPrint.A0 ((by rw [hg]; exact Nat.ne_of_gt (XPrint.bl BK307.out) : gb316 ≠ gb307))
             clear BK299 BK300 BK303 BK307 HB
             have BK299 := n0_; have BK300 := n1_; have BK303 := n2_; have BK307 := n3_; have HB := n4_; have BK316 := n5_; have GW316 := n6_; have GE316 := n7_; have NB299_316 := n8_; have NB316_299 := n9_; have NB300_316 := n10_; have NB316_300 := n11_; have NB303_316 := n12_; have NB316_303 := n13_; have NB307_316 := n14_; have NB316_307 := n15_
             clear n0_ n1_ n2_ n3_ n4_ n5_ n6_ n7_ n8_ n9_ n10_ n11_ n12_ n13_ n14_ n15_ hb hbox hg
             refine hK.out _ _ ⟨(blk_cell BK307.out 0).trans rfl, (blk_cell BK307.out 1).trans rfl, (blk_cell BK300.out 0).trans rfl, (blk_cell BK300.out 1).trans rfl, (blk_cell BK303.out 0).trans rfl, (blk_cell BK303.out 1).trans rfl⟩ (fun hHeld => ?_)
             clear hK K
             refine norm_ (a' := ?_) ?_ ?_
             rotate_left
             ·show Act.put _ (some 11) _ = _
              simp only [Act.put, List.setIfInBounds_toArray, List.set_cons_zero, List.set_cons_succ, i64_w, i32_w]
              rfl
             refine one_ (i := 12) (N := some 52) #[true, true, true, true, true, true, true, true, true, true, true, true, true, false, false, false, false, true, false, false] rfl rfl (one_of HT_.out (by kernel_rfl)) (by decide) (fun K hK => ?_)
             refine Kd.R_lit_step k23 _ 23 ?hg (N := 52) ?hd (xs := ([(⟨t304, t305⟩ : S23), (⟨t308, t309⟩ : S23)] : List (S23))) (inner := [.int .i64 t304, .int .i64 t305, .int .i64 t308, .int .i64 t309]) (ok := fun _ => True) (okp := fun _ => True) ?hr ?hp (fun _ hk => hk) trivial (Below.refl _ _) (Nat.le_refl _) (by simp) ?_; (case hd => rfl); (case hg => rfl); (case hr => first | (go_simp; done) | (go_simp; rfl)); (case hp => exact (Reps.c2 (show Kd.M k23 _ _ _ (⟨t304, t305⟩ : S23) [.int .i64 t304, .int .i64 t305] from (k23_mkM _ _ _ (⟨t304, t305⟩ : S23) )) (Reps.c2 (show Kd.M k23 _ _ _ (⟨t308, t309⟩ : S23) [.int .i64 t308, .int .i64 t309] from (k23_mkM _ _ _ (⟨t308, t309⟩ : S23) )) (Reps.none _ _))))
             intro v311 w46 ho47 hb hg_ hnew_
             clear hg_ hnew_
             (first | rw [← Ny310.out] at ho47 | (simp only [Int.reduceToNat] at ho47; rw [← Ny310.out] at ho47))
             have n0_ := XPrint.A0 (Kd.R_lower (Kd.R_newB (Kd.R_newB (Kd.R_newB (Kd.R_newB (Kd.R_newB ho47 (g := gb299) (o := .cells #[.int .i64 a0_0, .int .i64 a0_1] 23 (0, 0)) (XPrint.bk BK299.out)) (g := gb300) (o := .cells #[.int .i64 a2_0, .int .i64 a2_1] 23 (0, 0)) (XPrint.bk BK300.out)) (g := gb303) (o := .cells #[.int .i64 t301, .int .i64 t302] 23 (0, 0)) (XPrint.bk BK303.out)) (g := gb307) (o := .cells #[.int .i64 t304, .int .i64 t305] 23 (0, 0)) (XPrint.bk BK307.out)) (g := gb316) (o := .cells #[.int .i64 0, .int .i64 0] 23 (0, 0)) (XPrint.bk BK316.out)) (below_size (by exact XPrint.bz HB.out)))
             have n1_ := XPrint.A0 (XPrint.bb BK299.out hb)
             have n2_ := XPrint.A0 (XPrint.bb BK300.out hb)
             have n3_ := XPrint.A0 (XPrint.bb BK303.out hb)
             have n4_ := XPrint.A0 (XPrint.bb BK307.out hb)
             have n5_ := XPrint.A0 (XPrint.bb BK316.out hb)
             have n6_ := XPrint.A0 (below_step (by exact XPrint.bz HB.out) hb)
             clear BK299 BK300 BK303 BK307 BK316 HB
             have HO312 := n0_; have BK299 := n1_; have BK300 := n2_; have BK303 := n3_; have BK307 := n4_; have BK316 := n5_; have HB := n6_
             clear n0_ n1_ n2_ n3_ n4_ n5_ n6_ hb ho47
             obtain ⟨Ao48, co48, eo48⟩ := Kd.R_slice HO312.out
             (first | subst eo48 | (injection eo48 with f1_ f2_ f3_; have f4_ := f1_.symm; have f5_ := f3_.symm; clear f1_ f2_ f3_; subst f4_; subst f5_))
             refine hK.out _ _ ⟨(blk_cell BK307.out 0).trans rfl, (blk_cell BK307.out 1).trans rfl, (blk_cell BK300.out 0).trans rfl, (blk_cell BK300.out 1).trans rfl, (blk_cell BK303.out 0).trans rfl, (blk_cell BK303.out 1).trans rfl⟩ (fun hHeld => ?_)
             clear hK K
             refine norm_ (a' := ?_) ?_ ?_
             rotate_left
             ·show Act.put _ (some 52) _ = _
              simp only [Act.put, List.setIfInBounds_toArray, List.set_cons_zero, List.set_cons_succ, i64_w, i32_w]
              rfl
             refine one_ (i := 13) (N := some 53) #[true, true, true, true, true, true, true, true, true, true, true, true, true, true, false, false, false, true, false, false] rfl rfl (one_of HT_.out (by kernel_rfl)) (by decide) (fun K hK => ?_)
             refine goes_ Try.func29 (by kernel_rfl) rfl #[.slice Ao48 y310.length co48] (by rfl) rfl rfl (by (try simp only [List.map_toArray, List.map_cons, List.map_nil]); first | done | rfl | (simp only [List.length_drop, List.length_take]; rfl)) ?_
             with_reducible refine (vec_Add.calls k _ _ y310 t313 t314 t315 _ ?side1 ?side2 A12.out).mono ?_
             (case side1 => repeat (first | exact (Kd.R_reads' HO312.out).2.2 | (with_reducible refine Kd.C_alloc ?_ _) | (with_reducible refine Kd.C_drewN ?_ _) | (with_reducible refine Kd.C_drew ?_)))
             (case side2 => exact (Kd.R_reads' HO312.out).2.1)
             rintro e w49 ⟨rfl, hb⟩
             refine ⟨_, rfl, ?_⟩
             have n0_ := XPrint.A0 (XPrint.rb HO312.out hb)
             have n1_ := XPrint.A0 (XPrint.bb BK299.out hb)
             have n2_ := XPrint.A0 (XPrint.bb BK300.out hb)
             have n3_ := XPrint.A0 (XPrint.bb BK303.out hb)
             have n4_ := XPrint.A0 (XPrint.bb BK307.out hb)
             have n5_ := XPrint.A0 (XPrint.bb BK316.out hb)
             have n6_ := XPrint.A0 (below_step (by exact XPrint.bz HB.out) hb)
             clear HO312 BK299 BK300 BK303 BK307 BK316 HB
             have HO312 := n0_; have BK299 := n1_; have BK300 := n2_; have BK303 := n3_; have BK307 := n4_; have BK316 := n5_; have HB := n6_
             clear n0_ n1_ n2_ n3_ n4_ n5_ n6_
             (try clear hb)
             (try clear hb2)
             (try clear hk)
             (try clear hi)
             refine hK.out _ _ ⟨(blk_cell BK307.out 0).trans rfl, (blk_cell BK307.out 1).trans rfl, (blk_cell BK300.out 0).trans rfl, (blk_cell BK300.out 1).trans rfl, (blk_cell BK303.out 0).trans rfl, (blk_cell BK303.out 1).trans rfl⟩ (fun hHeld => ?_)
             clear hK K
             refine norm_ (a' := ?_) ?_ ?_
             rotate_left
             ·show Act.put _ (some 53) _ = _
              simp only [Act.put, List.setIfInBounds_toArray, List.set_cons_zero, List.set_cons_succ, i64_w, i32_w]
              rfl
             refine pure_ (i := 14) (N := some 39) (v := ?_) (a' := ?_) #[true, true, true, true, true, true, true, true, true, true, true, true, true, true, true, false, false, true, false, false] rfl rfl (any_of HT_.out (by kernel_rfl)) (fun _ _ _ h => h) (Or.inl ⟨by rfl, ?_⟩) ?_ ?_
             rotate_left
             ·intro w'
              go_simp
              with_reducible rfl
             rotate_left
             ·simp only [Act.put, List.setIfInBounds_toArray, List.set_cons_zero, List.set_cons_succ, i64_w, i32_w]
              rfl
             refine pure_ (i := 15) (N := some 54) (v := ?_) (a' := ?_) #[true, true, true, true, true, true, true, true, true, true, true, true, true, true, true, true, false, true, false, false] rfl rfl (any_of HT_.out (by kernel_rfl)) (fun _ _ _ h => h) (Or.inl ⟨by rfl, ?_⟩) ?_ ?_
             rotate_left
             ·intro w'
              go_simp
              with_reducible rfl
             rotate_left
             ·simp only [Act.put, List.setIfInBounds_toArray, List.set_cons_zero, List.set_cons_succ, i64_w, i32_w]
              rfl
             refine pure_ (i := 16) (N := some 55) (v := ?_) (a' := ?_) #[true, true, true, true, true, true, true, true, true, true, true, true, true, true, true, true, true, true, false, false] rfl rfl (any_of HT_.out (by kernel_rfl)) (fun _ _ _ h => h) (Or.inl ⟨by rfl, ?_⟩) ?_ ?_
             rotate_left
             ·intro w'
              go_simp
              with_reducible rfl
             rotate_left
             ·simp only [Act.put, List.setIfInBounds_toArray, List.set_cons_zero, List.set_cons_succ, i64_w, i32_w]
              rfl
             exact norm_ (by simp only [putAll, Act.put, List.setIfInBounds_toArray, List.set_cons_zero, List.set_cons_succ]) (hCont (.slice Ao48 y310.length co48, gb316) _ ⟨hHeld, (by (with_reducible repeat (first | apply Kd.R_alloc | apply Kd.R_drewN | apply Kd.R_drew)); exact Kd.R_mono HO312.out (fun _ hk => ⟨hk.1.1.1.1.2, ⟨hk.1.1.1.2, ⟨hk.1.1.2, ⟨hk.1.2, hk.2⟩⟩⟩⟩)), (XPrint.bk BK299.out), (XPrint.bk BK300.out), (XPrint.bk BK303.out), (XPrint.bk BK307.out), (XPrint.bk BK316.out), GW316.out, GE316.out, NB299_316.out, NB316_299.out, NB300_316.out, NB316_300.out, NB303_316.out, NB316_303.out, NB307_316.out, NB316_307.out, (by exact XPrint.bz HB.out)⟩)
           ·skip
            refine box_step ?hg (N := 11) ?hd (cs := #[.int .i64 0, .int .i64 0]) (t := 23) ?hr ?_; (case hd => rfl); (case hg => rfl); (case hr => first | (go_simp; done) | (go_simp; rfl))
            intro gb316 hg w44 hbox hb
            have n0_ := XPrint.A0 (XPrint.bb BK299.out hb)
            have n1_ := XPrint.A0 (XPrint.bb BK300.out hb)
            have n2_ := XPrint.A0 (XPrint.bb BK303.out hb)
            have n3_ := XPrint.A0 (XPrint.bb BK307.out hb)
            have n4_ := XPrint.A0 (below_step (by exact XPrint.bz HB.out) hb)
            have n5_ := XPrint.A0 (hbox)
            have n6_ := XPrint.A0 ((by rw [hg]; exact (below_size (by exact XPrint.bz HB.out)) : w.heap.size ≤ gb316))
            have n7_ := XPrint.A0 ((by rw [hg]; exact (below_size (by exact XPrint.bz HB.out)) : w.heap.size ≤ gb316))
            have n8_ := XPrint.A0 ((by rw [hg]; exact Nat.ne_of_lt (XPrint.bl BK299.out) : gb299 ≠ gb316))
            have n9_ := XPrint.A0 ((by rw [hg]; exact Nat.ne_of_gt (XPrint.bl BK299.out) : gb316 ≠ gb299))
            have n10_ := XPrint.A0 ((by rw [hg]; exact Nat.ne_of_lt (XPrint.bl BK300.out) : gb300 ≠ gb316))
            have n11_ := XPrint.A0 ((by rw [hg]; exact Nat.ne_of_gt (XPrint.bl BK300.out) : gb316 ≠ gb300))
            have n12_ := XPrint.A0 ((by rw [hg]; exact Nat.ne_of_lt (XPrint.bl BK303.out) : gb303 ≠ gb316))
            have n13_ := XPrint.A0 ((by rw [hg]; exact Nat.ne_of_gt (XPrint.bl BK303.out) : gb316 ≠ gb303))
            have n14_ := XPrint.A0 ((by rw [hg]; exact Nat.ne_of_lt (XPrint.bl BK307.out) : gb307 ≠ gb316))
            have n15_ := XPrint.A0 ((by rw [hg]; exact Nat.ne_of_gt (XPrint.bl BK307.out) : gb316 ≠ gb307))
            clear BK299 BK300 BK303 BK307 HB
            have BK299 := n0_; have BK300 := n1_; have BK303 := n2_; have BK307 := n3_; have HB := n4_; have BK316 := n5_; have GW316 := n6_; have GE316 := n7_; have NB299_316 := n8_; have NB316_299 := n9_; have NB300_316 := n10_; have NB316_300 := n11_; have NB303_316 := n12_; have NB316_303 := n13_; have NB307_316 := n14_; have NB316_307 := n15_
            clear n0_ n1_ n2_ n3_ n4_ n5_ n6_ n7_ n8_ n9_ n10_ n11_ n12_ n13_ n14_ n15_ hb hbox hg
            refine hK.out _ _ ⟨(blk_cell BK307.out 0).trans rfl, (blk_cell BK307.out 1).trans rfl, (blk_cell BK300.out 0).trans rfl, (blk_cell BK300.out 1).trans rfl, (blk_cell BK303.out 0).trans rfl, (blk_cell BK303.out 1).trans rfl⟩ (fun hHeld => ?_)
            clear hK K
            refine norm_ (a' := ?_) ?_ ?_
            rotate_left
            ·show Act.put _ (some 11) _ = _
             simp only [Act.put, List.setIfInBounds_toArray, List.set_cons_zero, List.set_cons_succ, i64_w, i32_w]
             rfl
            refine one_ (i := 11) (N := some 51) #[true, true, true, true, true, true, true, true, true, true, true, true, false, false, false, false, false, true, false, false] rfl rfl (one_of HT_.out (by kernel_rfl)) (by decide) (fun K hK => ?_)
            refine goes_ Try.func31 (by kernel_rfl) rfl #[.int .i64 ((ji8) % t301), .int .i64 ((ji10) % 1048576)] (by rfl) rfl rfl (by (try simp only [List.map_toArray, List.map_cons, List.map_nil]); first | done | (simp only [Int.tmod_eq_emod_of_nonneg hjl10, Int.tmod_eq_emod_of_nonneg hjl8]; rfl) | (simp only [hji10, hji8]; rfl) | rfl | (simp only [List.length_drop, List.length_take]; rfl)) ?_
            with_reducible refine (liverylaw01_of.calls ((ji8) % t301) ((ji10) % 1048576) t308 t309 _ A11.out).mono ?_
            rintro e w45 ⟨rfl, hb⟩
            refine ⟨_, rfl, ?_⟩
            have n0_ := XPrint.A0 (XPrint.bb BK299.out hb)
            have n1_ := XPrint.A0 (XPrint.bb BK300.out hb)
            have n2_ := XPrint.A0 (XPrint.bb BK303.out hb)
            have n3_ := XPrint.A0 (XPrint.bb BK307.out hb)
            have n4_ := XPrint.A0 (XPrint.bb BK316.out hb)
            have n5_ := XPrint.A0 (below_step (by exact XPrint.bz HB.out) hb)
            clear BK299 BK300 BK303 BK307 BK316 HB
            have BK299 := n0_; have BK300 := n1_; have BK303 := n2_; have BK307 := n3_; have BK316 := n4_; have HB := n5_
            clear n0_ n1_ n2_ n3_ n4_ n5_
            (try clear hb)
            (try clear hb2)
            (try clear hk)
            (try clear hi)
            refine hK.out _ _ ⟨(blk_cell BK307.out 0).trans rfl, (blk_cell BK307.out 1).trans rfl, (blk_cell BK300.out 0).trans rfl, (blk_cell BK300.out 1).trans rfl, (blk_cell BK303.out 0).trans rfl, (blk_cell BK303.out 1).trans rfl⟩ (fun hHeld => ?_)
            clear hK K
            refine norm_ (a' := ?_) ?_ ?_
            rotate_left
            ·show Act.put _ (some 51) _ = _
             simp only [Act.put, List.setIfInBounds_toArray, List.set_cons_zero, List.set_cons_succ, i64_w, i32_w]
             rfl
            refine one_ (i := 12) (N := some 52) #[true, true, true, true, true, true, true, true, true, true, true, true, true, false, false, false, false, true, false, false] rfl rfl (one_of HT_.out (by kernel_rfl)) (by decide) (fun K hK => ?_)
            refine Kd.R_lit_step k23 _ 23 ?hg (N := 52) ?hd (xs := ([(⟨t304, t305⟩ : S23), (⟨t308, t309⟩ : S23)] : List (S23))) (inner := [.int .i64 t304, .int .i64 t305, .int .i64 t308, .int .i64 t309]) (ok := fun _ => True) (okp := fun _ => True) ?hr ?hp (fun _ hk => hk) trivial (Below.refl _ _) (Nat.le_refl _) (by simp) ?_; (case hd => rfl); (case hg => rfl); (case hr => first | (go_simp; done) | (go_simp; rfl)); (case hp => exact (Reps.c2 (show Kd.M k23 _ _ _ (⟨t304, t305⟩ : S23) [.int .i64 t304, .int .i64 t305] from (k23_mkM _ _ _ (⟨t304, t305⟩ : S23) )) (Reps.c2 (show Kd.M k23 _ _ _ (⟨t308, t309⟩ : S23) [.int .i64 t308, .int .i64 t309] from (k23_mkM _ _ _ (⟨t308, t309⟩ : S23) )) (Reps.none _ _))))
            intro v311 w46 ho47 hb hg_ hnew_
            clear hg_ hnew_
            (first | rw [← Ny310.out] at ho47 | (simp only [Int.reduceToNat] at ho47; rw [← Ny310.out] at ho47))
            have n0_ := XPrint.A0 (Kd.R_lower (Kd.R_newB (Kd.R_newB (Kd.R_newB (Kd.R_newB (Kd.R_newB ho47 (g := gb299) (o := .cells #[.int .i64 a0_0, .int .i64 a0_1] 23 (0, 0)) (XPrint.bk BK299.out)) (g := gb300) (o := .cells #[.int .i64 a2_0, .int .i64 a2_1] 23 (0, 0)) (XPrint.bk BK300.out)) (g := gb303) (o := .cells #[.int .i64 t301, .int .i64 t302] 23 (0, 0)) (XPrint.bk BK303.out)) (g := gb307) (o := .cells #[.int .i64 t304, .int .i64 t305] 23 (0, 0)) (XPrint.bk BK307.out)) (g := gb316) (o := .cells #[.int .i64 0, .int .i64 0] 23 (0, 0)) (XPrint.bk BK316.out)) (below_size (by exact XPrint.bz HB.out)))
            have n1_ := XPrint.A0 (XPrint.bb BK299.out hb)
            have n2_ := XPrint.A0 (XPrint.bb BK300.out hb)
            have n3_ := XPrint.A0 (XPrint.bb BK303.out hb)
            have n4_ := XPrint.A0 (XPrint.bb BK307.out hb)
            have n5_ := XPrint.A0 (XPrint.bb BK316.out hb)
            have n6_ := XPrint.A0 (below_step (by exact XPrint.bz HB.out) hb)
            clear BK299 BK300 BK303 BK307 BK316 HB
            have HO312 := n0_; have BK299 := n1_; have BK300 := n2_; have BK303 := n3_; have BK307 := n4_; have BK316 := n5_; have HB := n6_
            clear n0_ n1_ n2_ n3_ n4_ n5_ n6_ hb ho47
            obtain ⟨Ao48, co48, eo48⟩ := Kd.R_slice HO312.out
            (first | subst eo48 | (injection eo48 with f1_ f2_ f3_; have f4_ := f1_.symm; have f5_ := f3_.symm; clear f1_ f2_ f3_; subst f4_; subst f5_))
            refine hK.out _ _ ⟨(blk_cell BK307.out 0).trans rfl, (blk_cell BK307.out 1).trans rfl, (blk_cell BK300.out 0).trans rfl, (blk_cell BK300.out 1).trans rfl, (blk_cell BK303.out 0).trans rfl, (blk_cell BK303.out 1).trans rfl⟩ (fun hHeld => ?_)
            clear hK K
            refine norm_ (a' := ?_) ?_ ?_
            rotate_left
            ·show Act.put _ (some 52) _ = _
             simp only [Act.put, List.setIfInBounds_toArray, List.set_cons_zero, List.set_cons_succ, i64_w, i32_w]
             rfl
            refine one_ (i := 13) (N := some 53) #[true, true, true, true, true, true, true, true, true, true, true, true, true, true, false, false, false, true, false, false] rfl rfl (one_of HT_.out (by kernel_rfl)) (by decide) (fun K hK => ?_)
            refine goes_ Try.func29 (by kernel_rfl) rfl #[.slice Ao48 y310.length co48] (by rfl) rfl rfl (by (try simp only [List.map_toArray, List.map_cons, List.map_nil]); first | done | rfl | (simp only [List.length_drop, List.length_take]; rfl)) ?_
            with_reducible refine (vec_Add.calls k _ _ y310 t313 t314 t315 _ ?side1 ?side2 A12.out).mono ?_
            (case side1 => repeat (first | exact (Kd.R_reads' HO312.out).2.2 | (with_reducible refine Kd.C_alloc ?_ _) | (with_reducible refine Kd.C_drewN ?_ _) | (with_reducible refine Kd.C_drew ?_)))
            (case side2 => exact (Kd.R_reads' HO312.out).2.1)
            rintro e w49 ⟨rfl, hb⟩
            refine ⟨_, rfl, ?_⟩
            have n0_ := XPrint.A0 (XPrint.rb HO312.out hb)
            have n1_ := XPrint.A0 (XPrint.bb BK299.out hb)
            have n2_ := XPrint.A0 (XPrint.bb BK300.out hb)
            have n3_ := XPrint.A0 (XPrint.bb BK303.out hb)
            have n4_ := XPrint.A0 (XPrint.bb BK307.out hb)
            have n5_ := XPrint.A0 (XPrint.bb BK316.out hb)
            have n6_ := XPrint.A0 (below_step (by exact XPrint.bz HB.out) hb)
            clear HO312 BK299 BK300 BK303 BK307 BK316 HB
            have HO312 := n0_; have BK299 := n1_; have BK300 := n2_; have BK303 := n3_; have BK307 := n4_; have BK316 := n5_; have HB := n6_
            clear n0_ n1_ n2_ n3_ n4_ n5_ n6_
            (try clear hb)
            (try clear hb2)
            (try clear hk)
            (try clear hi)
            refine hK.out _ _ ⟨(blk_cell BK307.out 0).trans rfl, (blk_cell BK307.out 1).trans rfl, (blk_cell BK300.out 0).trans rfl, (blk_cell BK300.out 1).trans rfl, (blk_cell BK303.out 0).trans rfl, (blk_cell BK303.out 1).trans rfl⟩ (fun hHeld => ?_)
            clear hK K
            refine norm_ (a' := ?_) ?_ ?_
            rotate_left
            ·show Act.put _ (some 53) _ = _
             simp only [Act.put, List.setIfInBounds_toArray, List.set_cons_zero, List.set_cons_succ, i64_w, i32_w]
             rfl
            refine pure_ (i := 14) (N := some 39) (v := ?_) (a' := ?_) #[true, true, true, true, true, true, true, true, true, true, true, true, true, true, true, false, false, true, false, false] rfl rfl (any_of HT_.out (by kernel_rfl)) (fun _ _ _ h => h) (Or.inl ⟨by rfl, ?_⟩) ?_ ?_
            rotate_left
            ·intro w'
             go_simp
             with_reducible rfl
            rotate_left
            ·simp only [Act.put, List.setIfInBounds_toArray, List.set_cons_zero, List.set_cons_succ, i64_w, i32_w]
             rfl
            refine pure_ (i := 15) (N := some 54) (v := ?_) (a' := ?_) #[true, true, true, true, true, true, true, true, true, true, true, true, true, true, true, true, false, true, false, false] rfl rfl (any_of HT_.out (by kernel_rfl)) (fun _ _ _ h => h) (Or.inl ⟨by rfl, ?_⟩) ?_ ?_
            rotate_left
            ·intro w'
             go_simp
             with_reducible rfl
            rotate_left
            ·simp only [Act.put, List.setIfInBounds_toArray, List.set_cons_zero, List.set_cons_succ, i64_w, i32_w]
             rfl
            refine pure_ (i := 16) (N := some 55) (v := ?_) (a' := ?_) #[true, true, true, true, true, true, true, true, true, true, true, true, true, true, true, true, true, true, false, false] rfl rfl (any_of HT_.out (by kernel_rfl)) (fun _ _ _ h => h) (Or.inl ⟨by rfl, ?_⟩) ?_ ?_
            rotate_left
            ·intro w'
             go_simp
             with_reducible rfl
            rotate_left
            ·simp only [Act.put, List.setIfInBounds_toArray, List.set_cons_zero, List.set_cons_succ, i64_w, i32_w]
             rfl
            exact norm_ (by simp only [putAll, Act.put, List.setIfInBounds_toArray, List.set_cons_zero, List.set_cons_succ]) (hCont (.slice Ao48 y310.length co48, gb316) _ ⟨hHeld, (by (with_reducible repeat (first | apply Kd.R_alloc | apply Kd.R_drewN | apply Kd.R_drew)); exact Kd.R_mono HO312.out (fun _ hk => ⟨hk.1.1.1.1.2, ⟨hk.1.1.1.2, ⟨hk.1.1.2, ⟨hk.1.2, hk.2⟩⟩⟩⟩)), (XPrint.bk BK299.out), (XPrint.bk BK300.out), (XPrint.bk BK303.out), (XPrint.bk BK307.out), (XPrint.bk BK316.out), GW316.out, GE316.out, NB299_316.out, NB316_299.out, NB300_316.out, NB316_300.out, NB303_316.out, NB316_303.out, NB307_316.out, NB316_307.out, (by exact XPrint.bz HB.out)⟩)
          rintro ⟨v311, gb316⟩ w50 ⟨hS_, h0_, h1_, h2_, h3_, h4_, h5_, h6_, h7_, h8_, h9_, h10_, h11_, h12_, h13_, h14_, h15_, h16_⟩
          have n0_ : Aside0 (Kd.R k23 23 w50 w.heap.size (fun k_ => k_ ≠ gb299 ∧ k_ ≠ gb300 ∧ k_ ≠ gb303 ∧ k_ ≠ gb307 ∧ k_ ≠ gb316) v311 y310) := ⟨h0_⟩
          have n1_ : Aside0 (w50.heap[gb299]? = some (.cells #[.int .i64 a0_0, .int .i64 a0_1] 23 (0, 0))) := ⟨h1_⟩
          have n2_ : Aside0 (w50.heap[gb300]? = some (.cells #[.int .i64 a2_0, .int .i64 a2_1] 23 (0, 0))) := ⟨h2_⟩
          have n3_ : Aside0 (w50.heap[gb303]? = some (.cells #[.int .i64 t301, .int .i64 t302] 23 (0, 0))) := ⟨h3_⟩
          have n4_ : Aside0 (w50.heap[gb307]? = some (.cells #[.int .i64 t304, .int .i64 t305] 23 (0, 0))) := ⟨h4_⟩
          have n5_ : Aside0 (w50.heap[gb316]? = some (.cells #[.int .i64 0, .int .i64 0] 23 (0, 0))) := ⟨h5_⟩
          have n6_ : Aside0 (w.heap.size ≤ gb316) := ⟨h6_⟩
          have n7_ : Aside0 (w.heap.size ≤ gb316) := ⟨h7_⟩
          have n8_ : Aside0 (gb299 ≠ gb316) := ⟨h8_⟩
          have n9_ : Aside0 (gb316 ≠ gb299) := ⟨h9_⟩
          have n10_ : Aside0 (gb300 ≠ gb316) := ⟨h10_⟩
          have n11_ : Aside0 (gb316 ≠ gb300) := ⟨h11_⟩
          have n12_ : Aside0 (gb303 ≠ gb316) := ⟨h12_⟩
          have n13_ : Aside0 (gb316 ≠ gb303) := ⟨h13_⟩
          have n14_ : Aside0 (gb307 ≠ gb316) := ⟨h14_⟩
          have n15_ : Aside0 (gb316 ≠ gb307) := ⟨h15_⟩
          have n16_ : Aside0 (Below w.heap.size w w50) := ⟨h16_⟩
          clear BK299 BK300 BK303 BK307 HB h0_ h1_ h2_ h3_ h4_ h5_ h6_ h7_ h8_ h9_ h10_ h11_ h12_ h13_ h14_ h15_ h16_
          have HO312 := n0_; have BK299 := n1_; have BK300 := n2_; have BK303 := n3_; have BK307 := n4_; have BK316 := n5_; have GW316 := n6_; have GE316 := n7_; have NB299_316 := n8_; have NB316_299 := n9_; have NB300_316 := n10_; have NB316_300 := n11_; have NB303_316 := n12_; have NB316_303 := n13_; have NB307_316 := n14_; have NB316_307 := n15_; have HB := n16_
          clear n0_ n1_ n2_ n3_ n4_ n5_ n6_ n7_ n8_ n9_ n10_ n11_ n12_ n13_ n14_ n15_ n16_
          have hHeld : w50.cell? ⟨gb307, 0, none⟩ = some (.int .i64 t304) ∧ w50.cell? ⟨gb307, 1, none⟩ = some (.int .i64 t305) ∧ w50.cell? ⟨gb300, 0, none⟩ = some (.int .i64 a2_0) ∧ w50.cell? ⟨gb300, 1, none⟩ = some (.int .i64 a2_1) ∧ w50.cell? ⟨gb303, 0, none⟩ = some (.int .i64 t301) ∧ w50.cell? ⟨gb303, 1, none⟩ = some (.int .i64 t302) := hS_
          refine norm_ (a' := ?_) ?_ ?_
          rotate_left
          ·simp only [putAll, Act.put, List.setIfInBounds_toArray, List.set_cons_zero, List.set_cons_succ]
           rfl
          refine one_ (i := 18) (N := none) #[true, true, true, true, true, true, true, true, true, true, true, true, true, true, true, true, true, true, true, false] rfl rfl (one_of HT_.out (by kernel_rfl)) (by decide) (fun K hK => ?_)
          have hs51 : w50.cell? ⟨gb316, 0, none⟩ = some (.int .i64 0) := (blk_cell BK316.out 0).trans rfl
          have hfs51 := blk_frozen BK316.out 0
          have hns51_0 := NB299_316.out
          have hns51_1 := NB300_316.out
          have hns51_2 := NB303_316.out
          have hns51_3 := NB307_316.out
          have hms51_0 := NB316_299.out
          have hms51_1 := NB316_300.out
          have hms51_2 := NB316_303.out
          have hms51_3 := NB316_307.out
          have hs52 : w50.cell? ⟨gb316, 1, none⟩ = some (.int .i64 0) := (blk_cell BK316.out 1).trans rfl
          have hfs52 := blk_frozen BK316.out 1
          have hns52_0 := NB299_316.out
          have hns52_1 := NB300_316.out
          have hns52_2 := NB303_316.out
          have hns52_3 := NB307_316.out
          have hms52_0 := NB316_299.out
          have hms52_1 := NB316_300.out
          have hms52_2 := NB316_303.out
          have hms52_3 := NB316_307.out
          refine skip_ (w1 := ?_) (by rfl) rfl ?_ ?_
          rotate_left
          ·go_simp
           rfl
          refine hK.out _ _ ⟨((cell_far (p := ⟨gb316, _, none⟩) NB307_316.out _).trans (((cell_far (p := ⟨gb316, _, none⟩) NB307_316.out _).trans (hHeld.1)))), ((cell_far (p := ⟨gb316, _, none⟩) NB307_316.out _).trans (((cell_far (p := ⟨gb316, _, none⟩) NB307_316.out _).trans (hHeld.2.1)))), ((cell_far (p := ⟨gb316, _, none⟩) NB300_316.out _).trans (((cell_far (p := ⟨gb316, _, none⟩) NB300_316.out _).trans (hHeld.2.2.1)))), ((cell_far (p := ⟨gb316, _, none⟩) NB300_316.out _).trans (((cell_far (p := ⟨gb316, _, none⟩) NB300_316.out _).trans (hHeld.2.2.2.1)))), ((cell_far (p := ⟨gb316, _, none⟩) NB303_316.out _).trans (((cell_far (p := ⟨gb316, _, none⟩) NB303_316.out _).trans (hHeld.2.2.2.2.1)))), ((cell_far (p := ⟨gb316, _, none⟩) NB303_316.out _).trans (((cell_far (p := ⟨gb316, _, none⟩) NB303_316.out _).trans (hHeld.2.2.2.2.2))))⟩ (fun hHeld => ?_)
          clear hK K
          refine pure_ (i := 19) (N := some 12) (v := ?_) (a' := ?_) #[true, true, true, true, true, true, true, true, true, true, true, true, true, true, true, true, true, true, true, true] rfl rfl (any_of HT_.out (by kernel_rfl)) (fun _ _ _ h => h) (Or.inl ⟨by rfl, ?_⟩) ?_ ?_
          rotate_left
          ·intro w'
           go_simp
           with_reducible rfl
          rotate_left
          ·simp only [Act.put, List.setIfInBounds_toArray, List.set_cons_zero, List.set_cons_succ, i64_w, i32_w]
           rfl
          refine done_ (done_of HT_.out (by kernel_rfl)) ?_
          have hnb53 := NB316_299.out
          have hnc53 := NB299_316.out
          have hnb54 := NB316_300.out
          have hnc54 := NB300_316.out
          have hnb55 := NB316_303.out
          have hnc55 := NB303_316.out
          have hnb56 := NB316_307.out
          have hnc56 := NB307_316.out
          have hcz57_0 : w50.cell? ⟨gb316, 0, none⟩ = some (.int .i64 0) := (blk_cell BK316.out 0).trans rfl
          have hcz57_1 : w50.cell? ⟨gb316, 1, none⟩ = some (.int .i64 0) := (blk_cell BK316.out 1).trans rfl
          have hfz57_0 := blk_frozen BK316.out 0
          have hfz57_1 := blk_frozen BK316.out 1
          have hcz58_0 : w50.cell? ⟨gb303, 0, none⟩ = some (.int .i64 t301) := (blk_cell BK303.out 0).trans rfl
          have hcz58_1 : w50.cell? ⟨gb303, 1, none⟩ = some (.int .i64 t302) := (blk_cell BK303.out 1).trans rfl
          have hfz58_0 := blk_frozen BK303.out 0
          have hfz58_1 := blk_frozen BK303.out 1
          try go_wp2_with (first | ((with_reducible refine gate_callee (f := 18) rfl ?_); refine goesL_ (some 59) rfl rfl Try.func18 (by kernel_rfl) rfl #[.agg #[.int .i64 t313, .int .i64 t314], .agg #[.int .i64 t301, .int .i64 t302]] rfl (by (try simp only [List.map_toArray, List.map_cons, List.map_nil]); first | done | rfl | (simp only [List.length_drop, List.length_take]; rfl)) ?_; (with_reducible refine (vec_Units.calls k t313 t314 t301 t302 t317 t318 _ A13.out).mono ?_); rintro e w59 ⟨rfl, hb⟩; refine ⟨_, rfl, ?_⟩; have n0_ := XPrint.A0 (Kd.R_below (by (with_reducible repeat (first | apply Kd.R_alloc | apply Kd.R_drewN | apply Kd.R_drew)); exact (Kd.R_mono (Kd.R_far (p := ⟨gb316, 1, none⟩) (Kd.R_far (p := ⟨gb316, 0, none⟩) (Kd.R_mono HO312.out (fun k_ hk => (⟨hk, hk.2.2.2.2⟩ : _ ∧ k_ ≠ gb316))) (fun _ hk => hk.2) (.int .i64 t313)) (fun _ hk => hk.2) (.int .i64 t314)) (fun _ h_ => h_.1))) hb); have n1_ := XPrint.A0 (blk_below (g := gb299) (o := .cells #[.int .i64 a0_0, .int .i64 a0_1] 23 (0, 0)) (by (with_reducible repeat (first | refine blk_drewN ?_ _ | refine blk_drew ?_ | refine blk_alloc ?_ _)); refine blk_far ?_ NB299_316.out _; (with_reducible repeat (first | refine blk_drewN ?_ _ | refine blk_drew ?_ | refine blk_alloc ?_ _)); refine blk_far ?_ NB299_316.out _; (with_reducible repeat (first | refine blk_drewN ?_ _ | refine blk_drew ?_ | refine blk_alloc ?_ _)); exact BK299.out) hb); have n2_ := XPrint.A0 (blk_below (g := gb300) (o := .cells #[.int .i64 a2_0, .int .i64 a2_1] 23 (0, 0)) (by (with_reducible repeat (first | refine blk_drewN ?_ _ | refine blk_drew ?_ | refine blk_alloc ?_ _)); refine blk_far ?_ NB300_316.out _; (with_reducible repeat (first | refine blk_drewN ?_ _ | refine blk_drew ?_ | refine blk_alloc ?_ _)); refine blk_far ?_ NB300_316.out _; (with_reducible repeat (first | refine blk_drewN ?_ _ | refine blk_drew ?_ | refine blk_alloc ?_ _)); exact BK300.out) hb); have n3_ := XPrint.A0 (blk_below (g := gb303) (o := .cells #[.int .i64 t301, .int .i64 t302] 23 (0, 0)) (by (with_reducible repeat (first | refine blk_drewN ?_ _ | refine blk_drew ?_ | refine blk_alloc ?_ _)); refine blk_far ?_ NB303_316.out _; (with_reducible repeat (first | refine blk_drewN ?_ _ | refine blk_drew ?_ | refine blk_alloc ?_ _)); refine blk_far ?_ NB303_316.out _; (with_reducible repeat (first | refine blk_drewN ?_ _ | refine blk_drew ?_ | refine blk_alloc ?_ _)); exact BK303.out) hb); have n4_ := XPrint.A0 (blk_below (g := gb307) (o := .cells #[.int .i64 t304, .int .i64 t305] 23 (0, 0)) (by (with_reducible repeat (first | refine blk_drewN ?_ _ | refine blk_drew ?_ | refine blk_alloc ?_ _)); refine blk_far ?_ NB307_316.out _; (with_reducible repeat (first | refine blk_drewN ?_ _ | refine blk_drew ?_ | refine blk_alloc ?_ _)); refine blk_far ?_ NB307_316.out _; (with_reducible repeat (first | refine blk_drewN ?_ _ | refine blk_drew ?_ | refine blk_alloc ?_ _)); exact BK307.out) hb); have n5_ := XPrint.A0 (blk_below (g := gb316) (o := .cells #[.int .i64 t313, .int .i64 t314] 23 (0, 0)) (by (with_reducible repeat (first | refine blk_drewN ?_ _ | refine blk_drew ?_ | refine blk_alloc ?_ _)); refine blk_put (cs := #[.int .i64 t313, .int .i64 0]) ?_ 1 _ rfl; (with_reducible repeat (first | refine blk_drewN ?_ _ | refine blk_drew ?_ | refine blk_alloc ?_ _)); refine blk_put (cs := #[.int .i64 0, .int .i64 0]) ?_ 0 _ rfl; (with_reducible repeat (first | refine blk_drewN ?_ _ | refine blk_drew ?_ | refine blk_alloc ?_ _)); exact BK316.out) hb); have n6_ := XPrint.A0 (below_step (by repeat (first | (with_reducible first | exact HB.out | apply below_alloc | apply pw_below_drewN | apply below_drew1 | refine below_set ?_ GE299.out | refine below_set ?_ GE300.out | refine below_set ?_ GE303.out | refine below_set ?_ GE307.out | refine below_set ?_ GE316.out) | exact HB.out)) hb); clear HO312; clear BK299; clear BK300; clear BK303; clear BK307; clear BK316; clear HB; have HO312 := n0_; have BK299 := n1_; have BK300 := n2_; have BK303 := n3_; have BK307 := n4_; have BK316 := n5_; have HB := n6_; clear n0_ n1_ n2_ n3_ n4_ n5_ n6_; (try clear hb); (try clear hb2); (try clear hk); (try clear hi); have hcz60_0 : w59.cell? ⟨gb303, 0, none⟩ = some (.int .i64 t301) := (blk_cell BK303.out 0).trans rfl; have hcz60_1 : w59.cell? ⟨gb303, 1, none⟩ = some (.int .i64 t302) := (blk_cell BK303.out 1).trans rfl; have hfz60_0 := blk_frozen BK303.out 0; have hfz60_1 := blk_frozen BK303.out 1) | ((with_reducible refine gate_callee (f := 16) rfl ?_); refine goesL_ (some 66) rfl rfl Try.func16 (by kernel_rfl) rfl #[.agg #[.int .i64 t301, .int .i64 t302], .int .i64 (wrap64 (t317 + 1))] rfl (by (try simp only [List.map_toArray, List.map_cons, List.map_nil]); first | done | rfl | (simp only [List.length_drop, List.length_take]; rfl)) ?_; (with_reducible refine (vec_Scale.calls t301 t302 (wrap64 (t317 + 1)) t319 t320 t321 _ A14.out).mono ?_); rintro e w61 ⟨rfl, hb⟩; refine ⟨_, rfl, ?_⟩; have n0_ := XPrint.A0 (XPrint.rb HO312.out hb); have n1_ := XPrint.A0 (XPrint.bb BK299.out hb); have n2_ := XPrint.A0 (XPrint.bb BK300.out hb); have n3_ := XPrint.A0 (XPrint.bb BK303.out hb); have n4_ := XPrint.A0 (XPrint.bb BK307.out hb); have n5_ := XPrint.A0 (XPrint.bb BK316.out hb); have n6_ := XPrint.A0 (below_step (by exact XPrint.bz HB.out) hb); clear HO312; clear BK299; clear BK300; clear BK303; clear BK307; clear BK316; clear HB; have HO312 := n0_; have BK299 := n1_; have BK300 := n2_; have BK303 := n3_; have BK307 := n4_; have BK316 := n5_; have HB := n6_; clear n0_ n1_ n2_ n3_ n4_ n5_ n6_; (try clear hb); (try clear hb2); (try clear hk); (try clear hi)) | ((with_reducible refine gate_dst (N := 15) rfl ?_); refine box_event ?hg (N := 15) ?hd (cs := #[.int .i64 0, .int .i64 0]) (t := 23) ?hr ?_; (case hd => rfl); (case hg => rfl); (case hr => first | (go_simp; done) | (go_simp; rfl)); intro gb322 hg w62 hbox hb; have n0_ := XPrint.A0 (Kd.R_below (Kd.R_elderB (by (with_reducible repeat (first | apply Kd.R_alloc | apply Kd.R_drewN | apply Kd.R_drew)); exact HO312.out) gb322 (Nat.le_of_eq hg.symm)) hb); have n1_ := XPrint.A0 (XPrint.bb BK299.out hb); have n2_ := XPrint.A0 (XPrint.bb BK300.out hb); have n3_ := XPrint.A0 (XPrint.bb BK303.out hb); have n4_ := XPrint.A0 (XPrint.bb BK307.out hb); have n5_ := XPrint.A0 (XPrint.bb BK316.out hb); have n6_ := XPrint.A0 (below_step (by exact XPrint.bz HB.out) hb); have n7_ := XPrint.A0 (hbox); have n8_ := XPrint.A0 ((by rw [hg]; exact (below_size (by exact XPrint.bz HB.out)) : w.heap.size ≤ gb322)); have n9_ := XPrint.A0 ((by rw [hg]; exact (below_size (by exact XPrint.bz HB.out)) : w.heap.size ≤ gb322)); have n10_ := XPrint.A0 ((by rw [hg]; exact Nat.ne_of_lt (XPrint.bl BK299.out) : gb299 ≠ gb322)); have n11_ := XPrint.A0 ((by rw [hg]; exact Nat.ne_of_gt (XPrint.bl BK299.out) : gb322 ≠ gb299)); have n12_ := XPrint.A0 ((by rw [hg]; exact Nat.ne_of_lt (XPrint.bl BK300.out) : gb300 ≠ gb322)); have n13_ := XPrint.A0 ((by rw [hg]; exact Nat.ne_of_gt (XPrint.bl BK300.out) : gb322 ≠ gb300)); have n14_ := XPrint.A0 ((by rw [hg]; exact Nat.ne_of_lt (XPrint.bl BK303.out) : gb303 ≠ gb322)); have n15_ := XPrint.A0 ((by rw [hg]; exact Nat.ne_of_gt (XPrint.bl BK303.out) : gb322 ≠ gb303)); have n16_ := XPrint.A0 ((by rw [hg]; exact Nat.ne_of_lt (XPrint.bl BK307.out) : gb307 ≠ gb322)); have n17_ := XPrint.A0 ((by rw [hg]; exact Nat.ne_of_gt (XPrint.bl BK307.out) : gb322 ≠ gb307)); have n18_ := XPrint.A0 ((by rw [hg]; exact Nat.ne_of_lt (XPrint.bl BK316.out) : gb316 ≠ gb322)); have n19_ := XPrint.A0 ((by rw [hg]; exact Nat.ne_of_gt (XPrint.bl BK316.out) : gb322 ≠ gb316)); clear HO312; clear BK299; clear BK300; clear BK303; clear BK307; clear BK316; clear HB; have HO312 := n0_; have BK299 := n1_; have BK300 := n2_; have BK303 := n3_; have BK307 := n4_; have BK316 := n5_; have HB := n6_; have BK322 := n7_; have GW322 := n8_; have GE322 := n9_; have NB299_322 := n10_; have NB322_299 := n11_; have NB300_322 := n12_; have NB322_300 := n13_; have NB303_322 := n14_; have NB322_303 := n15_; have NB307_322 := n16_; have NB322_307 := n17_; have NB316_322 := n18_; have NB322_316 := n19_; clear n0_ n1_ n2_ n3_ n4_ n5_ n6_ n7_ n8_ n9_ n10_ n11_ n12_ n13_ n14_ n15_ n16_ n17_ n18_ n19_; clear hb hbox hg; have hnb63 := NB322_299.out; have hnc63 := NB299_322.out; have hnb64 := NB322_300.out; have hnc64 := NB300_322.out; have hnb65 := NB322_303.out; have hnc65 := NB303_322.out; have hnb66 := NB322_307.out; have hnc66 := NB307_322.out; have hnb67 := NB322_316.out; have hnc67 := NB316_322.out; have hcz68_0 : w62.cell? ⟨gb322, 0, none⟩ = some (.int .i64 0) := (blk_cell BK322.out 0).trans rfl; have hcz68_1 : w62.cell? ⟨gb322, 1, none⟩ = some (.int .i64 0) := (blk_cell BK322.out 1).trans rfl; have hfz68_0 := blk_frozen BK322.out 0; have hfz68_1 := blk_frozen BK322.out 1; have hcz69_0 : w62.cell? ⟨gb303, 0, none⟩ = some (.int .i64 t301) := (blk_cell BK303.out 0).trans rfl; have hcz69_1 : w62.cell? ⟨gb303, 1, none⟩ = some (.int .i64 t302) := (blk_cell BK303.out 1).trans rfl; have hfz69_0 := blk_frozen BK303.out 0; have hfz69_1 := blk_frozen BK303.out 1) | ((with_reducible refine gate_callee (f := 16) rfl ?_); refine goesL_ (some 72) rfl rfl Try.func16 (by kernel_rfl) rfl #[.agg #[.int .i64 t301, .int .i64 t302], .int .i64 t317] rfl (by (try simp only [List.map_toArray, List.map_cons, List.map_nil]); first | done | rfl | (simp only [List.length_drop, List.length_take]; rfl)) ?_; (with_reducible refine (vec_Scale.calls t301 t302 t317 t323 t324 t325 _ A15.out).mono ?_); rintro e w70 ⟨rfl, hb⟩; refine ⟨_, rfl, ?_⟩; have n0_ := XPrint.A0 (Kd.R_below (by (with_reducible repeat (first | apply Kd.R_alloc | apply Kd.R_drewN | apply Kd.R_drew)); exact (Kd.R_mono (Kd.R_far (p := ⟨gb322, 1, none⟩) (Kd.R_far (p := ⟨gb322, 0, none⟩) (Kd.R_mono HO312.out (fun k_ hk => (⟨hk, hk.2⟩ : _ ∧ k_ ≠ gb322))) (fun _ hk => hk.2) (.int .i64 t319)) (fun _ hk => hk.2) (.int .i64 t320)) (fun _ h_ => h_.1))) hb); have n1_ := XPrint.A0 (blk_below (g := gb299) (o := .cells #[.int .i64 a0_0, .int .i64 a0_1] 23 (0, 0)) (by (with_reducible repeat (first | refine blk_drewN ?_ _ | refine blk_drew ?_ | refine blk_alloc ?_ _)); refine blk_far ?_ NB299_322.out _; (with_reducible repeat (first | refine blk_drewN ?_ _ | refine blk_drew ?_ | refine blk_alloc ?_ _)); refine blk_far ?_ NB299_322.out _; (with_reducible repeat (first | refine blk_drewN ?_ _ | refine blk_drew ?_ | refine blk_alloc ?_ _)); exact BK299.out) hb); have n2_ := XPrint.A0 (blk_below (g := gb300) (o := .cells #[.int .i64 a2_0, .int .i64 a2_1] 23 (0, 0)) (by (with_reducible repeat (first | refine blk_drewN ?_ _ | refine blk_drew ?_ | refine blk_alloc ?_ _)); refine blk_far ?_ NB300_322.out _; (with_reducible repeat (first | refine blk_drewN ?_ _ | refine blk_drew ?_ | refine blk_alloc ?_ _)); refine blk_far ?_ NB300_322.out _; (with_reducible repeat (first | refine blk_drewN ?_ _ | refine blk_drew ?_ | refine blk_alloc ?_ _)); exact BK300.out) hb); have n3_ := XPrint.A0 (blk_below (g := gb303) (o := .cells #[.int .i64 t301, .int .i64 t302] 23 (0, 0)) (by (with_reducible repeat (first | refine blk_drewN ?_ _ | refine blk_drew ?_ | refine blk_alloc ?_ _)); refine blk_far ?_ NB303_322.out _; (with_reducible repeat (first | refine blk_drewN ?_ _ | refine blk_drew ?_ | refine blk_alloc ?_ _)); refine blk_far ?_ NB303_322.out _; (with_reducible repeat (first | refine blk_drewN ?_ _ | refine blk_drew ?_ | refine blk_alloc ?_ _)); exact BK303.out) hb); have n4_ := XPrint.A0 (blk_below (g := gb307) (o := .cells #[.int .i64 t304, .int .i64 t305] 23 (0, 0)) (by (with_reducible repeat (first | refine blk_drewN ?_ _ | refine blk_drew ?_ | refine blk_alloc ?_ _)); refine blk_far ?_ NB307_322.out _; (with_reducible repeat (first | refine blk_drewN ?_ _ | refine blk_drew ?_ | refine blk_alloc ?_ _)); refine blk_far ?_ NB307_322.out _; (with_reducible repeat (first | refine blk_drewN ?_ _ | refine blk_drew ?_ | refine blk_alloc ?_ _)); exact BK307.out) hb); have n5_ := XPrint.A0 (blk_below (g := gb316) (o := .cells #[.int .i64 t313, .int .i64 t314] 23 (0, 0)) (by (with_reducible repeat (first | refine blk_drewN ?_ _ | refine blk_drew ?_ | refine blk_alloc ?_ _)); refine blk_far ?_ NB316_322.out _; (with_reducible repeat (first | refine blk_drewN ?_ _ | refine blk_drew ?_ | refine blk_alloc ?_ _)); refine blk_far ?_ NB316_322.out _; (with_reducible repeat (first | refine blk_drewN ?_ _ | refine blk_drew ?_ | refine blk_alloc ?_ _)); exact BK316.out) hb); have n6_ := XPrint.A0 (blk_below (g := gb322) (o := .cells #[.int .i64 t319, .int .i64 t320] 23 (0, 0)) (by (with_reducible repeat (first | refine blk_drewN ?_ _ | refine blk_drew ?_ | refine blk_alloc ?_ _)); refine blk_put (cs := #[.int .i64 t319, .int .i64 0]) ?_ 1 _ rfl; (with_reducible repeat (first | refine blk_drewN ?_ _ | refine blk_drew ?_ | refine blk_alloc ?_ _)); refine blk_put (cs := #[.int .i64 0, .int .i64 0]) ?_ 0 _ rfl; (with_reducible repeat (first | refine blk_drewN ?_ _ | refine blk_drew ?_ | refine blk_alloc ?_ _)); exact BK322.out) hb); have n7_ := XPrint.A0 (below_step (by repeat (first | (with_reducible first | exact HB.out | apply below_alloc | apply pw_below_drewN | apply below_drew1 | refine below_set ?_ GE299.out | refine below_set ?_ GE300.out | refine below_set ?_ GE303.out | refine below_set ?_ GE307.out | refine below_set ?_ GE316.out | refine below_set ?_ GE322.out) | exact HB.out)) hb); clear HO312; clear BK299; clear BK300; clear BK303; clear BK307; clear BK316; clear BK322; clear HB; have HO312 := n0_; have BK299 := n1_; have BK300 := n2_; have BK303 := n3_; have BK307 := n4_; have BK316 := n5_; have BK322 := n6_; have HB := n7_; clear n0_ n1_ n2_ n3_ n4_ n5_ n6_ n7_; (try clear hb); (try clear hb2); (try clear hk); (try clear hi)) | ((with_reducible refine gate_dst (N := 17) rfl ?_); refine box_event ?hg (N := 17) ?hd (cs := #[.int .i64 0, .int .i64 0]) (t := 23) ?hr ?_; (case hd => rfl); (case hg => rfl); (case hr => first | (go_simp; done) | (go_simp; rfl)); intro gb326 hg w71 hbox hb; have n0_ := XPrint.A0 (Kd.R_below (Kd.R_elderB (by (with_reducible repeat (first | apply Kd.R_alloc | apply Kd.R_drewN | apply Kd.R_drew)); exact HO312.out) gb326 (Nat.le_of_eq hg.symm)) hb); have n1_ := XPrint.A0 (XPrint.bb BK299.out hb); have n2_ := XPrint.A0 (XPrint.bb BK300.out hb); have n3_ := XPrint.A0 (XPrint.bb BK303.out hb); have n4_ := XPrint.A0 (XPrint.bb BK307.out hb); have n5_ := XPrint.A0 (XPrint.bb BK316.out hb); have n6_ := XPrint.A0 (XPrint.bb BK322.out hb); have n7_ := XPrint.A0 (below_step (by exact XPrint.bz HB.out) hb); have n8_ := XPrint.A0 (hbox); have n9_ := XPrint.A0 ((by rw [hg]; exact (below_size (by exact XPrint.bz HB.out)) : w.heap.size ≤ gb326)); have n10_ := XPrint.A0 ((by rw [hg]; exact (below_size (by exact XPrint.bz HB.out)) : w.heap.size ≤ gb326)); have n11_ := XPrint.A0 ((by rw [hg]; exact Nat.ne_of_lt (XPrint.bl BK299.out) : gb299 ≠ gb326)); have n12_ := XPrint.A0 ((by rw [hg]; exact Nat.ne_of_gt (XPrint.bl BK299.out) : gb326 ≠ gb299)); have n13_ := XPrint.A0 ((by rw [hg]; exact Nat.ne_of_lt (XPrint.bl BK300.out) : gb300 ≠ gb326)); have n14_ := XPrint.A0 ((by rw [hg]; exact Nat.ne_of_gt (XPrint.bl BK300.out) : gb326 ≠ gb300)); have n15_ := XPrint.A0 ((by rw [hg]; exact Nat.ne_of_lt (XPrint.bl BK303.out) : gb303 ≠ gb326)); have n16_ := XPrint.A0 ((by rw [hg]; exact Nat.ne_of_gt (XPrint.bl BK303.out) : gb326 ≠ gb303)); have n17_ := XPrint.A0 ((by rw [hg]; exact Nat.ne_of_lt (XPrint.bl BK307.out) : gb307 ≠ gb326)); have n18_ := XPrint.A0 ((by rw [hg]; exact Nat.ne_of_gt (XPrint.bl BK307.out) : gb326 ≠ gb307)); have n19_ := XPrint.A0 ((by rw [hg]; exact Nat.ne_of_lt (XPrint.bl BK316.out) : gb316 ≠ gb326)); have n20_ := XPrint.A0 ((by rw [hg]; exact Nat.ne_of_gt (XPrint.bl BK316.out) : gb326 ≠ gb316)); have n21_ := XPrint.A0 ((by rw [hg]; exact Nat.ne_of_lt (XPrint.bl BK322.out) : gb322 ≠ gb326)); have n22_ := XPrint.A0 ((by rw [hg]; exact Nat.ne_of_gt (XPrint.bl BK322.out) : gb326 ≠ gb322)); clear HO312; clear BK299; clear BK300; clear BK303; clear BK307; clear BK316; clear BK322; clear HB; have HO312 := n0_; have BK299 := n1_; have BK300 := n2_; have BK303 := n3_; have BK307 := n4_; have BK316 := n5_; have BK322 := n6_; have HB := n7_; have BK326 := n8_; have GW326 := n9_; have GE326 := n10_; have NB299_326 := n11_; have NB326_299 := n12_; have NB300_326 := n13_; have NB326_300 := n14_; have NB303_326 := n15_; have NB326_303 := n16_; have NB307_326 := n17_; have NB326_307 := n18_; have NB316_326 := n19_; have NB326_316 := n20_; have NB322_326 := n21_; have NB326_322 := n22_; clear n0_ n1_ n2_ n3_ n4_ n5_ n6_ n7_ n8_ n9_ n10_ n11_ n12_ n13_ n14_ n15_ n16_ n17_ n18_ n19_ n20_ n21_ n22_; clear hb hbox hg; have hnb72 := NB326_299.out; have hnc72 := NB299_326.out; have hnb73 := NB326_300.out; have hnc73 := NB300_326.out; have hnb74 := NB326_303.out; have hnc74 := NB303_326.out; have hnb75 := NB326_307.out; have hnc75 := NB307_326.out; have hnb76 := NB326_316.out; have hnc76 := NB316_326.out; have hnb77 := NB326_322.out; have hnc77 := NB322_326.out; have hcz78_0 : w71.cell? ⟨gb326, 0, none⟩ = some (.int .i64 0) := (blk_cell BK326.out 0).trans rfl; have hcz78_1 : w71.cell? ⟨gb326, 1, none⟩ = some (.int .i64 0) := (blk_cell BK326.out 1).trans rfl; have hfz78_0 := blk_frozen BK326.out 0; have hfz78_1 := blk_frozen BK326.out 1; have hcz79_0 : w71.cell? ⟨gb316, 0, none⟩ = some (.int .i64 t313) := (blk_cell BK316.out 0).trans rfl; have hcz79_1 : w71.cell? ⟨gb316, 1, none⟩ = some (.int .i64 t314) := (blk_cell BK316.out 1).trans rfl; have hfz79_0 := blk_frozen BK316.out 0; have hfz79_1 := blk_frozen BK316.out 1) | (go_at_call 26; (with_reducible refine (vec_LE.calls t323 t324 t313 t314 true _ A22.out).mono ?_); rintro e w80 ⟨rfl, hb⟩; have n0_ := XPrint.A0 (Kd.R_below (by (with_reducible repeat (first | apply Kd.R_alloc | apply Kd.R_drewN | apply Kd.R_drew)); exact (Kd.R_mono (Kd.R_far (p := ⟨gb326, 1, none⟩) (Kd.R_far (p := ⟨gb326, 0, none⟩) (Kd.R_mono HO312.out (fun k_ hk => (⟨hk, hk.2⟩ : _ ∧ k_ ≠ gb326))) (fun _ hk => hk.2) (.int .i64 t323)) (fun _ hk => hk.2) (.int .i64 t324)) (fun _ h_ => h_.1))) hb); have n1_ := XPrint.A0 (blk_below (g := gb299) (o := .cells #[.int .i64 a0_0, .int .i64 a0_1] 23 (0, 0)) (by (with_reducible repeat (first | refine blk_drewN ?_ _ | refine blk_drew ?_ | refine blk_alloc ?_ _)); refine blk_far ?_ NB299_326.out _; (with_reducible repeat (first | refine blk_drewN ?_ _ | refine blk_drew ?_ | refine blk_alloc ?_ _)); refine blk_far ?_ NB299_326.out _; (with_reducible repeat (first | refine blk_drewN ?_ _ | refine blk_drew ?_ | refine blk_alloc ?_ _)); exact BK299.out) hb); have n2_ := XPrint.A0 (blk_below (g := gb300) (o := .cells #[.int .i64 a2_0, .int .i64 a2_1] 23 (0, 0)) (by (with_reducible repeat (first | refine blk_drewN ?_ _ | refine blk_drew ?_ | refine blk_alloc ?_ _)); refine blk_far ?_ NB300_326.out _; (with_reducible repeat (first | refine blk_drewN ?_ _ | refine blk_drew ?_ | refine blk_alloc ?_ _)); refine blk_far ?_ NB300_326.out _; (with_reducible repeat (first | refine blk_drewN ?_ _ | refine blk_drew ?_ | refine blk_alloc ?_ _)); exact BK300.out) hb); have n3_ := XPrint.A0 (blk_below (g := gb303) (o := .cells #[.int .i64 t301, .int .i64 t302] 23 (0, 0)) (by (with_reducible repeat (first | refine blk_drewN ?_ _ | refine blk_drew ?_ | refine blk_alloc ?_ _)); refine blk_far ?_ NB303_326.out _; (with_reducible repeat (first | refine blk_drewN ?_ _ | refine blk_drew ?_ | refine blk_alloc ?_ _)); refine blk_far ?_ NB303_326.out _; (with_reducible repeat (first | refine blk_drewN ?_ _ | refine blk_drew ?_ | refine blk_alloc ?_ _)); exact BK303.out) hb); have n4_ := XPrint.A0 (blk_below (g := gb307) (o := .cells #[.int .i64 t304, .int .i64 t305] 23 (0, 0)) (by (with_reducible repeat (first | refine blk_drewN ?_ _ | refine blk_drew ?_ | refine blk_alloc ?_ _)); refine blk_far ?_ NB307_326.out _; (with_reducible repeat (first | refine blk_drewN ?_ _ | refine blk_drew ?_ | refine blk_alloc ?_ _)); refine blk_far ?_ NB307_326.out _; (with_reducible repeat (first | refine blk_drewN ?_ _ | refine blk_drew ?_ | refine blk_alloc ?_ _)); exact BK307.out) hb); have n5_ := XPrint.A0 (blk_below (g := gb316) (o := .cells #[.int .i64 t313, .int .i64 t314] 23 (0, 0)) (by (with_reducible repeat (first | refine blk_drewN ?_ _ | refine blk_drew ?_ | refine blk_alloc ?_ _)); refine blk_far ?_ NB316_326.out _; (with_reducible repeat (first | refine blk_drewN ?_ _ | refine blk_drew ?_ | refine blk_alloc ?_ _)); refine blk_far ?_ NB316_326.out _; (with_reducible repeat (first | refine blk_drewN ?_ _ | refine blk_drew ?_ | refine blk_alloc ?_ _)); exact BK316.out) hb); have n6_ := XPrint.A0 (blk_below (g := gb322) (o := .cells #[.int .i64 t319, .int .i64 t320] 23 (0, 0)) (by (with_reducible repeat (first | refine blk_drewN ?_ _ | refine blk_drew ?_ | refine blk_alloc ?_ _)); refine blk_far ?_ NB322_326.out _; (with_reducible repeat (first | refine blk_drewN ?_ _ | refine blk_drew ?_ | refine blk_alloc ?_ _)); refine blk_far ?_ NB322_326.out _; (with_reducible repeat (first | refine blk_drewN ?_ _ | refine blk_drew ?_ | refine blk_alloc ?_ _)); exact BK322.out) hb); have n7_ := XPrint.A0 (blk_below (g := gb326) (o := .cells #[.int .i64 t323, .int .i64 t324] 23 (0, 0)) (by (with_reducible repeat (first | refine blk_drewN ?_ _ | refine blk_drew ?_ | refine blk_alloc ?_ _)); refine blk_put (cs := #[.int .i64 t323, .int .i64 0]) ?_ 1 _ rfl; (with_reducible repeat (first | refine blk_drewN ?_ _ | refine blk_drew ?_ | refine blk_alloc ?_ _)); refine blk_put (cs := #[.int .i64 0, .int .i64 0]) ?_ 0 _ rfl; (with_reducible repeat (first | refine blk_drewN ?_ _ | refine blk_drew ?_ | refine blk_alloc ?_ _)); exact BK326.out) hb); have n8_ := XPrint.A0 (below_step (by repeat (first | (with_reducible first | exact HB.out | apply below_alloc | apply pw_below_drewN | apply below_drew1 | refine below_set ?_ GE299.out | refine below_set ?_ GE300.out | refine below_set ?_ GE303.out | refine below_set ?_ GE307.out | refine below_set ?_ GE316.out | refine below_set ?_ GE322.out | refine below_set ?_ GE326.out) | exact HB.out)) hb); clear HO312; clear BK299; clear BK300; clear BK303; clear BK307; clear BK316; clear BK322; clear BK326; clear HB; have HO312 := n0_; have BK299 := n1_; have BK300 := n2_; have BK303 := n3_; have BK307 := n4_; have BK316 := n5_; have BK322 := n6_; have BK326 := n7_; have HB := n8_; clear n0_ n1_ n2_ n3_ n4_ n5_ n6_ n7_ n8_; (try clear hb); (try clear hb2); (try clear hk); (try clear hi); have hcz81_0 : w80.cell? ⟨gb322, 0, none⟩ = some (.int .i64 t319) := (blk_cell BK322.out 0).trans rfl; have hcz81_1 : w80.cell? ⟨gb322, 1, none⟩ = some (.int .i64 t320) := (blk_cell BK322.out 1).trans rfl; have hfz81_0 := blk_frozen BK322.out 0; have hfz81_1 := blk_frozen BK322.out 1; have hcz82_0 : w80.cell? ⟨gb316, 0, none⟩ = some (.int .i64 t313) := (blk_cell BK316.out 0).trans rfl; have hcz82_1 : w80.cell? ⟨gb316, 1, none⟩ = some (.int .i64 t314) := (blk_cell BK316.out 1).trans rfl; have hfz82_0 := blk_frozen BK316.out 0; have hfz82_1 := blk_frozen BK316.out 1) | (go_at_call 26; (with_reducible refine (vec_LE.calls t319 t320 t313 t314 false _ A24.out).mono ?_); rintro e w83 ⟨rfl, hb⟩; have n0_ := XPrint.A0 (XPrint.rb HO312.out hb); have n1_ := XPrint.A0 (XPrint.bb BK299.out hb); have n2_ := XPrint.A0 (XPrint.bb BK300.out hb); have n3_ := XPrint.A0 (XPrint.bb BK303.out hb); have n4_ := XPrint.A0 (XPrint.bb BK307.out hb); have n5_ := XPrint.A0 (XPrint.bb BK316.out hb); have n6_ := XPrint.A0 (XPrint.bb BK322.out hb); have n7_ := XPrint.A0 (XPrint.bb BK326.out hb); have n8_ := XPrint.A0 (below_step (by exact XPrint.bz HB.out) hb); clear HO312; clear BK299; clear BK300; clear BK303; clear BK307; clear BK316; clear BK322; clear BK326; clear HB; have HO312 := n0_; have BK299 := n1_; have BK300 := n2_; have BK303 := n3_; have BK307 := n4_; have BK316 := n5_; have BK322 := n6_; have BK326 := n7_; have HB := n8_; clear n0_ n1_ n2_ n3_ n4_ n5_ n6_ n7_ n8_; (try clear hb); (try clear hb2); (try clear hk); (try clear hi)) | (go_at_call 28; (with_reducible refine (liverylaw01_head.calls k  t329 _ A26.out).mono ?_); rintro e w84 ⟨rfl, hb⟩; have n0_ := XPrint.A0 (XPrint.rb HO312.out hb); have n1_ := XPrint.A0 (XPrint.bb BK299.out hb); have n2_ := XPrint.A0 (XPrint.bb BK300.out hb); have n3_ := XPrint.A0 (XPrint.bb BK303.out hb); have n4_ := XPrint.A0 (XPrint.bb BK307.out hb); have n5_ := XPrint.A0 (XPrint.bb BK316.out hb); have n6_ := XPrint.A0 (XPrint.bb BK322.out hb); have n7_ := XPrint.A0 (XPrint.bb BK326.out hb); have n8_ := XPrint.A0 (below_step (by exact XPrint.bz HB.out) hb); clear HO312; clear BK299; clear BK300; clear BK303; clear BK307; clear BK316; clear BK322; clear BK326; clear HB; have HO312 := n0_; have BK299 := n1_; have BK300 := n2_; have BK303 := n3_; have BK307 := n4_; have BK316 := n5_; have BK322 := n6_; have BK326 := n7_; have HB := n8_; clear n0_ n1_ n2_ n3_ n4_ n5_ n6_ n7_ n8_; (try clear hb); (try clear hb2); (try clear hk); (try clear hi)))
          go_ret
          exact ⟨by first | rfl | (simp [errW_none, errW_some] <;> rfl) | (simp only [← hji4, ← hji5, ← hji8, ← hji10]; first | rfl | (simp [errW_none, errW_some] <;> rfl)) | (simp [*, errW_none, errW_some] <;> rfl), by exact XPrint.bz HB.out⟩
        ·replace c23 := Bool.eq_false_iff.mpr c23
         subst c23
         have H1 : (none) = some r := by rw [if_neg (show ¬ (false = true) by decide)] at H; exact H
         clear H
         have H := H1
         clear H1
         exact absurd H (by simp)
       ·rw [if_neg c21] at H
        exact absurd H (by simp)
      ·rw [if_neg c20] at H
       exact absurd H (by simp)
     ·rw [if_neg c19] at H
      exact absurd H (by simp)
    ·rw [if_neg c18] at H
     exact absurd H (by simp)
   ·rw [if_neg c17] at H
    exact absurd H (by simp)
  ·rw [if_neg c16] at H
   exact absurd H (by simp)

end Go.Proofs.Ytdcgilnmncanfaa.PVecUnits
