-- printed by this session's own driver over the kit's printer: Lean checks it
import Derived.Test.YtkaokiiooakleaaCShapeTells0
import Derived.Test.YtkaokiiooakleaaCShapeTells8
namespace Go.Proofs.Ytkaokiiooakleaa.PShapeTells
open Go.RowKit Go.Proofs.YtkaokiiooakleaaW.PrintWords Go.Proofs.YtkaokiiooakleaaW.PrintLast Go.Proofs.YtkaokiiooakleaaW.PrintMore
attribute [local go_sem] max2_int min2_int max_two min_two max_three min_three max_four min_four   -- for this text's walks alone
set_option linter.unusedVariables false
set_option linter.unusedSimpArgs false

/-! ### liveryref08_Kids: function 42 -/
def liveryref08_Kids.l0 : Nat → List (S65) → Int → List Int → Int → Int → Option (List Int)
 | 0, _, _, _, _, _ => none
 | k + 1, x0, x1, x5, x6, x7 => if 0 ≤ x1 then (if x1 < (x0.length : Int) then (if x7 < ((rd_T65 x0 x1).f4) then (if x5.length < 17592186044416 then ((liveryref08_End.f k x0 x6).bind fun t218 => (liveryref08_Kids.l0 k x0 x1 (x5 ++ [x6]) t218 (wrap64 (x7 + 1)))) else (none)) else (some x5)) else (none)) else (none)
def liveryref08_Kids.f (k : Nat) (l0 : List (S65)) (a1 : Int) : Option (List Int) := liveryref08_Kids.l0 k l0 a1 ([] : List Int) (wrap64 (a1 + 1)) 0
theorem liveryref08_Kids.mono_l : ∀ k, (∀ y0 y1 y2 y3 y4, LeO (liveryref08_Kids.l0 k y0 y1 y2 y3 y4) (liveryref08_Kids.l0 (k + 1) y0 y1 y2 y3 y4))
 | 0 => fun _ _ _ _ _ r h => by simp [liveryref08_Kids.l0] at h
 | k + 1 => by
  have ih0 := liveryref08_Kids.mono_l k
  ·intro y0 y1 y2 y3 y4
   unfold liveryref08_Kids.l0
   repeat' first
   | (with_reducible exact ih0 _ _ _ _ _)
   | (with_reducible exact liveryref08_End.mono _ _ _)
   | (with_reducible exact LeO.refl _)
   | (with_reducible exact LeO.none _)
   | (with_reducible refine LeO.ite ?_ ?_)
   | (with_reducible refine LeO.bind ?_ (fun _ => ?_))
   | exact ih0 _ _ _ _ _
   | exact liveryref08_End.mono _ _ _
   | exact LeO.none _
   | refine LeO.ite ?_ ?_
   | refine LeO.bind ?_ (fun _ => ?_)
theorem liveryref08_Kids.mono : ∀ a0 a1 k, LeO (liveryref08_Kids.f k a0 a1) (liveryref08_Kids.f (k + 1) a0 a1) := by
 intro a0 a1 k
 have ih0 := liveryref08_Kids.mono_l k
 unfold liveryref08_Kids.f
 repeat' first
   | (with_reducible exact ih0 _ _ _ _ _)
   | (with_reducible exact liveryref08_End.mono _ _ _)
   | (with_reducible exact LeO.refl _)
   | (with_reducible exact LeO.none _)
   | (with_reducible refine LeO.ite ?_ ?_)
   | (with_reducible refine LeO.bind ?_ (fun _ => ?_))
   | exact ih0 _ _ _ _ _
   | exact liveryref08_End.mono _ _ _
   | exact LeO.none _
   | refine LeO.ite ?_ ?_
   | refine LeO.bind ?_ (fun _ => ?_)
set_option maxHeartbeats 8000000 in
set_option maxRecDepth 100000 in
theorem liveryref08_Kids.calls (k : Nat) (A0 : Option Addr) (c0 : Nat) (l0 : List (S65)) (a1 : Int) (r : List Int) (w : World) (hr0 : Kd.C k65 w A0 l0.length l0) (hc0 : l0.length ≤ c0) (h : liveryref08_Kids.f k l0 a1 = some r) :
  Calls Try.prog 42 #[.slice A0 l0.length c0, .int .i64 a1] w fun e w' => ∃ v0_ : Value, e = .returned (v0_) ∧ Kd.R (Kd.int .i64) 3 w' w.heap.size (fun _ => True) v0_ r ∧ Below w.heap.size w w' := by
 have HR0 := XPrint.A0 hr0
 have HC0 := XPrint.A0 hc0
 clear hr0 hc0
 have HB := XPrint.A0 (Below.refl w.heap.size w)
 have H : (liveryref08_Kids.l0 k l0 a1 ([] : List Int) (wrap64 (a1 + 1)) 0) = some r := h
 clear h
 have H' := XPrint.A0 H
 clear H
 go_enter Try.func42, Try.ntmps42
 go_wp2
 go_loopg [5, 6, 7] k (fun kq v5 v6 v7 w' => ∃ (x5_1 : List Int) (x6_1 : Int) (x7_1 : Int), v6 = .int .i64 x6_1 ∧ v7 = .int .i64 x7_1 ∧ Aside0 (liveryref08_Kids.l0 kq l0 a1 x5_1 x6_1 x7_1 = some r) ∧ Aside0 (kq ≤ k) ∧ Aside0 (Kd.R (Kd.int .i64) 3 w' w.heap.size (fun _ => True) v5 x5_1) ∧ Aside0 (Below w.heap.size w w'))
 case atStart => exact ⟨(([] : List Int)), (wrap64 (a1 + 1)), (0), (by first | rfl | (simp; done) | (simp [*]; done)), (by first | rfl | (simp; done) | (simp [*]; done)), H', ⟨Nat.le_refl _⟩, ⟨by first | exact Kd.R_nil _ _ _ _ _ | exact Kd.N_nil _ _ _ _ _ | exact Kd.V_nil _ _ _ _ _ | exact Kd.Q_nil _ _ _ _ _ | exact Kd.S_nil _ _ _ _ _⟩, ⟨by exact XPrint.bz HB.out⟩⟩
 case round =>
  clear H'
  try clear p2
  obtain ⟨x5_1, x6_1, x7_1, rfl, rfl, HA, HK1, HO_5, HB⟩ := hrel
  cases gk with
  | zero => exact absurd HA.out (by simp [liveryref08_Kids.l0])
  | succ k1 =>
   have H := HA.out
   clear HA
   simp only [liveryref08_Kids.l0] at H
   by_cases c3 : 0 ≤ a1
   ·rw [if_pos c3] at H
    have c3b0 : decide (0 ≤ a1) = true := decide_eq_true c3
    clear c3
    by_cases c4 : a1 < (l0.length : Int)
    ·rw [if_pos c4] at H
     have c4b0 : decide (a1 < (l0.length : Int)) = true := decide_eq_true c4
     clear c4
     by_cases c5 : x7_1 < ((rd_T65 l0 a1).f4)
     ·rw [if_pos c5] at H
      have c5b0 : decide (x7_1 < ((rd_T65 l0 a1).f4)) = true := decide_eq_true c5
      clear c5
      by_cases c6 : x5_1.length < 17592186044416
      ·rw [if_pos c6] at H
       have LMc6 := XPrint.A0 c6
       clear c6
       obtain ⟨y215, hy215⟩ : ∃ y_ : List Int, y_ = (x5_1 ++ [x6_1]) := ⟨_, rfl⟩
       replace H : ((liveryref08_End.f k1 l0 x6_1).bind fun t218 => (liveryref08_Kids.l0 k1 l0 a1 y215 t218 (wrap64 (x7_1 + 1)))) = some r := by first | (rw [hy215]; with_reducible exact H) | (have H2_ := (Option.bind_some _ _).symm.trans H; rw [hy215]; with_reducible exact H2_) | (have H2_ := (Option.bind_some _ _).symm.trans H; with_reducible exact H2_) | with_reducible exact H | (rw [hy215]; exact H) | exact H
       have Ny215 := XPrint.A0 hy215
       clear hy215
       replace H := Option.bind_eq_some_iff.mp H
       obtain ⟨t218, A70, H⟩ := H
       try set_option simprocs false in dsimp only at H
       have A7 := XPrint.A0 A70
       clear A70
       have H' := XPrint.A0 H
       clear H
       have p214 : 0 ≤ (a1 : Int) := of_decide_eq_true (by first | (with_reducible assumption) | assumption)
       have q214 : a1 < (l0.length : Int) := of_decide_eq_true (by first | (with_reducible assumption) | assumption)
       obtain ⟨ad214, e214, hx214_0, hx214_1, hx214_2, hx214_3, hx214_4⟩ := at_T65 HR0.out a1 p214 q214
       cases e214
       replace hx214_0 := (HB.out.cell (World.block_lt_of_cell? w _ hx214_0)).trans hx214_0
       replace hx214_1 := (HB.out.cell (World.block_lt_of_cell? w _ hx214_1)).trans hx214_1
       replace hx214_2 := (HB.out.cell (World.block_lt_of_cell? w _ hx214_2)).trans hx214_2
       replace hx214_3 := (HB.out.cell (World.block_lt_of_cell? w _ hx214_3)).trans hx214_3
       replace hx214_4 := (HB.out.cell (World.block_lt_of_cell? w _ hx214_4)).trans hx214_4
       replace p214 := eq_true p214
       replace q214 := eq_true q214
       go_wp2_with (first | ((with_reducible refine gate_builtin (b := .append) (xs := #[.tmp 19, .tmp 21]) rfl ?_); at_builtin; refine Kd.R_append (Kd.int .i64) (w0 := w) w.heap.size rfl (.tmp 19) (.tmp 21) 56 3 (.int .i64 0) 8 rfl Try.underlying56 info3 rfl (by decide) (by omega) u5 x5_1 x6_1 [.int .i64 x6_1] (fun _ => True) (fun _ => False) rfl rfl ?aP (fun _ hk => hk.elim) ?aF ?aO ?aB ?aS ?aL ?_; (case aP => exact rfl); (case aB => exact (by exact XPrint.bz HB.out)); (case aF => exact (fun _ _ => trivial)); (case aO => exact (by (with_reducible repeat (first | apply Kd.R_alloc | apply Kd.R_drewN | apply Kd.R_drew)); exact HO_5.out)); (case aS => exact (below_size (by exact XPrint.bz HB.out))); (case aL => have := LMc6.out; omega); intro v216 w8 ho hb hg hat; rw [← Ny215.out] at ho; have HO217 := XPrint.A0 (ho); replace HB := XPrint.A0 (hb); clear HO_5; clear ho hb hg hat) | ((with_reducible refine gate_callee (f := 43) rfl ?_); refine XPrint.gl (some 25) Try.func43 #[.slice (some ad214) l0.length c0, .int .i64 x6_1] ?_; (with_reducible refine (liveryref08_End.calls k1 _ _ l0 x6_1 t218 _ ?side1 ?side2 A7.out).mono ?_); (case side1 => repeat (first | exact (Kd.C_below HR0.out HB.out) | (with_reducible refine Kd.C_alloc ?_ _) | (with_reducible refine Kd.C_drewN ?_ _) | (with_reducible refine Kd.C_drew ?_))); (case side2 => exact HC0.out); rintro e w9 ⟨rfl, hb⟩; refine ⟨_, rfl, ?_⟩; replace HO217 := XPrint.A0 (XPrint.rb HO217.out hb); replace HB := XPrint.A0 (below_step (by exact XPrint.bz HB.out) hb); (try clear hb); (try clear hb2); (try clear hk); (try clear hi)))
       go_roundg k1
       case measure => have := HK1.out; omega
       case rel => exact ⟨(y215), (t218), (wrap64 (x7_1 + 1)), (by first | rfl | (simp; done) | (simp [*]; done)), (by first | rfl | (simp; done) | (simp [*]; done)), H', ⟨by have := HK1.out; omega⟩, ⟨by (with_reducible repeat (first | apply Kd.R_alloc | apply Kd.R_drewN | apply Kd.R_drew)); exact HO217.out⟩, ⟨by exact XPrint.bz HB.out⟩⟩
      ·rw [if_neg c6] at H
       exact absurd H (by simp)
     ·rw [if_neg c5] at H
      have c5b0 : decide (x7_1 < ((rd_T65 l0 a1).f4)) = false := decide_eq_false c5
      clear c5
      obtain rfl := Option.some.inj H
      have p214 : 0 ≤ (a1 : Int) := of_decide_eq_true (by first | (with_reducible assumption) | assumption)
      have q214 : a1 < (l0.length : Int) := of_decide_eq_true (by first | (with_reducible assumption) | assumption)
      obtain ⟨ad214, e214, hx214_0, hx214_1, hx214_2, hx214_3, hx214_4⟩ := at_T65 HR0.out a1 p214 q214
      cases e214
      replace hx214_0 := (HB.out.cell (World.block_lt_of_cell? w _ hx214_0)).trans hx214_0
      replace hx214_1 := (HB.out.cell (World.block_lt_of_cell? w _ hx214_1)).trans hx214_1
      replace hx214_2 := (HB.out.cell (World.block_lt_of_cell? w _ hx214_2)).trans hx214_2
      replace hx214_3 := (HB.out.cell (World.block_lt_of_cell? w _ hx214_3)).trans hx214_3
      replace hx214_4 := (HB.out.cell (World.block_lt_of_cell? w _ hx214_4)).trans hx214_4
      replace p214 := eq_true p214
      replace q214 := eq_true q214
      go_wp2
      go_ret
      exact ⟨_, by first | rfl | (simp [errW_none, errW_some] <;> rfl) | (simp [*, errW_none, errW_some] <;> rfl), by (with_reducible repeat (first | apply Kd.R_alloc | apply Kd.R_drewN | apply Kd.R_drew)); exact HO_5.out, by exact XPrint.bz HB.out⟩
    ·rw [if_neg c4] at H
     exact absurd H (by simp)
   ·rw [if_neg c3] at H
    exact absurd H (by simp)

/-! ### liveryref08_Depth: function 44 -/
def liveryref08_Depth.l0 : Nat → List (S65) → Int → Int → Int → Option (Int)
 | 0, _, _, _, _ => none
 | k + 1, x0, x1, x5, x6 => if x6 ≤ x1 then ((liveryref08_End.f k x0 x6).bind fun t219 => (if x1 < t219 then (liveryref08_Depth.l0 k x0 x1 (wrap64 (x5 + 1)) (wrap64 (x6 + 1))) else (liveryref08_Depth.l0 k x0 x1 x5 (wrap64 (x6 + 1))))) else (some x5)
def liveryref08_Depth.f (k : Nat) (l0 : List (S65)) (a1 : Int) : Option (Int) := liveryref08_Depth.l0 k l0 a1 0 0
theorem liveryref08_Depth.mono_l : ∀ k, (∀ y0 y1 y2 y3, LeO (liveryref08_Depth.l0 k y0 y1 y2 y3) (liveryref08_Depth.l0 (k + 1) y0 y1 y2 y3))
 | 0 => fun _ _ _ _ r h => by simp [liveryref08_Depth.l0] at h
 | k + 1 => by
  have ih0 := liveryref08_Depth.mono_l k
  ·intro y0 y1 y2 y3
   unfold liveryref08_Depth.l0
   repeat' first
   | (with_reducible exact ih0 _ _ _ _)
   | (with_reducible exact liveryref08_End.mono _ _ _)
   | (with_reducible exact LeO.refl _)
   | (with_reducible exact LeO.none _)
   | (with_reducible refine LeO.ite ?_ ?_)
   | (with_reducible refine LeO.bind ?_ (fun _ => ?_))
   | exact ih0 _ _ _ _
   | exact liveryref08_End.mono _ _ _
   | exact LeO.none _
   | refine LeO.ite ?_ ?_
   | refine LeO.bind ?_ (fun _ => ?_)
theorem liveryref08_Depth.mono : ∀ a0 a1 k, LeO (liveryref08_Depth.f k a0 a1) (liveryref08_Depth.f (k + 1) a0 a1) := by
 intro a0 a1 k
 have ih0 := liveryref08_Depth.mono_l k
 unfold liveryref08_Depth.f
 repeat' first
   | (with_reducible exact ih0 _ _ _ _)
   | (with_reducible exact liveryref08_End.mono _ _ _)
   | (with_reducible exact LeO.refl _)
   | (with_reducible exact LeO.none _)
   | (with_reducible refine LeO.ite ?_ ?_)
   | (with_reducible refine LeO.bind ?_ (fun _ => ?_))
   | exact ih0 _ _ _ _
   | exact liveryref08_End.mono _ _ _
   | exact LeO.none _
   | refine LeO.ite ?_ ?_
   | refine LeO.bind ?_ (fun _ => ?_)
set_option maxHeartbeats 8000000 in
set_option maxRecDepth 100000 in
theorem liveryref08_Depth.calls (k : Nat) (A0 : Option Addr) (c0 : Nat) (l0 : List (S65)) (a1 : Int) (r : Int) (w : World) (hr0 : Kd.C k65 w A0 l0.length l0) (hc0 : l0.length ≤ c0) (h : liveryref08_Depth.f k l0 a1 = some r) :
  Calls Try.prog 44 #[.slice A0 l0.length c0, .int .i64 a1] w fun e w' => e = .returned (.int .i64 r) ∧ Below w.heap.size w w' := by
 have HR0 := XPrint.A0 hr0
 have HC0 := XPrint.A0 hc0
 clear hr0 hc0
 have HB := XPrint.A0 (Below.refl w.heap.size w)
 have H : (liveryref08_Depth.l0 k l0 a1 0 0) = some r := h
 clear h
 have H' := XPrint.A0 H
 clear H
 go_enter Try.func44, Try.ntmps44
 go_wp2
 go_loopg [5, 6] k (fun kq v5 v6 w' => ∃ (x5_1 : Int) (x6_1 : Int), v5 = .int .i64 x5_1 ∧ v6 = .int .i64 x6_1 ∧ Aside0 (liveryref08_Depth.l0 kq l0 a1 x5_1 x6_1 = some r) ∧ Aside0 (kq ≤ k) ∧ Aside0 (Below w.heap.size w w'))
 case atStart => exact ⟨(0), (0), (by first | rfl | (simp; done) | (simp [*]; done)), (by first | rfl | (simp; done) | (simp [*]; done)), H', ⟨Nat.le_refl _⟩, ⟨by exact XPrint.bz HB.out⟩⟩
 case round =>
  clear H'
  try clear p2
  obtain ⟨x5_1, x6_1, rfl, rfl, HA, HK1, HB⟩ := hrel
  cases gk with
  | zero => exact absurd HA.out (by simp [liveryref08_Depth.l0])
  | succ k1 =>
   have H := HA.out
   clear HA
   simp only [liveryref08_Depth.l0] at H
   by_cases c3 : x6_1 ≤ a1
   ·rw [if_pos c3] at H
    have c3b0 : decide (x6_1 ≤ a1) = true := decide_eq_true c3
    clear c3
    replace H := Option.bind_eq_some_iff.mp H
    obtain ⟨t219, A40, H⟩ := H
    try set_option simprocs false in dsimp only at H
    have A4 := XPrint.A0 A40
    clear A40
    by_cases c5 : a1 < t219
    ·rw [if_pos c5] at H
     have c5b0 : decide (a1 < t219) = true := decide_eq_true c5
     clear c5
     have H' := XPrint.A0 H
     clear H
     go_wp2_with (first | ((with_reducible refine gate_callee (f := 43) rfl ?_); refine XPrint.gl (some 15) Try.func43 #[.slice A0 l0.length c0, .int .i64 x6_1] ?_; (with_reducible refine (liveryref08_End.calls k1 _ _ l0 x6_1 t219 _ ?side1 ?side2 A4.out).mono ?_); (case side1 => repeat (first | exact (Kd.C_below HR0.out HB.out) | (with_reducible refine Kd.C_alloc ?_ _) | (with_reducible refine Kd.C_drewN ?_ _) | (with_reducible refine Kd.C_drew ?_))); (case side2 => exact HC0.out); rintro e w6 ⟨rfl, hb⟩; refine ⟨_, rfl, ?_⟩; replace HB := XPrint.A0 (below_step (by exact XPrint.bz HB.out) hb); (try clear hb); (try clear hb2); (try clear hk); (try clear hi)))
     go_roundg k1
     case measure => have := HK1.out; omega
     case rel => exact ⟨(wrap64 (x5_1 + 1)), (wrap64 (x6_1 + 1)), (by first | rfl | (simp; done) | (simp [*]; done)), (by first | rfl | (simp; done) | (simp [*]; done)), H', ⟨by have := HK1.out; omega⟩, ⟨by exact XPrint.bz HB.out⟩⟩
    ·rw [if_neg c5] at H
     have c5b0 : decide (a1 < t219) = false := decide_eq_false c5
     clear c5
     have H' := XPrint.A0 H
     clear H
     go_wp2_with (first | ((with_reducible refine gate_callee (f := 43) rfl ?_); refine XPrint.gl (some 15) Try.func43 #[.slice A0 l0.length c0, .int .i64 x6_1] ?_; (with_reducible refine (liveryref08_End.calls k1 _ _ l0 x6_1 t219 _ ?side1 ?side2 A4.out).mono ?_); (case side1 => repeat (first | exact (Kd.C_below HR0.out HB.out) | (with_reducible refine Kd.C_alloc ?_ _) | (with_reducible refine Kd.C_drewN ?_ _) | (with_reducible refine Kd.C_drew ?_))); (case side2 => exact HC0.out); rintro e w7 ⟨rfl, hb⟩; refine ⟨_, rfl, ?_⟩; replace HB := XPrint.A0 (below_step (by exact XPrint.bz HB.out) hb); (try clear hb); (try clear hb2); (try clear hk); (try clear hi)))
     go_roundg k1
     case measure => have := HK1.out; omega
     case rel => exact ⟨(x5_1), (wrap64 (x6_1 + 1)), (by first | rfl | (simp; done) | (simp [*]; done)), (by first | rfl | (simp; done) | (simp [*]; done)), H', ⟨by have := HK1.out; omega⟩, ⟨by exact XPrint.bz HB.out⟩⟩
   ·rw [if_neg c3] at H
    have c3b0 : decide (x6_1 ≤ a1) = false := decide_eq_false c3
    clear c3
    obtain rfl := Option.some.inj H
    go_wp2
    go_ret
    exact ⟨by first | rfl | (simp [errW_none, errW_some] <;> rfl) | (simp [*, errW_none, errW_some] <;> rfl), by exact XPrint.bz HB.out⟩

end Go.Proofs.Ytkaokiiooakleaa.PShapeTells
