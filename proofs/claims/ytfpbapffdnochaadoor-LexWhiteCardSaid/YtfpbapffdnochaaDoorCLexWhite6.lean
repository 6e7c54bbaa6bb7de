-- printed by this session's own driver over the kit's printer: Lean checks it
import Derived.Test.YtfpbapffdnochaaDoorCLexWhite0
import Derived.Test.YtfpbapffdnochaaDoorCLexWhite2
import Derived.Test.YtfpbapffdnochaaDoorCLexWhite4
import Derived.Test.YtfpbapffdnochaaDoorCLexWhite5
namespace Go.Proofs.YtfpbapffdnochaaDoor.PLexWhite
open Go.RowKit Go.Proofs.YtfpbapffdnochaaDoorW.PrintWords Go.Proofs.YtfpbapffdnochaaDoorW.PrintLast Go.Proofs.YtfpbapffdnochaaDoorW.PrintMore
attribute [local go_sem] max2_int min2_int max_two min_two max_three min_three max_four min_four   -- for this text's walks alone
set_option linter.unusedVariables false
set_option linter.unusedSimpArgs false

/-! ### liverylaw06_LexWhite: function 4 -/
mutual
def liverylaw06_LexWhite.j0 : Nat → ByteArray → Int → List Int → List (S30) → Bool → Option (Bool)
 | 0, _, _, _, _, _ => none
 | k + 1, x0, x1, x2, x7, x41 => if x41 = true then ((liverylaw06_head.f).bind fun t136 => (some t136)) else (liverylaw06_LexWhite.l0 k x0 x1 x2 x7 (⟨#[]⟩ : ByteArray) 0)
def liverylaw06_LexWhite.l0 : Nat → ByteArray → Int → List Int → List (S30) → ByteArray → Int → Option (Bool)
 | 0, _, _, _, _, _, _ => none
 | k + 1, x0, x1, x2, x7, x10, x11 => if x11 < (x2.length : Int) then ((some (([32, 9, 10, 13] : List Int) : List Int)).bind fun y137 => (if 0 ≤ x11 then (if 0 ≤ (Int.tmod (rd x2 x11) 4) then (if (Int.tmod (rd x2 x11) 4) < (y137.length : Int) then ((some (([rd y137 (Int.tmod (rd x2 x11) 4)] : List Int) : List Int)).bind fun y142 => (if x10.size + (strOfNums y142).size ≤ 9223372036854775807 then (liverylaw06_LexWhite.l0 k x0 x1 x2 x7 (x10 ++ (strOfNums y142)) (wrap64 (x11 + 1))) else (none))) else (none)) else (none)) else (none))) else (if (x7.length : Int) = 0 then (none) else (if 0 ≤ (Int.tmod (wrap64 (x1)) (x7.length : Int)) then (if (Int.tmod (wrap64 (x1)) (x7.length : Int)) < (x7.length : Int) then (if 0 ≤ ((rd_T30 x7 (Int.tmod (wrap64 (x1)) (x7.length : Int))).f3) then (if ((rd_T30 x7 (Int.tmod (wrap64 (x1)) (x7.length : Int))).f3) ≤ (x0.size : Int) then (if (x0.extract 0 (((rd_T30 x7 (Int.tmod (wrap64 (x1)) (x7.length : Int))).f3) : Int).toNat).size + x10.size ≤ 9223372036854775807 then (if ((x0.extract 0 (((rd_T30 x7 (Int.tmod (wrap64 (x1)) (x7.length : Int))).f3) : Int).toNat) ++ x10).size + (x0.extract (((rd_T30 x7 (Int.tmod (wrap64 (x1)) (x7.length : Int))).f3) : Int).toNat x0.size).size ≤ 9223372036854775807 then ((lex_Lex.f (((x0.extract 0 (((rd_T30 x7 (Int.tmod (wrap64 (x1)) (x7.length : Int))).f3) : Int).toNat) ++ x10) ++ (x0.extract (((rd_T30 x7 (Int.tmod (wrap64 (x1)) (x7.length : Int))).f3) : Int).toNat x0.size))).bind fun bt146 => (if bt146.2.2 = 0 then ((liveryref06_Same.f x7 bt146.1 false).bind fun t151 => (liverylaw06_LexWhite.j2 k x7 x10 (Int.tmod (wrap64 (x1)) (x7.length : Int)) bt146.1 (!t151))) else (none))) else (none)) else (none)) else (none)) else (none)) else (none)) else (none)))
def liverylaw06_LexWhite.j2 : Nat → List (S30) → ByteArray → Int → List (S30) → Bool → Option (Bool)
 | 0, _, _, _, _, _ => none
 | k + 1, x7, x10, x12, x14, x92 => if x92 = true then (none) else (liverylaw06_LexWhite.l1 k x7 x10 x12 x14 0)
def liverylaw06_LexWhite.l1 : Nat → List (S30) → ByteArray → Int → List (S30) → Int → Option (Bool)
 | 0, _, _, _, _, _ => none
 | k + 1, x7, x10, x12, x14, x17 => if x17 < (x14.length : Int) then (if 0 ≤ x17 then (if x17 < (x7.length : Int) then (if x17 ≥ x12 then (if ((rd_T30 x14 x17).f3) = (wrap64 (((rd_T30 x7 x17).f3) + (x10.size : Int))) then (liverylaw06_LexWhite.l1 k x7 x10 x12 x14 (wrap64 (x17 + 1))) else (none)) else (if ((rd_T30 x14 x17).f3) = ((rd_T30 x7 x17).f3) then (liverylaw06_LexWhite.l1 k x7 x10 x12 x14 (wrap64 (x17 + 1))) else (none))) else (none)) else (none)) else ((liverylaw06_head.f).bind fun t152 => (some t152))
end
def liverylaw06_LexWhite.f (k : Nat) (a0 : ByteArray) (a1 : Int) (l2 : List Int) : Option (Bool) := (lex_Lex.f a0).bind fun bt131 => (if bt131.2.2 = 0 then (if (bt131.1.length : Int) = 0 then (liverylaw06_LexWhite.j0 k a0 a1 l2 bt131.1 true) else (if (a0.size : Int) > 4000 then (liverylaw06_LexWhite.j0 k a0 a1 l2 bt131.1 true) else (liverylaw06_LexWhite.j0 k a0 a1 l2 bt131.1 (decide ((l2.length : Int) > 90))))) else (liverylaw06_LexWhite.j0 k a0 a1 l2 bt131.1 true))
theorem liverylaw06_LexWhite.mono_l : ∀ k, (∀ y0 y1 y2 y3 y4, LeO (liverylaw06_LexWhite.j0 k y0 y1 y2 y3 y4) (liverylaw06_LexWhite.j0 (k + 1) y0 y1 y2 y3 y4)) ∧ (∀ y0 y1 y2 y3 y4 y5, LeO (liverylaw06_LexWhite.l0 k y0 y1 y2 y3 y4 y5) (liverylaw06_LexWhite.l0 (k + 1) y0 y1 y2 y3 y4 y5)) ∧ (∀ y0 y1 y2 y3 y4, LeO (liverylaw06_LexWhite.j2 k y0 y1 y2 y3 y4) (liverylaw06_LexWhite.j2 (k + 1) y0 y1 y2 y3 y4)) ∧ (∀ y0 y1 y2 y3 y4, LeO (liverylaw06_LexWhite.l1 k y0 y1 y2 y3 y4) (liverylaw06_LexWhite.l1 (k + 1) y0 y1 y2 y3 y4))
 | 0 => ⟨fun _ _ _ _ _ r h => by simp [liverylaw06_LexWhite.j0] at h, fun _ _ _ _ _ _ r h => by simp [liverylaw06_LexWhite.l0] at h, fun _ _ _ _ _ r h => by simp [liverylaw06_LexWhite.j2] at h, fun _ _ _ _ _ r h => by simp [liverylaw06_LexWhite.l1] at h⟩
 | k + 1 => by
  obtain ⟨ih0, ih1, ih2, ih3⟩ := liverylaw06_LexWhite.mono_l k
  refine ⟨?_, ?_, ?_, ?_⟩
  ·intro y0 y1 y2 y3 y4
   unfold liverylaw06_LexWhite.j0
   repeat' first
   | (with_reducible exact ih0 _ _ _ _ _)
   | (with_reducible exact ih1 _ _ _ _ _ _)
   | (with_reducible exact ih2 _ _ _ _ _)
   | (with_reducible exact ih3 _ _ _ _ _)
   | (with_reducible exact LeO.refl _)
   | (with_reducible exact LeO.none _)
   | (with_reducible refine LeO.ite ?_ ?_)
   | (with_reducible refine LeO.bind ?_ (fun _ => ?_))
   | exact ih0 _ _ _ _ _
   | exact ih1 _ _ _ _ _ _
   | exact ih2 _ _ _ _ _
   | exact ih3 _ _ _ _ _
   | exact LeO.none _
   | refine LeO.ite ?_ ?_
   | refine LeO.bind ?_ (fun _ => ?_)
  ·intro y0 y1 y2 y3 y4 y5
   unfold liverylaw06_LexWhite.l0
   repeat' first
   | (with_reducible exact ih0 _ _ _ _ _)
   | (with_reducible exact ih1 _ _ _ _ _ _)
   | (with_reducible exact ih2 _ _ _ _ _)
   | (with_reducible exact ih3 _ _ _ _ _)
   | (with_reducible exact LeO.refl _)
   | (with_reducible exact LeO.none _)
   | (with_reducible refine LeO.ite ?_ ?_)
   | (with_reducible refine LeO.bind ?_ (fun _ => ?_))
   | exact ih0 _ _ _ _ _
   | exact ih1 _ _ _ _ _ _
   | exact ih2 _ _ _ _ _
   | exact ih3 _ _ _ _ _
   | exact LeO.none _
   | refine LeO.ite ?_ ?_
   | refine LeO.bind ?_ (fun _ => ?_)
  ·intro y0 y1 y2 y3 y4
   unfold liverylaw06_LexWhite.j2
   repeat' first
   | (with_reducible exact ih0 _ _ _ _ _)
   | (with_reducible exact ih1 _ _ _ _ _ _)
   | (with_reducible exact ih2 _ _ _ _ _)
   | (with_reducible exact ih3 _ _ _ _ _)
   | (with_reducible exact LeO.refl _)
   | (with_reducible exact LeO.none _)
   | (with_reducible refine LeO.ite ?_ ?_)
   | (with_reducible refine LeO.bind ?_ (fun _ => ?_))
   | exact ih0 _ _ _ _ _
   | exact ih1 _ _ _ _ _ _
   | exact ih2 _ _ _ _ _
   | exact ih3 _ _ _ _ _
   | exact LeO.none _
   | refine LeO.ite ?_ ?_
   | refine LeO.bind ?_ (fun _ => ?_)
  ·intro y0 y1 y2 y3 y4
   unfold liverylaw06_LexWhite.l1
   repeat' first
   | (with_reducible exact ih0 _ _ _ _ _)
   | (with_reducible exact ih1 _ _ _ _ _ _)
   | (with_reducible exact ih2 _ _ _ _ _)
   | (with_reducible exact ih3 _ _ _ _ _)
   | (with_reducible exact LeO.refl _)
   | (with_reducible exact LeO.none _)
   | (with_reducible refine LeO.ite ?_ ?_)
   | (with_reducible refine LeO.bind ?_ (fun _ => ?_))
   | exact ih0 _ _ _ _ _
   | exact ih1 _ _ _ _ _ _
   | exact ih2 _ _ _ _ _
   | exact ih3 _ _ _ _ _
   | exact LeO.none _
   | refine LeO.ite ?_ ?_
   | refine LeO.bind ?_ (fun _ => ?_)
theorem liverylaw06_LexWhite.mono : ∀ a0 a1 a2 k, LeO (liverylaw06_LexWhite.f k a0 a1 a2) (liverylaw06_LexWhite.f (k + 1) a0 a1 a2) := by
 intro a0 a1 a2 k
 obtain ⟨ih0, ih1, ih2, ih3⟩ := liverylaw06_LexWhite.mono_l k
 unfold liverylaw06_LexWhite.f
 repeat' first
   | (with_reducible exact ih0 _ _ _ _ _)
   | (with_reducible exact ih1 _ _ _ _ _ _)
   | (with_reducible exact ih2 _ _ _ _ _)
   | (with_reducible exact ih3 _ _ _ _ _)
   | (with_reducible exact LeO.refl _)
   | (with_reducible exact LeO.none _)
   | (with_reducible refine LeO.ite ?_ ?_)
   | (with_reducible refine LeO.bind ?_ (fun _ => ?_))
   | exact ih0 _ _ _ _ _
   | exact ih1 _ _ _ _ _ _
   | exact ih2 _ _ _ _ _
   | exact ih3 _ _ _ _ _
   | exact LeO.none _
   | refine LeO.ite ?_ ?_
   | refine LeO.bind ?_ (fun _ => ?_)
def liverylaw06_LexWhite.T11 : Bool × List (List Nat × List Nat) := (true, [([], []), ([], []), ([0, 1], [0, 1]), ([], []), ([2, 3], [2, 3]), ([], []), ([], []), ([5, 6], [5, 6]), ([4, 7], [4, 7]), ([8], [8]), ([9], [9]), ([10], [10]), ([10], [10]), ([10], [10]), ([11, 9, 0, 1, 2, 3, 4, 5, 6, 7, 8, 9, 10, 11], [11]), ([12, 14, 0, 1, 2, 3, 4, 5, 6, 7, 8, 9, 10, 11, 12, 14], [12]), ([13, 15, 0, 1, 2, 3, 4, 5, 6, 7, 8, 9, 10, 11, 12, 13, 14, 15], [13])])
def liverylaw06_LexWhite.B11 : List Nat := [0, 0, 3, 0, 15, 0, 0, 96, 255, 511, 1023, 2047, 2047, 2047, 4095, 24575, 65535]
theorem liverylaw06_LexWhite.tab11 : rtab .any (opsOf Tryd.f4 11) = liverylaw06_LexWhite.T11 := by kernel_rfl
theorem liverylaw06_LexWhite.bits11 : waitsOk liverylaw06_LexWhite.T11.2 liverylaw06_LexWhite.B11 = true := by kernel_rfl
set_option maxHeartbeats 8000000 in
set_option maxRecDepth 100000 in
theorem liverylaw06_LexWhite.calls (k : Nat) (a0 : ByteArray) (a1 : Int) (A2 : Option Addr) (c2 : Nat) (l2 : List Int) (r : Bool) (w : World) (hr2 : Kd.C (Kd.int .u8) w A2 l2.length l2) (hc2 : l2.length ≤ c2) (h : liverylaw06_LexWhite.f k a0 a1 l2 = some r) :
  Calls Tryd.prog 4 #[.string a0, .int .u8 a1, .slice A2 l2.length c2] w fun e w' => e = .returned (.bool r) ∧ Below w.heap.size w w' := by
 have HR2 := XPrint.A0 hr2
 have HC2 := XPrint.A0 hc2
 clear hr2 hc2
 have HB := XPrint.A0 (Below.refl w.heap.size w)
 have H : ((lex_Lex.f a0).bind fun bt131 => (if bt131.2.2 = 0 then (if (bt131.1.length : Int) = 0 then (liverylaw06_LexWhite.j0 k a0 a1 l2 bt131.1 true) else (if (a0.size : Int) > 4000 then (liverylaw06_LexWhite.j0 k a0 a1 l2 bt131.1 true) else (liverylaw06_LexWhite.j0 k a0 a1 l2 bt131.1 (decide ((l2.length : Int) > 90))))) else (liverylaw06_LexWhite.j0 k a0 a1 l2 bt131.1 true))) = some r := h
 clear h
 replace H := Option.bind_eq_some_iff.mp H
 obtain ⟨⟨t131, t132, t133⟩, A40, H⟩ := H
 replace H : (if t133 = 0 then (if (t131.length : Int) = 0 then (liverylaw06_LexWhite.j0 k a0 a1 l2 t131 true) else (if (a0.size : Int) > 4000 then (liverylaw06_LexWhite.j0 k a0 a1 l2 t131 true) else (liverylaw06_LexWhite.j0 k a0 a1 l2 t131 (decide ((l2.length : Int) > 90))))) else (liverylaw06_LexWhite.j0 k a0 a1 l2 t131 true)) = some r := H
 have A4 := XPrint.A0 A40
 clear A40
 have HC5 := XPrint.A0 H
 clear H
 go_enter Tryd.func4, Tryd.ntmps4
 go_upto_region 2 with (first | ((with_reducible refine gate_callee (f := 9) rfl ?_); refine XPrint.gl (some 21) Tryd.func9 #[.string a0] ?_; (with_reducible refine (lex_Lex.calls a0 t131 t132 t133 _ A4.out).mono ?_); rintro e w6 ⟨v134, rfl, ho0, hb⟩; refine ⟨_, rfl, ?_⟩; have n0_ := XPrint.A0 (Kd.R_lower ho0 (below_size (by exact XPrint.bz HB.out))); have n1_ := XPrint.A0 (below_step (by exact XPrint.bz HB.out) hb); clear HB; have HO135 := n0_; have HB := n1_; clear n0_ n1_; (try clear hb); (try clear hb2); (try clear hk); (try clear hi); (try clear ho0)))
 (try simp only [XPrint.pw])
 go_cut [41] (fun v41 wc => ∃ (kq : Nat) (x41_4 : Bool), v41 = .bool x41_4 ∧ Aside0 (liverylaw06_LexWhite.j0 kq a0 a1 l2 t131 x41_4 = some r) ∧ Aside0 (kq ≤ k) ∧ Aside0 (Kd.R k30 30 wc w.heap.size (fun _ => True) v134 t131) ∧ Aside0 (Below w.heap.size w wc))
 case first =>
  have H := HC5.out
  clear HC5
  by_cases c7 : t133 = 0
  ·rw [if_pos c7] at H
   have c7b0 : (t133 == 0) = true := beq_iff_eq.mpr c7
   have c7b1 : (t133 != 0) = false := bne_eq_false_iff_eq.mpr c7
   clear c7
   (first | rw [c7b0] | (simp only [i64_w, i32_w]; rw [c7b0]) | skip)
   by_cases c8 : (t131.length : Int) = 0
   ·rw [if_pos c8] at H
    have c8b0 : ((t131.length : Int) == 0) = true := beq_iff_eq.mpr c8
    have c8b1 : ((t131.length : Int) != 0) = false := bne_eq_false_iff_eq.mpr c8
    clear c8
    have H' := XPrint.A0 H
    clear H
    obtain ⟨Ao9, co9, eo9⟩ := Kd.R_slice HO135.out
    subst eo9
    go_wp2
    go_meet
    case rel => exact ⟨_, (true), (by first | rfl | (simp; done) | (simp [*]; done)), H', ⟨by first | omega | exact Nat.le_refl _⟩, ⟨by (with_reducible repeat (first | apply Kd.R_alloc | apply Kd.R_drewN | apply Kd.R_drew)); exact HO135.out⟩, ⟨by exact XPrint.bz HB.out⟩⟩
   ·rw [if_neg c8] at H
    have c8b0 : ((t131.length : Int) == 0) = false := beq_eq_false_iff_ne.mpr c8
    have c8b1 : ((t131.length : Int) != 0) = true := bne_iff_ne.mpr c8
    have c8b2 : ¬ (t131 = []) := fun h_ => c8 (by rw [h_]; rfl)
    by_cases c10 : (a0.size : Int) > 4000
    ·rw [if_pos c10] at H
     have c10b0 : decide (4000 < (a0.size : Int)) = true := decide_eq_true c10
     have c10b1 : decide (4000 < a0.size) = true := decide_eq_true (by omega)
     clear c10
     have H' := XPrint.A0 H
     clear H
     obtain ⟨Ao11, co11, eo11⟩ := Kd.R_slice HO135.out
     subst eo11
     go_wp2
     go_meet
     case rel => exact ⟨_, (true), (by first | rfl | (simp; done) | (simp [*]; done)), H', ⟨by first | omega | exact Nat.le_refl _⟩, ⟨by (with_reducible repeat (first | apply Kd.R_alloc | apply Kd.R_drewN | apply Kd.R_drew)); exact HO135.out⟩, ⟨by exact XPrint.bz HB.out⟩⟩
    ·rw [if_neg c10] at H
     have c10b0 : decide (4000 < (a0.size : Int)) = false := decide_eq_false c10
     have c10b1 : decide (4000 < a0.size) = false := decide_eq_false (by omega)
     clear c10
     have H' := XPrint.A0 H
     clear H
     obtain ⟨Ao12, co12, eo12⟩ := Kd.R_slice HO135.out
     subst eo12
     go_wp2
     go_meet
     case rel => exact ⟨_, (decide ((l2.length : Int) > 90)), (by first | rfl | (simp; done) | (simp [*]; done)), H', ⟨by first | omega | exact Nat.le_refl _⟩, ⟨by (with_reducible repeat (first | apply Kd.R_alloc | apply Kd.R_drewN | apply Kd.R_drew)); exact HO135.out⟩, ⟨by exact XPrint.bz HB.out⟩⟩
  ·rw [if_neg c7] at H
   have c7b0 : (t133 == 0) = false := beq_eq_false_iff_ne.mpr c7
   have c7b1 : (t133 != 0) = true := bne_iff_ne.mpr c7
   (first | rw [c7b0] | (simp only [i64_w, i32_w]; rw [c7b0]) | skip)
   have H' := XPrint.A0 H
   clear H
   go_wp2
   go_meet
   case rel => exact ⟨_, (true), (by first | rfl | (simp; done) | (simp [*]; done)), H', ⟨by first | omega | exact Nat.le_refl _⟩, ⟨by (with_reducible repeat (first | apply Kd.R_alloc | apply Kd.R_drewN | apply Kd.R_drew)); exact HO135.out⟩, ⟨by exact XPrint.bz HB.out⟩⟩
 case rest =>
  clear HC5
  try clear c1
  try clear c2
  try clear p2
  try clear c4
  try clear c7
  try clear c7b0
  try clear c7b1
  try clear c8
  try clear c8b0
  try clear c8b1
  try clear c8b2
  try clear c9
  try clear c10
  try clear c10b0
  try clear c10b1
  obtain ⟨kq, x41_4, rfl, HA, HJ4, HO_7, HB⟩ := hcut
  cases kq with
  | zero => exact absurd HA.out (by simp [liverylaw06_LexWhite.j0])
  | succ kj4 =>
   have H := HA.out
   clear HA
   simp only [liverylaw06_LexWhite.j0] at H
   by_cases c13 : x41_4 = true
   ·subst c13
    have H1 := H; rw [if_pos rfl] at H1
    clear H
    have H := H1
    clear H1
    replace H := Option.bind_eq_some_iff.mp H
    obtain ⟨t136, A140, H⟩ := H
    try set_option simprocs false in dsimp only at H
    have A14 := XPrint.A0 A140
    clear A140
    obtain rfl := Option.some.inj H
    go_wp2_with (first | ((with_reducible refine gate_callee (f := 10) rfl ?_); refine XPrint.gl (some 42) Tryd.func10 #[] ?_; (with_reducible refine (liverylaw06_head.calls  t136 _ A14.out).mono ?_); rintro e w15 ⟨rfl, hb⟩; refine ⟨_, rfl, ?_⟩; replace HO_7 := XPrint.A0 (Kd.R_below (by (with_reducible repeat (first | apply Kd.R_alloc | apply Kd.R_drewN | apply Kd.R_drew)); exact HO_7.out) hb); replace HB := XPrint.A0 (below_step (by exact XPrint.bz HB.out) hb); (try clear hb); (try clear hb2); (try clear hk); (try clear hi)))
    go_ret
    exact ⟨by first | rfl | (simp [errW_none, errW_some] <;> rfl) | (simp [*, errW_none, errW_some] <;> rfl), by exact XPrint.bz HB.out⟩
   ·replace c13 := Bool.eq_false_iff.mpr c13
    subst c13
    have H1 := H; rw [if_neg (show ¬ (false = true) by decide)] at H1
    clear H
    have H := H1
    clear H1
    have H' := XPrint.A0 H
    clear H
    go_wp2
    go_loopg [10, 11] kj4 (fun kq v10 v11 w' => ∃ (x10_2 : ByteArray) (x11_2 : Int), v10 = .string x10_2 ∧ v11 = .int .i64 x11_2 ∧ Aside0 (liverylaw06_LexWhite.l0 kq a0 a1 l2 t131 x10_2 x11_2 = some r) ∧ Aside0 (kq ≤ kj4) ∧ Aside0 (Kd.R k30 30 w' w.heap.size (fun _ => True) v134 t131) ∧ Aside0 (Below w.heap.size w w'))
    case atStart => exact ⟨((⟨#[]⟩ : ByteArray)), (0), (by first | rfl | (simp; done) | (simp [*]; done)), (by first | rfl | (simp; done) | (simp [*]; done)), H', ⟨Nat.le_refl _⟩, ⟨by (with_reducible repeat (first | apply Kd.R_alloc | apply Kd.R_drewN | apply Kd.R_drew)); exact HO_7.out⟩, ⟨by exact XPrint.bz HB.out⟩⟩
    case round =>
     clear H'
     try clear c1
     try clear c2
     try clear p2
     try clear c4
     try clear c7
     try clear c7b0
     try clear c7b1
     try clear c8
     try clear c8b0
     try clear c8b1
     try clear c8b2
     try clear c9
     try clear c10
     try clear c10b0
     try clear c10b1
     try clear c13
     try clear p2
     obtain ⟨x10_2, x11_2, rfl, rfl, HA, HK2, HO_7, HB⟩ := hrel
     cases gk with
     | zero => exact absurd HA.out (by simp [liverylaw06_LexWhite.l0])
     | succ k2 =>
      have H := HA.out
      clear HA
      simp only [liverylaw06_LexWhite.l0] at H
      by_cases c16 : x11_2 < (l2.length : Int)
      ·rw [if_pos c16] at H
       have c16b0 : decide (x11_2 < (l2.length : Int)) = true := decide_eq_true c16
       clear c16
       obtain ⟨y137, hy137⟩ : ∃ y_ : List Int, y_ = (([32, 9, 10, 13] : List Int)) := ⟨_, rfl⟩
       replace H : (if 0 ≤ x11_2 then (if 0 ≤ (Int.tmod (rd l2 x11_2) 4) then (if (Int.tmod (rd l2 x11_2) 4) < (y137.length : Int) then ((some (([rd y137 (Int.tmod (rd l2 x11_2) 4)] : List Int) : List Int)).bind fun y142 => (if x10_2.size + (strOfNums y142).size ≤ 9223372036854775807 then (liverylaw06_LexWhite.l0 k2 a0 a1 l2 t131 (x10_2 ++ (strOfNums y142)) (wrap64 (x11_2 + 1))) else (none))) else (none)) else (none)) else (none)) = some r := by first | (rw [hy137]; with_reducible exact H) | (have H2_ := (Option.bind_some _ _).symm.trans H; rw [hy137]; with_reducible exact H2_) | (have H2_ := (Option.bind_some _ _).symm.trans H; with_reducible exact H2_) | with_reducible exact H | (rw [hy137]; exact H) | exact H
       have Ny137 := XPrint.A0 hy137
       clear hy137
       by_cases c17 : 0 ≤ x11_2
       ·rw [if_pos c17] at H
        have c17b0 : decide (0 ≤ x11_2) = true := decide_eq_true c17
        clear c17
        obtain ⟨ji18, hji18⟩ : ∃ j_ : Int, (Int.tmod (rd l2 x11_2) 4) = j_ := ⟨_, rfl⟩
        replace H : (if 0 ≤ (ji18) then (if (ji18) < (y137.length : Int) then ((some (([rd y137 (ji18)] : List Int) : List Int)).bind fun y142 => (if x10_2.size + (strOfNums y142).size ≤ 9223372036854775807 then (liverylaw06_LexWhite.l0 k2 a0 a1 l2 t131 (x10_2 ++ (strOfNums y142)) (wrap64 (x11_2 + 1))) else (none))) else (none)) else (none)) = some r := by first | (rw [hji18] at H; exact H) | (simp only [hji18] at H ⊢; exact H)
        by_cases c19 : 0 ≤ (ji18)
        ·rw [if_pos c19] at H
         have c19b0 : decide (0 ≤ (ji18)) = true := decide_eq_true c19
         clear c19
         by_cases c20 : (ji18) < (y137.length : Int)
         ·rw [if_pos c20] at H
          have c20b0 : decide ((ji18) < (y137.length : Int)) = true := decide_eq_true c20
          clear c20
          obtain ⟨y142, hy142⟩ : ∃ y_ : List Int, y_ = (([rd y137 (ji18)] : List Int)) := ⟨_, rfl⟩
          replace H : (if x10_2.size + (strOfNums y142).size ≤ 9223372036854775807 then (liverylaw06_LexWhite.l0 k2 a0 a1 l2 t131 (x10_2 ++ (strOfNums y142)) (wrap64 (x11_2 + 1))) else (none)) = some r := by first | (rw [hy142]; with_reducible exact H) | (have H2_ := (Option.bind_some _ _).symm.trans H; rw [hy142]; with_reducible exact H2_) | (have H2_ := (Option.bind_some _ _).symm.trans H; with_reducible exact H2_) | with_reducible exact H | (rw [hy142]; exact H) | exact H
          have Ny142 := XPrint.A0 hy142
          clear hy142
          by_cases c21 : x10_2.size + (strOfNums y142).size ≤ 9223372036854775807
          ·rw [if_pos c21] at H
           have c21b0 := eq_true c21
           have c21b1 : decide (x10_2.size + (strOfNums y142).size ≤ 9223372036854775807) = true := decide_eq_true c21
           try have c21b2 : (9223372036854775807 < x10_2.size + (strOfNums y142).size) = False := eq_false (Nat.not_lt.2 c21)
           have H' := XPrint.A0 H
           clear H
           go_wp2_with (first | ((with_reducible refine gate_dst (N := 50) rfl ?_); (try (refine gate_guard (by rfl) ?_; dsimp only)); refine Kd.R_lit (Kd.int .u8) _ 5 ?hg (N := 50) ?hd (xs := ([32, 9, 10, 13] : List Int)) (inner := [.int .u8 32, .int .u8 9, .int .u8 10, .int .u8 13]) (ok := fun _ => True) (okp := fun _ => True) ?hr ?hp (fun _ hk => hk) trivial (Below.refl _ _) (Nat.le_refl _) (by simp) ?_; (case hd => rfl); (case hg => rfl); (case hr => first | (go_simp; done) | (go_simp; rfl)); (case hp => exact (Reps.one (show Kd.M (Kd.int .u8) _ _ _ 32 [.int .u8 32] from rfl) (Reps.one (show Kd.M (Kd.int .u8) _ _ _ 9 [.int .u8 9] from rfl) (Reps.one (show Kd.M (Kd.int .u8) _ _ _ 10 [.int .u8 10] from rfl) (Reps.one (show Kd.M (Kd.int .u8) _ _ _ 13 [.int .u8 13] from rfl) (Reps.none _ _)))))); intro v138 w22 ho23 hb hg_ hnew_; clear hg_ hnew_; (first | rw [← Ny137.out] at ho23 | (simp only [Int.reduceToNat] at ho23; rw [← Ny137.out] at ho23)); have HO139 := XPrint.A0 (Kd.R_lower ho23 (below_size (by exact XPrint.bz HB.out))); replace HO_7 := XPrint.A0 (Kd.R_below (by (with_reducible repeat (first | apply Kd.R_alloc | apply Kd.R_drewN | apply Kd.R_drew)); exact HO_7.out) hb); replace HB := XPrint.A0 (below_step (by exact XPrint.bz HB.out) hb); clear hb ho23; have p140 : 0 ≤ (x11_2 : Int) := of_decide_eq_true (by first | (with_reducible assumption) | assumption); have q140 : x11_2 < (l2.length : Int) := of_decide_eq_true (by first | (with_reducible assumption) | assumption); obtain ⟨ad140, e140, hx140_0⟩ := Kd.at_int HR2.out x11_2 p140 q140; cases e140; replace hx140_0 := (HB.out.cell (World.block_lt_of_cell? w _ hx140_0)).trans hx140_0; replace p140 := eq_true p140; replace q140 := eq_true q140; obtain ⟨Ao24, co24, eo24⟩ := Kd.R_slice HO139.out; subst eo24; have p141 : 0 ≤ ((ji18) : Int) := of_decide_eq_true (by first | (with_reducible assumption) | assumption); have q141 : (ji18) < (y137.length : Int) := of_decide_eq_true (by first | (with_reducible assumption) | assumption); obtain ⟨ad141, e141, hx141_0⟩ := Kd.at_int (Kd.R_reads' HO139.out).2.2 (ji18) p141 q141; cases e141; replace p141 := eq_true p141; replace q141 := eq_true q141) | ((with_reducible refine gate_dst (N := 58) rfl ?_); (try (refine gate_guard (by rfl) ?_; dsimp only)); refine Kd.R_lit (Kd.int .u8) _ 5 ?hg (N := 58) ?hd (xs := ([rd y137 (ji18)] : List Int)) (inner := [.int .u8 (rd y137 (ji18))]) (ok := fun _ => True) (okp := fun _ => True) ?hr ?hp (fun _ hk => hk) trivial (Below.refl _ _) (Nat.le_refl _) (by simp) ?_; (case hd => rfl); (case hg => rfl); (case hr => first | (go_simp; done) | (go_simp; rfl)); (case hp => exact (Reps.one (show Kd.M (Kd.int .u8) _ _ _ (rd y137 (ji18)) [.int .u8 (rd y137 (ji18))] from rfl) (Reps.none _ _))); intro v143 w25 ho26 hb hg_ hnew_; clear hg_ hnew_; (first | rw [← Ny142.out] at ho26 | (simp only [Int.reduceToNat] at ho26; rw [← Ny142.out] at ho26)); have HO144 := XPrint.A0 (Kd.R_lower (Kd.R_new' ho26 (Kd.R_lt (by (with_reducible repeat (first | apply Kd.R_alloc | apply Kd.R_drewN | apply Kd.R_drew)); exact HO139.out))) (below_size (by exact XPrint.bz HB.out))); replace HO_7 := XPrint.A0 (Kd.R_below (by (with_reducible repeat (first | apply Kd.R_alloc | apply Kd.R_drewN | apply Kd.R_drew)); exact HO_7.out) hb); replace HO139 := XPrint.A0 (Kd.R_elder' (by (with_reducible repeat (first | apply Kd.R_alloc | apply Kd.R_drewN | apply Kd.R_drew)); exact HO139.out) (Kd.R_base ho26) hb); replace HB := XPrint.A0 (below_step (by exact XPrint.bz HB.out) hb); clear hb ho26; have hcv27 := own_string (P := Tryd.prog) Tryd.underlying33 Tryd.underlying5 Tryd.underlying9 (Kd.own_of_R HO144.out)))
           go_roundg k2
           case measure => have := HJ4.out; have := HK2.out; omega
           case rel => exact ⟨(x10_2 ++ (strOfNums y142)), (wrap64 (x11_2 + 1)), (by first | rfl | (simp; done) | (simp [*]; done)), (by first | rfl | (simp; done) | (simp [*]; done)), H', ⟨by have := HJ4.out; have := HK2.out; omega⟩, ⟨by (with_reducible repeat (first | apply Kd.R_alloc | apply Kd.R_drewN | apply Kd.R_drew)); exact HO_7.out⟩, ⟨by exact XPrint.bz HB.out⟩⟩
          ·rw [if_neg c21] at H
           exact absurd H (by simp)
         ·rw [if_neg c20] at H
          exact absurd H (by simp)
        ·rw [if_neg c19] at H
         exact absurd H (by simp)
       ·rw [if_neg c17] at H
        exact absurd H (by simp)
      ·rw [if_neg c16] at H
       have c16b0 : decide (x11_2 < (l2.length : Int)) = false := decide_eq_false c16
       clear c16
       by_cases c28 : (t131.length : Int) = 0
       ·rw [if_pos c28] at H
        exact absurd H (by simp)
       ·rw [if_neg c28] at H
        have c28b0 : ((t131.length : Int) == 0) = false := beq_eq_false_iff_ne.mpr c28
        have c28b1 : ((t131.length : Int) != 0) = true := bne_iff_ne.mpr c28
        have c28b2 : ¬ (t131 = []) := fun h_ => c28 (by rw [h_]; rfl)
        obtain ⟨ji29, hji29⟩ : ∃ j_ : Int, (Int.tmod (wrap64 (a1)) (t131.length : Int)) = j_ := ⟨_, rfl⟩
        replace H : (if 0 ≤ (ji29) then (if (ji29) < (t131.length : Int) then (if 0 ≤ ((rd_T30 t131 (ji29)).f3) then (if ((rd_T30 t131 (ji29)).f3) ≤ (a0.size : Int) then (if (a0.extract 0 (((rd_T30 t131 (ji29)).f3) : Int).toNat).size + x10_2.size ≤ 9223372036854775807 then (if ((a0.extract 0 (((rd_T30 t131 (ji29)).f3) : Int).toNat) ++ x10_2).size + (a0.extract (((rd_T30 t131 (ji29)).f3) : Int).toNat a0.size).size ≤ 9223372036854775807 then ((lex_Lex.f (((a0.extract 0 (((rd_T30 t131 (ji29)).f3) : Int).toNat) ++ x10_2) ++ (a0.extract (((rd_T30 t131 (ji29)).f3) : Int).toNat a0.size))).bind fun bt146 => (if bt146.2.2 = 0 then ((liveryref06_Same.f t131 bt146.1 false).bind fun t151 => (liverylaw06_LexWhite.j2 k2 t131 x10_2 ji29 bt146.1 (!t151))) else (none))) else (none)) else (none)) else (none)) else (none)) else (none)) else (none)) = some r := by first | (rw [hji29] at H; exact H) | (simp only [hji29] at H ⊢; exact H)
        by_cases c30 : 0 ≤ (ji29)
        ·rw [if_pos c30] at H
         have c30b0 : decide (0 ≤ (ji29)) = true := decide_eq_true c30
         clear c30
         by_cases c31 : (ji29) < (t131.length : Int)
         ·rw [if_pos c31] at H
          have c31b0 : decide ((ji29) < (t131.length : Int)) = true := decide_eq_true c31
          clear c31
          by_cases c32 : 0 ≤ ((rd_T30 t131 (ji29)).f3)
          ·rw [if_pos c32] at H
           have c32b0 := eq_true c32
           have c32b1 : decide (0 ≤ ((rd_T30 t131 (ji29)).f3)) = true := decide_eq_true c32
           clear c32
           by_cases c33 : ((rd_T30 t131 (ji29)).f3) ≤ (a0.size : Int)
           ·rw [if_pos c33] at H
            have c33b0 := eq_true c33
            have c33b1 : decide (((rd_T30 t131 (ji29)).f3) ≤ (a0.size : Int)) = true := decide_eq_true c33
            clear c33
            by_cases c34 : (a0.extract 0 (((rd_T30 t131 (ji29)).f3) : Int).toNat).size + x10_2.size ≤ 9223372036854775807
            ·rw [if_pos c34] at H
             have c34b0 := eq_true c34
             have c34b1 : decide ((a0.extract 0 (((rd_T30 t131 (ji29)).f3) : Int).toNat).size + x10_2.size ≤ 9223372036854775807) = true := decide_eq_true c34
             try have c34b2 : (9223372036854775807 < (a0.extract 0 (((rd_T30 t131 (ji29)).f3) : Int).toNat).size + x10_2.size) = False := eq_false (Nat.not_lt.2 c34)
             try have c34b6 : (9223372036854775807 < (((rd_T30 t131 (ji29)).f3) : Int).toNat + x10_2.size) = False := eq_false (by have t_ := c34; simp only [ByteArray.size_append, ByteArray.size_extract] at t_; have u0_ : ((rd_T30 t131 (ji29)).f3) ≤ (a0.size : Int) := of_decide_eq_true (by first | (with_reducible assumption) | assumption); omega)
             have c35b0 := eq_true (of_decide_eq_true (by first | (with_reducible assumption) | assumption) : 0 ≤ ((rd_T30 t131 (ji29)).f3))
             have c36b0 := eq_true (of_decide_eq_true (by first | (with_reducible assumption) | assumption) : ((rd_T30 t131 (ji29)).f3) ≤ (a0.size : Int))
             by_cases c37 : ((a0.extract 0 (((rd_T30 t131 (ji29)).f3) : Int).toNat) ++ x10_2).size + (a0.extract (((rd_T30 t131 (ji29)).f3) : Int).toNat a0.size).size ≤ 9223372036854775807
             ·rw [if_pos c37] at H
              have c37b0 := eq_true c37
              have c37b1 : decide (((a0.extract 0 (((rd_T30 t131 (ji29)).f3) : Int).toNat) ++ x10_2).size + (a0.extract (((rd_T30 t131 (ji29)).f3) : Int).toNat a0.size).size ≤ 9223372036854775807) = true := decide_eq_true c37
              try have c37b2 : (9223372036854775807 < ((a0.extract 0 (((rd_T30 t131 (ji29)).f3) : Int).toNat) ++ x10_2).size + (a0.extract (((rd_T30 t131 (ji29)).f3) : Int).toNat a0.size).size) = False := eq_false (Nat.not_lt.2 c37)
              have c37b4 := c37; simp only [ByteArray.size_append] at c37b4; try have c37b5 := eq_false (Nat.not_lt.2 c37b4)
              try have c37b6 : (9223372036854775807 < (((rd_T30 t131 (ji29)).f3) : Int).toNat + x10_2.size + (a0.size - (((rd_T30 t131 (ji29)).f3) : Int).toNat)) = False := eq_false (by have t_ := c37; simp only [ByteArray.size_append, ByteArray.size_extract] at t_; have u0_ : ((rd_T30 t131 (ji29)).f3) ≤ (a0.size : Int) := of_decide_eq_true (by first | (with_reducible assumption) | assumption); have u1_ : ((rd_T30 t131 (ji29)).f3) ≤ (a0.size : Int) := of_decide_eq_true (by first | (with_reducible assumption) | assumption); omega)
              replace H := Option.bind_eq_some_iff.mp H
              obtain ⟨⟨t146, t147, t148⟩, A380, H⟩ := H
              replace H : (if t148 = 0 then ((liveryref06_Same.f t131 t146 false).bind fun t151 => (liverylaw06_LexWhite.j2 k2 t131 x10_2 ji29 t146 (!t151))) else (none)) = some r := H
              have A38 := XPrint.A0 A380
              clear A380
              have HC39 := XPrint.A0 H
              clear H
              obtain ⟨Ao40, co40, eo40⟩ := Kd.R_slice HO_7.out
              subst eo40
              have p145 : 0 ≤ ((ji29) : Int) := of_decide_eq_true (by first | (with_reducible assumption) | assumption)
              have q145 : (ji29) < (t131.length : Int) := of_decide_eq_true (by first | (with_reducible assumption) | assumption)
              obtain ⟨ad145, e145, hx145_0, hx145_1, hx145_2, hx145_3⟩ := at_T30 (Kd.R_reads' HO_7.out).2.2 (ji29) p145 q145
              cases e145
              replace p145 := eq_true p145
              replace q145 := eq_true q145
              try go_wp2
              replace HO_7 := XPrint.A0 (Kd.R_drew HO_7.out)
              replace HB := XPrint.A0 (below_drew1 HB.out)
              refine start_ (n := 17) (S := fun w' => True) (ds := []) #[false, false, false, false, false, false, false, false, false, false, false, false, false, false, false, false, false] (by kernel_rfl) rfl rfl trivial (fun hHeld => ?_); refine with_tabW liverylaw06_LexWhite.tab11 liverylaw06_LexWhite.bits11 (fun HT_ HW_ => ?_)
              generalize wr.drew = w41 at HO_7 HB hHeld ⊢
              refine XPrint.pu 0 72 (XPrint.L 17 1) HT_.out (v := ?_) (a' := ?_) ?_ ?_ ?_
              rotate_left
              ·intro w'
               go_simp
               with_reducible rfl
              rotate_left
              ·simp only [XPrint.pw, i64_w, i32_w]
               rfl
              refine XPrint.pu 1 73 (XPrint.L 17 3) HT_.out (v := ?_) (a' := ?_) ?_ ?_ ?_
              rotate_left
              ·intro w'
               go_simp
               with_reducible rfl
              rotate_left
              ·simp only [XPrint.pw, i64_w, i32_w]
               rfl
              refine XPrint.pu 2 74 (XPrint.L 17 7) HT_.out (v := ?_) (a' := ?_) ?_ ?_ ?_
              rotate_left
              ·intro w'
               go_simp
               with_reducible rfl
              rotate_left
              ·simp only [XPrint.pw, i64_w, i32_w]
               rfl
              refine XPrint.pu 3 75 (XPrint.L 17 15) HT_.out (v := ?_) (a' := ?_) ?_ ?_ ?_
              rotate_left
              ·intro w'
               go_simp
               with_reducible rfl
              rotate_left
              ·simp only [XPrint.pw, i64_w, i32_w]
               rfl
              refine XPrint.pu 4 76 (XPrint.L 17 31) HT_.out (v := ?_) (a' := ?_) ?_ ?_ ?_
              rotate_left
              ·intro w'
               go_simp
               with_reducible rfl
              rotate_left
              ·simp only [XPrint.pw, i64_w, i32_w]
               rfl
              refine XPrint.pu 5 77 (XPrint.L 17 63) HT_.out (v := ?_) (a' := ?_) ?_ ?_ ?_
              rotate_left
              ·intro w'
               go_simp
               with_reducible rfl
              rotate_left
              ·simp only [XPrint.pw, i64_w, i32_w]
               rfl
              refine XPrint.pu 6 78 (XPrint.L 17 127) HT_.out (v := ?_) (a' := ?_) ?_ ?_ ?_
              rotate_left
              ·intro w'
               go_simp
               with_reducible rfl
              rotate_left
              ·simp only [XPrint.pw, i64_w, i32_w]
               rfl
              refine XPrint.pu 7 79 (XPrint.L 17 255) HT_.out (v := ?_) (a' := ?_) ?_ ?_ ?_
              rotate_left
              ·intro w'
               go_simp
               with_reducible rfl
              rotate_left
              ·simp only [XPrint.pw, i64_w, i32_w]
               rfl
              refine XPrint.pu 8 80 (XPrint.L 17 511) HT_.out (v := ?_) (a' := ?_) ?_ ?_ ?_
              rotate_left
              ·intro w'
               go_simp
               with_reducible rfl
              rotate_left
              ·simp only [XPrint.pw, i64_w, i32_w]
               rfl
              refine one_ (i := 9) (N := some 81) (XPrint.L 17 1023) rfl rfl (one_of HT_.out (by kernel_rfl)) (by decide) (fun K hK => ?_)
              refine goes_ Tryd.func9 (by kernel_rfl) rfl #[.string (((a0.extract 0 (((rd_T30 t131 (ji29)).f3) : Int).toNat) ++ x10_2) ++ (a0.extract (((rd_T30 t131 (ji29)).f3) : Int).toNat a0.size))] (by rfl) rfl rfl (by (try simp only [List.map_toArray, List.map_cons, List.map_nil]); first | done | (simp only [Int.tmod_eq_emod_of_nonneg hjl29]; rfl) | (simp only [hji29]; rfl) | rfl | (simp only [List.length_drop, List.length_take]; rfl)) ?_
              with_reducible refine (lex_Lex.calls (((a0.extract 0 (((rd_T30 t131 (ji29)).f3) : Int).toNat) ++ x10_2) ++ (a0.extract (((rd_T30 t131 (ji29)).f3) : Int).toNat a0.size)) t146 t147 t148 _ A38.out).mono ?_
              rintro e w42 ⟨v149, rfl, ho0, hb⟩
              refine ⟨_, rfl, ?_⟩
              have HO150 := XPrint.A0 (Kd.R_lower (Kd.R_new' ho0 (Kd.R_lt (by (with_reducible repeat (first | apply Kd.R_alloc | apply Kd.R_drewN | apply Kd.R_drew)); exact HO_7.out))) (below_size (by exact XPrint.bz HB.out)))
              replace HO_7 := XPrint.A0 (Kd.R_elder' (by (with_reducible repeat (first | apply Kd.R_alloc | apply Kd.R_drewN | apply Kd.R_drew)); exact HO_7.out) (Kd.R_base ho0) hb)
              replace HB := XPrint.A0 (below_step (by exact XPrint.bz HB.out) hb)
              (try clear hb)
              (try clear hb2)
              (try clear hk)
              (try clear hi)
              (try clear ho0)
              refine hK.out _ _ trivial (fun hHeld => ?_)
              clear hK K
              refine norm_ (a' := ?_) ?_ ?_
              rotate_left
              ·show Act.put _ (some 81) _ = _
               simp only [XPrint.pw, i64_w, i32_w]
               rfl
              refine XPrint.pu 10 71 (XPrint.L 17 2047) HT_.out (v := ?_) (a' := ?_) ?_ ?_ ?_
              rotate_left
              ·intro w'
               go_simp
               with_reducible rfl
              rotate_left
              ·simp only [XPrint.pw, i64_w, i32_w]
               rfl
              refine XPrint.pu 11 82 (XPrint.L 17 4095) HT_.out (v := ?_) (a' := ?_) ?_ ?_ ?_
              rotate_left
              ·intro w'
               go_simp
               with_reducible rfl
              rotate_left
              ·simp only [XPrint.pw, i64_w, i32_w]
               rfl
              refine XPrint.pu 12 83 (XPrint.L 17 8191) HT_.out (v := ?_) (a' := ?_) ?_ ?_ ?_
              rotate_left
              ·intro w'
               go_simp
               with_reducible rfl
              rotate_left
              ·simp only [XPrint.pw, i64_w, i32_w]
               rfl
              refine XPrint.pu 13 84 (XPrint.L 17 16383) HT_.out (v := ?_) (a' := ?_) ?_ ?_ ?_
              rotate_left
              ·intro w'
               go_simp
               with_reducible rfl
              rotate_left
              ·simp only [XPrint.pw, i64_w, i32_w]
               rfl
              refine XPrint.pu 14 14 (XPrint.L 17 32767) HT_.out (v := ?_) (a' := ?_) ?_ ?_ ?_
              rotate_left
              ·intro w'
               go_simp
               with_reducible rfl
              rotate_left
              ·simp only [XPrint.pw, i64_w, i32_w]
               rfl
              refine XPrint.pu 15 15 (XPrint.L 17 65535) HT_.out (v := ?_) (a' := ?_) ?_ ?_ ?_
              rotate_left
              ·intro w'
               go_simp
               with_reducible rfl
              rotate_left
              ·simp only [XPrint.pw, i64_w, i32_w]
               rfl
              refine XPrint.pu 16 16 (XPrint.L 17 131071) HT_.out (v := ?_) (a' := ?_) ?_ ?_ ?_
              rotate_left
              ·intro w'
               go_simp
               with_reducible rfl
              rotate_left
              ·simp only [XPrint.pw, i64_w, i32_w]
               rfl
              refine done_ (done_of HT_.out (by kernel_rfl)) ?_
              go_upto_region 12 with (fail)
              go_cut [92] (fun v92 wc => ∃ (kq : Nat) (x92_38 : Bool), v92 = .bool x92_38 ∧ Aside0 (liverylaw06_LexWhite.j2 kq t131 x10_2 ji29 t146 x92_38 = some r) ∧ Aside0 (kq ≤ k2) ∧ Aside0 (Kd.R k30 30 wc w.heap.size (fun k_ => some k_ ≠ (v149 : Value).ownBlock) (.slice (some ad145) t131.length co40) t131) ∧ Aside0 (Kd.R k30 30 wc w.heap.size (fun k_ => some k_ ≠ ((.slice (some ad145) t131.length co40) : Value).ownBlock) v149 t146) ∧ Aside0 (Below w.heap.size w wc))
              case first =>
               have H := HC39.out
               clear HC39
               by_cases c43 : t148 = 0
               ·rw [if_pos c43] at H
                have c43b0 : (t148 == 0) = true := beq_iff_eq.mpr c43
                have c43b1 : (t148 != 0) = false := bne_eq_false_iff_eq.mpr c43
                clear c43
                (first | rw [c43b0] | (simp only [i64_w, i32_w]; rw [c43b0]) | skip)
                replace H := Option.bind_eq_some_iff.mp H
                obtain ⟨t151, A440, H⟩ := H
                try set_option simprocs false in dsimp only at H
                have A44 := XPrint.A0 A440
                clear A440
                have H' := XPrint.A0 H
                clear H
                obtain ⟨Ao45, co45, eo45⟩ := Kd.R_slice HO150.out
                subst eo45
                go_wp2_with (first | (go_at_call 12; (with_reducible refine (liveryref06_Same.calls _ _ t131 _ _ t146 false t151 _ ?side1 ?side2 ?side3 ?side4 A44.out).mono ?_); (case side1 => repeat (first | exact (Kd.R_reads' HO_7.out).2.2 | (with_reducible refine Kd.C_alloc ?_ _) | (with_reducible refine Kd.C_drewN ?_ _) | (with_reducible refine Kd.C_drew ?_))); (case side2 => exact (Kd.R_reads' HO_7.out).2.1); (case side3 => repeat (first | exact (Kd.R_reads' HO150.out).2.2 | (with_reducible refine Kd.C_alloc ?_ _) | (with_reducible refine Kd.C_drewN ?_ _) | (with_reducible refine Kd.C_drew ?_))); (case side4 => exact (Kd.R_reads' HO150.out).2.1); rintro e w46 ⟨rfl, hb⟩; replace HO_7 := XPrint.A0 (Kd.R_below (by (with_reducible repeat (first | apply Kd.R_alloc | apply Kd.R_drewN | apply Kd.R_drew)); exact HO_7.out) hb); replace HO150 := XPrint.A0 (XPrint.rb HO150.out hb); replace HB := XPrint.A0 (below_step (by exact XPrint.bz HB.out) hb); (try clear hb); (try clear hb2); (try clear hk); (try clear hi)))
                go_meet
                case rel => exact ⟨_, (!t151), (by first | rfl | (simp; done) | (simp [*]; done)), H', ⟨by have := HJ4.out; have := HK2.out; first | omega | exact Nat.le_refl _⟩, ⟨by (with_reducible repeat (first | apply Kd.R_alloc | apply Kd.R_drewN | apply Kd.R_drew)); exact Kd.R_mono HO_7.out (fun _ hk => hk.2)⟩, ⟨by (with_reducible repeat (first | apply Kd.R_alloc | apply Kd.R_drewN | apply Kd.R_drew)); exact Kd.R_mono HO150.out (fun _ hk => hk.2)⟩, ⟨by exact XPrint.bz HB.out⟩⟩
               ·rw [if_neg c43] at H
                exact absurd H (by simp)
              case rest =>
               clear HC39
               try clear c1
               try clear p1
               try clear q1
               try clear hx1
               try clear c2
               try clear p2
               try clear hcv2
               try clear c3
               try clear c4
               try clear p6
               try clear c7
               try clear c7b0
               try clear c7b1
               try clear c8
               try clear c8b0
               try clear c8b1
               try clear c8b2
               try clear c9
               try clear c10
               try clear c10b0
               try clear c10b1
               try clear c13
               try clear p14
               try clear q14
               try clear hx14
               try clear c16
               try clear c16b0
               try clear c17
               try clear c17b0
               try clear c19
               try clear c19b0
               try clear c20
               try clear c20b0
               try clear c21
               try clear c21b0
               try clear c21b1
               try clear c21b2
               try clear hcv27
               try clear c28
               try clear c28b0
               try clear c28b1
               try clear c28b2
               try clear c30
               try clear c30b0
               try clear c31
               try clear c31b0
               try clear c32
               try clear c32b0
               try clear c32b1
               try clear c33
               try clear c33b0
               try clear c33b1
               try clear c34
               try clear c34b0
               try clear c34b1
               try clear c34b2
               try clear c35
               try clear c35b0
               try clear c36
               try clear c36b0
               try clear c37
               try clear c37b0
               try clear c37b1
               try clear c37b2
               try clear c43
               try clear c43b0
               try clear c43b1
               try clear hx140_0
               try clear hx141_0
               try clear hx145_0
               try clear hx145_1
               try clear hx145_2
               try clear hx145_3
               try clear p140
               try clear p141
               try clear p145
               try clear p2
               try clear q140
               try clear q141
               try clear q145
               obtain ⟨kq, x92_38, rfl, HA, HJ38, HO_7, HO_14, HB⟩ := hcut
               cases kq with
               | zero => exact absurd HA.out (by simp [liverylaw06_LexWhite.j2])
               | succ kj38 =>
                have H := HA.out
                clear HA
                simp only [liverylaw06_LexWhite.j2] at H
                by_cases c47 : x92_38 = true
                ·subst c47
                 have H1 := H; rw [if_pos rfl] at H1
                 clear H
                 have H := H1
                 clear H1
                 exact absurd H (by simp)
                ·replace c47 := Bool.eq_false_iff.mpr c47
                 subst c47
                 have H1 := H; rw [if_neg (show ¬ (false = true) by decide)] at H1
                 clear H
                 have H := H1
                 clear H1
                 have H' := XPrint.A0 H
                 clear H
                 go_wp2
                 go_loopg [17] kj38 (fun kq v17 w' => ∃ (x17_4 : Int), v17 = .int .i64 x17_4 ∧ Aside0 (liverylaw06_LexWhite.l1 kq t131 x10_2 ji29 t146 x17_4 = some r) ∧ Aside0 (kq ≤ kj38) ∧ Aside0 (Kd.R k30 30 w' w.heap.size (fun k_ => some k_ ≠ (v149 : Value).ownBlock) (.slice (some ad145) t131.length co40) t131) ∧ Aside0 (Kd.R k30 30 w' w.heap.size (fun k_ => some k_ ≠ ((.slice (some ad145) t131.length co40) : Value).ownBlock) v149 t146) ∧ Aside0 (Below w.heap.size w w'))
                 case atStart => exact ⟨(0), (by first | rfl | (simp; done) | (simp [*]; done)), H', ⟨Nat.le_refl _⟩, ⟨by (with_reducible repeat (first | apply Kd.R_alloc | apply Kd.R_drewN | apply Kd.R_drew)); exact HO_7.out⟩, ⟨by (with_reducible repeat (first | apply Kd.R_alloc | apply Kd.R_drewN | apply Kd.R_drew)); exact HO_14.out⟩, ⟨by exact XPrint.bz HB.out⟩⟩
                 case round =>
                  clear H'
                  try clear c1
                  try clear p1
                  try clear q1
                  try clear hx1
                  try clear c2
                  try clear p2
                  try clear hcv2
                  try clear c3
                  try clear c4
                  try clear p6
                  try clear c7
                  try clear c7b0
                  try clear c7b1
                  try clear c8
                  try clear c8b0
                  try clear c8b1
                  try clear c8b2
                  try clear c9
                  try clear c10
                  try clear c10b0
                  try clear c10b1
                  try clear c13
                  try clear p14
                  try clear q14
                  try clear hx14
                  try clear c16
                  try clear c16b0
                  try clear c17
                  try clear c17b0
                  try clear c19
                  try clear c19b0
                  try clear c20
                  try clear c20b0
                  try clear c21
                  try clear c21b0
                  try clear c21b1
                  try clear c21b2
                  try clear hcv27
                  try clear c28
                  try clear c28b0
                  try clear c28b1
                  try clear c28b2
                  try clear c30
                  try clear c30b0
                  try clear c31
                  try clear c31b0
                  try clear c32
                  try clear c32b0
                  try clear c32b1
                  try clear c33
                  try clear c33b0
                  try clear c33b1
                  try clear c34
                  try clear c34b0
                  try clear c34b1
                  try clear c34b2
                  try clear c35
                  try clear c35b0
                  try clear c36
                  try clear c36b0
                  try clear c37
                  try clear c37b0
                  try clear c37b1
                  try clear c37b2
                  try clear c43
                  try clear c43b0
                  try clear c43b1
                  try clear c47
                  try clear hx140_0
                  try clear hx141_0
                  try clear hx145_0
                  try clear hx145_1
                  try clear hx145_2
                  try clear hx145_3
                  try clear p1
                  try clear p14
                  try clear p140
                  try clear p141
                  try clear p145
                  try clear p2
                  try clear p6
                  try clear q1
                  try clear q14
                  try clear q140
                  try clear q141
                  try clear q145
                  obtain ⟨x17_4, rfl, HA, HK4, HO_7, HO_14, HB⟩ := hrel
                  cases gk with
                  | zero => exact absurd HA.out (by simp [liverylaw06_LexWhite.l1])
                  | succ k4 =>
                   have H := HA.out
                   clear HA
                   simp only [liverylaw06_LexWhite.l1] at H
                   by_cases c48 : x17_4 < (t146.length : Int)
                   ·rw [if_pos c48] at H
                    have c48b0 : decide (x17_4 < (t146.length : Int)) = true := decide_eq_true c48
                    clear c48
                    by_cases c49 : 0 ≤ x17_4
                    ·rw [if_pos c49] at H
                     have c49b0 : decide (0 ≤ x17_4) = true := decide_eq_true c49
                     clear c49
                     by_cases c50 : x17_4 < (t131.length : Int)
                     ·rw [if_pos c50] at H
                      have c50b0 : decide (x17_4 < (t131.length : Int)) = true := decide_eq_true c50
                      clear c50
                      by_cases c51 : x17_4 ≥ ji29
                      ·rw [if_pos c51] at H
                       have c51b0 : decide (ji29 ≤ x17_4) = true := decide_eq_true c51
                       clear c51
                       by_cases c52 : ((rd_T30 t146 x17_4).f3) = (wrap64 (((rd_T30 t131 x17_4).f3) + (x10_2.size : Int)))
                       ·rw [if_pos c52] at H
                        have c52b0 : (((rd_T30 t146 x17_4).f3) == (wrap64 (((rd_T30 t131 x17_4).f3) + (x10_2.size : Int)))) = true := beq_iff_eq.mpr c52
                        have c52b1 : (((rd_T30 t146 x17_4).f3) != (wrap64 (((rd_T30 t131 x17_4).f3) + (x10_2.size : Int)))) = false := bne_eq_false_iff_eq.mpr c52
                        clear c52
                        have H' := XPrint.A0 H
                        clear H
                        obtain ⟨Ao53, co53, eo53⟩ := Kd.R_slice HO_14.out
                        subst eo53
                        have p153 : 0 ≤ (x17_4 : Int) := of_decide_eq_true (by first | (with_reducible assumption) | assumption)
                        have q153 : x17_4 < (t131.length : Int) := of_decide_eq_true (by first | (with_reducible assumption) | assumption)
                        obtain ⟨ad153, e153, hx153_0, hx153_1, hx153_2, hx153_3⟩ := at_T30 (Kd.R_reads' HO_7.out).2.2 x17_4 p153 q153
                        obtain rfl : ad145 = ad153 := (by injection e153)
                        replace p153 := eq_true p153
                        replace q153 := eq_true q153
                        have p154 : 0 ≤ (x17_4 : Int) := of_decide_eq_true (by first | (with_reducible assumption) | assumption)
                        have q154 : x17_4 < (t146.length : Int) := of_decide_eq_true (by first | (with_reducible assumption) | assumption)
                        obtain ⟨ad154, e154, hx154_0, hx154_1, hx154_2, hx154_3⟩ := at_T30 (Kd.R_reads' HO_14.out).2.2 x17_4 p154 q154
                        cases e154
                        replace p154 := eq_true p154
                        replace q154 := eq_true q154
                        go_wp2
                        go_roundg k4
                        case measure => have := HJ4.out; have := HK2.out; have := HJ38.out; have := HK4.out; omega
                        case rel => exact ⟨(wrap64 (x17_4 + 1)), (by first | rfl | (simp; done) | (simp [*]; done)), H', ⟨by have := HJ4.out; have := HK2.out; have := HJ38.out; have := HK4.out; omega⟩, ⟨by (with_reducible repeat (first | apply Kd.R_alloc | apply Kd.R_drewN | apply Kd.R_drew)); exact HO_7.out⟩, ⟨by (with_reducible repeat (first | apply Kd.R_alloc | apply Kd.R_drewN | apply Kd.R_drew)); exact HO_14.out⟩, ⟨by exact XPrint.bz HB.out⟩⟩
                       ·rw [if_neg c52] at H
                        exact absurd H (by simp)
                      ·rw [if_neg c51] at H
                       have c51b0 : decide (ji29 ≤ x17_4) = false := decide_eq_false c51
                       clear c51
                       by_cases c54 : ((rd_T30 t146 x17_4).f3) = ((rd_T30 t131 x17_4).f3)
                       ·rw [if_pos c54] at H
                        have c54b0 : (((rd_T30 t146 x17_4).f3) == ((rd_T30 t131 x17_4).f3)) = true := beq_iff_eq.mpr c54
                        have c54b1 : (((rd_T30 t146 x17_4).f3) != ((rd_T30 t131 x17_4).f3)) = false := bne_eq_false_iff_eq.mpr c54
                        clear c54
                        have H' := XPrint.A0 H
                        clear H
                        obtain ⟨Ao55, co55, eo55⟩ := Kd.R_slice HO_14.out
                        subst eo55
                        have p153 : 0 ≤ (x17_4 : Int) := of_decide_eq_true (by first | (with_reducible assumption) | assumption)
                        have q153 : x17_4 < (t131.length : Int) := of_decide_eq_true (by first | (with_reducible assumption) | assumption)
                        obtain ⟨ad153, e153, hx153_0, hx153_1, hx153_2, hx153_3⟩ := at_T30 (Kd.R_reads' HO_7.out).2.2 x17_4 p153 q153
                        obtain rfl : ad145 = ad153 := (by injection e153)
                        replace p153 := eq_true p153
                        replace q153 := eq_true q153
                        have p155 : 0 ≤ (x17_4 : Int) := of_decide_eq_true (by first | (with_reducible assumption) | assumption)
                        have q155 : x17_4 < (t146.length : Int) := of_decide_eq_true (by first | (with_reducible assumption) | assumption)
                        obtain ⟨ad155, e155, hx155_0, hx155_1, hx155_2, hx155_3⟩ := at_T30 (Kd.R_reads' HO_14.out).2.2 x17_4 p155 q155
                        cases e155
                        replace p155 := eq_true p155
                        replace q155 := eq_true q155
                        go_wp2
                        go_roundg k4
                        case measure => have := HJ4.out; have := HK2.out; have := HJ38.out; have := HK4.out; omega
                        case rel => exact ⟨(wrap64 (x17_4 + 1)), (by first | rfl | (simp; done) | (simp [*]; done)), H', ⟨by have := HJ4.out; have := HK2.out; have := HJ38.out; have := HK4.out; omega⟩, ⟨by (with_reducible repeat (first | apply Kd.R_alloc | apply Kd.R_drewN | apply Kd.R_drew)); exact HO_7.out⟩, ⟨by (with_reducible repeat (first | apply Kd.R_alloc | apply Kd.R_drewN | apply Kd.R_drew)); exact HO_14.out⟩, ⟨by exact XPrint.bz HB.out⟩⟩
                       ·rw [if_neg c54] at H
                        exact absurd H (by simp)
                     ·rw [if_neg c50] at H
                      exact absurd H (by simp)
                    ·rw [if_neg c49] at H
                     exact absurd H (by simp)
                   ·rw [if_neg c48] at H
                    have c48b0 : decide (x17_4 < (t146.length : Int)) = false := decide_eq_false c48
                    clear c48
                    replace H := Option.bind_eq_some_iff.mp H
                    obtain ⟨t152, A560, H⟩ := H
                    try set_option simprocs false in dsimp only at H
                    have A56 := XPrint.A0 A560
                    clear A560
                    obtain rfl := Option.some.inj H
                    obtain ⟨Ao57, co57, eo57⟩ := Kd.R_slice HO_14.out
                    subst eo57
                    go_wp2_with (first | ((with_reducible refine gate_callee (f := 10) rfl ?_); refine XPrint.gl (some 118) Tryd.func10 #[] ?_; (with_reducible refine (liverylaw06_head.calls  t152 _ A56.out).mono ?_); rintro e w58 ⟨rfl, hb⟩; refine ⟨_, rfl, ?_⟩; replace HO_7 := XPrint.A0 (Kd.R_below (by (with_reducible repeat (first | apply Kd.R_alloc | apply Kd.R_drewN | apply Kd.R_drew)); exact HO_7.out) hb); replace HO_14 := XPrint.A0 (Kd.R_below (by (with_reducible repeat (first | apply Kd.R_alloc | apply Kd.R_drewN | apply Kd.R_drew)); exact HO_14.out) hb); replace HB := XPrint.A0 (below_step (by exact XPrint.bz HB.out) hb); (try clear hb); (try clear hb2); (try clear hk); (try clear hi)))
                    go_ret
                    exact ⟨by first | rfl | (simp [errW_none, errW_some] <;> rfl) | (simp only [← hji29]; first | rfl | (simp [errW_none, errW_some] <;> rfl)) | (simp [*, errW_none, errW_some] <;> rfl), by exact XPrint.bz HB.out⟩
             ·rw [if_neg c37] at H
              exact absurd H (by simp)
            ·rw [if_neg c34] at H
             exact absurd H (by simp)
           ·rw [if_neg c33] at H
            exact absurd H (by simp)
          ·rw [if_neg c32] at H
           exact absurd H (by simp)
         ·rw [if_neg c31] at H
          exact absurd H (by simp)
        ·rw [if_neg c30] at H
         exact absurd H (by simp)

end Go.Proofs.YtfpbapffdnochaaDoor.PLexWhite
