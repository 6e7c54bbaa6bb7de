-- printed by this session's own driver over the kit's printer: Lean checks it
import Derived.Test.YtfpbapffdnochaaDoorCLexBack0
import Derived.Test.YtfpbapffdnochaaDoorCLexBack2
import Derived.Test.YtfpbapffdnochaaDoorCLexBack3
import Derived.Test.YtfpbapffdnochaaDoorCLexBack4
import Derived.Test.YtfpbapffdnochaaDoorCLexBack5
namespace Go.Proofs.YtfpbapffdnochaaDoor.PLexBack
open Go.RowKit Go.Proofs.YtfpbapffdnochaaDoorW.PrintWords Go.Proofs.YtfpbapffdnochaaDoorW.PrintLast Go.Proofs.YtfpbapffdnochaaDoorW.PrintMore
attribute [local go_sem] max2_int min2_int max_two min_two max_three min_three max_four min_four   -- for this text's walks alone
set_option linter.unusedVariables false
set_option linter.unusedSimpArgs false

/-! ### liverylaw06_LexBack: function 3 -/
mutual
def liverylaw06_LexBack.j0 : Nat → ByteArray → List (S30) → Bool → Option (Bool)
 | 0, _, _, _ => none
 | k + 1, x0, x3, x53 => if x53 = true then (none) else (liverylaw06_LexBack.l0 k x0 x3 0 0)
def liverylaw06_LexBack.l0 : Nat → ByteArray → List (S30) → Int → Int → Option (Bool)
 | 0, _, _, _, _ => none
 | k + 1, x0, x3, x10, x11 => if x11 ≤ (x3.length : Int) then (if x11 < (x3.length : Int) then (if 0 ≤ x11 then (liverylaw06_LexBack.j2 k x0 x3 x10 x11 ((rd_T30 x3 x11).f3)) else (none)) else (liverylaw06_LexBack.j2 k x0 x3 x10 x11 (x0.size : Int))) else ((liverylaw06_head.f).bind fun t146 => (some t146))
def liverylaw06_LexBack.j2 : Nat → ByteArray → List (S30) → Int → Int → Int → Option (Bool)
 | 0, _, _, _, _, _ => none
 | k + 1, x0, x3, x10, x11, x12 => if x12 < x10 then (none) else (liverylaw06_LexBack.j3 k x0 x3 x10 x11 x12 (decide (x12 > (x0.size : Int))))
def liverylaw06_LexBack.j3 : Nat → ByteArray → List (S30) → Int → Int → Int → Bool → Option (Bool)
 | 0, _, _, _, _, _, _ => none
 | k + 1, x0, x3, x10, x11, x12, x79 => if x79 = true then (none) else (liverylaw06_LexBack.l1 k x0 x3 x10 x11 x12)
def liverylaw06_LexBack.l1 : Nat → ByteArray → List (S30) → Int → Int → Int → Option (Bool)
 | 0, _, _, _, _, _ => none
 | k + 1, x0, x3, x10, x11, x12 => if x10 < x12 then (if 0 ≤ x10 then (if x10 < (x0.size : Int) then ((liveryref06_White.f (bt x0 x10)).bind fun t148 => (if t148 = true then (liverylaw06_LexBack.l1 k x0 x3 (wrap64 (x10 + 1)) x11 x12) else (none))) else (none)) else (none)) else (if x11 < (x3.length : Int) then (if 0 ≤ x11 then (if (((rd_T30 x3 x11).f1).size : Int) = 0 then (none) else (if (wrap64 (x10 + (((rd_T30 x3 x11).f1).size : Int))) > (x0.size : Int) then (none) else (if 0 ≤ x10 then (if x10 ≤ (wrap64 (x10 + (((rd_T30 x3 x11).f1).size : Int))) then (if (wrap64 (x10 + (((rd_T30 x3 x11).f1).size : Int))) ≤ (x0.size : Int) then (if (x0.extract (x10 : Int).toNat ((wrap64 (x10 + (((rd_T30 x3 x11).f1).size : Int))) : Int).toNat).toList = ((rd_T30 x3 x11).f1).toList then (liverylaw06_LexBack.l0 k x0 x3 (wrap64 (x10 + (((rd_T30 x3 x11).f1).size : Int))) (wrap64 (x11 + 1))) else (none)) else (none)) else (none)) else (none)))) else (none)) else (liverylaw06_LexBack.l0 k x0 x3 x10 (wrap64 (x11 + 1))))
end
def liverylaw06_LexBack.f (k : Nat) (a0 : ByteArray) : Option (Bool) := (lex_Lex.f a0).bind fun bt131 => (if bt131.2.2 = 0 then ((lex_Text.f bt131.1).bind fun t137 => (if (t137.size : Int) > 4096 then ((liverylaw06_head.f).bind fun t138 => (some t138)) else ((lex_Lex.f t137).bind fun bt139 => (if bt139.2.2 = 0 then ((liveryref06_Same.f bt131.1 bt139.1 false).bind fun t144 => (if t144 = true then ((lex_Text.f bt139.1).bind fun t145 => (liverylaw06_LexBack.j0 k a0 bt131.1 (t145.toList != t137.toList))) else (none))) else (none))))) else (if (bt131.1.length : Int) = 0 then ((liverylaw06_head.f).bind fun t136 => (some t136)) else (none)))
theorem liverylaw06_LexBack.mono_l : ∀ k, (∀ y0 y1 y2, LeO (liverylaw06_LexBack.j0 k y0 y1 y2) (liverylaw06_LexBack.j0 (k + 1) y0 y1 y2)) ∧ (∀ y0 y1 y2 y3, LeO (liverylaw06_LexBack.l0 k y0 y1 y2 y3) (liverylaw06_LexBack.l0 (k + 1) y0 y1 y2 y3)) ∧ (∀ y0 y1 y2 y3 y4, LeO (liverylaw06_LexBack.j2 k y0 y1 y2 y3 y4) (liverylaw06_LexBack.j2 (k + 1) y0 y1 y2 y3 y4)) ∧ (∀ y0 y1 y2 y3 y4 y5, LeO (liverylaw06_LexBack.j3 k y0 y1 y2 y3 y4 y5) (liverylaw06_LexBack.j3 (k + 1) y0 y1 y2 y3 y4 y5)) ∧ (∀ y0 y1 y2 y3 y4, LeO (liverylaw06_LexBack.l1 k y0 y1 y2 y3 y4) (liverylaw06_LexBack.l1 (k + 1) y0 y1 y2 y3 y4))
 | 0 => ⟨fun _ _ _ r h => by simp [liverylaw06_LexBack.j0] at h, fun _ _ _ _ r h => by simp [liverylaw06_LexBack.l0] at h, fun _ _ _ _ _ r h => by simp [liverylaw06_LexBack.j2] at h, fun _ _ _ _ _ _ r h => by simp [liverylaw06_LexBack.j3] at h, fun _ _ _ _ _ r h => by simp [liverylaw06_LexBack.l1] at h⟩
 | k + 1 => by
  obtain ⟨ih0, ih1, ih2, ih3, ih4⟩ := liverylaw06_LexBack.mono_l k
  refine ⟨?_, ?_, ?_, ?_, ?_⟩
  ·intro y0 y1 y2
   unfold liverylaw06_LexBack.j0
   repeat' first
   | (with_reducible exact ih0 _ _ _)
   | (with_reducible exact ih1 _ _ _ _)
   | (with_reducible exact ih2 _ _ _ _ _)
   | (with_reducible exact ih3 _ _ _ _ _ _)
   | (with_reducible exact ih4 _ _ _ _ _)
   | (with_reducible exact LeO.refl _)
   | (with_reducible exact LeO.none _)
   | (with_reducible refine LeO.ite ?_ ?_)
   | (with_reducible refine LeO.bind ?_ (fun _ => ?_))
   | exact ih0 _ _ _
   | exact ih1 _ _ _ _
   | exact ih2 _ _ _ _ _
   | exact ih3 _ _ _ _ _ _
   | exact ih4 _ _ _ _ _
   | exact LeO.none _
   | refine LeO.ite ?_ ?_
   | refine LeO.bind ?_ (fun _ => ?_)
  ·intro y0 y1 y2 y3
   unfold liverylaw06_LexBack.l0
   repeat' first
   | (with_reducible exact ih0 _ _ _)
   | (with_reducible exact ih1 _ _ _ _)
   | (with_reducible exact ih2 _ _ _ _ _)
   | (with_reducible exact ih3 _ _ _ _ _ _)
   | (with_reducible exact ih4 _ _ _ _ _)
   | (with_reducible exact LeO.refl _)
   | (with_reducible exact LeO.none _)
   | (with_reducible refine LeO.ite ?_ ?_)
   | (with_reducible refine LeO.bind ?_ (fun _ => ?_))
   | exact ih0 _ _ _
   | exact ih1 _ _ _ _
   | exact ih2 _ _ _ _ _
   | exact ih3 _ _ _ _ _ _
   | exact ih4 _ _ _ _ _
   | exact LeO.none _
   | refine LeO.ite ?_ ?_
   | refine LeO.bind ?_ (fun _ => ?_)
  ·intro y0 y1 y2 y3 y4
   unfold liverylaw06_LexBack.j2
   repeat' first
   | (with_reducible exact ih0 _ _ _)
   | (with_reducible exact ih1 _ _ _ _)
   | (with_reducible exact ih2 _ _ _ _ _)
   | (with_reducible exact ih3 _ _ _ _ _ _)
   | (with_reducible exact ih4 _ _ _ _ _)
   | (with_reducible exact LeO.refl _)
   | (with_reducible exact LeO.none _)
   | (with_reducible refine LeO.ite ?_ ?_)
   | (with_reducible refine LeO.bind ?_ (fun _ => ?_))
   | exact ih0 _ _ _
   | exact ih1 _ _ _ _
   | exact ih2 _ _ _ _ _
   | exact ih3 _ _ _ _ _ _
   | exact ih4 _ _ _ _ _
   | exact LeO.none _
   | refine LeO.ite ?_ ?_
   | refine LeO.bind ?_ (fun _ => ?_)
  ·intro y0 y1 y2 y3 y4 y5
   unfold liverylaw06_LexBack.j3
   repeat' first
   | (with_reducible exact ih0 _ _ _)
   | (with_reducible exact ih1 _ _ _ _)
   | (with_reducible exact ih2 _ _ _ _ _)
   | (with_reducible exact ih3 _ _ _ _ _ _)
   | (with_reducible exact ih4 _ _ _ _ _)
   | (with_reducible exact LeO.refl _)
   | (with_reducible exact LeO.none _)
   | (with_reducible refine LeO.ite ?_ ?_)
   | (with_reducible refine LeO.bind ?_ (fun _ => ?_))
   | exact ih0 _ _ _
   | exact ih1 _ _ _ _
   | exact ih2 _ _ _ _ _
   | exact ih3 _ _ _ _ _ _
   | exact ih4 _ _ _ _ _
   | exact LeO.none _
   | refine LeO.ite ?_ ?_
   | refine LeO.bind ?_ (fun _ => ?_)
  ·intro y0 y1 y2 y3 y4
   unfold liverylaw06_LexBack.l1
   repeat' first
   | (with_reducible exact ih0 _ _ _)
   | (with_reducible exact ih1 _ _ _ _)
   | (with_reducible exact ih2 _ _ _ _ _)
   | (with_reducible exact ih3 _ _ _ _ _ _)
   | (with_reducible exact ih4 _ _ _ _ _)
   | (with_reducible exact LeO.refl _)
   | (with_reducible exact LeO.none _)
   | (with_reducible refine LeO.ite ?_ ?_)
   | (with_reducible refine LeO.bind ?_ (fun _ => ?_))
   | exact ih0 _ _ _
   | exact ih1 _ _ _ _
   | exact ih2 _ _ _ _ _
   | exact ih3 _ _ _ _ _ _
   | exact ih4 _ _ _ _ _
   | exact LeO.none _
   | refine LeO.ite ?_ ?_
   | refine LeO.bind ?_ (fun _ => ?_)
theorem liverylaw06_LexBack.mono : ∀ a0 k, LeO (liverylaw06_LexBack.f k a0) (liverylaw06_LexBack.f (k + 1) a0) := by
 intro a0 k
 obtain ⟨ih0, ih1, ih2, ih3, ih4⟩ := liverylaw06_LexBack.mono_l k
 unfold liverylaw06_LexBack.f
 repeat' first
   | (with_reducible exact ih0 _ _ _)
   | (with_reducible exact ih1 _ _ _ _)
   | (with_reducible exact ih2 _ _ _ _ _)
   | (with_reducible exact ih3 _ _ _ _ _ _)
   | (with_reducible exact ih4 _ _ _ _ _)
   | (with_reducible exact LeO.refl _)
   | (with_reducible exact LeO.none _)
   | (with_reducible refine LeO.ite ?_ ?_)
   | (with_reducible refine LeO.bind ?_ (fun _ => ?_))
   | exact ih0 _ _ _
   | exact ih1 _ _ _ _
   | exact ih2 _ _ _ _ _
   | exact ih3 _ _ _ _ _ _
   | exact ih4 _ _ _ _ _
   | exact LeO.none _
   | refine LeO.ite ?_ ?_
   | refine LeO.bind ?_ (fun _ => ?_)
set_option maxHeartbeats 8000000 in
set_option maxRecDepth 100000 in
theorem liverylaw06_LexBack.calls (k : Nat) (a0 : ByteArray) (r : Bool) (w : World) (h : liverylaw06_LexBack.f k a0 = some r) :
  Calls Tryd.prog 3 #[.string a0] w fun e w' => e = .returned (.bool r) ∧ Below w.heap.size w w' := by
 have HB := XPrint.A0 (Below.refl w.heap.size w)
 have H : ((lex_Lex.f a0).bind fun bt131 => (if bt131.2.2 = 0 then ((lex_Text.f bt131.1).bind fun t137 => (if (t137.size : Int) > 4096 then ((liverylaw06_head.f).bind fun t138 => (some t138)) else ((lex_Lex.f t137).bind fun bt139 => (if bt139.2.2 = 0 then ((liveryref06_Same.f bt131.1 bt139.1 false).bind fun t144 => (if t144 = true then ((lex_Text.f bt139.1).bind fun t145 => (liverylaw06_LexBack.j0 k a0 bt131.1 (t145.toList != t137.toList))) else (none))) else (none))))) else (if (bt131.1.length : Int) = 0 then ((liverylaw06_head.f).bind fun t136 => (some t136)) else (none)))) = some r := h
 clear h
 replace H := Option.bind_eq_some_iff.mp H
 obtain ⟨⟨t131, t132, t133⟩, A20, H⟩ := H
 replace H : (if t133 = 0 then ((lex_Text.f t131).bind fun t137 => (if (t137.size : Int) > 4096 then ((liverylaw06_head.f).bind fun t138 => (some t138)) else ((lex_Lex.f t137).bind fun bt139 => (if bt139.2.2 = 0 then ((liveryref06_Same.f t131 bt139.1 false).bind fun t144 => (if t144 = true then ((lex_Text.f bt139.1).bind fun t145 => (liverylaw06_LexBack.j0 k a0 t131 (t145.toList != t137.toList))) else (none))) else (none))))) else (if (t131.length : Int) = 0 then ((liverylaw06_head.f).bind fun t136 => (some t136)) else (none))) = some r := H
 have A2 := XPrint.A0 A20
 clear A20
 by_cases c3 : t133 = 0
 ·rw [if_pos c3] at H
  have c3b0 : (t133 == 0) = true := beq_iff_eq.mpr c3
  have c3b1 : (t133 != 0) = false := bne_eq_false_iff_eq.mpr c3
  clear c3
  replace H := Option.bind_eq_some_iff.mp H
  obtain ⟨t137, A40, H⟩ := H
  try set_option simprocs false in dsimp only at H
  have A4 := XPrint.A0 A40
  clear A40
  by_cases c5 : (t137.size : Int) > 4096
  ·rw [if_pos c5] at H
   have c5b0 : decide (4096 < (t137.size : Int)) = true := decide_eq_true c5
   have c5b1 : decide (4096 < t137.size) = true := decide_eq_true (by omega)
   clear c5
   replace H := Option.bind_eq_some_iff.mp H
   obtain ⟨t138, A60, H⟩ := H
   try set_option simprocs false in dsimp only at H
   have A6 := XPrint.A0 A60
   clear A60
   obtain rfl := Option.some.inj H
   go_enter Tryd.func3, Tryd.ntmps3
   go_wp2_with (first | (go_at_call 9; (with_reducible refine (lex_Lex.calls a0 t131 t132 t133 _ A2.out).mono ?_); rintro e w7 ⟨v134, rfl, ho0, hb⟩; have HO135 := XPrint.A0 (Kd.R_lower ho0 (below_size (by exact XPrint.bz HB.out))); replace HB := XPrint.A0 (below_step (by exact XPrint.bz HB.out) hb); (try clear hb); (try clear hb2); (try clear hk); (try clear hi); (try clear ho0); obtain ⟨Ao8, co8, eo8⟩ := Kd.R_slice HO135.out; subst eo8) | (go_at_call 11; (with_reducible refine (lex_Text.calls _ _ t131 t137 _ ?side1 ?side2 A4.out).mono ?_); (case side1 => repeat (first | exact (Kd.R_reads' HO135.out).2.2 | (with_reducible refine Kd.C_alloc ?_ _) | (with_reducible refine Kd.C_drewN ?_ _) | (with_reducible refine Kd.C_drew ?_))); (case side2 => exact (Kd.R_reads' HO135.out).2.1); rintro e w9 ⟨rfl, hb⟩; replace HO135 := XPrint.A0 (XPrint.rb HO135.out hb); replace HB := XPrint.A0 (below_step (by exact XPrint.bz HB.out) hb); (try clear hb); (try clear hb2); (try clear hk); (try clear hi)) | (go_at_call 10; (with_reducible refine (liverylaw06_head.calls  t138 _ A6.out).mono ?_); rintro e w10 ⟨rfl, hb⟩; replace HO135 := XPrint.A0 (XPrint.rb HO135.out hb); replace HB := XPrint.A0 (below_step (by exact XPrint.bz HB.out) hb); (try clear hb); (try clear hb2); (try clear hk); (try clear hi)))
   repeat (go_quiet (first | (go_at_call 9; (with_reducible refine (lex_Lex.calls a0 t131 t132 t133 _ A2.out).mono ?_); rintro e w7 ⟨v134, rfl, ho0, hb⟩; have HO135 := XPrint.A0 (Kd.R_lower ho0 (below_size (by exact XPrint.bz HB.out))); replace HB := XPrint.A0 (below_step (by exact XPrint.bz HB.out) hb); (try clear hb); (try clear hb2); (try clear hk); (try clear hi); (try clear ho0); obtain ⟨Ao8, co8, eo8⟩ := Kd.R_slice HO135.out; subst eo8) | (go_at_call 11; (with_reducible refine (lex_Text.calls _ _ t131 t137 _ ?side1 ?side2 A4.out).mono ?_); (case side1 => repeat (first | exact (Kd.R_reads' HO135.out).2.2 | (with_reducible refine Kd.C_alloc ?_ _) | (with_reducible refine Kd.C_drewN ?_ _) | (with_reducible refine Kd.C_drew ?_))); (case side2 => exact (Kd.R_reads' HO135.out).2.1); rintro e w9 ⟨rfl, hb⟩; replace HO135 := XPrint.A0 (XPrint.rb HO135.out hb); replace HB := XPrint.A0 (below_step (by exact XPrint.bz HB.out) hb); (try clear hb); (try clear hb2); (try clear hk); (try clear hi)) | (go_at_call 10; (with_reducible refine (liverylaw06_head.calls  t138 _ A6.out).mono ?_); rintro e w10 ⟨rfl, hb⟩; replace HO135 := XPrint.A0 (XPrint.rb HO135.out hb); replace HB := XPrint.A0 (below_step (by exact XPrint.bz HB.out) hb); (try clear hb); (try clear hb2); (try clear hk); (try clear hi))); try go_wp2_with (first | (go_at_call 9; (with_reducible refine (lex_Lex.calls a0 t131 t132 t133 _ A2.out).mono ?_); rintro e w7 ⟨v134, rfl, ho0, hb⟩; have HO135 := XPrint.A0 (Kd.R_lower ho0 (below_size (by exact XPrint.bz HB.out))); replace HB := XPrint.A0 (below_step (by exact XPrint.bz HB.out) hb); (try clear hb); (try clear hb2); (try clear hk); (try clear hi); (try clear ho0); obtain ⟨Ao8, co8, eo8⟩ := Kd.R_slice HO135.out; subst eo8) | (go_at_call 11; (with_reducible refine (lex_Text.calls _ _ t131 t137 _ ?side1 ?side2 A4.out).mono ?_); (case side1 => repeat (first | exact (Kd.R_reads' HO135.out).2.2 | (with_reducible refine Kd.C_alloc ?_ _) | (with_reducible refine Kd.C_drewN ?_ _) | (with_reducible refine Kd.C_drew ?_))); (case side2 => exact (Kd.R_reads' HO135.out).2.1); rintro e w9 ⟨rfl, hb⟩; replace HO135 := XPrint.A0 (XPrint.rb HO135.out hb); replace HB := XPrint.A0 (below_step (by exact XPrint.bz HB.out) hb); (try clear hb); (try clear hb2); (try clear hk); (try clear hi)) | (go_at_call 10; (with_reducible refine (liverylaw06_head.calls  t138 _ A6.out).mono ?_); rintro e w10 ⟨rfl, hb⟩; replace HO135 := XPrint.A0 (XPrint.rb HO135.out hb); replace HB := XPrint.A0 (below_step (by exact XPrint.bz HB.out) hb); (try clear hb); (try clear hb2); (try clear hk); (try clear hi))))
   go_ret
   exact ⟨by first | rfl | (simp [errW_none, errW_some] <;> rfl) | (simp [*, errW_none, errW_some] <;> rfl), by exact XPrint.bz HB.out⟩
  ·rw [if_neg c5] at H
   have c5b0 : decide (4096 < (t137.size : Int)) = false := decide_eq_false c5
   have c5b1 : decide (4096 < t137.size) = false := decide_eq_false (by omega)
   clear c5
   replace H := Option.bind_eq_some_iff.mp H
   obtain ⟨⟨t139, t140, t141⟩, A110, H⟩ := H
   replace H : (if t141 = 0 then ((liveryref06_Same.f t131 t139 false).bind fun t144 => (if t144 = true then ((lex_Text.f t139).bind fun t145 => (liverylaw06_LexBack.j0 k a0 t131 (t145.toList != t137.toList))) else (none))) else (none)) = some r := H
   have A11 := XPrint.A0 A110
   clear A110
   have HC12 := XPrint.A0 H
   clear H
   go_enter Tryd.func3, Tryd.ntmps3
   go_upto_region 8 with (first | (go_at_call 9; (with_reducible refine (lex_Lex.calls a0 t131 t132 t133 _ A2.out).mono ?_); rintro e w13 ⟨v134, rfl, ho0, hb⟩; have n0_ := XPrint.A0 (Kd.R_lower ho0 (below_size (by exact XPrint.bz HB.out))); have n1_ := XPrint.A0 (below_step (by exact XPrint.bz HB.out) hb); clear HB; have HO135 := n0_; have HB := n1_; clear n0_ n1_; (try clear hb); (try clear hb2); (try clear hk); (try clear hi); (try clear ho0); obtain ⟨Ao14, co14, eo14⟩ := Kd.R_slice HO135.out; subst eo14) | (go_at_call 11; (with_reducible refine (lex_Text.calls _ _ t131 t137 _ ?side1 ?side2 A4.out).mono ?_); (case side1 => repeat (first | exact (Kd.R_reads' HO135.out).2.2 | (with_reducible refine Kd.C_alloc ?_ _) | (with_reducible refine Kd.C_drewN ?_ _) | (with_reducible refine Kd.C_drew ?_))); (case side2 => exact (Kd.R_reads' HO135.out).2.1); rintro e w15 ⟨rfl, hb⟩; have n0_ := XPrint.A0 (XPrint.rb HO135.out hb); have n1_ := XPrint.A0 (below_step (by exact XPrint.bz HB.out) hb); clear HO135; clear HB; have HO135 := n0_; have HB := n1_; clear n0_ n1_; (try clear hb); (try clear hb2); (try clear hk); (try clear hi)) | (go_at_call 9; (with_reducible refine (lex_Lex.calls t137 t139 t140 t141 _ A11.out).mono ?_); rintro e w16 ⟨v142, rfl, ho0, hb⟩; have n0_ := XPrint.A0 (Kd.R_elder' (by (with_reducible repeat (first | apply Kd.R_alloc | apply Kd.R_drewN | apply Kd.R_drew)); exact HO135.out) (Kd.R_base ho0) hb); have n1_ := XPrint.A0 (Kd.R_lower (Kd.R_new' ho0 (Kd.R_lt (by (with_reducible repeat (first | apply Kd.R_alloc | apply Kd.R_drewN | apply Kd.R_drew)); exact HO135.out))) (below_size (by exact XPrint.bz HB.out))); have n2_ := XPrint.A0 (below_step (by exact XPrint.bz HB.out) hb); clear HO135; clear HB; have HO135 := n0_; have HO143 := n1_; have HB := n2_; clear n0_ n1_ n2_; (try clear hb); (try clear hb2); (try clear hk); (try clear hi); (try clear ho0)))
   repeat (go_quiet (first | (go_at_call 9; (with_reducible refine (lex_Lex.calls a0 t131 t132 t133 _ A2.out).mono ?_); rintro e w13 ⟨v134, rfl, ho0, hb⟩; have n0_ := XPrint.A0 (Kd.R_lower ho0 (below_size (by exact XPrint.bz HB.out))); have n1_ := XPrint.A0 (below_step (by exact XPrint.bz HB.out) hb); clear HB; have HO135 := n0_; have HB := n1_; clear n0_ n1_; (try clear hb); (try clear hb2); (try clear hk); (try clear hi); (try clear ho0); obtain ⟨Ao14, co14, eo14⟩ := Kd.R_slice HO135.out; subst eo14) | (go_at_call 11; (with_reducible refine (lex_Text.calls _ _ t131 t137 _ ?side1 ?side2 A4.out).mono ?_); (case side1 => repeat (first | exact (Kd.R_reads' HO135.out).2.2 | (with_reducible refine Kd.C_alloc ?_ _) | (with_reducible refine Kd.C_drewN ?_ _) | (with_reducible refine Kd.C_drew ?_))); (case side2 => exact (Kd.R_reads' HO135.out).2.1); rintro e w15 ⟨rfl, hb⟩; have n0_ := XPrint.A0 (XPrint.rb HO135.out hb); have n1_ := XPrint.A0 (below_step (by exact XPrint.bz HB.out) hb); clear HO135; clear HB; have HO135 := n0_; have HB := n1_; clear n0_ n1_; (try clear hb); (try clear hb2); (try clear hk); (try clear hi)) | (go_at_call 9; (with_reducible refine (lex_Lex.calls t137 t139 t140 t141 _ A11.out).mono ?_); rintro e w16 ⟨v142, rfl, ho0, hb⟩; have n0_ := XPrint.A0 (Kd.R_elder' (by (with_reducible repeat (first | apply Kd.R_alloc | apply Kd.R_drewN | apply Kd.R_drew)); exact HO135.out) (Kd.R_base ho0) hb); have n1_ := XPrint.A0 (Kd.R_lower (Kd.R_new' ho0 (Kd.R_lt (by (with_reducible repeat (first | apply Kd.R_alloc | apply Kd.R_drewN | apply Kd.R_drew)); exact HO135.out))) (below_size (by exact XPrint.bz HB.out))); have n2_ := XPrint.A0 (below_step (by exact XPrint.bz HB.out) hb); clear HO135; clear HB; have HO135 := n0_; have HO143 := n1_; have HB := n2_; clear n0_ n1_ n2_; (try clear hb); (try clear hb2); (try clear hk); (try clear hi); (try clear ho0))); go_upto_region 8 with (first | (go_at_call 9; (with_reducible refine (lex_Lex.calls a0 t131 t132 t133 _ A2.out).mono ?_); rintro e w13 ⟨v134, rfl, ho0, hb⟩; have n0_ := XPrint.A0 (Kd.R_lower ho0 (below_size (by exact XPrint.bz HB.out))); have n1_ := XPrint.A0 (below_step (by exact XPrint.bz HB.out) hb); clear HB; have HO135 := n0_; have HB := n1_; clear n0_ n1_; (try clear hb); (try clear hb2); (try clear hk); (try clear hi); (try clear ho0); obtain ⟨Ao14, co14, eo14⟩ := Kd.R_slice HO135.out; subst eo14) | (go_at_call 11; (with_reducible refine (lex_Text.calls _ _ t131 t137 _ ?side1 ?side2 A4.out).mono ?_); (case side1 => repeat (first | exact (Kd.R_reads' HO135.out).2.2 | (with_reducible refine Kd.C_alloc ?_ _) | (with_reducible refine Kd.C_drewN ?_ _) | (with_reducible refine Kd.C_drew ?_))); (case side2 => exact (Kd.R_reads' HO135.out).2.1); rintro e w15 ⟨rfl, hb⟩; have n0_ := XPrint.A0 (XPrint.rb HO135.out hb); have n1_ := XPrint.A0 (below_step (by exact XPrint.bz HB.out) hb); clear HO135; clear HB; have HO135 := n0_; have HB := n1_; clear n0_ n1_; (try clear hb); (try clear hb2); (try clear hk); (try clear hi)) | (go_at_call 9; (with_reducible refine (lex_Lex.calls t137 t139 t140 t141 _ A11.out).mono ?_); rintro e w16 ⟨v142, rfl, ho0, hb⟩; have n0_ := XPrint.A0 (Kd.R_elder' (by (with_reducible repeat (first | apply Kd.R_alloc | apply Kd.R_drewN | apply Kd.R_drew)); exact HO135.out) (Kd.R_base ho0) hb); have n1_ := XPrint.A0 (Kd.R_lower (Kd.R_new' ho0 (Kd.R_lt (by (with_reducible repeat (first | apply Kd.R_alloc | apply Kd.R_drewN | apply Kd.R_drew)); exact HO135.out))) (below_size (by exact XPrint.bz HB.out))); have n2_ := XPrint.A0 (below_step (by exact XPrint.bz HB.out) hb); clear HO135; clear HB; have HO135 := n0_; have HO143 := n1_; have HB := n2_; clear n0_ n1_ n2_; (try clear hb); (try clear hb2); (try clear hk); (try clear hi); (try clear ho0))))
   (try simp only [XPrint.pw])
   go_cut [53] (fun v53 wc => ∃ (kq : Nat) (x53_11 : Bool), v53 = .bool x53_11 ∧ Aside0 (liverylaw06_LexBack.j0 kq a0 t131 x53_11 = some r) ∧ Aside0 (kq ≤ k) ∧ Aside0 (Kd.R k30 30 wc w.heap.size (fun _ => True) (.slice Ao14 t131.length co14) t131) ∧ Aside0 (Below w.heap.size w wc))
   case first =>
    have H := HC12.out
    clear HC12
    by_cases c17 : t141 = 0
    ·rw [if_pos c17] at H
     have c17b0 : (t141 == 0) = true := beq_iff_eq.mpr c17
     have c17b1 : (t141 != 0) = false := bne_eq_false_iff_eq.mpr c17
     clear c17
     (first | rw [c17b0] | (simp only [i64_w, i32_w]; rw [c17b0]) | skip)
     replace H := Option.bind_eq_some_iff.mp H
     obtain ⟨t144, A180, H⟩ := H
     try set_option simprocs false in dsimp only at H
     have A18 := XPrint.A0 A180
     clear A180
     by_cases c19 : t144 = true
     ·subst c19
      have H1 := H; rw [if_pos rfl] at H1
      clear H
      have H := H1
      clear H1
      replace H := Option.bind_eq_some_iff.mp H
      obtain ⟨t145, A200, H⟩ := H
      try set_option simprocs false in dsimp only at H
      have A20 := XPrint.A0 A200
      clear A200
      have H' := XPrint.A0 H
      clear H
      obtain ⟨Ao21, co21, eo21⟩ := Kd.R_slice HO143.out
      subst eo21
      go_wp2_with (first | (go_at_call 12; (with_reducible refine (liveryref06_Same.calls _ _ t131 _ _ t139 false true _ ?side1 ?side2 ?side3 ?side4 A18.out).mono ?_); (case side1 => repeat (first | exact (Kd.R_reads' HO135.out).2.2 | (with_reducible refine Kd.C_alloc ?_ _) | (with_reducible refine Kd.C_drewN ?_ _) | (with_reducible refine Kd.C_drew ?_))); (case side2 => exact (Kd.R_reads' HO135.out).2.1); (case side3 => repeat (first | exact (Kd.R_reads' HO143.out).2.2 | (with_reducible refine Kd.C_alloc ?_ _) | (with_reducible refine Kd.C_drewN ?_ _) | (with_reducible refine Kd.C_drew ?_))); (case side4 => exact (Kd.R_reads' HO143.out).2.1); rintro e w22 ⟨rfl, hb⟩; replace HO135 := XPrint.A0 (XPrint.rb HO135.out hb); replace HO143 := XPrint.A0 (XPrint.rb HO143.out hb); replace HB := XPrint.A0 (below_step (by exact XPrint.bz HB.out) hb); (try clear hb); (try clear hb2); (try clear hk); (try clear hi)) | (go_at_call 11; (with_reducible refine (lex_Text.calls _ _ t139 t145 _ ?side1 ?side2 A20.out).mono ?_); (case side1 => repeat (first | exact (Kd.R_reads' HO143.out).2.2 | (with_reducible refine Kd.C_alloc ?_ _) | (with_reducible refine Kd.C_drewN ?_ _) | (with_reducible refine Kd.C_drew ?_))); (case side2 => exact (Kd.R_reads' HO143.out).2.1); rintro e w23 ⟨rfl, hb⟩; replace HO135 := XPrint.A0 (XPrint.rb HO135.out hb); replace HO143 := XPrint.A0 (XPrint.rb HO143.out hb); replace HB := XPrint.A0 (below_step (by exact XPrint.bz HB.out) hb); (try clear hb); (try clear hb2); (try clear hk); (try clear hi)))
      repeat (go_quiet (first | (go_at_call 12; (with_reducible refine (liveryref06_Same.calls _ _ t131 _ _ t139 false true _ ?side1 ?side2 ?side3 ?side4 A18.out).mono ?_); (case side1 => repeat (first | exact (Kd.R_reads' HO135.out).2.2 | (with_reducible refine Kd.C_alloc ?_ _) | (with_reducible refine Kd.C_drewN ?_ _) | (with_reducible refine Kd.C_drew ?_))); (case side2 => exact (Kd.R_reads' HO135.out).2.1); (case side3 => repeat (first | exact (Kd.R_reads' HO143.out).2.2 | (with_reducible refine Kd.C_alloc ?_ _) | (with_reducible refine Kd.C_drewN ?_ _) | (with_reducible refine Kd.C_drew ?_))); (case side4 => exact (Kd.R_reads' HO143.out).2.1); rintro e w22 ⟨rfl, hb⟩; replace HO135 := XPrint.A0 (XPrint.rb HO135.out hb); replace HO143 := XPrint.A0 (XPrint.rb HO143.out hb); replace HB := XPrint.A0 (below_step (by exact XPrint.bz HB.out) hb); (try clear hb); (try clear hb2); (try clear hk); (try clear hi)) | (go_at_call 11; (with_reducible refine (lex_Text.calls _ _ t139 t145 _ ?side1 ?side2 A20.out).mono ?_); (case side1 => repeat (first | exact (Kd.R_reads' HO143.out).2.2 | (with_reducible refine Kd.C_alloc ?_ _) | (with_reducible refine Kd.C_drewN ?_ _) | (with_reducible refine Kd.C_drew ?_))); (case side2 => exact (Kd.R_reads' HO143.out).2.1); rintro e w23 ⟨rfl, hb⟩; replace HO135 := XPrint.A0 (XPrint.rb HO135.out hb); replace HO143 := XPrint.A0 (XPrint.rb HO143.out hb); replace HB := XPrint.A0 (below_step (by exact XPrint.bz HB.out) hb); (try clear hb); (try clear hb2); (try clear hk); (try clear hi))); try go_wp2_with (first | (go_at_call 12; (with_reducible refine (liveryref06_Same.calls _ _ t131 _ _ t139 false true _ ?side1 ?side2 ?side3 ?side4 A18.out).mono ?_); (case side1 => repeat (first | exact (Kd.R_reads' HO135.out).2.2 | (with_reducible refine Kd.C_alloc ?_ _) | (with_reducible refine Kd.C_drewN ?_ _) | (with_reducible refine Kd.C_drew ?_))); (case side2 => exact (Kd.R_reads' HO135.out).2.1); (case side3 => repeat (first | exact (Kd.R_reads' HO143.out).2.2 | (with_reducible refine Kd.C_alloc ?_ _) | (with_reducible refine Kd.C_drewN ?_ _) | (with_reducible refine Kd.C_drew ?_))); (case side4 => exact (Kd.R_reads' HO143.out).2.1); rintro e w22 ⟨rfl, hb⟩; replace HO135 := XPrint.A0 (XPrint.rb HO135.out hb); replace HO143 := XPrint.A0 (XPrint.rb HO143.out hb); replace HB := XPrint.A0 (below_step (by exact XPrint.bz HB.out) hb); (try clear hb); (try clear hb2); (try clear hk); (try clear hi)) | (go_at_call 11; (with_reducible refine (lex_Text.calls _ _ t139 t145 _ ?side1 ?side2 A20.out).mono ?_); (case side1 => repeat (first | exact (Kd.R_reads' HO143.out).2.2 | (with_reducible refine Kd.C_alloc ?_ _) | (with_reducible refine Kd.C_drewN ?_ _) | (with_reducible refine Kd.C_drew ?_))); (case side2 => exact (Kd.R_reads' HO143.out).2.1); rintro e w23 ⟨rfl, hb⟩; replace HO135 := XPrint.A0 (XPrint.rb HO135.out hb); replace HO143 := XPrint.A0 (XPrint.rb HO143.out hb); replace HB := XPrint.A0 (below_step (by exact XPrint.bz HB.out) hb); (try clear hb); (try clear hb2); (try clear hk); (try clear hi))))
      go_meet
      case rel => exact ⟨_, ((t145.toList != t137.toList)), (by first | rfl | (simp; done) | (simp [*]; done)), H', ⟨by first | omega | exact Nat.le_refl _⟩, ⟨by (with_reducible repeat (first | apply Kd.R_alloc | apply Kd.R_drewN | apply Kd.R_drew)); exact Kd.R_mono HO135.out (fun _ hk => trivial)⟩, ⟨by exact XPrint.bz HB.out⟩⟩
     ·replace c19 := Bool.eq_false_iff.mpr c19
      subst c19
      have H1 := H; rw [if_neg (show ¬ (false = true) by decide)] at H1
      clear H
      have H := H1
      clear H1
      exact absurd H (by simp)
    ·rw [if_neg c17] at H
     exact absurd H (by simp)
   case rest =>
    clear HC12
    try clear c1
    try clear p2
    try clear c3
    try clear c3b0
    try clear c3b1
    try clear c5
    try clear c5b0
    try clear c5b1
    try clear c17
    try clear c17b0
    try clear c17b1
    try clear c19
    obtain ⟨kq, x53_11, rfl, HA, HJ11, HO_3, HB⟩ := hcut
    cases kq with
    | zero => exact absurd HA.out (by simp [liverylaw06_LexBack.j0])
    | succ kj11 =>
     have H := HA.out
     clear HA
     simp only [liverylaw06_LexBack.j0] at H
     by_cases c24 : x53_11 = true
     ·subst c24
      have H1 := H; rw [if_pos rfl] at H1
      clear H
      have H := H1
      clear H1
      exact absurd H (by simp)
     ·replace c24 := Bool.eq_false_iff.mpr c24
      subst c24
      have H1 := H; rw [if_neg (show ¬ (false = true) by decide)] at H1
      clear H
      have H := H1
      clear H1
      have H' := XPrint.A0 H
      clear H
      go_wp2
      repeat (go_quiet (fail); try go_wp2)
      go_loopg [10, 11] kj11 (fun kq v10 v11 w' => ∃ (x10_2 : Int) (x11_2 : Int), v10 = .int .i64 x10_2 ∧ v11 = .int .i64 x11_2 ∧ Aside0 (liverylaw06_LexBack.l0 kq a0 t131 x10_2 x11_2 = some r) ∧ Aside0 (kq ≤ kj11) ∧ Aside0 (Kd.R k30 30 w' w.heap.size (fun _ => True) (.slice Ao14 t131.length co14) t131) ∧ Aside0 (Below w.heap.size w w'))
      case atStart => exact ⟨(0), (0), (by first | rfl | (simp; done) | (simp [*]; done)), (by first | rfl | (simp; done) | (simp [*]; done)), H', ⟨Nat.le_refl _⟩, ⟨by (with_reducible repeat (first | apply Kd.R_alloc | apply Kd.R_drewN | apply Kd.R_drew)); exact HO_3.out⟩, ⟨by exact XPrint.bz HB.out⟩⟩
      case round =>
       clear H'
       try clear c1
       try clear c2
       try clear p2
       try clear c3
       try clear c3b0
       try clear c3b1
       try clear c5
       try clear c5b0
       try clear c5b1
       try clear c17
       try clear c17b0
       try clear c17b1
       try clear c19
       try clear c24
       try clear p2
       obtain ⟨x10_2, x11_2, rfl, rfl, HA, HK2, HO_3, HB⟩ := hrel
       cases gk with
       | zero => exact absurd HA.out (by simp [liverylaw06_LexBack.l0])
       | succ k2 =>
        have H := HA.out
        clear HA
        simp only [liverylaw06_LexBack.l0] at H
        by_cases c25 : x11_2 ≤ (t131.length : Int)
        ·rw [if_pos c25] at H
         have c25b0 : decide (x11_2 ≤ (t131.length : Int)) = true := decide_eq_true c25
         clear c25
         have HC26 := XPrint.A0 H
         clear H
         go_upto_if 65 with (fail)
         repeat (go_quiet (fail); go_upto_if 65 with (fail))
         go_cut [12] (fun v12 wc => ∃ (kq : Nat) (x12_25 : Int), v12 = .int .i64 x12_25 ∧ Aside0 (liverylaw06_LexBack.j2 kq a0 t131 x10_2 x11_2 x12_25 = some r) ∧ Aside0 (kq ≤ k2) ∧ Aside0 (Kd.R k30 30 wc w.heap.size (fun _ => True) (.slice Ao14 t131.length co14) t131) ∧ Aside0 (Below w.heap.size w wc))
         case first =>
          have H := HC26.out
          clear HC26
          by_cases c27 : x11_2 < (t131.length : Int)
          ·rw [if_pos c27] at H
           have c27b0 : decide (x11_2 < (t131.length : Int)) = true := decide_eq_true c27
           clear c27
           (first | rw [c27b0] | (simp only [i64_w, i32_w]; rw [c27b0]) | skip)
           by_cases c28 : 0 ≤ x11_2
           ·rw [if_pos c28] at H
            have c28b0 : decide (0 ≤ x11_2) = true := decide_eq_true c28
            clear c28
            have H' := XPrint.A0 H
            clear H
            have p147 : 0 ≤ (x11_2 : Int) := of_decide_eq_true (by first | (with_reducible assumption) | assumption)
            have q147 : x11_2 < (t131.length : Int) := of_decide_eq_true (by first | (with_reducible assumption) | assumption)
            obtain ⟨ad147, e147, hx147_0, hx147_1, hx147_2, hx147_3⟩ := at_T30 (Kd.R_reads' HO_3.out).2.2 x11_2 p147 q147
            cases e147
            replace p147 := eq_true p147
            replace q147 := eq_true q147
            go_wp2
            repeat (go_quiet (fail); try go_wp2)
            go_meet
            case rel => exact ⟨_, ((rd_T30 t131 x11_2).f3), (by first | rfl | (simp; done) | (simp [*]; done)), H', ⟨by have := HJ11.out; have := HK2.out; first | omega | exact Nat.le_refl _⟩, ⟨by (with_reducible repeat (first | apply Kd.R_alloc | apply Kd.R_drewN | apply Kd.R_drew)); exact HO_3.out⟩, ⟨by exact XPrint.bz HB.out⟩⟩
           ·rw [if_neg c28] at H
            exact absurd H (by simp)
          ·rw [if_neg c27] at H
           have c27b0 : decide (x11_2 < (t131.length : Int)) = false := decide_eq_false c27
           clear c27
           (first | rw [c27b0] | (simp only [i64_w, i32_w]; rw [c27b0]) | skip)
           have H' := XPrint.A0 H
           clear H
           go_wp2
           repeat (go_quiet (fail); try go_wp2)
           go_meet
           case rel => exact ⟨_, ((a0.size : Int)), (by first | rfl | (simp; done) | (simp [*]; done)), H', ⟨by have := HJ11.out; have := HK2.out; first | omega | exact Nat.le_refl _⟩, ⟨by (with_reducible repeat (first | apply Kd.R_alloc | apply Kd.R_drewN | apply Kd.R_drew)); exact HO_3.out⟩, ⟨by exact XPrint.bz HB.out⟩⟩
         case rest =>
          clear HC26
          try clear c1
          try clear p1
          try clear q1
          try clear hx1
          try clear c2
          try clear p2
          try clear c3
          try clear c3b0
          try clear c3b1
          try clear c5
          try clear c5b0
          try clear c5b1
          try clear p14
          try clear q14
          try clear hx14
          try clear c17
          try clear c17b0
          try clear c17b1
          try clear c19
          try clear c24
          try clear c25
          try clear c25b0
          try clear c27
          try clear c27b0
          try clear c28
          try clear c28b0
          try clear hx147_0
          try clear hx147_1
          try clear hx147_2
          try clear hx147_3
          try clear p147
          try clear p2
          try clear q147
          obtain ⟨kq, x12_25, rfl, HA, HJ25, HO_3, HB⟩ := hcut
          cases kq with
          | zero => exact absurd HA.out (by simp [liverylaw06_LexBack.j2])
          | succ kj25 =>
           have H := HA.out
           clear HA
           simp only [liverylaw06_LexBack.j2] at H
           have HC29 := XPrint.A0 H
           clear H
           go_upto_region 17 with (fail)
           repeat (go_quiet (fail); go_upto_region 17 with (fail))
           go_cut [79] (fun v79 wc => ∃ (kq : Nat) (x79_28 : Bool), v79 = .bool x79_28 ∧ Aside0 (liverylaw06_LexBack.j3 kq a0 t131 x10_2 x11_2 x12_25 x79_28 = some r) ∧ Aside0 (kq ≤ kj25) ∧ Aside0 (Kd.R k30 30 wc w.heap.size (fun _ => True) (.slice Ao14 t131.length co14) t131) ∧ Aside0 (Below w.heap.size w wc))
           case first =>
            have H := HC29.out
            clear HC29
            by_cases c30 : x12_25 < x10_2
            ·rw [if_pos c30] at H
             exact absurd H (by simp)
            ·rw [if_neg c30] at H
             have c30b0 : decide (x12_25 < x10_2) = false := decide_eq_false c30
             clear c30
             (first | rw [c30b0] | (simp only [i64_w, i32_w]; rw [c30b0]) | skip)
             have H' := XPrint.A0 H
             clear H
             go_wp2
             repeat (go_quiet (fail); try go_wp2)
             go_meet
             case rel => exact ⟨_, (decide (x12_25 > (a0.size : Int))), (by first | rfl | (simp; done) | (simp [*]; done)), H', ⟨by have := HJ11.out; have := HK2.out; have := HJ25.out; first | omega | exact Nat.le_refl _⟩, ⟨by (with_reducible repeat (first | apply Kd.R_alloc | apply Kd.R_drewN | apply Kd.R_drew)); exact HO_3.out⟩, ⟨by exact XPrint.bz HB.out⟩⟩
           case rest =>
            clear HC29
            try clear c1
            try clear p1
            try clear q1
            try clear hx1
            try clear c2
            try clear p2
            try clear c3
            try clear c3b0
            try clear c3b1
            try clear c5
            try clear c5b0
            try clear c5b1
            try clear p14
            try clear q14
            try clear hx14
            try clear c17
            try clear c17b0
            try clear c17b1
            try clear c19
            try clear c24
            try clear c25
            try clear c25b0
            try clear c27
            try clear c27b0
            try clear c28
            try clear c28b0
            try clear c30
            try clear c30b0
            try clear hx147_0
            try clear hx147_1
            try clear hx147_2
            try clear hx147_3
            try clear p1
            try clear p14
            try clear p147
            try clear p2
            try clear q1
            try clear q14
            try clear q147
            obtain ⟨kq, x79_28, rfl, HA, HJ28, HO_3, HB⟩ := hcut
            cases kq with
            | zero => exact absurd HA.out (by simp [liverylaw06_LexBack.j3])
            | succ kj28 =>
             have H := HA.out
             clear HA
             simp only [liverylaw06_LexBack.j3] at H
             by_cases c31 : x79_28 = true
             ·subst c31
              have H1 := H; rw [if_pos rfl] at H1
              clear H
              have H := H1
              clear H1
              exact absurd H (by simp)
             ·replace c31 := Bool.eq_false_iff.mpr c31
              subst c31
              have H1 := H; rw [if_neg (show ¬ (false = true) by decide)] at H1
              clear H
              have H := H1
              clear H1
              have H' := XPrint.A0 H
              clear H
              go_wp2
              repeat (go_quiet (fail); try go_wp2)
              go_loopg [10] kj28 (fun kq v10 w' => ∃ (x10_5 : Int), v10 = .int .i64 x10_5 ∧ Aside0 (liverylaw06_LexBack.l1 kq a0 t131 x10_5 x11_2 x12_25 = some r) ∧ Aside0 (kq ≤ kj28) ∧ Aside0 (Kd.R k30 30 w' w.heap.size (fun _ => True) (.slice Ao14 t131.length co14) t131) ∧ Aside0 (Below w.heap.size w w'))
              case atStart => exact ⟨(x10_2), (by first | rfl | (simp; done) | (simp [*]; done)), H', ⟨Nat.le_refl _⟩, ⟨by (with_reducible repeat (first | apply Kd.R_alloc | apply Kd.R_drewN | apply Kd.R_drew)); exact HO_3.out⟩, ⟨by exact XPrint.bz HB.out⟩⟩
              case round =>
               clear H'
               try clear c1
               try clear p1
               try clear q1
               try clear hx1
               try clear c2
               try clear p2
               try clear c3
               try clear c3b0
               try clear c3b1
               try clear c5
               try clear c5b0
               try clear c5b1
               try clear p14
               try clear q14
               try clear hx14
               try clear c17
               try clear c17b0
               try clear c17b1
               try clear c19
               try clear c24
               try clear c25
               try clear c25b0
               try clear c27
               try clear c27b0
               try clear c28
               try clear c28b0
               try clear c30
               try clear c30b0
               try clear c31
               try clear hx147_0
               try clear hx147_1
               try clear hx147_2
               try clear hx147_3
               try clear p1
               try clear p14
               try clear p147
               try clear p2
               try clear q1
               try clear q14
               try clear q147
               obtain ⟨x10_5, rfl, HA, HK5, HO_3, HB⟩ := hrel
               cases gk with
               | zero => exact absurd HA.out (by simp [liverylaw06_LexBack.l1])
               | succ k5 =>
                have H := HA.out
                clear HA
                simp only [liverylaw06_LexBack.l1] at H
                by_cases c32 : x10_5 < x12_25
                ·rw [if_pos c32] at H
                 have c32b0 : decide (x10_5 < x12_25) = true := decide_eq_true c32
                 clear c32
                 by_cases c33 : 0 ≤ x10_5
                 ·rw [if_pos c33] at H
                  have c33b0 : decide (0 ≤ x10_5) = true := decide_eq_true c33
                  clear c33
                  by_cases c34 : x10_5 < (a0.size : Int)
                  ·rw [if_pos c34] at H
                   have c34b0 : decide (x10_5 < (a0.size : Int)) = true := decide_eq_true c34
                   clear c34
                   replace H := Option.bind_eq_some_iff.mp H
                   obtain ⟨t148, A360, H⟩ := H
                   try set_option simprocs false in dsimp only at H
                   have A36 := XPrint.A0 A360
                   clear A360
                   by_cases c37 : t148 = true
                   ·subst c37
                    have H1 := H; rw [if_pos rfl] at H1
                    clear H
                    have H := H1
                    clear H1
                    have H' := XPrint.A0 H
                    clear H
                    have p35 : 0 ≤ (x10_5 : Int) := of_decide_eq_true (by first | (with_reducible assumption) | assumption)
                    have q35 : x10_5 < (a0.size : Int) := of_decide_eq_true (by first | (with_reducible assumption) | assumption)
                    have hx35 := bt_at a0 x10_5
                    replace p35 := eq_true p35
                    replace q35 := eq_true q35
                    go_wp2_with (first | (go_at_call 13; (with_reducible refine (liveryref06_White.calls (bt a0 x10_5) true _ A36.out).mono ?_); rintro e w' ⟨rfl, ⟨nd, rfl⟩⟩; (try first | exact ⟨rfl, _, World.drewN_drewN _ _ _⟩ | exact ⟨rfl, _, Eq.trans (World.drewN_drewN _ _ _) (congrArg (World.drewN _) (Nat.add_assoc _ _ _))⟩)))
                    repeat (go_quiet (first | (go_at_call 13; (with_reducible refine (liveryref06_White.calls (bt a0 x10_5) true _ A36.out).mono ?_); rintro e w' ⟨rfl, ⟨nd, rfl⟩⟩; (try first | exact ⟨rfl, _, World.drewN_drewN _ _ _⟩ | exact ⟨rfl, _, Eq.trans (World.drewN_drewN _ _ _) (congrArg (World.drewN _) (Nat.add_assoc _ _ _))⟩))); try go_wp2_with (first | (go_at_call 13; (with_reducible refine (liveryref06_White.calls (bt a0 x10_5) true _ A36.out).mono ?_); rintro e w' ⟨rfl, ⟨nd, rfl⟩⟩; (try first | exact ⟨rfl, _, World.drewN_drewN _ _ _⟩ | exact ⟨rfl, _, Eq.trans (World.drewN_drewN _ _ _) (congrArg (World.drewN _) (Nat.add_assoc _ _ _))⟩))))
                    go_roundg k5
                    case measure => have := HJ11.out; have := HK2.out; have := HJ25.out; have := HJ28.out; have := HK5.out; omega
                    case rel => exact ⟨(wrap64 (x10_5 + 1)), (by first | rfl | (simp; done) | (simp [*]; done)), H', ⟨by have := HJ11.out; have := HK2.out; have := HJ25.out; have := HJ28.out; have := HK5.out; omega⟩, ⟨by (with_reducible repeat (first | apply Kd.R_alloc | apply Kd.R_drewN | apply Kd.R_drew)); exact HO_3.out⟩, ⟨by exact XPrint.bz HB.out⟩⟩
                   ·replace c37 := Bool.eq_false_iff.mpr c37
                    subst c37
                    have H1 := H; rw [if_neg (show ¬ (false = true) by decide)] at H1
                    clear H
                    have H := H1
                    clear H1
                    exact absurd H (by simp)
                  ·rw [if_neg c34] at H
                   exact absurd H (by simp)
                 ·rw [if_neg c33] at H
                  exact absurd H (by simp)
                ·rw [if_neg c32] at H
                 have c32b0 : decide (x10_5 < x12_25) = false := decide_eq_false c32
                 clear c32
                 by_cases c38 : x11_2 < (t131.length : Int)
                 ·rw [if_pos c38] at H
                  have c38b0 : decide (x11_2 < (t131.length : Int)) = true := decide_eq_true c38
                  clear c38
                  by_cases c39 : 0 ≤ x11_2
                  ·rw [if_pos c39] at H
                   have c39b0 : decide (0 ≤ x11_2) = true := decide_eq_true c39
                   clear c39
                   by_cases c40 : (((rd_T30 t131 x11_2).f1).size : Int) = 0
                   ·rw [if_pos c40] at H
                    exact absurd H (by simp)
                   ·rw [if_neg c40] at H
                    have c40b0 : ((((rd_T30 t131 x11_2).f1).size : Int) == 0) = false := beq_eq_false_iff_ne.mpr c40
                    have c40b1 : ((((rd_T30 t131 x11_2).f1).size : Int) != 0) = true := bne_iff_ne.mpr c40
                    by_cases c41 : (wrap64 (x10_5 + (((rd_T30 t131 x11_2).f1).size : Int))) > (a0.size : Int)
                    ·rw [if_pos c41] at H
                     exact absurd H (by simp)
                    ·rw [if_neg c41] at H
                     have c41b0 : decide ((a0.size : Int) < (wrap64 (x10_5 + (((rd_T30 t131 x11_2).f1).size : Int)))) = false := decide_eq_false c41
                     clear c41
                     by_cases c42 : 0 ≤ x10_5
                     ·rw [if_pos c42] at H
                      have c42b0 := eq_true c42
                      have c42b1 : decide (0 ≤ x10_5) = true := decide_eq_true c42
                      clear c42
                      by_cases c43 : x10_5 ≤ (wrap64 (x10_5 + (((rd_T30 t131 x11_2).f1).size : Int)))
                      ·rw [if_pos c43] at H
                       have c43b0 := eq_true c43
                       have c43b1 : decide (x10_5 ≤ (wrap64 (x10_5 + (((rd_T30 t131 x11_2).f1).size : Int)))) = true := decide_eq_true c43
                       by_cases c44 : (wrap64 (x10_5 + (((rd_T30 t131 x11_2).f1).size : Int))) ≤ (a0.size : Int)
                       ·rw [if_pos c44] at H
                        have c44b0 := eq_true c44
                        have c44b1 : decide ((wrap64 (x10_5 + (((rd_T30 t131 x11_2).f1).size : Int))) ≤ (a0.size : Int)) = true := decide_eq_true c44
                        by_cases c45 : (a0.extract (x10_5 : Int).toNat ((wrap64 (x10_5 + (((rd_T30 t131 x11_2).f1).size : Int))) : Int).toNat).toList = ((rd_T30 t131 x11_2).f1).toList
                        ·rw [if_pos c45] at H
                         have c45b0 : ((a0.extract (x10_5 : Int).toNat ((wrap64 (x10_5 + (((rd_T30 t131 x11_2).f1).size : Int))) : Int).toNat).toList == ((rd_T30 t131 x11_2).f1).toList) = true := beq_iff_eq.mpr c45
                         have c45b1 : ((a0.extract (x10_5 : Int).toNat ((wrap64 (x10_5 + (((rd_T30 t131 x11_2).f1).size : Int))) : Int).toNat).toList != ((rd_T30 t131 x11_2).f1).toList) = false := bne_eq_false_iff_eq.mpr c45
                         clear c45
                         have H' := XPrint.A0 H
                         clear H
                         have p149 : 0 ≤ (x11_2 : Int) := of_decide_eq_true (by first | (with_reducible assumption) | assumption)
                         have q149 : x11_2 < (t131.length : Int) := of_decide_eq_true (by first | (with_reducible assumption) | assumption)
                         obtain ⟨ad149, e149, hx149_0, hx149_1, hx149_2, hx149_3⟩ := at_T30 (Kd.R_reads' HO_3.out).2.2 x11_2 p149 q149
                         cases e149
                         replace p149 := eq_true p149
                         replace q149 := eq_true q149
                         have p150 : 0 ≤ (x11_2 : Int) := of_decide_eq_true (by first | (with_reducible assumption) | assumption)
                         have q150 : x11_2 < (t131.length : Int) := of_decide_eq_true (by first | (with_reducible assumption) | assumption)
                         obtain ⟨ad150, e150, hx150_0, hx150_1, hx150_2, hx150_3⟩ := at_T30 (Kd.R_reads' HO_3.out).2.2 x11_2 p150 q150
                         obtain rfl : ad149 = ad150 := (by injection e150)
                         replace p150 := eq_true p150
                         replace q150 := eq_true q150
                         go_wp2
                         repeat (go_quiet (fail); try go_wp2)
                         go_roundg k5
                         case measure => have := HJ11.out; have := HK2.out; have := HJ25.out; have := HJ28.out; have := HK5.out; omega
                         case rel => exact ⟨(wrap64 (x10_5 + (((rd_T30 t131 x11_2).f1).size : Int))), (wrap64 (x11_2 + 1)), (by first | rfl | (simp; done) | (simp [*]; done)), (by first | rfl | (simp; done) | (simp [*]; done)), H', ⟨by have := HJ11.out; have := HK2.out; have := HJ25.out; have := HJ28.out; have := HK5.out; omega⟩, ⟨by (with_reducible repeat (first | apply Kd.R_alloc | apply Kd.R_drewN | apply Kd.R_drew)); exact HO_3.out⟩, ⟨by exact XPrint.bz HB.out⟩⟩
                        ·rw [if_neg c45] at H
                         exact absurd H (by simp)
                       ·rw [if_neg c44] at H
                        exact absurd H (by simp)
                      ·rw [if_neg c43] at H
                       exact absurd H (by simp)
                     ·rw [if_neg c42] at H
                      exact absurd H (by simp)
                  ·rw [if_neg c39] at H
                   exact absurd H (by simp)
                 ·rw [if_neg c38] at H
                  have c38b0 : decide (x11_2 < (t131.length : Int)) = false := decide_eq_false c38
                  clear c38
                  have H' := XPrint.A0 H
                  clear H
                  go_wp2
                  repeat (go_quiet (fail); try go_wp2)
                  go_roundg k5
                  case measure => have := HJ11.out; have := HK2.out; have := HJ25.out; have := HJ28.out; have := HK5.out; omega
                  case rel => exact ⟨(x10_5), (wrap64 (x11_2 + 1)), (by first | rfl | (simp; done) | (simp [*]; done)), (by first | rfl | (simp; done) | (simp [*]; done)), H', ⟨by have := HJ11.out; have := HK2.out; have := HJ25.out; have := HJ28.out; have := HK5.out; omega⟩, ⟨by (with_reducible repeat (first | apply Kd.R_alloc | apply Kd.R_drewN | apply Kd.R_drew)); exact HO_3.out⟩, ⟨by exact XPrint.bz HB.out⟩⟩
        ·rw [if_neg c25] at H
         have c25b0 : decide (x11_2 ≤ (t131.length : Int)) = false := decide_eq_false c25
         clear c25
         replace H := Option.bind_eq_some_iff.mp H
         obtain ⟨t146, A460, H⟩ := H
         try set_option simprocs false in dsimp only at H
         have A46 := XPrint.A0 A460
         clear A460
         obtain rfl := Option.some.inj H
         go_wp2_with (first | (go_at_call 10; (with_reducible refine (liverylaw06_head.calls  t146 _ A46.out).mono ?_); rintro e w47 ⟨rfl, hb⟩; replace HO_3 := XPrint.A0 (Kd.R_below (by (with_reducible repeat (first | apply Kd.R_alloc | apply Kd.R_drewN | apply Kd.R_drew)); exact HO_3.out) hb); replace HB := XPrint.A0 (below_step (by exact XPrint.bz HB.out) hb); (try clear hb); (try clear hb2); (try clear hk); (try clear hi)))
         repeat (go_quiet (first | (go_at_call 10; (with_reducible refine (liverylaw06_head.calls  t146 _ A46.out).mono ?_); rintro e w47 ⟨rfl, hb⟩; replace HO_3 := XPrint.A0 (Kd.R_below (by (with_reducible repeat (first | apply Kd.R_alloc | apply Kd.R_drewN | apply Kd.R_drew)); exact HO_3.out) hb); replace HB := XPrint.A0 (below_step (by exact XPrint.bz HB.out) hb); (try clear hb); (try clear hb2); (try clear hk); (try clear hi))); try go_wp2_with (first | (go_at_call 10; (with_reducible refine (liverylaw06_head.calls  t146 _ A46.out).mono ?_); rintro e w47 ⟨rfl, hb⟩; replace HO_3 := XPrint.A0 (Kd.R_below (by (with_reducible repeat (first | apply Kd.R_alloc | apply Kd.R_drewN | apply Kd.R_drew)); exact HO_3.out) hb); replace HB := XPrint.A0 (below_step (by exact XPrint.bz HB.out) hb); (try clear hb); (try clear hb2); (try clear hk); (try clear hi))))
         go_ret
         exact ⟨by first | rfl | (simp [errW_none, errW_some] <;> rfl) | (simp [*, errW_none, errW_some] <;> rfl), by exact XPrint.bz HB.out⟩
 ·rw [if_neg c3] at H
  have c3b0 : (t133 == 0) = false := beq_eq_false_iff_ne.mpr c3
  have c3b1 : (t133 != 0) = true := bne_iff_ne.mpr c3
  by_cases c48 : (t131.length : Int) = 0
  ·rw [if_pos c48] at H
   have c48b0 : ((t131.length : Int) == 0) = true := beq_iff_eq.mpr c48
   have c48b1 : ((t131.length : Int) != 0) = false := bne_eq_false_iff_eq.mpr c48
   clear c48
   replace H := Option.bind_eq_some_iff.mp H
   obtain ⟨t136, A490, H⟩ := H
   try set_option simprocs false in dsimp only at H
   have A49 := XPrint.A0 A490
   clear A490
   obtain rfl := Option.some.inj H
   go_enter Tryd.func3, Tryd.ntmps3
   go_wp2_with (first | (go_at_call 9; (with_reducible refine (lex_Lex.calls a0 t131 t132 t133 _ A2.out).mono ?_); rintro e w50 ⟨v134, rfl, ho0, hb⟩; have HO135 := XPrint.A0 (Kd.R_lower ho0 (below_size (by exact XPrint.bz HB.out))); replace HB := XPrint.A0 (below_step (by exact XPrint.bz HB.out) hb); (try clear hb); (try clear hb2); (try clear hk); (try clear hi); (try clear ho0); obtain ⟨Ao51, co51, eo51⟩ := Kd.R_slice HO135.out; subst eo51) | (go_at_call 10; (with_reducible refine (liverylaw06_head.calls  t136 _ A49.out).mono ?_); rintro e w52 ⟨rfl, hb⟩; replace HO135 := XPrint.A0 (XPrint.rb HO135.out hb); replace HB := XPrint.A0 (below_step (by exact XPrint.bz HB.out) hb); (try clear hb); (try clear hb2); (try clear hk); (try clear hi)))
   repeat (go_quiet (first | (go_at_call 9; (with_reducible refine (lex_Lex.calls a0 t131 t132 t133 _ A2.out).mono ?_); rintro e w50 ⟨v134, rfl, ho0, hb⟩; have HO135 := XPrint.A0 (Kd.R_lower ho0 (below_size (by exact XPrint.bz HB.out))); replace HB := XPrint.A0 (below_step (by exact XPrint.bz HB.out) hb); (try clear hb); (try clear hb2); (try clear hk); (try clear hi); (try clear ho0); obtain ⟨Ao51, co51, eo51⟩ := Kd.R_slice HO135.out; subst eo51) | (go_at_call 10; (with_reducible refine (liverylaw06_head.calls  t136 _ A49.out).mono ?_); rintro e w52 ⟨rfl, hb⟩; replace HO135 := XPrint.A0 (XPrint.rb HO135.out hb); replace HB := XPrint.A0 (below_step (by exact XPrint.bz HB.out) hb); (try clear hb); (try clear hb2); (try clear hk); (try clear hi))); try go_wp2_with (first | (go_at_call 9; (with_reducible refine (lex_Lex.calls a0 t131 t132 t133 _ A2.out).mono ?_); rintro e w50 ⟨v134, rfl, ho0, hb⟩; have HO135 := XPrint.A0 (Kd.R_lower ho0 (below_size (by exact XPrint.bz HB.out))); replace HB := XPrint.A0 (below_step (by exact XPrint.bz HB.out) hb); (try clear hb); (try clear hb2); (try clear hk); (try clear hi); (try clear ho0); obtain ⟨Ao51, co51, eo51⟩ := Kd.R_slice HO135.out; subst eo51) | (go_at_call 10; (with_reducible refine (liverylaw06_head.calls  t136 _ A49.out).mono ?_); rintro e w52 ⟨rfl, hb⟩; replace HO135 := XPrint.A0 (XPrint.rb HO135.out hb); replace HB := XPrint.A0 (below_step (by exact XPrint.bz HB.out) hb); (try clear hb); (try clear hb2); (try clear hk); (try clear hi))))
   go_ret
   exact ⟨by first | rfl | (simp [errW_none, errW_some] <;> rfl) | (simp [*, errW_none, errW_some] <;> rfl), by exact XPrint.bz HB.out⟩
  ·rw [if_neg c48] at H
   exact absurd H (by simp)

end Go.Proofs.YtfpbapffdnochaaDoor.PLexBack
