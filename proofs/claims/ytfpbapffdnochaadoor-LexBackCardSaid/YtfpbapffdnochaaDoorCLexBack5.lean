-- printed by this session's own driver over the kit's printer: Lean checks it
import Derived.Test.YtfpbapffdnochaaDoorCLexBack0
import Derived.Test.YtfpbapffdnochaaDoorCLexBack2
import Derived.Test.YtfpbapffdnochaaDoorCLexBack3
import Derived.Test.YtfpbapffdnochaaDoorCLexBack4
namespace Go.Proofs.YtfpbapffdnochaaDoor.PLexBack
open Go.RowKit Go.Proofs.YtfpbapffdnochaaDoorW.PrintWords Go.Proofs.YtfpbapffdnochaaDoorW.PrintLast Go.Proofs.YtfpbapffdnochaaDoorW.PrintMore
attribute [local go_sem] max2_int min2_int max_two min_two max_three min_three max_four min_four   -- for this text's walks alone
set_option linter.unusedVariables false
set_option linter.unusedSimpArgs false

/-! ### liverylaw06_bad: function 26 -/
def liverylaw06_bad.f (a0 : ByteArray) (a1 : Int) : Option (Bool) := (lex_Lex.f a0).bind fun bt101 => (if (bt101.1.length : Int) = 0 then (if bt101.2.1 = a1 then (some (bt101.2.2 == 60)) else (some false)) else (some false))
set_option maxHeartbeats 8000000 in
set_option maxRecDepth 100000 in
theorem liverylaw06_bad.calls (a0 : ByteArray) (a1 : Int) (r : Bool) (w : World) (h : liverylaw06_bad.f a0 a1 = some r) :
  Calls Tryd.prog 26 #[.string a0, .int .i64 a1] w fun e w' => e = .returned (.bool r) ∧ Below w.heap.size w w' := by
 have HB := XPrint.A0 (Below.refl w.heap.size w)
 have H : ((lex_Lex.f a0).bind fun bt101 => (if (bt101.1.length : Int) = 0 then (if bt101.2.1 = a1 then (some (bt101.2.2 == 60)) else (some false)) else (some false))) = some r := h
 clear h
 replace H := Option.bind_eq_some_iff.mp H
 obtain ⟨⟨t101, t102, t103⟩, A30, H⟩ := H
 replace H : (if (t101.length : Int) = 0 then (if t102 = a1 then (some (t103 == 60)) else (some false)) else (some false)) = some r := H
 have A3 := XPrint.A0 A30
 clear A30
 by_cases c4 : (t101.length : Int) = 0
 ·rw [if_pos c4] at H
  have c4b0 : ((t101.length : Int) == 0) = true := beq_iff_eq.mpr c4
  have c4b1 : ((t101.length : Int) != 0) = false := bne_eq_false_iff_eq.mpr c4
  clear c4
  by_cases c5 : t102 = a1
  ·rw [if_pos c5] at H
   have c5b0 : (t102 == a1) = true := beq_iff_eq.mpr c5
   have c5b1 : (t102 != a1) = false := bne_eq_false_iff_eq.mpr c5
   clear c5
   obtain rfl := Option.some.inj H
   go_enter Tryd.func26, Tryd.ntmps26
   go_wp2_with (first | ((with_reducible refine gate_callee (f := 9) rfl ?_); refine XPrint.gl (some 10) Tryd.func9 #[.string a0] ?_; (with_reducible refine (lex_Lex.calls a0 t101 t102 t103 _ A3.out).mono ?_); rintro e w6 ⟨v104, rfl, ho0, hb⟩; refine ⟨_, rfl, ?_⟩; have HO105 := XPrint.A0 (Kd.R_lower ho0 (below_size (by exact XPrint.bz HB.out))); replace HB := XPrint.A0 (below_step (by exact XPrint.bz HB.out) hb); (try clear hb); (try clear hb2); (try clear hk); (try clear hi); (try clear ho0); obtain ⟨Ao7, co7, eo7⟩ := Kd.R_slice HO105.out; subst eo7))
   go_ret
   exact ⟨by first | rfl | (simp [errW_none, errW_some] <;> rfl) | (simp [*, errW_none, errW_some] <;> rfl), by exact XPrint.bz HB.out⟩
  ·rw [if_neg c5] at H
   have c5b0 : (t102 == a1) = false := beq_eq_false_iff_ne.mpr c5
   have c5b1 : (t102 != a1) = true := bne_iff_ne.mpr c5
   obtain rfl := Option.some.inj H
   go_enter Tryd.func26, Tryd.ntmps26
   go_wp2_with (first | ((with_reducible refine gate_callee (f := 9) rfl ?_); refine XPrint.gl (some 10) Tryd.func9 #[.string a0] ?_; (with_reducible refine (lex_Lex.calls a0 t101 t102 t103 _ A3.out).mono ?_); rintro e w8 ⟨v104, rfl, ho0, hb⟩; refine ⟨_, rfl, ?_⟩; have HO105 := XPrint.A0 (Kd.R_lower ho0 (below_size (by exact XPrint.bz HB.out))); replace HB := XPrint.A0 (below_step (by exact XPrint.bz HB.out) hb); (try clear hb); (try clear hb2); (try clear hk); (try clear hi); (try clear ho0); obtain ⟨Ao9, co9, eo9⟩ := Kd.R_slice HO105.out; subst eo9))
   go_ret
   exact ⟨by first | rfl | (simp [errW_none, errW_some] <;> rfl) | (simp [*, errW_none, errW_some] <;> rfl), by exact XPrint.bz HB.out⟩
 ·rw [if_neg c4] at H
  have c4b0 : ((t101.length : Int) == 0) = false := beq_eq_false_iff_ne.mpr c4
  have c4b1 : ((t101.length : Int) != 0) = true := bne_iff_ne.mpr c4
  have c4b2 : ¬ (t101 = []) := fun h_ => c4 (by rw [h_]; rfl)
  obtain rfl := Option.some.inj H
  go_enter Tryd.func26, Tryd.ntmps26
  go_wp2_with (first | ((with_reducible refine gate_callee (f := 9) rfl ?_); refine XPrint.gl (some 10) Tryd.func9 #[.string a0] ?_; (with_reducible refine (lex_Lex.calls a0 t101 t102 t103 _ A3.out).mono ?_); rintro e w10 ⟨v104, rfl, ho0, hb⟩; refine ⟨_, rfl, ?_⟩; have HO105 := XPrint.A0 (Kd.R_lower ho0 (below_size (by exact XPrint.bz HB.out))); replace HB := XPrint.A0 (below_step (by exact XPrint.bz HB.out) hb); (try clear hb); (try clear hb2); (try clear hk); (try clear hi); (try clear ho0); obtain ⟨Ao11, co11, eo11⟩ := Kd.R_slice HO105.out; subst eo11))
  go_ret
  exact ⟨by first | rfl | (simp [errW_none, errW_some] <;> rfl) | (simp [*, errW_none, errW_some] <;> rfl), by exact XPrint.bz HB.out⟩

/-! ### liverylaw06_head: function 10 -/
def liverylaw06_head.f  : Option (Bool) := (lex_Lex.f (⟨#[40, 97, 116, 111, 109, 32, 50, 32, 49, 32, 49, 48, 41]⟩ : ByteArray)).bind fun bt106 => ((lex_Lex.f (⟨#[102, 114, 111, 109, 32, 48, 32, 116, 111, 32, 57, 58, 32, 120]⟩ : ByteArray)).bind fun bt114 => ((lex_Lex.f (⟨#[]⟩ : ByteArray)).bind fun bt119 => ((liveryref06_Same.f bt106.1 (([(⟨2, (⟨#[40]⟩ : ByteArray), 0, 0⟩ : S30), (⟨0, (⟨#[97, 116, 111, 109]⟩ : ByteArray), 0, 1⟩ : S30), (⟨1, (⟨#[50]⟩ : ByteArray), 2, 6⟩ : S30), (⟨1, (⟨#[49]⟩ : ByteArray), 1, 8⟩ : S30), (⟨1, (⟨#[49, 48]⟩ : ByteArray), 10, 10⟩ : S30), (⟨3, (⟨#[41]⟩ : ByteArray), 0, 12⟩ : S30)] : List (S30))) true).bind fun t124 => (if t124 = true then (if bt106.2.1 = 0 then (if bt106.2.2 = 0 then ((lex_Text.f bt106.1).bind fun t125 => (if t125.toList = ([40, 97, 116, 111, 109, 32, 50, 32, 49, 32, 49, 48, 41] : List UInt8) then (if (bt114.1.length : Int) = 6 then (if bt114.2.2 = 0 then ((lex_Text.f bt114.1).bind fun t126 => (if t126.toList = ([102, 114, 111, 109, 32, 48, 32, 116, 111, 32, 57, 58, 32, 120] : List UInt8) then (if (bt119.1.length : Int) = 0 then (if bt119.2.2 = 0 then ((liverylaw06_bad.f (⟨#[97, 49]⟩ : ByteArray) 0).bind fun t127 => (if t127 = true then ((liverylaw06_bad.f (⟨#[48, 55]⟩ : ByteArray) 0).bind fun t128 => (if t128 = true then ((liverylaw06_bad.f (⟨#[49, 48, 57, 57, 53, 49, 49, 54, 50, 55, 55, 55, 55]⟩ : ByteArray) 0).bind fun t129 => (if t129 = true then ((liverylaw06_bad.f (⟨#[97, 32, 45, 32, 98]⟩ : ByteArray) 2).bind fun t130 => (some t130)) else (none))) else (none))) else (none))) else (none)) else (none)) else (none))) else (none)) else (none)) else (none))) else (none)) else (none)) else (none)))))
set_option maxHeartbeats 8000000 in
set_option maxRecDepth 100000 in
theorem liverylaw06_head.calls  (r : Bool) (w : World) (h : liverylaw06_head.f  = some r) :
  Calls Tryd.prog 10 #[] w fun e w' => e = .returned (.bool r) ∧ Below w.heap.size w w' := by
 have hu30 := Tryd.underlying30
 have HB := XPrint.A0 (Below.refl w.heap.size w)
 have H : ((lex_Lex.f (⟨#[40, 97, 116, 111, 109, 32, 50, 32, 49, 32, 49, 48, 41]⟩ : ByteArray)).bind fun bt106 => ((lex_Lex.f (⟨#[102, 114, 111, 109, 32, 48, 32, 116, 111, 32, 57, 58, 32, 120]⟩ : ByteArray)).bind fun bt114 => ((lex_Lex.f (⟨#[]⟩ : ByteArray)).bind fun bt119 => ((liveryref06_Same.f bt106.1 (([(⟨2, (⟨#[40]⟩ : ByteArray), 0, 0⟩ : S30), (⟨0, (⟨#[97, 116, 111, 109]⟩ : ByteArray), 0, 1⟩ : S30), (⟨1, (⟨#[50]⟩ : ByteArray), 2, 6⟩ : S30), (⟨1, (⟨#[49]⟩ : ByteArray), 1, 8⟩ : S30), (⟨1, (⟨#[49, 48]⟩ : ByteArray), 10, 10⟩ : S30), (⟨3, (⟨#[41]⟩ : ByteArray), 0, 12⟩ : S30)] : List (S30))) true).bind fun t124 => (if t124 = true then (if bt106.2.1 = 0 then (if bt106.2.2 = 0 then ((lex_Text.f bt106.1).bind fun t125 => (if t125.toList = ([40, 97, 116, 111, 109, 32, 50, 32, 49, 32, 49, 48, 41] : List UInt8) then (if (bt114.1.length : Int) = 6 then (if bt114.2.2 = 0 then ((lex_Text.f bt114.1).bind fun t126 => (if t126.toList = ([102, 114, 111, 109, 32, 48, 32, 116, 111, 32, 57, 58, 32, 120] : List UInt8) then (if (bt119.1.length : Int) = 0 then (if bt119.2.2 = 0 then ((liverylaw06_bad.f (⟨#[97, 49]⟩ : ByteArray) 0).bind fun t127 => (if t127 = true then ((liverylaw06_bad.f (⟨#[48, 55]⟩ : ByteArray) 0).bind fun t128 => (if t128 = true then ((liverylaw06_bad.f (⟨#[49, 48, 57, 57, 53, 49, 49, 54, 50, 55, 55, 55, 55]⟩ : ByteArray) 0).bind fun t129 => (if t129 = true then ((liverylaw06_bad.f (⟨#[97, 32, 45, 32, 98]⟩ : ByteArray) 2).bind fun t130 => (some t130)) else (none))) else (none))) else (none))) else (none)) else (none)) else (none))) else (none)) else (none)) else (none))) else (none)) else (none)) else (none)))))) = some r := h
 clear h
 replace H := Option.bind_eq_some_iff.mp H
 obtain ⟨⟨t106, t107, t108⟩, A10, H⟩ := H
 replace H : ((lex_Lex.f (⟨#[102, 114, 111, 109, 32, 48, 32, 116, 111, 32, 57, 58, 32, 120]⟩ : ByteArray)).bind fun bt114 => ((lex_Lex.f (⟨#[]⟩ : ByteArray)).bind fun bt119 => ((liveryref06_Same.f t106 (([(⟨2, (⟨#[40]⟩ : ByteArray), 0, 0⟩ : S30), (⟨0, (⟨#[97, 116, 111, 109]⟩ : ByteArray), 0, 1⟩ : S30), (⟨1, (⟨#[50]⟩ : ByteArray), 2, 6⟩ : S30), (⟨1, (⟨#[49]⟩ : ByteArray), 1, 8⟩ : S30), (⟨1, (⟨#[49, 48]⟩ : ByteArray), 10, 10⟩ : S30), (⟨3, (⟨#[41]⟩ : ByteArray), 0, 12⟩ : S30)] : List (S30))) true).bind fun t124 => (if t124 = true then (if t107 = 0 then (if t108 = 0 then ((lex_Text.f t106).bind fun t125 => (if t125.toList = ([40, 97, 116, 111, 109, 32, 50, 32, 49, 32, 49, 48, 41] : List UInt8) then (if (bt114.1.length : Int) = 6 then (if bt114.2.2 = 0 then ((lex_Text.f bt114.1).bind fun t126 => (if t126.toList = ([102, 114, 111, 109, 32, 48, 32, 116, 111, 32, 57, 58, 32, 120] : List UInt8) then (if (bt119.1.length : Int) = 0 then (if bt119.2.2 = 0 then ((liverylaw06_bad.f (⟨#[97, 49]⟩ : ByteArray) 0).bind fun t127 => (if t127 = true then ((liverylaw06_bad.f (⟨#[48, 55]⟩ : ByteArray) 0).bind fun t128 => (if t128 = true then ((liverylaw06_bad.f (⟨#[49, 48, 57, 57, 53, 49, 49, 54, 50, 55, 55, 55, 55]⟩ : ByteArray) 0).bind fun t129 => (if t129 = true then ((liverylaw06_bad.f (⟨#[97, 32, 45, 32, 98]⟩ : ByteArray) 2).bind fun t130 => (some t130)) else (none))) else (none))) else (none))) else (none)) else (none)) else (none))) else (none)) else (none)) else (none))) else (none)) else (none)) else (none))))) = some r := H
 have A1 := XPrint.A0 A10
 clear A10
 obtain ⟨y111, hy111⟩ : ∃ y_ : List (S30), y_ = (([(⟨2, (⟨#[40]⟩ : ByteArray), 0, 0⟩ : S30), (⟨0, (⟨#[97, 116, 111, 109]⟩ : ByteArray), 0, 1⟩ : S30), (⟨1, (⟨#[50]⟩ : ByteArray), 2, 6⟩ : S30), (⟨1, (⟨#[49]⟩ : ByteArray), 1, 8⟩ : S30), (⟨1, (⟨#[49, 48]⟩ : ByteArray), 10, 10⟩ : S30), (⟨3, (⟨#[41]⟩ : ByteArray), 0, 12⟩ : S30)] : List (S30))) := ⟨_, rfl⟩
 replace H : ((lex_Lex.f (⟨#[102, 114, 111, 109, 32, 48, 32, 116, 111, 32, 57, 58, 32, 120]⟩ : ByteArray)).bind fun bt114 => ((lex_Lex.f (⟨#[]⟩ : ByteArray)).bind fun bt119 => ((liveryref06_Same.f t106 y111 true).bind fun t124 => (if t124 = true then (if t107 = 0 then (if t108 = 0 then ((lex_Text.f t106).bind fun t125 => (if t125.toList = ([40, 97, 116, 111, 109, 32, 50, 32, 49, 32, 49, 48, 41] : List UInt8) then (if (bt114.1.length : Int) = 6 then (if bt114.2.2 = 0 then ((lex_Text.f bt114.1).bind fun t126 => (if t126.toList = ([102, 114, 111, 109, 32, 48, 32, 116, 111, 32, 57, 58, 32, 120] : List UInt8) then (if (bt119.1.length : Int) = 0 then (if bt119.2.2 = 0 then ((liverylaw06_bad.f (⟨#[97, 49]⟩ : ByteArray) 0).bind fun t127 => (if t127 = true then ((liverylaw06_bad.f (⟨#[48, 55]⟩ : ByteArray) 0).bind fun t128 => (if t128 = true then ((liverylaw06_bad.f (⟨#[49, 48, 57, 57, 53, 49, 49, 54, 50, 55, 55, 55, 55]⟩ : ByteArray) 0).bind fun t129 => (if t129 = true then ((liverylaw06_bad.f (⟨#[97, 32, 45, 32, 98]⟩ : ByteArray) 2).bind fun t130 => (some t130)) else (none))) else (none))) else (none))) else (none)) else (none)) else (none))) else (none)) else (none)) else (none))) else (none)) else (none)) else (none))))) = some r := by first | (rw [hy111]; with_reducible exact H) | (have H2_ := (Option.bind_some _ _).symm.trans H; rw [hy111]; with_reducible exact H2_) | (have H2_ := (Option.bind_some _ _).symm.trans H; with_reducible exact H2_) | with_reducible exact H | (rw [hy111]; exact H) | exact H
 have Ny111 := XPrint.A0 hy111
 clear hy111
 replace H := Option.bind_eq_some_iff.mp H
 obtain ⟨⟨t114, t115, t116⟩, A20, H⟩ := H
 replace H : ((lex_Lex.f (⟨#[]⟩ : ByteArray)).bind fun bt119 => ((liveryref06_Same.f t106 y111 true).bind fun t124 => (if t124 = true then (if t107 = 0 then (if t108 = 0 then ((lex_Text.f t106).bind fun t125 => (if t125.toList = ([40, 97, 116, 111, 109, 32, 50, 32, 49, 32, 49, 48, 41] : List UInt8) then (if (t114.length : Int) = 6 then (if t116 = 0 then ((lex_Text.f t114).bind fun t126 => (if t126.toList = ([102, 114, 111, 109, 32, 48, 32, 116, 111, 32, 57, 58, 32, 120] : List UInt8) then (if (bt119.1.length : Int) = 0 then (if bt119.2.2 = 0 then ((liverylaw06_bad.f (⟨#[97, 49]⟩ : ByteArray) 0).bind fun t127 => (if t127 = true then ((liverylaw06_bad.f (⟨#[48, 55]⟩ : ByteArray) 0).bind fun t128 => (if t128 = true then ((liverylaw06_bad.f (⟨#[49, 48, 57, 57, 53, 49, 49, 54, 50, 55, 55, 55, 55]⟩ : ByteArray) 0).bind fun t129 => (if t129 = true then ((liverylaw06_bad.f (⟨#[97, 32, 45, 32, 98]⟩ : ByteArray) 2).bind fun t130 => (some t130)) else (none))) else (none))) else (none))) else (none)) else (none)) else (none))) else (none)) else (none)) else (none))) else (none)) else (none)) else (none)))) = some r := H
 have A2 := XPrint.A0 A20
 clear A20
 replace H := Option.bind_eq_some_iff.mp H
 obtain ⟨⟨t119, t120, t121⟩, A30, H⟩ := H
 replace H : ((liveryref06_Same.f t106 y111 true).bind fun t124 => (if t124 = true then (if t107 = 0 then (if t108 = 0 then ((lex_Text.f t106).bind fun t125 => (if t125.toList = ([40, 97, 116, 111, 109, 32, 50, 32, 49, 32, 49, 48, 41] : List UInt8) then (if (t114.length : Int) = 6 then (if t116 = 0 then ((lex_Text.f t114).bind fun t126 => (if t126.toList = ([102, 114, 111, 109, 32, 48, 32, 116, 111, 32, 57, 58, 32, 120] : List UInt8) then (if (t119.length : Int) = 0 then (if t121 = 0 then ((liverylaw06_bad.f (⟨#[97, 49]⟩ : ByteArray) 0).bind fun t127 => (if t127 = true then ((liverylaw06_bad.f (⟨#[48, 55]⟩ : ByteArray) 0).bind fun t128 => (if t128 = true then ((liverylaw06_bad.f (⟨#[49, 48, 57, 57, 53, 49, 49, 54, 50, 55, 55, 55, 55]⟩ : ByteArray) 0).bind fun t129 => (if t129 = true then ((liverylaw06_bad.f (⟨#[97, 32, 45, 32, 98]⟩ : ByteArray) 2).bind fun t130 => (some t130)) else (none))) else (none))) else (none))) else (none)) else (none)) else (none))) else (none)) else (none)) else (none))) else (none)) else (none)) else (none))) = some r := H
 have A3 := XPrint.A0 A30
 clear A30
 replace H := Option.bind_eq_some_iff.mp H
 obtain ⟨t124, A40, H⟩ := H
 try set_option simprocs false in dsimp only at H
 have A4 := XPrint.A0 A40
 clear A40
 by_cases c5 : t124 = true
 ·subst c5
  have H1 := H; rw [if_pos rfl] at H1
  clear H
  have H := H1
  clear H1
  by_cases c6 : t107 = 0
  ·rw [if_pos c6] at H
   have c6b0 : (t107 == 0) = true := beq_iff_eq.mpr c6
   have c6b1 : (t107 != 0) = false := bne_eq_false_iff_eq.mpr c6
   clear c6
   by_cases c7 : t108 = 0
   ·rw [if_pos c7] at H
    have c7b0 : (t108 == 0) = true := beq_iff_eq.mpr c7
    have c7b1 : (t108 != 0) = false := bne_eq_false_iff_eq.mpr c7
    clear c7
    replace H := Option.bind_eq_some_iff.mp H
    obtain ⟨t125, A80, H⟩ := H
    try set_option simprocs false in dsimp only at H
    have A8 := XPrint.A0 A80
    clear A80
    by_cases c9 : t125.toList = ([40, 97, 116, 111, 109, 32, 50, 32, 49, 32, 49, 48, 41] : List UInt8)
    ·rw [if_pos c9] at H
     have c9b0 : (t125.toList == ([40, 97, 116, 111, 109, 32, 50, 32, 49, 32, 49, 48, 41] : List UInt8)) = true := beq_iff_eq.mpr c9
     have c9b1 : (t125.toList != ([40, 97, 116, 111, 109, 32, 50, 32, 49, 32, 49, 48, 41] : List UInt8)) = false := bne_eq_false_iff_eq.mpr c9
     clear c9
     by_cases c10 : (t114.length : Int) = 6
     ·rw [if_pos c10] at H
      have c10b0 : ((t114.length : Int) == 6) = true := beq_iff_eq.mpr c10
      have c10b1 : ((t114.length : Int) != 6) = false := bne_eq_false_iff_eq.mpr c10
      clear c10
      by_cases c11 : t116 = 0
      ·rw [if_pos c11] at H
       have c11b0 : (t116 == 0) = true := beq_iff_eq.mpr c11
       have c11b1 : (t116 != 0) = false := bne_eq_false_iff_eq.mpr c11
       clear c11
       replace H := Option.bind_eq_some_iff.mp H
       obtain ⟨t126, A120, H⟩ := H
       try set_option simprocs false in dsimp only at H
       have A12 := XPrint.A0 A120
       clear A120
       by_cases c13 : t126.toList = ([102, 114, 111, 109, 32, 48, 32, 116, 111, 32, 57, 58, 32, 120] : List UInt8)
       ·rw [if_pos c13] at H
        have c13b0 : (t126.toList == ([102, 114, 111, 109, 32, 48, 32, 116, 111, 32, 57, 58, 32, 120] : List UInt8)) = true := beq_iff_eq.mpr c13
        have c13b1 : (t126.toList != ([102, 114, 111, 109, 32, 48, 32, 116, 111, 32, 57, 58, 32, 120] : List UInt8)) = false := bne_eq_false_iff_eq.mpr c13
        clear c13
        by_cases c14 : (t119.length : Int) = 0
        ·rw [if_pos c14] at H
         have c14b0 : ((t119.length : Int) == 0) = true := beq_iff_eq.mpr c14
         have c14b1 : ((t119.length : Int) != 0) = false := bne_eq_false_iff_eq.mpr c14
         clear c14
         by_cases c15 : t121 = 0
         ·rw [if_pos c15] at H
          have c15b0 : (t121 == 0) = true := beq_iff_eq.mpr c15
          have c15b1 : (t121 != 0) = false := bne_eq_false_iff_eq.mpr c15
          clear c15
          replace H := Option.bind_eq_some_iff.mp H
          obtain ⟨t127, A160, H⟩ := H
          try set_option simprocs false in dsimp only at H
          have A16 := XPrint.A0 A160
          clear A160
          by_cases c17 : t127 = true
          ·subst c17
           have H1 := H; rw [if_pos rfl] at H1
           clear H
           have H := H1
           clear H1
           replace H := Option.bind_eq_some_iff.mp H
           obtain ⟨t128, A180, H⟩ := H
           try set_option simprocs false in dsimp only at H
           have A18 := XPrint.A0 A180
           clear A180
           by_cases c19 : t128 = true
           ·subst c19
            have H1 := H; rw [if_pos rfl] at H1
            clear H
            have H := H1
            clear H1
            replace H := Option.bind_eq_some_iff.mp H
            obtain ⟨t129, A200, H⟩ := H
            try set_option simprocs false in dsimp only at H
            have A20 := XPrint.A0 A200
            clear A200
            by_cases c21 : t129 = true
            ·subst c21
             have H1 := H; rw [if_pos rfl] at H1
             clear H
             have H := H1
             clear H1
             replace H := Option.bind_eq_some_iff.mp H
             obtain ⟨t130, A220, H⟩ := H
             try set_option simprocs false in dsimp only at H
             have A22 := XPrint.A0 A220
             clear A220
             obtain rfl := Option.some.inj H
             go_enter Tryd.func10, Tryd.ntmps10
             go_wp2_with (first | ((with_reducible refine gate_callee (f := 9) rfl ?_); refine XPrint.gl (some 12) Tryd.func9 #[.string (⟨#[40, 97, 116, 111, 109, 32, 50, 32, 49, 32, 49, 48, 41]⟩ : ByteArray)] ?_; (with_reducible refine (lex_Lex.calls (⟨#[40, 97, 116, 111, 109, 32, 50, 32, 49, 32, 49, 48, 41]⟩ : ByteArray) t106 t107 t108 _ A1.out).mono ?_); rintro e w23 ⟨v109, rfl, ho0, hb⟩; refine ⟨_, rfl, ?_⟩; have HO110 := XPrint.A0 (Kd.R_lower ho0 (below_size (by exact XPrint.bz HB.out))); replace HB := XPrint.A0 (below_step (by exact XPrint.bz HB.out) hb); (try clear hb); (try clear hb2); (try clear hk); (try clear hi); (try clear ho0)) | ((with_reducible refine gate_dst (N := 22) rfl ?_); (try (refine gate_guard (by rfl) ?_; dsimp only)); refine Kd.R_lit k30 _ 30 ?hg (N := 22) ?hd (xs := ([(⟨2, (⟨#[40]⟩ : ByteArray), 0, 0⟩ : S30), (⟨0, (⟨#[97, 116, 111, 109]⟩ : ByteArray), 0, 1⟩ : S30), (⟨1, (⟨#[50]⟩ : ByteArray), 2, 6⟩ : S30), (⟨1, (⟨#[49]⟩ : ByteArray), 1, 8⟩ : S30), (⟨1, (⟨#[49, 48]⟩ : ByteArray), 10, 10⟩ : S30), (⟨3, (⟨#[41]⟩ : ByteArray), 0, 12⟩ : S30)] : List (S30))) (inner := [.int .u8 2, .string (⟨#[40]⟩ : ByteArray), .int .i64 0, .int .i64 0, .int .u8 0, .string (⟨#[97, 116, 111, 109]⟩ : ByteArray), .int .i64 0, .int .i64 1, .int .u8 1, .string (⟨#[50]⟩ : ByteArray), .int .i64 2, .int .i64 6, .int .u8 1, .string (⟨#[49]⟩ : ByteArray), .int .i64 1, .int .i64 8, .int .u8 1, .string (⟨#[49, 48]⟩ : ByteArray), .int .i64 10, .int .i64 10, .int .u8 3, .string (⟨#[41]⟩ : ByteArray), .int .i64 0, .int .i64 12]) (ok := fun _ => True) (okp := fun _ => True) ?hr ?hp (fun _ hk => hk) trivial (Below.refl _ _) (Nat.le_refl _) (by simp) ?_; (case hd => rfl); (case hg => rfl); (case hr => first | (go_simp; done) | (go_simp; rfl)); (case hp => exact (Reps.c4 (show Kd.M k30 _ _ _ (⟨2, (⟨#[40]⟩ : ByteArray), 0, 0⟩ : S30) [.int .u8 2, .string (⟨#[40]⟩ : ByteArray), .int .i64 0, .int .i64 0] from (k30_mkM _ _ _ (⟨2, (⟨#[40]⟩ : ByteArray), 0, 0⟩ : S30) )) (Reps.c4 (show Kd.M k30 _ _ _ (⟨0, (⟨#[97, 116, 111, 109]⟩ : ByteArray), 0, 1⟩ : S30) [.int .u8 0, .string (⟨#[97, 116, 111, 109]⟩ : ByteArray), .int .i64 0, .int .i64 1] from (k30_mkM _ _ _ (⟨0, (⟨#[97, 116, 111, 109]⟩ : ByteArray), 0, 1⟩ : S30) )) (Reps.c4 (show Kd.M k30 _ _ _ (⟨1, (⟨#[50]⟩ : ByteArray), 2, 6⟩ : S30) [.int .u8 1, .string (⟨#[50]⟩ : ByteArray), .int .i64 2, .int .i64 6] from (k30_mkM _ _ _ (⟨1, (⟨#[50]⟩ : ByteArray), 2, 6⟩ : S30) )) (Reps.c4 (show Kd.M k30 _ _ _ (⟨1, (⟨#[49]⟩ : ByteArray), 1, 8⟩ : S30) [.int .u8 1, .string (⟨#[49]⟩ : ByteArray), .int .i64 1, .int .i64 8] from (k30_mkM _ _ _ (⟨1, (⟨#[49]⟩ : ByteArray), 1, 8⟩ : S30) )) (Reps.c4 (show Kd.M k30 _ _ _ (⟨1, (⟨#[49, 48]⟩ : ByteArray), 10, 10⟩ : S30) [.int .u8 1, .string (⟨#[49, 48]⟩ : ByteArray), .int .i64 10, .int .i64 10] from (k30_mkM _ _ _ (⟨1, (⟨#[49, 48]⟩ : ByteArray), 10, 10⟩ : S30) )) (Reps.c4 (show Kd.M k30 _ _ _ (⟨3, (⟨#[41]⟩ : ByteArray), 0, 12⟩ : S30) [.int .u8 3, .string (⟨#[41]⟩ : ByteArray), .int .i64 0, .int .i64 12] from (k30_mkM _ _ _ (⟨3, (⟨#[41]⟩ : ByteArray), 0, 12⟩ : S30) )) (Reps.none _ _)))))))); intro v112 w24 ho25 hb hg_ hnew_; clear hg_ hnew_; (first | rw [← Ny111.out] at ho25 | (simp only [Int.reduceToNat] at ho25; rw [← Ny111.out] at ho25)); have HO113 := XPrint.A0 (Kd.R_lower (Kd.R_new' ho25 (Kd.R_lt (by (with_reducible repeat (first | apply Kd.R_alloc | apply Kd.R_drewN | apply Kd.R_drew)); exact HO110.out))) (below_size (by exact XPrint.bz HB.out))); replace HO110 := XPrint.A0 (Kd.R_elder' (by (with_reducible repeat (first | apply Kd.R_alloc | apply Kd.R_drewN | apply Kd.R_drew)); exact HO110.out) (Kd.R_base ho25) hb); replace HB := XPrint.A0 (below_step (by exact XPrint.bz HB.out) hb); clear hb ho25) | ((with_reducible refine gate_callee (f := 9) rfl ?_); refine XPrint.gl (some 24) Tryd.func9 #[.string (⟨#[102, 114, 111, 109, 32, 48, 32, 116, 111, 32, 57, 58, 32, 120]⟩ : ByteArray)] ?_; (with_reducible refine (lex_Lex.calls (⟨#[102, 114, 111, 109, 32, 48, 32, 116, 111, 32, 57, 58, 32, 120]⟩ : ByteArray) t114 t115 t116 _ A2.out).mono ?_); rintro e w26 ⟨v117, rfl, ho0, hb⟩; refine ⟨_, rfl, ?_⟩; have HO118 := XPrint.A0 (Kd.R_lower (Kd.R_new' (Kd.R_new' ho0 (Kd.R_lt (by (with_reducible repeat (first | apply Kd.R_alloc | apply Kd.R_drewN | apply Kd.R_drew)); exact HO110.out))) (Kd.R_lt (by (with_reducible repeat (first | apply Kd.R_alloc | apply Kd.R_drewN | apply Kd.R_drew)); exact HO113.out))) (below_size (by exact XPrint.bz HB.out))); replace HO110 := XPrint.A0 (Kd.R_elder' (by (with_reducible repeat (first | apply Kd.R_alloc | apply Kd.R_drewN | apply Kd.R_drew)); exact HO110.out) (Kd.R_base ho0) hb); replace HO113 := XPrint.A0 (Kd.R_elder' (by (with_reducible repeat (first | apply Kd.R_alloc | apply Kd.R_drewN | apply Kd.R_drew)); exact HO113.out) (Kd.R_base ho0) hb); replace HB := XPrint.A0 (below_step (by exact XPrint.bz HB.out) hb); (try clear hb); (try clear hb2); (try clear hk); (try clear hi); (try clear ho0)) | ((with_reducible refine gate_callee (f := 9) rfl ?_); refine XPrint.gl (some 29) Tryd.func9 #[.string (⟨#[]⟩ : ByteArray)] ?_; (with_reducible refine (lex_Lex.calls (⟨#[]⟩ : ByteArray) t119 t120 t121 _ A3.out).mono ?_); rintro e w27 ⟨v122, rfl, ho0, hb⟩; refine ⟨_, rfl, ?_⟩; have HO123 := XPrint.A0 (Kd.R_lower (Kd.R_new' (Kd.R_new' (Kd.R_new' ho0 (Kd.R_lt (by (with_reducible repeat (first | apply Kd.R_alloc | apply Kd.R_drewN | apply Kd.R_drew)); exact HO110.out))) (Kd.R_lt (by (with_reducible repeat (first | apply Kd.R_alloc | apply Kd.R_drewN | apply Kd.R_drew)); exact HO113.out))) (Kd.R_lt (by (with_reducible repeat (first | apply Kd.R_alloc | apply Kd.R_drewN | apply Kd.R_drew)); exact HO118.out))) (below_size (by exact XPrint.bz HB.out))); replace HO110 := XPrint.A0 (Kd.R_elder' (by (with_reducible repeat (first | apply Kd.R_alloc | apply Kd.R_drewN | apply Kd.R_drew)); exact HO110.out) (Kd.R_base ho0) hb); replace HO113 := XPrint.A0 (Kd.R_elder' (by (with_reducible repeat (first | apply Kd.R_alloc | apply Kd.R_drewN | apply Kd.R_drew)); exact HO113.out) (Kd.R_base ho0) hb); replace HO118 := XPrint.A0 (Kd.R_elder' (by (with_reducible repeat (first | apply Kd.R_alloc | apply Kd.R_drewN | apply Kd.R_drew)); exact HO118.out) (Kd.R_base ho0) hb); replace HB := XPrint.A0 (below_step (by exact XPrint.bz HB.out) hb); (try clear hb); (try clear hb2); (try clear hk); (try clear hi); (try clear ho0); obtain ⟨Ao28, co28, eo28⟩ := Kd.R_slice HO110.out; subst eo28; obtain ⟨Ao29, co29, eo29⟩ := Kd.R_slice HO113.out; subst eo29) | ((with_reducible refine gate_callee (f := 12) rfl ?_); refine XPrint.gl (some 35) Tryd.func12 #[.slice Ao28 t106.length co28, .slice Ao29 y111.length co29, .bool true] ?_; (with_reducible refine (liveryref06_Same.calls _ _ t106 _ _ y111 true true _ ?side1 ?side2 ?side3 ?side4 A4.out).mono ?_); (case side1 => repeat (first | exact (Kd.R_reads' HO110.out).2.2 | (with_reducible refine Kd.C_alloc ?_ _) | (with_reducible refine Kd.C_drewN ?_ _) | (with_reducible refine Kd.C_drew ?_))); (case side2 => exact (Kd.R_reads' HO110.out).2.1); (case side3 => repeat (first | exact (Kd.R_reads' HO113.out).2.2 | (with_reducible refine Kd.C_alloc ?_ _) | (with_reducible refine Kd.C_drewN ?_ _) | (with_reducible refine Kd.C_drew ?_))); (case side4 => exact (Kd.R_reads' HO113.out).2.1); rintro e w30 ⟨rfl, hb⟩; refine ⟨_, rfl, ?_⟩; replace HO110 := XPrint.A0 (XPrint.rb HO110.out hb); replace HO113 := XPrint.A0 (XPrint.rb HO113.out hb); replace HO118 := XPrint.A0 (XPrint.rb HO118.out hb); replace HO123 := XPrint.A0 (XPrint.rb HO123.out hb); replace HB := XPrint.A0 (below_step (by exact XPrint.bz HB.out) hb); (try clear hb); (try clear hb2); (try clear hk); (try clear hi)) | (go_at_call 11; (with_reducible refine (lex_Text.calls _ _ t106 t125 _ ?side1 ?side2 A8.out).mono ?_); (case side1 => repeat (first | exact (Kd.R_reads' HO110.out).2.2 | (with_reducible refine Kd.C_alloc ?_ _) | (with_reducible refine Kd.C_drewN ?_ _) | (with_reducible refine Kd.C_drew ?_))); (case side2 => exact (Kd.R_reads' HO110.out).2.1); rintro e w31 ⟨rfl, hb⟩; replace HO110 := XPrint.A0 (XPrint.rb HO110.out hb); replace HO113 := XPrint.A0 (XPrint.rb HO113.out hb); replace HO118 := XPrint.A0 (XPrint.rb HO118.out hb); replace HO123 := XPrint.A0 (XPrint.rb HO123.out hb); replace HB := XPrint.A0 (below_step (by exact XPrint.bz HB.out) hb); (try clear hb); (try clear hb2); (try clear hk); (try clear hi); obtain ⟨Ao32, co32, eo32⟩ := Kd.R_slice HO118.out; subst eo32) | (go_at_call 11; (with_reducible refine (lex_Text.calls _ _ t114 t126 _ ?side1 ?side2 A12.out).mono ?_); (case side1 => repeat (first | exact (Kd.R_reads' HO118.out).2.2 | (with_reducible refine Kd.C_alloc ?_ _) | (with_reducible refine Kd.C_drewN ?_ _) | (with_reducible refine Kd.C_drew ?_))); (case side2 => exact (Kd.R_reads' HO118.out).2.1); rintro e w33 ⟨rfl, hb⟩; replace HO110 := XPrint.A0 (XPrint.rb HO110.out hb); replace HO113 := XPrint.A0 (XPrint.rb HO113.out hb); replace HO118 := XPrint.A0 (XPrint.rb HO118.out hb); replace HO123 := XPrint.A0 (XPrint.rb HO123.out hb); replace HB := XPrint.A0 (below_step (by exact XPrint.bz HB.out) hb); (try clear hb); (try clear hb2); (try clear hk); (try clear hi); obtain ⟨Ao34, co34, eo34⟩ := Kd.R_slice HO123.out; subst eo34) | (go_at_call 26; (with_reducible refine (liverylaw06_bad.calls (⟨#[97, 49]⟩ : ByteArray) 0 true _ A16.out).mono ?_); rintro e w35 ⟨rfl, hb⟩; replace HO110 := XPrint.A0 (XPrint.rb HO110.out hb); replace HO113 := XPrint.A0 (XPrint.rb HO113.out hb); replace HO118 := XPrint.A0 (XPrint.rb HO118.out hb); replace HO123 := XPrint.A0 (XPrint.rb HO123.out hb); replace HB := XPrint.A0 (below_step (by exact XPrint.bz HB.out) hb); (try clear hb); (try clear hb2); (try clear hk); (try clear hi)) | (go_at_call 26; (with_reducible refine (liverylaw06_bad.calls (⟨#[48, 55]⟩ : ByteArray) 0 true _ A18.out).mono ?_); rintro e w36 ⟨rfl, hb⟩; replace HO110 := XPrint.A0 (XPrint.rb HO110.out hb); replace HO113 := XPrint.A0 (XPrint.rb HO113.out hb); replace HO118 := XPrint.A0 (XPrint.rb HO118.out hb); replace HO123 := XPrint.A0 (XPrint.rb HO123.out hb); replace HB := XPrint.A0 (below_step (by exact XPrint.bz HB.out) hb); (try clear hb); (try clear hb2); (try clear hk); (try clear hi)) | (go_at_call 26; (with_reducible refine (liverylaw06_bad.calls (⟨#[49, 48, 57, 57, 53, 49, 49, 54, 50, 55, 55, 55, 55]⟩ : ByteArray) 0 true _ A20.out).mono ?_); rintro e w37 ⟨rfl, hb⟩; replace HO110 := XPrint.A0 (XPrint.rb HO110.out hb); replace HO113 := XPrint.A0 (XPrint.rb HO113.out hb); replace HO118 := XPrint.A0 (XPrint.rb HO118.out hb); replace HO123 := XPrint.A0 (XPrint.rb HO123.out hb); replace HB := XPrint.A0 (below_step (by exact XPrint.bz HB.out) hb); (try clear hb); (try clear hb2); (try clear hk); (try clear hi)) | (go_at_call 26; (with_reducible refine (liverylaw06_bad.calls (⟨#[97, 32, 45, 32, 98]⟩ : ByteArray) 2 t130 _ A22.out).mono ?_); rintro e w38 ⟨rfl, hb⟩; replace HO110 := XPrint.A0 (XPrint.rb HO110.out hb); replace HO113 := XPrint.A0 (XPrint.rb HO113.out hb); replace HO118 := XPrint.A0 (XPrint.rb HO118.out hb); replace HO123 := XPrint.A0 (XPrint.rb HO123.out hb); replace HB := XPrint.A0 (below_step (by exact XPrint.bz HB.out) hb); (try clear hb); (try clear hb2); (try clear hk); (try clear hi)))
             go_ret
             exact ⟨by first | rfl | (simp [errW_none, errW_some] <;> rfl) | (simp [*, errW_none, errW_some] <;> rfl), by exact XPrint.bz HB.out⟩
            ·replace c21 := Bool.eq_false_iff.mpr c21
             subst c21
             have H1 := H; rw [if_neg (show ¬ (false = true) by decide)] at H1
             clear H
             have H := H1
             clear H1
             exact absurd H (by simp)
           ·replace c19 := Bool.eq_false_iff.mpr c19
            subst c19
            have H1 := H; rw [if_neg (show ¬ (false = true) by decide)] at H1
            clear H
            have H := H1
            clear H1
            exact absurd H (by simp)
          ·replace c17 := Bool.eq_false_iff.mpr c17
           subst c17
           have H1 := H; rw [if_neg (show ¬ (false = true) by decide)] at H1
           clear H
           have H := H1
           clear H1
           exact absurd H (by simp)
         ·rw [if_neg c15] at H
          exact absurd H (by simp)
        ·rw [if_neg c14] at H
         exact absurd H (by simp)
       ·rw [if_neg c13] at H
        exact absurd H (by simp)
      ·rw [if_neg c11] at H
       exact absurd H (by simp)
     ·rw [if_neg c10] at H
      exact absurd H (by simp)
    ·rw [if_neg c9] at H
     exact absurd H (by simp)
   ·rw [if_neg c7] at H
    exact absurd H (by simp)
  ·rw [if_neg c6] at H
   exact absurd H (by simp)
 ·replace c5 := Bool.eq_false_iff.mpr c5
  subst c5
  have H1 := H; rw [if_neg (show ¬ (false = true) by decide)] at H1
  clear H
  have H := H1
  clear H1
  exact absurd H (by simp)

/-! ### liveryref06_White: function 13 -/
def liveryref06_White.f (a0 : Int) : Option (Bool) := if a0 = 32 then (some true) else (if a0 = 9 then (some true) else (if a0 = 10 then (some true) else (some (a0 == 13))))
set_option maxHeartbeats 8000000 in
set_option maxRecDepth 100000 in
theorem liveryref06_White.calls (a0 : Int) (r : Bool) (w : World) (h : liveryref06_White.f a0 = some r) :
  Calls Tryd.prog 13 #[.int .u8 a0] w fun e w' => e = .returned (.bool r) ∧ Drawn0 w w' := by
 have H : (if a0 = 32 then (some true) else (if a0 = 9 then (some true) else (if a0 = 10 then (some true) else (some (a0 == 13))))) = some r := h
 clear h
 by_cases c2 : a0 = 32
 ·rw [if_pos c2] at H
  have c2b0 : (a0 == 32) = true := beq_iff_eq.mpr c2
  have c2b1 : (a0 != 32) = false := bne_eq_false_iff_eq.mpr c2
  clear c2
  obtain rfl := Option.some.inj H
  go_enter Tryd.func13, Tryd.ntmps13
  go_wp2
  go_ret
  exact ⟨by first | rfl | (simp; done) | (simp [*]; done), by repeat (first | exact Drawn0.refl _ | apply Drawn0.step)⟩
 ·rw [if_neg c2] at H
  have c2b0 : (a0 == 32) = false := beq_eq_false_iff_ne.mpr c2
  have c2b1 : (a0 != 32) = true := bne_iff_ne.mpr c2
  by_cases c3 : a0 = 9
  ·rw [if_pos c3] at H
   have c3b0 : (a0 == 9) = true := beq_iff_eq.mpr c3
   have c3b1 : (a0 != 9) = false := bne_eq_false_iff_eq.mpr c3
   clear c3
   obtain rfl := Option.some.inj H
   go_enter Tryd.func13, Tryd.ntmps13
   go_wp2
   go_ret
   exact ⟨by first | rfl | (simp; done) | (simp [*]; done), by repeat (first | exact Drawn0.refl _ | apply Drawn0.step)⟩
  ·rw [if_neg c3] at H
   have c3b0 : (a0 == 9) = false := beq_eq_false_iff_ne.mpr c3
   have c3b1 : (a0 != 9) = true := bne_iff_ne.mpr c3
   by_cases c4 : a0 = 10
   ·rw [if_pos c4] at H
    have c4b0 : (a0 == 10) = true := beq_iff_eq.mpr c4
    have c4b1 : (a0 != 10) = false := bne_eq_false_iff_eq.mpr c4
    clear c4
    obtain rfl := Option.some.inj H
    go_enter Tryd.func13, Tryd.ntmps13
    go_wp2
    go_ret
    exact ⟨by first | rfl | (simp; done) | (simp [*]; done), by repeat (first | exact Drawn0.refl _ | apply Drawn0.step)⟩
   ·rw [if_neg c4] at H
    have c4b0 : (a0 == 10) = false := beq_eq_false_iff_ne.mpr c4
    have c4b1 : (a0 != 10) = true := bne_iff_ne.mpr c4
    obtain rfl := Option.some.inj H
    go_enter Tryd.func13, Tryd.ntmps13
    go_wp2
    go_ret
    exact ⟨by first | rfl | (simp; done) | (simp [*]; done), by repeat (first | exact Drawn0.refl _ | apply Drawn0.step)⟩

end Go.Proofs.YtfpbapffdnochaaDoor.PLexBack
