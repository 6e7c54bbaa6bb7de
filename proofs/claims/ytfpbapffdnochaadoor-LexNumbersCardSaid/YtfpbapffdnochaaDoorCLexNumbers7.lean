-- printed by this session's own driver over the kit's printer: Lean checks it
import Derived.Test.YtfpbapffdnochaaDoorCLexNumbers0
import Derived.Test.YtfpbapffdnochaaDoorCLexNumbers1
import Derived.Test.YtfpbapffdnochaaDoorCLexNumbers2
import Derived.Test.YtfpbapffdnochaaDoorCLexNumbers5
import Derived.Test.YtfpbapffdnochaaDoorCLexNumbers6
namespace Go.Proofs.YtfpbapffdnochaaDoor.PLexNumbers
open Go.RowKit Go.Proofs.YtfpbapffdnochaaDoorW.PrintWords Go.Proofs.YtfpbapffdnochaaDoorW.PrintLast Go.Proofs.YtfpbapffdnochaaDoorW.PrintMore
attribute [local go_sem] max2_int min2_int max_two min_two max_three min_three max_four min_four   -- for this text's walks alone
set_option linter.unusedVariables false
set_option linter.unusedSimpArgs false

/-! ### liverylaw06_LexNumbers: function 5 -/
mutual
def liverylaw06_LexNumbers.l0 : Nat → List Int → ByteArray → List Int → Int → Option (Bool)
 | 0, _, _, _, _ => none
 | k + 1, x0, x3, x4, x5 => if x5 < (x0.length : Int) then (if 0 ≤ x5 then (if x4.length < 17592186044416 then ((liverylaw06_digits.f k (wrap64 (Int.tmod (rd x0 x5) 1099511627777))).bind fun t140 => ((lex_Number.f k t140).bind fun bt141 => (if 1 + t140.size ≤ 9223372036854775807 then ((lex_Number.f k ((⟨#[48]⟩ : ByteArray) ++ t140)).bind fun bt143 => (if bt141.2 = true then (if bt141.1 = (wrap64 (Int.tmod (rd x0 x5) 1099511627777)) then (if bt143.2 = true then (none) else ((lex_Word.f t140).bind fun t145 => (if t145 = true then (none) else (if x3.size + t140.size ≤ 9223372036854775807 then (if (x3 ++ t140).size + 1 ≤ 9223372036854775807 then (liverylaw06_LexNumbers.l0 k x0 ((x3 ++ t140) ++ (⟨#[32]⟩ : ByteArray)) (x4 ++ [wrap64 (Int.tmod (rd x0 x5) 1099511627777)]) (wrap64 (x5 + 1))) else (none)) else (none))))) else (none)) else (none))) else (none)))) else (none)) else (none)) else ((lex_Lex.f x3).bind fun bt146 => (if bt146.2.2 = 0 then (liverylaw06_LexNumbers.j1 k x4 bt146.1 ((bt146.1.length : Int) != (x4.length : Int))) else (none)))
def liverylaw06_LexNumbers.j1 : Nat → List Int → List (S30) → Bool → Option (Bool)
 | 0, _, _, _ => none
 | k + 1, x4, x12, x83 => if x83 = true then (none) else (liverylaw06_LexNumbers.l1 k x4 x12 0)
def liverylaw06_LexNumbers.l1 : Nat → List Int → List (S30) → Int → Option (Bool)
 | 0, _, _, _ => none
 | k + 1, x4, x12, x15 => if x15 < (x12.length : Int) then (if 0 ≤ x15 then (if ((rd_T30 x12 x15).f0) = 1 then (if x15 < (x4.length : Int) then (if ((rd_T30 x12 x15).f2) = (rd x4 x15) then (liverylaw06_LexNumbers.l1 k x4 x12 (wrap64 (x15 + 1))) else (none)) else (none)) else (none)) else (none)) else ((liverylaw06_digits.f k 1099511627777).bind fun t154 => ((lex_Number.f k t154).bind fun bt155 => (if bt155.2 = true then (none) else ((liverylaw06_head.f).bind fun t157 => (some t157)))))
end
def liverylaw06_LexNumbers.f (k : Nat) (l0 : List Int) : Option (Bool) := if (l0.length : Int) > 40 then ((liverylaw06_head.f).bind fun t135 => (some t135)) else (liverylaw06_LexNumbers.l0 k l0 (⟨#[]⟩ : ByteArray) ([] : List Int) 0)
theorem liverylaw06_LexNumbers.mono_l : ∀ k, (∀ y0 y1 y2 y3, LeO (liverylaw06_LexNumbers.l0 k y0 y1 y2 y3) (liverylaw06_LexNumbers.l0 (k + 1) y0 y1 y2 y3)) ∧ (∀ y0 y1 y2, LeO (liverylaw06_LexNumbers.j1 k y0 y1 y2) (liverylaw06_LexNumbers.j1 (k + 1) y0 y1 y2)) ∧ (∀ y0 y1 y2, LeO (liverylaw06_LexNumbers.l1 k y0 y1 y2) (liverylaw06_LexNumbers.l1 (k + 1) y0 y1 y2))
 | 0 => ⟨fun _ _ _ _ r h => by simp [liverylaw06_LexNumbers.l0] at h, fun _ _ _ r h => by simp [liverylaw06_LexNumbers.j1] at h, fun _ _ _ r h => by simp [liverylaw06_LexNumbers.l1] at h⟩
 | k + 1 => by
  obtain ⟨ih0, ih1, ih2⟩ := liverylaw06_LexNumbers.mono_l k
  refine ⟨?_, ?_, ?_⟩
  ·intro y0 y1 y2 y3
   unfold liverylaw06_LexNumbers.l0
   repeat' first
   | (with_reducible exact ih0 _ _ _ _)
   | (with_reducible exact ih1 _ _ _)
   | (with_reducible exact ih2 _ _ _)
   | (with_reducible exact lex_Number.mono _ _)
   | (with_reducible exact liverylaw06_digits.mono _ _)
   | (with_reducible exact LeO.refl _)
   | (with_reducible exact LeO.none _)
   | (with_reducible refine LeO.ite ?_ ?_)
   | (with_reducible refine LeO.bind ?_ (fun _ => ?_))
   | exact ih0 _ _ _ _
   | exact ih1 _ _ _
   | exact ih2 _ _ _
   | exact lex_Number.mono _ _
   | exact liverylaw06_digits.mono _ _
   | exact LeO.none _
   | refine LeO.ite ?_ ?_
   | refine LeO.bind ?_ (fun _ => ?_)
  ·intro y0 y1 y2
   unfold liverylaw06_LexNumbers.j1
   repeat' first
   | (with_reducible exact ih0 _ _ _ _)
   | (with_reducible exact ih1 _ _ _)
   | (with_reducible exact ih2 _ _ _)
   | (with_reducible exact lex_Number.mono _ _)
   | (with_reducible exact liverylaw06_digits.mono _ _)
   | (with_reducible exact LeO.refl _)
   | (with_reducible exact LeO.none _)
   | (with_reducible refine LeO.ite ?_ ?_)
   | (with_reducible refine LeO.bind ?_ (fun _ => ?_))
   | exact ih0 _ _ _ _
   | exact ih1 _ _ _
   | exact ih2 _ _ _
   | exact lex_Number.mono _ _
   | exact liverylaw06_digits.mono _ _
   | exact LeO.none _
   | refine LeO.ite ?_ ?_
   | refine LeO.bind ?_ (fun _ => ?_)
  ·intro y0 y1 y2
   unfold liverylaw06_LexNumbers.l1
   repeat' first
   | (with_reducible exact ih0 _ _ _ _)
   | (with_reducible exact ih1 _ _ _)
   | (with_reducible exact ih2 _ _ _)
   | (with_reducible exact lex_Number.mono _ _)
   | (with_reducible exact liverylaw06_digits.mono _ _)
   | (with_reducible exact LeO.refl _)
   | (with_reducible exact LeO.none _)
   | (with_reducible refine LeO.ite ?_ ?_)
   | (with_reducible refine LeO.bind ?_ (fun _ => ?_))
   | exact ih0 _ _ _ _
   | exact ih1 _ _ _
   | exact ih2 _ _ _
   | exact lex_Number.mono _ _
   | exact liverylaw06_digits.mono _ _
   | exact LeO.none _
   | refine LeO.ite ?_ ?_
   | refine LeO.bind ?_ (fun _ => ?_)
theorem liverylaw06_LexNumbers.mono : ∀ a0 k, LeO (liverylaw06_LexNumbers.f k a0) (liverylaw06_LexNumbers.f (k + 1) a0) := by
 intro a0 k
 obtain ⟨ih0, ih1, ih2⟩ := liverylaw06_LexNumbers.mono_l k
 unfold liverylaw06_LexNumbers.f
 repeat' first
   | (with_reducible exact ih0 _ _ _ _)
   | (with_reducible exact ih1 _ _ _)
   | (with_reducible exact ih2 _ _ _)
   | (with_reducible exact lex_Number.mono _ _)
   | (with_reducible exact liverylaw06_digits.mono _ _)
   | (with_reducible exact LeO.refl _)
   | (with_reducible exact LeO.none _)
   | (with_reducible refine LeO.ite ?_ ?_)
   | (with_reducible refine LeO.bind ?_ (fun _ => ?_))
   | exact ih0 _ _ _ _
   | exact ih1 _ _ _
   | exact ih2 _ _ _
   | exact lex_Number.mono _ _
   | exact liverylaw06_digits.mono _ _
   | exact LeO.none _
   | refine LeO.ite ?_ ?_
   | refine LeO.bind ?_ (fun _ => ?_)
set_option maxHeartbeats 8000000 in
set_option maxRecDepth 100000 in
theorem liverylaw06_LexNumbers.calls (k : Nat) (A0 : Option Addr) (c0 : Nat) (l0 : List Int) (r : Bool) (w : World) (hr0 : Kd.C (Kd.int .u64) w A0 l0.length l0) (hc0 : l0.length ≤ c0) (h : liverylaw06_LexNumbers.f k l0 = some r) :
  Calls Tryd.prog 5 #[.slice A0 l0.length c0] w fun e w' => e = .returned (.bool r) ∧ Below w.heap.size w w' := by
 have HR0 := XPrint.A0 hr0
 have HC0 := XPrint.A0 hc0
 clear hr0 hc0
 have HB := XPrint.A0 (Below.refl w.heap.size w)
 have H : (if (l0.length : Int) > 40 then ((liverylaw06_head.f).bind fun t135 => (some t135)) else (liverylaw06_LexNumbers.l0 k l0 (⟨#[]⟩ : ByteArray) ([] : List Int) 0)) = some r := h
 clear h
 by_cases c2 : (l0.length : Int) > 40
 ·rw [if_pos c2] at H
  have c2b0 : decide (40 < (l0.length : Int)) = true := decide_eq_true c2
  have c2b1 : decide (40 < l0.length) = true := decide_eq_true (by omega)
  clear c2
  replace H := Option.bind_eq_some_iff.mp H
  obtain ⟨t135, A30, H⟩ := H
  try set_option simprocs false in dsimp only at H
  have A3 := XPrint.A0 A30
  clear A30
  obtain rfl := Option.some.inj H
  go_enter Tryd.func5, Tryd.ntmps5
  go_wp2_with (first | (go_at_call 10; (with_reducible refine (liverylaw06_head.calls  t135 _ A3.out).mono ?_); rintro e w4 ⟨rfl, hb⟩; replace HB := XPrint.A0 (below_step (by exact XPrint.bz HB.out) hb); (try clear hb); (try clear hb2); (try clear hk); (try clear hi)))
  repeat (go_quiet (first | (go_at_call 10; (with_reducible refine (liverylaw06_head.calls  t135 _ A3.out).mono ?_); rintro e w4 ⟨rfl, hb⟩; replace HB := XPrint.A0 (below_step (by exact XPrint.bz HB.out) hb); (try clear hb); (try clear hb2); (try clear hk); (try clear hi))); try go_wp2_with (first | (go_at_call 10; (with_reducible refine (liverylaw06_head.calls  t135 _ A3.out).mono ?_); rintro e w4 ⟨rfl, hb⟩; replace HB := XPrint.A0 (below_step (by exact XPrint.bz HB.out) hb); (try clear hb); (try clear hb2); (try clear hk); (try clear hi))))
  go_ret
  exact ⟨by first | rfl | (simp [errW_none, errW_some] <;> rfl) | (simp [*, errW_none, errW_some] <;> rfl), by exact XPrint.bz HB.out⟩
 ·rw [if_neg c2] at H
  have c2b0 : decide (40 < (l0.length : Int)) = false := decide_eq_false c2
  have c2b1 : decide (40 < l0.length) = false := decide_eq_false (by omega)
  clear c2
  have H' := XPrint.A0 H
  clear H
  go_enter Tryd.func5, Tryd.ntmps5
  go_wp2
  repeat (go_quiet (fail); try go_wp2)
  go_loopg [3, 4, 5] k (fun kq v3 v4 v5 w' => ∃ (x3_1 : ByteArray) (x4_1 : List Int) (x5_1 : Int), v3 = .string x3_1 ∧ v5 = .int .i64 x5_1 ∧ Aside0 (liverylaw06_LexNumbers.l0 kq l0 x3_1 x4_1 x5_1 = some r) ∧ Aside0 (kq ≤ k) ∧ Aside0 (Kd.R (Kd.int .i64) 2 w' w.heap.size (fun _ => True) v4 x4_1) ∧ Aside0 (Below w.heap.size w w'))
  case atStart => exact ⟨((⟨#[]⟩ : ByteArray)), (([] : List Int)), (0), (by first | rfl | (simp; done) | (simp [*]; done)), (by first | rfl | (simp; done) | (simp [*]; done)), H', ⟨Nat.le_refl _⟩, ⟨by first | exact Kd.R_nil _ _ _ _ _ | exact Kd.N_nil _ _ _ _ _ | exact Kd.V_nil _ _ _ _ _ | exact Kd.Q_nil _ _ _ _ _ | exact Kd.S_nil _ _ _ _ _⟩, ⟨by exact XPrint.bz HB.out⟩⟩
  case round =>
   clear H'
   try clear c2
   try clear c2b0
   try clear c2b1
   try clear p2
   obtain ⟨x3_1, x4_1, x5_1, rfl, rfl, HA, HK1, HO_4, HB⟩ := hrel
   cases gk with
   | zero => exact absurd HA.out (by simp [liverylaw06_LexNumbers.l0])
   | succ k1 =>
    have H := HA.out
    clear HA
    simp only [liverylaw06_LexNumbers.l0] at H
    by_cases c5 : x5_1 < (l0.length : Int)
    ·rw [if_pos c5] at H
     have c5b0 : decide (x5_1 < (l0.length : Int)) = true := decide_eq_true c5
     clear c5
     by_cases c6 : 0 ≤ x5_1
     ·rw [if_pos c6] at H
      have c6b0 : decide (0 ≤ x5_1) = true := decide_eq_true c6
      clear c6
      by_cases c7 : x4_1.length < 17592186044416
      ·rw [if_pos c7] at H
       have LMc7 := XPrint.A0 c7
       clear c7
       obtain ⟨y137, hy137⟩ : ∃ y_ : List Int, y_ = (x4_1 ++ [wrap64 (Int.tmod (rd l0 x5_1) 1099511627777)]) := ⟨_, rfl⟩
       replace H : ((liverylaw06_digits.f k1 (wrap64 (Int.tmod (rd l0 x5_1) 1099511627777))).bind fun t140 => ((lex_Number.f k1 t140).bind fun bt141 => (if 1 + t140.size ≤ 9223372036854775807 then ((lex_Number.f k1 ((⟨#[48]⟩ : ByteArray) ++ t140)).bind fun bt143 => (if bt141.2 = true then (if bt141.1 = (wrap64 (Int.tmod (rd l0 x5_1) 1099511627777)) then (if bt143.2 = true then (none) else ((lex_Word.f t140).bind fun t145 => (if t145 = true then (none) else (if x3_1.size + t140.size ≤ 9223372036854775807 then (if (x3_1 ++ t140).size + 1 ≤ 9223372036854775807 then (liverylaw06_LexNumbers.l0 k1 l0 ((x3_1 ++ t140) ++ (⟨#[32]⟩ : ByteArray)) y137 (wrap64 (x5_1 + 1))) else (none)) else (none))))) else (none)) else (none))) else (none)))) = some r := by first | (rw [hy137]; with_reducible exact H) | (have H2_ := (Option.bind_some _ _).symm.trans H; rw [hy137]; with_reducible exact H2_) | (have H2_ := (Option.bind_some _ _).symm.trans H; with_reducible exact H2_) | with_reducible exact H | (rw [hy137]; exact H) | exact H
       have Ny137 := XPrint.A0 hy137
       clear hy137
       replace H := Option.bind_eq_some_iff.mp H
       obtain ⟨t140, A80, H⟩ := H
       try set_option simprocs false in dsimp only at H
       have A8 := XPrint.A0 A80
       clear A80
       replace H := Option.bind_eq_some_iff.mp H
       obtain ⟨⟨t141, t142⟩, A90, H⟩ := H
       replace H : (if 1 + t140.size ≤ 9223372036854775807 then ((lex_Number.f k1 ((⟨#[48]⟩ : ByteArray) ++ t140)).bind fun bt143 => (if t142 = true then (if t141 = (wrap64 (Int.tmod (rd l0 x5_1) 1099511627777)) then (if bt143.2 = true then (none) else ((lex_Word.f t140).bind fun t145 => (if t145 = true then (none) else (if x3_1.size + t140.size ≤ 9223372036854775807 then (if (x3_1 ++ t140).size + 1 ≤ 9223372036854775807 then (liverylaw06_LexNumbers.l0 k1 l0 ((x3_1 ++ t140) ++ (⟨#[32]⟩ : ByteArray)) y137 (wrap64 (x5_1 + 1))) else (none)) else (none))))) else (none)) else (none))) else (none)) = some r := H
       have A9 := XPrint.A0 A90
       clear A90
       by_cases c10 : 1 + t140.size ≤ 9223372036854775807
       ·rw [if_pos c10] at H
        have c10b0 := eq_true c10
        have c10b1 : decide (1 + t140.size ≤ 9223372036854775807) = true := decide_eq_true c10
        try have c10b2 : (9223372036854775807 < 1 + t140.size) = False := eq_false (Nat.not_lt.2 c10)
        replace H := Option.bind_eq_some_iff.mp H
        obtain ⟨⟨t143, t144⟩, A110, H⟩ := H
        replace H : (if t142 = true then (if t141 = (wrap64 (Int.tmod (rd l0 x5_1) 1099511627777)) then (if t144 = true then (none) else ((lex_Word.f t140).bind fun t145 => (if t145 = true then (none) else (if x3_1.size + t140.size ≤ 9223372036854775807 then (if (x3_1 ++ t140).size + 1 ≤ 9223372036854775807 then (liverylaw06_LexNumbers.l0 k1 l0 ((x3_1 ++ t140) ++ (⟨#[32]⟩ : ByteArray)) y137 (wrap64 (x5_1 + 1))) else (none)) else (none))))) else (none)) else (none)) = some r := H
        have A11 := XPrint.A0 A110
        clear A110
        by_cases c12 : t142 = true
        ·subst c12
         have H1 := H; rw [if_pos rfl] at H1
         clear H
         have H := H1
         clear H1
         by_cases c13 : t141 = (wrap64 (Int.tmod (rd l0 x5_1) 1099511627777))
         ·rw [if_pos c13] at H
          have c13b0 : (t141 == (wrap64 (Int.tmod (rd l0 x5_1) 1099511627777))) = true := beq_iff_eq.mpr c13
          have c13b1 : (t141 != (wrap64 (Int.tmod (rd l0 x5_1) 1099511627777))) = false := bne_eq_false_iff_eq.mpr c13
          clear c13
          by_cases c14 : t144 = true
          ·subst c14
           have H1 := H; rw [if_pos rfl] at H1
           clear H
           have H := H1
           clear H1
           exact absurd H (by simp)
          ·replace c14 := Bool.eq_false_iff.mpr c14
           subst c14
           have H1 := H; rw [if_neg (show ¬ (false = true) by decide)] at H1
           clear H
           have H := H1
           clear H1
           replace H := Option.bind_eq_some_iff.mp H
           obtain ⟨t145, A150, H⟩ := H
           try set_option simprocs false in dsimp only at H
           have A15 := XPrint.A0 A150
           clear A150
           by_cases c16 : t145 = true
           ·subst c16
            have H1 := H; rw [if_pos rfl] at H1
            clear H
            have H := H1
            clear H1
            exact absurd H (by simp)
           ·replace c16 := Bool.eq_false_iff.mpr c16
            subst c16
            have H1 := H; rw [if_neg (show ¬ (false = true) by decide)] at H1
            clear H
            have H := H1
            clear H1
            by_cases c17 : x3_1.size + t140.size ≤ 9223372036854775807
            ·rw [if_pos c17] at H
             have c17b0 := eq_true c17
             have c17b1 : decide (x3_1.size + t140.size ≤ 9223372036854775807) = true := decide_eq_true c17
             try have c17b2 : (9223372036854775807 < x3_1.size + t140.size) = False := eq_false (Nat.not_lt.2 c17)
             by_cases c18 : (x3_1 ++ t140).size + 1 ≤ 9223372036854775807
             ·rw [if_pos c18] at H
              have c18b0 := eq_true c18
              have c18b1 : decide ((x3_1 ++ t140).size + 1 ≤ 9223372036854775807) = true := decide_eq_true c18
              try have c18b2 : (9223372036854775807 < (x3_1 ++ t140).size + 1) = False := eq_false (Nat.not_lt.2 c18)
              have c18b3 : (9223372036854775807 ≤ (x3_1 ++ t140).size) = False := eq_false (by have := c18; omega)
              have c18b4 := c18; simp only [ByteArray.size_append] at c18b4; try have c18b5 := eq_false (Nat.not_lt.2 c18b4)
              have H' := XPrint.A0 H
              clear H
              have p136 : 0 ≤ (x5_1 : Int) := of_decide_eq_true (by first | (with_reducible assumption) | assumption)
              have q136 : x5_1 < (l0.length : Int) := of_decide_eq_true (by first | (with_reducible assumption) | assumption)
              obtain ⟨ad136, e136, hx136_0⟩ := Kd.at_int HR0.out x5_1 p136 q136
              cases e136
              replace hx136_0 := (HB.out.cell (World.block_lt_of_cell? w _ hx136_0)).trans hx136_0
              replace p136 := eq_true p136
              replace q136 := eq_true q136
              go_wp2_with (first | ((with_reducible refine gate_builtin (b := .append) (xs := #[.tmp 34, .tmp 36]) rfl ?_); (try (refine gate_guard (by rfl) ?_; dsimp only)); at_builtin; refine Kd.R_append (Kd.int .i64) (w0 := w) w.heap.size rfl (.tmp 34) (.tmp 36) 36 2 (.int .i64 0) 8 rfl Tryd.underlying36 info2 rfl (by decide) (by omega) u4 x4_1 (wrap64 (Int.tmod (rd l0 x5_1) 1099511627777)) [.int .i64 (wrap64 (Int.tmod (rd l0 x5_1) 1099511627777))] (fun _ => True) (fun _ => False) rfl rfl ?aP (fun _ hk => hk.elim) ?aF ?aO ?aB ?aS ?aL ?_; (case aP => exact rfl); (case aB => exact (by exact XPrint.bz HB.out)); (case aF => exact (fun _ _ => trivial)); (case aO => exact (by (with_reducible repeat (first | apply Kd.R_alloc | apply Kd.R_drewN | apply Kd.R_drew)); exact HO_4.out)); (case aS => exact (below_size (by exact XPrint.bz HB.out))); (case aL => have := LMc7.out; omega); intro v138 w19 ho hb hg hat; rw [← Ny137.out] at ho; have HO139 := XPrint.A0 (ho); replace HB := XPrint.A0 (hb); clear HO_4; clear ho hb hg hat) | (go_at_call 14; (with_reducible refine (liverylaw06_digits.calls k1 (wrap64 (Int.tmod (rd l0 x5_1) 1099511627777)) t140 _ A8.out).mono ?_); rintro e w20 ⟨rfl, hb⟩; replace HO139 := XPrint.A0 (XPrint.rb HO139.out hb); replace HB := XPrint.A0 (below_step (by exact XPrint.bz HB.out) hb); (try clear hb); (try clear hb2); (try clear hk); (try clear hi)) | (go_at_call 15; (with_reducible refine (lex_Number.calls k1 t140 t141 true _ A9.out).mono ?_); rintro e w' ⟨rfl, ⟨nd, rfl⟩⟩; (try first | exact ⟨rfl, _, World.drewN_drewN _ _ _⟩ | exact ⟨rfl, _, Eq.trans (World.drewN_drewN _ _ _) (congrArg (World.drewN _) (Nat.add_assoc _ _ _))⟩)) | (go_at_call 15; (with_reducible refine (lex_Number.calls k1 ((⟨#[48]⟩ : ByteArray) ++ t140) t143 false _ A11.out).mono ?_); rintro e w' ⟨rfl, ⟨nd, rfl⟩⟩; (try first | exact ⟨rfl, _, World.drewN_drewN _ _ _⟩ | exact ⟨rfl, _, Eq.trans (World.drewN_drewN _ _ _) (congrArg (World.drewN _) (Nat.add_assoc _ _ _))⟩)) | (go_at_call 16; (with_reducible refine (lex_Word.calls t140 false _ A15.out).mono ?_); rintro e w21 ⟨rfl, hb⟩; replace HO139 := XPrint.A0 (XPrint.rb HO139.out hb); replace HB := XPrint.A0 (below_step (by exact XPrint.bz HB.out) hb); (try clear hb); (try clear hb2); (try clear hk); (try clear hi)))
              repeat (go_quiet (first | ((with_reducible refine gate_builtin (b := .append) (xs := #[.tmp 34, .tmp 36]) rfl ?_); (try (refine gate_guard (by rfl) ?_; dsimp only)); at_builtin; refine Kd.R_append (Kd.int .i64) (w0 := w) w.heap.size rfl (.tmp 34) (.tmp 36) 36 2 (.int .i64 0) 8 rfl Tryd.underlying36 info2 rfl (by decide) (by omega) u4 x4_1 (wrap64 (Int.tmod (rd l0 x5_1) 1099511627777)) [.int .i64 (wrap64 (Int.tmod (rd l0 x5_1) 1099511627777))] (fun _ => True) (fun _ => False) rfl rfl ?aP (fun _ hk => hk.elim) ?aF ?aO ?aB ?aS ?aL ?_; (case aP => exact rfl); (case aB => exact (by exact XPrint.bz HB.out)); (case aF => exact (fun _ _ => trivial)); (case aO => exact (by (with_reducible repeat (first | apply Kd.R_alloc | apply Kd.R_drewN | apply Kd.R_drew)); exact HO_4.out)); (case aS => exact (below_size (by exact XPrint.bz HB.out))); (case aL => have := LMc7.out; omega); intro v138 w19 ho hb hg hat; rw [← Ny137.out] at ho; have HO139 := XPrint.A0 (ho); replace HB := XPrint.A0 (hb); clear HO_4; clear ho hb hg hat) | (go_at_call 14; (with_reducible refine (liverylaw06_digits.calls k1 (wrap64 (Int.tmod (rd l0 x5_1) 1099511627777)) t140 _ A8.out).mono ?_); rintro e w20 ⟨rfl, hb⟩; replace HO139 := XPrint.A0 (XPrint.rb HO139.out hb); replace HB := XPrint.A0 (below_step (by exact XPrint.bz HB.out) hb); (try clear hb); (try clear hb2); (try clear hk); (try clear hi)) | (go_at_call 15; (with_reducible refine (lex_Number.calls k1 t140 t141 true _ A9.out).mono ?_); rintro e w' ⟨rfl, ⟨nd, rfl⟩⟩; (try first | exact ⟨rfl, _, World.drewN_drewN _ _ _⟩ | exact ⟨rfl, _, Eq.trans (World.drewN_drewN _ _ _) (congrArg (World.drewN _) (Nat.add_assoc _ _ _))⟩)) | (go_at_call 15; (with_reducible refine (lex_Number.calls k1 ((⟨#[48]⟩ : ByteArray) ++ t140) t143 false _ A11.out).mono ?_); rintro e w' ⟨rfl, ⟨nd, rfl⟩⟩; (try first | exact ⟨rfl, _, World.drewN_drewN _ _ _⟩ | exact ⟨rfl, _, Eq.trans (World.drewN_drewN _ _ _) (congrArg (World.drewN _) (Nat.add_assoc _ _ _))⟩)) | (go_at_call 16; (with_reducible refine (lex_Word.calls t140 false _ A15.out).mono ?_); rintro e w21 ⟨rfl, hb⟩; replace HO139 := XPrint.A0 (XPrint.rb HO139.out hb); replace HB := XPrint.A0 (below_step (by exact XPrint.bz HB.out) hb); (try clear hb); (try clear hb2); (try clear hk); (try clear hi))); try go_wp2_with (first | ((with_reducible refine gate_builtin (b := .append) (xs := #[.tmp 34, .tmp 36]) rfl ?_); (try (refine gate_guard (by rfl) ?_; dsimp only)); at_builtin; refine Kd.R_append (Kd.int .i64) (w0 := w) w.heap.size rfl (.tmp 34) (.tmp 36) 36 2 (.int .i64 0) 8 rfl Tryd.underlying36 info2 rfl (by decide) (by omega) u4 x4_1 (wrap64 (Int.tmod (rd l0 x5_1) 1099511627777)) [.int .i64 (wrap64 (Int.tmod (rd l0 x5_1) 1099511627777))] (fun _ => True) (fun _ => False) rfl rfl ?aP (fun _ hk => hk.elim) ?aF ?aO ?aB ?aS ?aL ?_; (case aP => exact rfl); (case aB => exact (by exact XPrint.bz HB.out)); (case aF => exact (fun _ _ => trivial)); (case aO => exact (by (with_reducible repeat (first | apply Kd.R_alloc | apply Kd.R_drewN | apply Kd.R_drew)); exact HO_4.out)); (case aS => exact (below_size (by exact XPrint.bz HB.out))); (case aL => have := LMc7.out; omega); intro v138 w19 ho hb hg hat; rw [← Ny137.out] at ho; have HO139 := XPrint.A0 (ho); replace HB := XPrint.A0 (hb); clear HO_4; clear ho hb hg hat) | (go_at_call 14; (with_reducible refine (liverylaw06_digits.calls k1 (wrap64 (Int.tmod (rd l0 x5_1) 1099511627777)) t140 _ A8.out).mono ?_); rintro e w20 ⟨rfl, hb⟩; replace HO139 := XPrint.A0 (XPrint.rb HO139.out hb); replace HB := XPrint.A0 (below_step (by exact XPrint.bz HB.out) hb); (try clear hb); (try clear hb2); (try clear hk); (try clear hi)) | (go_at_call 15; (with_reducible refine (lex_Number.calls k1 t140 t141 true _ A9.out).mono ?_); rintro e w' ⟨rfl, ⟨nd, rfl⟩⟩; (try first | exact ⟨rfl, _, World.drewN_drewN _ _ _⟩ | exact ⟨rfl, _, Eq.trans (World.drewN_drewN _ _ _) (congrArg (World.drewN _) (Nat.add_assoc _ _ _))⟩)) | (go_at_call 15; (with_reducible refine (lex_Number.calls k1 ((⟨#[48]⟩ : ByteArray) ++ t140) t143 false _ A11.out).mono ?_); rintro e w' ⟨rfl, ⟨nd, rfl⟩⟩; (try first | exact ⟨rfl, _, World.drewN_drewN _ _ _⟩ | exact ⟨rfl, _, Eq.trans (World.drewN_drewN _ _ _) (congrArg (World.drewN _) (Nat.add_assoc _ _ _))⟩)) | (go_at_call 16; (with_reducible refine (lex_Word.calls t140 false _ A15.out).mono ?_); rintro e w21 ⟨rfl, hb⟩; replace HO139 := XPrint.A0 (XPrint.rb HO139.out hb); replace HB := XPrint.A0 (below_step (by exact XPrint.bz HB.out) hb); (try clear hb); (try clear hb2); (try clear hk); (try clear hi))))
              go_roundg k1
              case measure => have := HK1.out; omega
              case rel => exact ⟨((x3_1 ++ t140) ++ (⟨#[32]⟩ : ByteArray)), (y137), (wrap64 (x5_1 + 1)), (by first | rfl | (simp; done) | (simp [*]; done)), (by first | rfl | (simp; done) | (simp [*]; done)), H', ⟨by have := HK1.out; omega⟩, ⟨by (with_reducible repeat (first | apply Kd.R_alloc | apply Kd.R_drewN | apply Kd.R_drew)); exact HO139.out⟩, ⟨by exact XPrint.bz HB.out⟩⟩
             ·rw [if_neg c18] at H
              exact absurd H (by simp)
            ·rw [if_neg c17] at H
             exact absurd H (by simp)
         ·rw [if_neg c13] at H
          exact absurd H (by simp)
        ·replace c12 := Bool.eq_false_iff.mpr c12
         subst c12
         have H1 := H; rw [if_neg (show ¬ (false = true) by decide)] at H1
         clear H
         have H := H1
         clear H1
         exact absurd H (by simp)
       ·rw [if_neg c10] at H
        exact absurd H (by simp)
      ·rw [if_neg c7] at H
       exact absurd H (by simp)
     ·rw [if_neg c6] at H
      exact absurd H (by simp)
    ·rw [if_neg c5] at H
     have c5b0 : decide (x5_1 < (l0.length : Int)) = false := decide_eq_false c5
     clear c5
     replace H := Option.bind_eq_some_iff.mp H
     obtain ⟨⟨t146, t147, t148⟩, A220, H⟩ := H
     replace H : (if t148 = 0 then (liverylaw06_LexNumbers.j1 k1 x4_1 t146 ((t146.length : Int) != (x4_1.length : Int))) else (none)) = some r := H
     have A22 := XPrint.A0 A220
     clear A220
     have HC23 := XPrint.A0 H
     clear H
     go_upto_region 17 with (first | (go_at_call 9; (with_reducible refine (lex_Lex.calls x3_1 t146 t147 t148 _ A22.out).mono ?_); rintro e w24 ⟨v149, rfl, ho0, hb⟩; have n0_ := XPrint.A0 (Kd.R_below (by (with_reducible repeat (first | apply Kd.R_alloc | apply Kd.R_drewN | apply Kd.R_drew)); exact HO_4.out) hb); have n1_ := XPrint.A0 (Kd.R_lower ho0 (below_size (by exact XPrint.bz HB.out))); have n2_ := XPrint.A0 (below_step (by exact XPrint.bz HB.out) hb); clear HO_4; clear HB; have HO_4 := n0_; have HO150 := n1_; have HB := n2_; clear n0_ n1_ n2_; (try clear hb); (try clear hb2); (try clear hk); (try clear hi); (try clear ho0)))
     repeat (go_quiet (first | (go_at_call 9; (with_reducible refine (lex_Lex.calls x3_1 t146 t147 t148 _ A22.out).mono ?_); rintro e w24 ⟨v149, rfl, ho0, hb⟩; have n0_ := XPrint.A0 (Kd.R_below (by (with_reducible repeat (first | apply Kd.R_alloc | apply Kd.R_drewN | apply Kd.R_drew)); exact HO_4.out) hb); have n1_ := XPrint.A0 (Kd.R_lower ho0 (below_size (by exact XPrint.bz HB.out))); have n2_ := XPrint.A0 (below_step (by exact XPrint.bz HB.out) hb); clear HO_4; clear HB; have HO_4 := n0_; have HO150 := n1_; have HB := n2_; clear n0_ n1_ n2_; (try clear hb); (try clear hb2); (try clear hk); (try clear hi); (try clear ho0))); go_upto_region 17 with (first | (go_at_call 9; (with_reducible refine (lex_Lex.calls x3_1 t146 t147 t148 _ A22.out).mono ?_); rintro e w24 ⟨v149, rfl, ho0, hb⟩; have n0_ := XPrint.A0 (Kd.R_below (by (with_reducible repeat (first | apply Kd.R_alloc | apply Kd.R_drewN | apply Kd.R_drew)); exact HO_4.out) hb); have n1_ := XPrint.A0 (Kd.R_lower ho0 (below_size (by exact XPrint.bz HB.out))); have n2_ := XPrint.A0 (below_step (by exact XPrint.bz HB.out) hb); clear HO_4; clear HB; have HO_4 := n0_; have HO150 := n1_; have HB := n2_; clear n0_ n1_ n2_; (try clear hb); (try clear hb2); (try clear hk); (try clear hi); (try clear ho0))))
     (try simp only [XPrint.pw])
     go_cut [83] (fun v83 wc => ∃ (kq : Nat) (x83_22 : Bool), v83 = .bool x83_22 ∧ Aside0 (liverylaw06_LexNumbers.j1 kq x4_1 t146 x83_22 = some r) ∧ Aside0 (kq ≤ k1) ∧ Aside0 (Kd.R (Kd.int .i64) 2 wc w.heap.size (fun _ => True) u4 x4_1) ∧ Aside0 (Kd.R k30 30 wc w.heap.size (fun _ => True) v149 t146) ∧ Aside0 (Below w.heap.size w wc))
     case first =>
      have H := HC23.out
      clear HC23
      by_cases c25 : t148 = 0
      ·rw [if_pos c25] at H
       have c25b0 : (t148 == 0) = true := beq_iff_eq.mpr c25
       have c25b1 : (t148 != 0) = false := bne_eq_false_iff_eq.mpr c25
       clear c25
       (first | rw [c25b0] | (simp only [i64_w, i32_w]; rw [c25b0]) | skip)
       have H' := XPrint.A0 H
       clear H
       obtain ⟨Ao26, co26, eo26⟩ := Kd.R_slice HO150.out
       subst eo26
       obtain ⟨Ao27, co27, eo27⟩ := Kd.R_slice HO_4.out
       subst eo27
       go_wp2
       repeat (go_quiet (fail); try go_wp2)
       go_meet
       case rel => exact ⟨_, (((t146.length : Int) != (x4_1.length : Int))), (by first | rfl | (simp; done) | (simp [*]; done)), H', ⟨by have := HK1.out; first | omega | exact Nat.le_refl _⟩, ⟨by (with_reducible repeat (first | apply Kd.R_alloc | apply Kd.R_drewN | apply Kd.R_drew)); exact HO_4.out⟩, ⟨by (with_reducible repeat (first | apply Kd.R_alloc | apply Kd.R_drewN | apply Kd.R_drew)); exact HO150.out⟩, ⟨by exact XPrint.bz HB.out⟩⟩
      ·rw [if_neg c25] at H
       exact absurd H (by simp)
     case rest =>
      clear HC23
      try clear c1
      try clear p1
      try clear q1
      try clear hx1
      try clear c2
      try clear c2b0
      try clear c2b1
      try clear p2
      try clear c5
      try clear c5b0
      try clear c6
      try clear c6b0
      try clear p6
      try clear c7
      try clear c10
      try clear c10b0
      try clear c10b1
      try clear c10b2
      try clear c12
      try clear c13
      try clear c13b0
      try clear c13b1
      try clear p13
      try clear q13
      try clear hx13
      try clear c14
      try clear c16
      try clear c17
      try clear c17b0
      try clear c17b1
      try clear c17b2
      try clear c18
      try clear c18b0
      try clear c18b1
      try clear c18b2
      try clear c25
      try clear c25b0
      try clear c25b1
      try clear hx136_0
      try clear p136
      try clear p2
      try clear q136
      obtain ⟨kq, x83_22, rfl, HA, HJ22, HO_4, HO_12, HB⟩ := hcut
      cases kq with
      | zero => exact absurd HA.out (by simp [liverylaw06_LexNumbers.j1])
      | succ kj22 =>
       have H := HA.out
       clear HA
       simp only [liverylaw06_LexNumbers.j1] at H
       by_cases c28 : x83_22 = true
       ·subst c28
        have H1 := H; rw [if_pos rfl] at H1
        clear H
        have H := H1
        clear H1
        exact absurd H (by simp)
       ·replace c28 := Bool.eq_false_iff.mpr c28
        subst c28
        have H1 := H; rw [if_neg (show ¬ (false = true) by decide)] at H1
        clear H
        have H := H1
        clear H1
        have H' := XPrint.A0 H
        clear H
        go_wp2
        repeat (go_quiet (fail); try go_wp2)
        go_loopg [15] kj22 (fun kq v15 w' => ∃ (x15_3 : Int), v15 = .int .i64 x15_3 ∧ Aside0 (liverylaw06_LexNumbers.l1 kq x4_1 t146 x15_3 = some r) ∧ Aside0 (kq ≤ kj22) ∧ Aside0 (Kd.R (Kd.int .i64) 2 w' w.heap.size (fun _ => True) u4 x4_1) ∧ Aside0 (Kd.R k30 30 w' w.heap.size (fun _ => True) v149 t146) ∧ Aside0 (Below w.heap.size w w'))
        case atStart => exact ⟨(0), (by first | rfl | (simp; done) | (simp [*]; done)), H', ⟨Nat.le_refl _⟩, ⟨by (with_reducible repeat (first | apply Kd.R_alloc | apply Kd.R_drewN | apply Kd.R_drew)); exact HO_4.out⟩, ⟨by (with_reducible repeat (first | apply Kd.R_alloc | apply Kd.R_drewN | apply Kd.R_drew)); exact HO_12.out⟩, ⟨by exact XPrint.bz HB.out⟩⟩
        case round =>
         clear H'
         try clear c1
         try clear p1
         try clear q1
         try clear hx1
         try clear c2
         try clear c2b0
         try clear c2b1
         try clear p2
         try clear c5
         try clear c5b0
         try clear c6
         try clear c6b0
         try clear p6
         try clear c7
         try clear c10
         try clear c10b0
         try clear c10b1
         try clear c10b2
         try clear c12
         try clear c13
         try clear c13b0
         try clear c13b1
         try clear p13
         try clear q13
         try clear hx13
         try clear c14
         try clear c16
         try clear c17
         try clear c17b0
         try clear c17b1
         try clear c17b2
         try clear c18
         try clear c18b0
         try clear c18b1
         try clear c18b2
         try clear c25
         try clear c25b0
         try clear c25b1
         try clear c28
         try clear hx136_0
         try clear p1
         try clear p13
         try clear p136
         try clear p2
         try clear p6
         try clear q1
         try clear q13
         try clear q136
         obtain ⟨x15_3, rfl, HA, HK3, HO_4, HO_12, HB⟩ := hrel
         cases gk with
         | zero => exact absurd HA.out (by simp [liverylaw06_LexNumbers.l1])
         | succ k3 =>
          have H := HA.out
          clear HA
          simp only [liverylaw06_LexNumbers.l1] at H
          by_cases c29 : x15_3 < (t146.length : Int)
          ·rw [if_pos c29] at H
           have c29b0 : decide (x15_3 < (t146.length : Int)) = true := decide_eq_true c29
           clear c29
           by_cases c30 : 0 ≤ x15_3
           ·rw [if_pos c30] at H
            have c30b0 : decide (0 ≤ x15_3) = true := decide_eq_true c30
            clear c30
            by_cases c31 : ((rd_T30 t146 x15_3).f0) = 1
            ·rw [if_pos c31] at H
             have c31b0 : (((rd_T30 t146 x15_3).f0) == 1) = true := beq_iff_eq.mpr c31
             have c31b1 : (((rd_T30 t146 x15_3).f0) != 1) = false := bne_eq_false_iff_eq.mpr c31
             clear c31
             by_cases c32 : x15_3 < (x4_1.length : Int)
             ·rw [if_pos c32] at H
              have c32b0 : decide (x15_3 < (x4_1.length : Int)) = true := decide_eq_true c32
              clear c32
              by_cases c33 : ((rd_T30 t146 x15_3).f2) = (rd x4_1 x15_3)
              ·rw [if_pos c33] at H
               have c33b0 : (((rd_T30 t146 x15_3).f2) == (rd x4_1 x15_3)) = true := beq_iff_eq.mpr c33
               have c33b1 : (((rd_T30 t146 x15_3).f2) != (rd x4_1 x15_3)) = false := bne_eq_false_iff_eq.mpr c33
               clear c33
               have H' := XPrint.A0 H
               clear H
               obtain ⟨Ao34, co34, eo34⟩ := Kd.R_slice HO_12.out
               subst eo34
               have p151 : 0 ≤ (x15_3 : Int) := of_decide_eq_true (by first | (with_reducible assumption) | assumption)
               have q151 : x15_3 < (t146.length : Int) := of_decide_eq_true (by first | (with_reducible assumption) | assumption)
               obtain ⟨ad151, e151, hx151_0, hx151_1, hx151_2, hx151_3⟩ := at_T30 (Kd.R_reads' HO_12.out).2.2 x15_3 p151 q151
               cases e151
               replace p151 := eq_true p151
               replace q151 := eq_true q151
               have p152 : 0 ≤ (x15_3 : Int) := of_decide_eq_true (by first | (with_reducible assumption) | assumption)
               have q152 : x15_3 < (t146.length : Int) := of_decide_eq_true (by first | (with_reducible assumption) | assumption)
               obtain ⟨ad152, e152, hx152_0, hx152_1, hx152_2, hx152_3⟩ := at_T30 (Kd.R_reads' HO_12.out).2.2 x15_3 p152 q152
               obtain rfl : ad151 = ad152 := (by injection e152)
               replace p152 := eq_true p152
               replace q152 := eq_true q152
               obtain ⟨Ao35, co35, eo35⟩ := Kd.R_slice HO_4.out
               subst eo35
               have p153 : 0 ≤ (x15_3 : Int) := of_decide_eq_true (by first | (with_reducible assumption) | assumption)
               have q153 : x15_3 < (x4_1.length : Int) := of_decide_eq_true (by first | (with_reducible assumption) | assumption)
               obtain ⟨ad153, e153, hx153_0⟩ := Kd.at_int (Kd.R_reads' HO_4.out).2.2 x15_3 p153 q153
               cases e153
               replace p153 := eq_true p153
               replace q153 := eq_true q153
               go_wp2
               repeat (go_quiet (fail); try go_wp2)
               go_roundg k3
               case measure => have := HK1.out; have := HJ22.out; have := HK3.out; omega
               case rel => exact ⟨(wrap64 (x15_3 + 1)), (by first | rfl | (simp; done) | (simp [*]; done)), H', ⟨by have := HK1.out; have := HJ22.out; have := HK3.out; omega⟩, ⟨by (with_reducible repeat (first | apply Kd.R_alloc | apply Kd.R_drewN | apply Kd.R_drew)); exact HO_4.out⟩, ⟨by (with_reducible repeat (first | apply Kd.R_alloc | apply Kd.R_drewN | apply Kd.R_drew)); exact HO_12.out⟩, ⟨by exact XPrint.bz HB.out⟩⟩
              ·rw [if_neg c33] at H
               exact absurd H (by simp)
             ·rw [if_neg c32] at H
              exact absurd H (by simp)
            ·rw [if_neg c31] at H
             exact absurd H (by simp)
           ·rw [if_neg c30] at H
            exact absurd H (by simp)
          ·rw [if_neg c29] at H
           have c29b0 : decide (x15_3 < (t146.length : Int)) = false := decide_eq_false c29
           clear c29
           replace H := Option.bind_eq_some_iff.mp H
           obtain ⟨t154, A360, H⟩ := H
           try set_option simprocs false in dsimp only at H
           have A36 := XPrint.A0 A360
           clear A360
           replace H := Option.bind_eq_some_iff.mp H
           obtain ⟨⟨t155, t156⟩, A370, H⟩ := H
           replace H : (if t156 = true then (none) else ((liverylaw06_head.f).bind fun t157 => (some t157))) = some r := H
           have A37 := XPrint.A0 A370
           clear A370
           by_cases c38 : t156 = true
           ·subst c38
            have H1 := H; rw [if_pos rfl] at H1
            clear H
            have H := H1
            clear H1
            exact absurd H (by simp)
           ·replace c38 := Bool.eq_false_iff.mpr c38
            subst c38
            have H1 := H; rw [if_neg (show ¬ (false = true) by decide)] at H1
            clear H
            have H := H1
            clear H1
            replace H := Option.bind_eq_some_iff.mp H
            obtain ⟨t157, A390, H⟩ := H
            try set_option simprocs false in dsimp only at H
            have A39 := XPrint.A0 A390
            clear A390
            obtain rfl := Option.some.inj H
            obtain ⟨Ao40, co40, eo40⟩ := Kd.R_slice HO_12.out
            subst eo40
            go_wp2_with (first | (go_at_call 14; (with_reducible refine (liverylaw06_digits.calls k3 1099511627777 t154 _ A36.out).mono ?_); rintro e w41 ⟨rfl, hb⟩; replace HO_4 := XPrint.A0 (Kd.R_below (by (with_reducible repeat (first | apply Kd.R_alloc | apply Kd.R_drewN | apply Kd.R_drew)); exact HO_4.out) hb); replace HO_12 := XPrint.A0 (Kd.R_below (by (with_reducible repeat (first | apply Kd.R_alloc | apply Kd.R_drewN | apply Kd.R_drew)); exact HO_12.out) hb); replace HB := XPrint.A0 (below_step (by exact XPrint.bz HB.out) hb); (try clear hb); (try clear hb2); (try clear hk); (try clear hi)) | (go_at_call 15; (with_reducible refine (lex_Number.calls k3 t154 t155 false _ A37.out).mono ?_); rintro e w' ⟨rfl, ⟨nd, rfl⟩⟩; (try first | exact ⟨rfl, _, World.drewN_drewN _ _ _⟩ | exact ⟨rfl, _, Eq.trans (World.drewN_drewN _ _ _) (congrArg (World.drewN _) (Nat.add_assoc _ _ _))⟩)) | (go_at_call 10; (with_reducible refine (liverylaw06_head.calls  t157 _ A39.out).mono ?_); rintro e w42 ⟨rfl, hb⟩; replace HO_4 := XPrint.A0 (Kd.R_below (by (with_reducible repeat (first | apply Kd.R_alloc | apply Kd.R_drewN | apply Kd.R_drew)); exact HO_4.out) hb); replace HO_12 := XPrint.A0 (Kd.R_below (by (with_reducible repeat (first | apply Kd.R_alloc | apply Kd.R_drewN | apply Kd.R_drew)); exact HO_12.out) hb); replace HB := XPrint.A0 (below_step (by exact XPrint.bz HB.out) hb); (try clear hb); (try clear hb2); (try clear hk); (try clear hi)))
            repeat (go_quiet (first | (go_at_call 14; (with_reducible refine (liverylaw06_digits.calls k3 1099511627777 t154 _ A36.out).mono ?_); rintro e w41 ⟨rfl, hb⟩; replace HO_4 := XPrint.A0 (Kd.R_below (by (with_reducible repeat (first | apply Kd.R_alloc | apply Kd.R_drewN | apply Kd.R_drew)); exact HO_4.out) hb); replace HO_12 := XPrint.A0 (Kd.R_below (by (with_reducible repeat (first | apply Kd.R_alloc | apply Kd.R_drewN | apply Kd.R_drew)); exact HO_12.out) hb); replace HB := XPrint.A0 (below_step (by exact XPrint.bz HB.out) hb); (try clear hb); (try clear hb2); (try clear hk); (try clear hi)) | (go_at_call 15; (with_reducible refine (lex_Number.calls k3 t154 t155 false _ A37.out).mono ?_); rintro e w' ⟨rfl, ⟨nd, rfl⟩⟩; (try first | exact ⟨rfl, _, World.drewN_drewN _ _ _⟩ | exact ⟨rfl, _, Eq.trans (World.drewN_drewN _ _ _) (congrArg (World.drewN _) (Nat.add_assoc _ _ _))⟩)) | (go_at_call 10; (with_reducible refine (liverylaw06_head.calls  t157 _ A39.out).mono ?_); rintro e w42 ⟨rfl, hb⟩; replace HO_4 := XPrint.A0 (Kd.R_below (by (with_reducible repeat (first | apply Kd.R_alloc | apply Kd.R_drewN | apply Kd.R_drew)); exact HO_4.out) hb); replace HO_12 := XPrint.A0 (Kd.R_below (by (with_reducible repeat (first | apply Kd.R_alloc | apply Kd.R_drewN | apply Kd.R_drew)); exact HO_12.out) hb); replace HB := XPrint.A0 (below_step (by exact XPrint.bz HB.out) hb); (try clear hb); (try clear hb2); (try clear hk); (try clear hi))); try go_wp2_with (first | (go_at_call 14; (with_reducible refine (liverylaw06_digits.calls k3 1099511627777 t154 _ A36.out).mono ?_); rintro e w41 ⟨rfl, hb⟩; replace HO_4 := XPrint.A0 (Kd.R_below (by (with_reducible repeat (first | apply Kd.R_alloc | apply Kd.R_drewN | apply Kd.R_drew)); exact HO_4.out) hb); replace HO_12 := XPrint.A0 (Kd.R_below (by (with_reducible repeat (first | apply Kd.R_alloc | apply Kd.R_drewN | apply Kd.R_drew)); exact HO_12.out) hb); replace HB := XPrint.A0 (below_step (by exact XPrint.bz HB.out) hb); (try clear hb); (try clear hb2); (try clear hk); (try clear hi)) | (go_at_call 15; (with_reducible refine (lex_Number.calls k3 t154 t155 false _ A37.out).mono ?_); rintro e w' ⟨rfl, ⟨nd, rfl⟩⟩; (try first | exact ⟨rfl, _, World.drewN_drewN _ _ _⟩ | exact ⟨rfl, _, Eq.trans (World.drewN_drewN _ _ _) (congrArg (World.drewN _) (Nat.add_assoc _ _ _))⟩)) | (go_at_call 10; (with_reducible refine (liverylaw06_head.calls  t157 _ A39.out).mono ?_); rintro e w42 ⟨rfl, hb⟩; replace HO_4 := XPrint.A0 (Kd.R_below (by (with_reducible repeat (first | apply Kd.R_alloc | apply Kd.R_drewN | apply Kd.R_drew)); exact HO_4.out) hb); replace HO_12 := XPrint.A0 (Kd.R_below (by (with_reducible repeat (first | apply Kd.R_alloc | apply Kd.R_drewN | apply Kd.R_drew)); exact HO_12.out) hb); replace HB := XPrint.A0 (below_step (by exact XPrint.bz HB.out) hb); (try clear hb); (try clear hb2); (try clear hk); (try clear hi))))
            go_ret
            exact ⟨by first | rfl | (simp [errW_none, errW_some] <;> rfl) | (simp [*, errW_none, errW_some] <;> rfl), by exact XPrint.bz HB.out⟩

end Go.Proofs.YtfpbapffdnochaaDoor.PLexNumbers
