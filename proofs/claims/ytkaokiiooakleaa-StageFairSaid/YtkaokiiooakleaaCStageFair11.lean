-- printed by this session's own driver over the kit's printer: Lean checks it
import Derived.Test.YtkaokiiooakleaaCStageFair0
import Derived.Test.YtkaokiiooakleaaCStageFair2
import Derived.Test.YtkaokiiooakleaaCStageFair3
import Derived.Test.YtkaokiiooakleaaCStageFair10
namespace Go.Proofs.Ytkaokiiooakleaa.PStageFair
open Go.RowKit Go.Proofs.YtkaokiiooakleaaW.PrintWords Go.Proofs.YtkaokiiooakleaaW.PrintLast Go.Proofs.YtkaokiiooakleaaW.PrintMore
attribute [local go_sem] max2_int min2_int max_two min_two max_three min_three max_four min_four   -- for this text's walks alone
set_option linter.unusedVariables false
set_option linter.unusedSimpArgs false

/-! ### liverylaw18_head: function 46 -/
def liverylaw18_head.f (k : Nat)  : Option (Bool) := (some (([3, 5, 2] : List Int) : List Int)).bind fun y155 => ((stage_Slack.f k 0 20 y155).bind fun bt158 => ((stage_Slack.f k 0 9 y155).bind fun bt160 => ((stage_Split.f k 0 9 y155 2).bind fun bt162 => ((liverylaw18_plan.f).bind fun bt166 => ((stage_Lengths.f k bt166.1 bt166.2.1 bt166.2.2 0).bind fun bt171 => ((liverylaw18_plan.f).bind fun bt175 => ((stage_Lengths.f k bt175.1 bt175.2.1 bt175.2.2 2).bind fun bt180 => ((stage_Split.f k 0 20 y155 3).bind fun bt184 => (if bt158.1 = 10 then (if bt158.2 = 0 then (if bt160.1 = (-1) then (if bt160.2 = 0 then ((liverylaw18_ends.f k y155 20 0 (([13, 18, 20] : List Int))).bind fun t191 => (if t191 = true then ((liverylaw18_ends.f k y155 20 1 (([3, 8, 20] : List Int))).bind fun t195 => (if t195 = true then ((liverylaw18_ends.f k y155 20 2 (([6, 16, 20] : List Int))).bind fun t199 => (if t199 = true then ((liverylaw18_ends.f k (([1, 1, 1] : List Int)) 8 2 (([2, 5, 8] : List Int))).bind fun t206 => (if t206 = true then (if bt162.2 = 210 then ((liveryref17_Same.f k bt171.1 (([10, 5] : List Int))).bind fun t210 => (if t210 = true then (if bt171.2 = 0 then (if bt180.2 = 2 then (some (bt184.2 == 2)) else (none)) else (none)) else (none))) else (none)) else (none))) else (none))) else (none))) else (none))) else (none)) else (none)) else (none)) else (none))))))))))
theorem liverylaw18_head.mono : ∀ k, LeO (liverylaw18_head.f k ) (liverylaw18_head.f (k + 1) ) := by
 intro  k
 unfold liverylaw18_head.f
 repeat' first
   | (with_reducible exact liverylaw18_ends.mono _ _ _ _ _)
   | (with_reducible exact liveryref17_Same.mono _ _ _)
   | (with_reducible exact stage_Lengths.mono _ _ _ _ _)
   | (with_reducible exact stage_Slack.mono _ _ _ _)
   | (with_reducible exact stage_Split.mono _ _ _ _ _)
   | (with_reducible exact LeO.refl _)
   | (with_reducible exact LeO.none _)
   | (with_reducible refine LeO.ite ?_ ?_)
   | (with_reducible refine LeO.bind ?_ (fun _ => ?_))
   | exact liverylaw18_ends.mono _ _ _ _ _
   | exact liveryref17_Same.mono _ _ _
   | exact stage_Lengths.mono _ _ _ _ _
   | exact stage_Slack.mono _ _ _ _
   | exact stage_Split.mono _ _ _ _ _
   | exact LeO.none _
   | refine LeO.ite ?_ ?_
   | refine LeO.bind ?_ (fun _ => ?_)
set_option maxHeartbeats 8000000 in
set_option maxRecDepth 100000 in
theorem liverylaw18_head.calls (k : Nat)  (r : Bool) (w : World) (h : liverylaw18_head.f k  = some r) :
  Calls Try.prog 46 #[] w fun e w' => e = .returned (.bool r) ∧ Below w.heap.size w w' := by
 have hu71 := Try.underlying71
 have HB := XPrint.A0 (Below.refl w.heap.size w)
 have H : ((some (([3, 5, 2] : List Int) : List Int)).bind fun y155 => ((stage_Slack.f k 0 20 y155).bind fun bt158 => ((stage_Slack.f k 0 9 y155).bind fun bt160 => ((stage_Split.f k 0 9 y155 2).bind fun bt162 => ((liverylaw18_plan.f).bind fun bt166 => ((stage_Lengths.f k bt166.1 bt166.2.1 bt166.2.2 0).bind fun bt171 => ((liverylaw18_plan.f).bind fun bt175 => ((stage_Lengths.f k bt175.1 bt175.2.1 bt175.2.2 2).bind fun bt180 => ((stage_Split.f k 0 20 y155 3).bind fun bt184 => (if bt158.1 = 10 then (if bt158.2 = 0 then (if bt160.1 = (-1) then (if bt160.2 = 0 then ((liverylaw18_ends.f k y155 20 0 (([13, 18, 20] : List Int))).bind fun t191 => (if t191 = true then ((liverylaw18_ends.f k y155 20 1 (([3, 8, 20] : List Int))).bind fun t195 => (if t195 = true then ((liverylaw18_ends.f k y155 20 2 (([6, 16, 20] : List Int))).bind fun t199 => (if t199 = true then ((liverylaw18_ends.f k (([1, 1, 1] : List Int)) 8 2 (([2, 5, 8] : List Int))).bind fun t206 => (if t206 = true then (if bt162.2 = 210 then ((liveryref17_Same.f k bt171.1 (([10, 5] : List Int))).bind fun t210 => (if t210 = true then (if bt171.2 = 0 then (if bt180.2 = 2 then (some (bt184.2 == 2)) else (none)) else (none)) else (none))) else (none)) else (none))) else (none))) else (none))) else (none))) else (none)) else (none)) else (none)) else (none))))))))))) = some r := h
 clear h
 obtain ⟨y155, hy155⟩ : ∃ y_ : List Int, y_ = (([3, 5, 2] : List Int)) := ⟨_, rfl⟩
 replace H : ((stage_Slack.f k 0 20 y155).bind fun bt158 => ((stage_Slack.f k 0 9 y155).bind fun bt160 => ((stage_Split.f k 0 9 y155 2).bind fun bt162 => ((liverylaw18_plan.f).bind fun bt166 => ((stage_Lengths.f k bt166.1 bt166.2.1 bt166.2.2 0).bind fun bt171 => ((liverylaw18_plan.f).bind fun bt175 => ((stage_Lengths.f k bt175.1 bt175.2.1 bt175.2.2 2).bind fun bt180 => ((stage_Split.f k 0 20 y155 3).bind fun bt184 => (if bt158.1 = 10 then (if bt158.2 = 0 then (if bt160.1 = (-1) then (if bt160.2 = 0 then ((liverylaw18_ends.f k y155 20 0 (([13, 18, 20] : List Int))).bind fun t191 => (if t191 = true then ((liverylaw18_ends.f k y155 20 1 (([3, 8, 20] : List Int))).bind fun t195 => (if t195 = true then ((liverylaw18_ends.f k y155 20 2 (([6, 16, 20] : List Int))).bind fun t199 => (if t199 = true then ((liverylaw18_ends.f k (([1, 1, 1] : List Int)) 8 2 (([2, 5, 8] : List Int))).bind fun t206 => (if t206 = true then (if bt162.2 = 210 then ((liveryref17_Same.f k bt171.1 (([10, 5] : List Int))).bind fun t210 => (if t210 = true then (if bt171.2 = 0 then (if bt180.2 = 2 then (some (bt184.2 == 2)) else (none)) else (none)) else (none))) else (none)) else (none))) else (none))) else (none))) else (none))) else (none)) else (none)) else (none)) else (none)))))))))) = some r := by first | (rw [hy155]; with_reducible exact H) | (have H2_ := (Option.bind_some _ _).symm.trans H; rw [hy155]; with_reducible exact H2_) | (have H2_ := (Option.bind_some _ _).symm.trans H; with_reducible exact H2_) | with_reducible exact H | (rw [hy155]; exact H) | exact H
 have Ny155 := XPrint.A0 hy155
 clear hy155
 replace H := Option.bind_eq_some_iff.mp H
 obtain ⟨⟨t158, t159⟩, A10, H⟩ := H
 replace H : ((stage_Slack.f k 0 9 y155).bind fun bt160 => ((stage_Split.f k 0 9 y155 2).bind fun bt162 => ((liverylaw18_plan.f).bind fun bt166 => ((stage_Lengths.f k bt166.1 bt166.2.1 bt166.2.2 0).bind fun bt171 => ((liverylaw18_plan.f).bind fun bt175 => ((stage_Lengths.f k bt175.1 bt175.2.1 bt175.2.2 2).bind fun bt180 => ((stage_Split.f k 0 20 y155 3).bind fun bt184 => (if t158 = 10 then (if t159 = 0 then (if bt160.1 = (-1) then (if bt160.2 = 0 then ((liverylaw18_ends.f k y155 20 0 (([13, 18, 20] : List Int))).bind fun t191 => (if t191 = true then ((liverylaw18_ends.f k y155 20 1 (([3, 8, 20] : List Int))).bind fun t195 => (if t195 = true then ((liverylaw18_ends.f k y155 20 2 (([6, 16, 20] : List Int))).bind fun t199 => (if t199 = true then ((liverylaw18_ends.f k (([1, 1, 1] : List Int)) 8 2 (([2, 5, 8] : List Int))).bind fun t206 => (if t206 = true then (if bt162.2 = 210 then ((liveryref17_Same.f k bt171.1 (([10, 5] : List Int))).bind fun t210 => (if t210 = true then (if bt171.2 = 0 then (if bt180.2 = 2 then (some (bt184.2 == 2)) else (none)) else (none)) else (none))) else (none)) else (none))) else (none))) else (none))) else (none))) else (none)) else (none)) else (none)) else (none))))))))) = some r := H
 have A1 := XPrint.A0 A10
 clear A10
 replace H := Option.bind_eq_some_iff.mp H
 obtain ⟨⟨t160, t161⟩, A20, H⟩ := H
 replace H : ((stage_Split.f k 0 9 y155 2).bind fun bt162 => ((liverylaw18_plan.f).bind fun bt166 => ((stage_Lengths.f k bt166.1 bt166.2.1 bt166.2.2 0).bind fun bt171 => ((liverylaw18_plan.f).bind fun bt175 => ((stage_Lengths.f k bt175.1 bt175.2.1 bt175.2.2 2).bind fun bt180 => ((stage_Split.f k 0 20 y155 3).bind fun bt184 => (if t158 = 10 then (if t159 = 0 then (if t160 = (-1) then (if t161 = 0 then ((liverylaw18_ends.f k y155 20 0 (([13, 18, 20] : List Int))).bind fun t191 => (if t191 = true then ((liverylaw18_ends.f k y155 20 1 (([3, 8, 20] : List Int))).bind fun t195 => (if t195 = true then ((liverylaw18_ends.f k y155 20 2 (([6, 16, 20] : List Int))).bind fun t199 => (if t199 = true then ((liverylaw18_ends.f k (([1, 1, 1] : List Int)) 8 2 (([2, 5, 8] : List Int))).bind fun t206 => (if t206 = true then (if bt162.2 = 210 then ((liveryref17_Same.f k bt171.1 (([10, 5] : List Int))).bind fun t210 => (if t210 = true then (if bt171.2 = 0 then (if bt180.2 = 2 then (some (bt184.2 == 2)) else (none)) else (none)) else (none))) else (none)) else (none))) else (none))) else (none))) else (none))) else (none)) else (none)) else (none)) else (none)))))))) = some r := H
 have A2 := XPrint.A0 A20
 clear A20
 replace H := Option.bind_eq_some_iff.mp H
 obtain ⟨⟨t162, t165⟩, A30, H⟩ := H
 replace H : ((liverylaw18_plan.f).bind fun bt166 => ((stage_Lengths.f k bt166.1 bt166.2.1 bt166.2.2 0).bind fun bt171 => ((liverylaw18_plan.f).bind fun bt175 => ((stage_Lengths.f k bt175.1 bt175.2.1 bt175.2.2 2).bind fun bt180 => ((stage_Split.f k 0 20 y155 3).bind fun bt184 => (if t158 = 10 then (if t159 = 0 then (if t160 = (-1) then (if t161 = 0 then ((liverylaw18_ends.f k y155 20 0 (([13, 18, 20] : List Int))).bind fun t191 => (if t191 = true then ((liverylaw18_ends.f k y155 20 1 (([3, 8, 20] : List Int))).bind fun t195 => (if t195 = true then ((liverylaw18_ends.f k y155 20 2 (([6, 16, 20] : List Int))).bind fun t199 => (if t199 = true then ((liverylaw18_ends.f k (([1, 1, 1] : List Int)) 8 2 (([2, 5, 8] : List Int))).bind fun t206 => (if t206 = true then (if t165 = 210 then ((liveryref17_Same.f k bt171.1 (([10, 5] : List Int))).bind fun t210 => (if t210 = true then (if bt171.2 = 0 then (if bt180.2 = 2 then (some (bt184.2 == 2)) else (none)) else (none)) else (none))) else (none)) else (none))) else (none))) else (none))) else (none))) else (none)) else (none)) else (none)) else (none))))))) = some r := H
 have A3 := XPrint.A0 A30
 clear A30
 replace H := Option.bind_eq_some_iff.mp H
 obtain ⟨⟨t166, t167, t168⟩, A40, H⟩ := H
 replace H : ((stage_Lengths.f k t166 t167 t168 0).bind fun bt171 => ((liverylaw18_plan.f).bind fun bt175 => ((stage_Lengths.f k bt175.1 bt175.2.1 bt175.2.2 2).bind fun bt180 => ((stage_Split.f k 0 20 y155 3).bind fun bt184 => (if t158 = 10 then (if t159 = 0 then (if t160 = (-1) then (if t161 = 0 then ((liverylaw18_ends.f k y155 20 0 (([13, 18, 20] : List Int))).bind fun t191 => (if t191 = true then ((liverylaw18_ends.f k y155 20 1 (([3, 8, 20] : List Int))).bind fun t195 => (if t195 = true then ((liverylaw18_ends.f k y155 20 2 (([6, 16, 20] : List Int))).bind fun t199 => (if t199 = true then ((liverylaw18_ends.f k (([1, 1, 1] : List Int)) 8 2 (([2, 5, 8] : List Int))).bind fun t206 => (if t206 = true then (if t165 = 210 then ((liveryref17_Same.f k bt171.1 (([10, 5] : List Int))).bind fun t210 => (if t210 = true then (if bt171.2 = 0 then (if bt180.2 = 2 then (some (bt184.2 == 2)) else (none)) else (none)) else (none))) else (none)) else (none))) else (none))) else (none))) else (none))) else (none)) else (none)) else (none)) else (none)))))) = some r := H
 have A4 := XPrint.A0 A40
 clear A40
 replace H := Option.bind_eq_some_iff.mp H
 obtain ⟨⟨t171, t174⟩, A50, H⟩ := H
 replace H : ((liverylaw18_plan.f).bind fun bt175 => ((stage_Lengths.f k bt175.1 bt175.2.1 bt175.2.2 2).bind fun bt180 => ((stage_Split.f k 0 20 y155 3).bind fun bt184 => (if t158 = 10 then (if t159 = 0 then (if t160 = (-1) then (if t161 = 0 then ((liverylaw18_ends.f k y155 20 0 (([13, 18, 20] : List Int))).bind fun t191 => (if t191 = true then ((liverylaw18_ends.f k y155 20 1 (([3, 8, 20] : List Int))).bind fun t195 => (if t195 = true then ((liverylaw18_ends.f k y155 20 2 (([6, 16, 20] : List Int))).bind fun t199 => (if t199 = true then ((liverylaw18_ends.f k (([1, 1, 1] : List Int)) 8 2 (([2, 5, 8] : List Int))).bind fun t206 => (if t206 = true then (if t165 = 210 then ((liveryref17_Same.f k t171 (([10, 5] : List Int))).bind fun t210 => (if t210 = true then (if t174 = 0 then (if bt180.2 = 2 then (some (bt184.2 == 2)) else (none)) else (none)) else (none))) else (none)) else (none))) else (none))) else (none))) else (none))) else (none)) else (none)) else (none)) else (none))))) = some r := H
 have A5 := XPrint.A0 A50
 clear A50
 replace H := Option.bind_eq_some_iff.mp H
 obtain ⟨⟨t175, t176, t177⟩, A60, H⟩ := H
 replace H : ((stage_Lengths.f k t175 t176 t177 2).bind fun bt180 => ((stage_Split.f k 0 20 y155 3).bind fun bt184 => (if t158 = 10 then (if t159 = 0 then (if t160 = (-1) then (if t161 = 0 then ((liverylaw18_ends.f k y155 20 0 (([13, 18, 20] : List Int))).bind fun t191 => (if t191 = true then ((liverylaw18_ends.f k y155 20 1 (([3, 8, 20] : List Int))).bind fun t195 => (if t195 = true then ((liverylaw18_ends.f k y155 20 2 (([6, 16, 20] : List Int))).bind fun t199 => (if t199 = true then ((liverylaw18_ends.f k (([1, 1, 1] : List Int)) 8 2 (([2, 5, 8] : List Int))).bind fun t206 => (if t206 = true then (if t165 = 210 then ((liveryref17_Same.f k t171 (([10, 5] : List Int))).bind fun t210 => (if t210 = true then (if t174 = 0 then (if bt180.2 = 2 then (some (bt184.2 == 2)) else (none)) else (none)) else (none))) else (none)) else (none))) else (none))) else (none))) else (none))) else (none)) else (none)) else (none)) else (none)))) = some r := H
 have A6 := XPrint.A0 A60
 clear A60
 replace H := Option.bind_eq_some_iff.mp H
 obtain ⟨⟨t180, t183⟩, A70, H⟩ := H
 replace H : ((stage_Split.f k 0 20 y155 3).bind fun bt184 => (if t158 = 10 then (if t159 = 0 then (if t160 = (-1) then (if t161 = 0 then ((liverylaw18_ends.f k y155 20 0 (([13, 18, 20] : List Int))).bind fun t191 => (if t191 = true then ((liverylaw18_ends.f k y155 20 1 (([3, 8, 20] : List Int))).bind fun t195 => (if t195 = true then ((liverylaw18_ends.f k y155 20 2 (([6, 16, 20] : List Int))).bind fun t199 => (if t199 = true then ((liverylaw18_ends.f k (([1, 1, 1] : List Int)) 8 2 (([2, 5, 8] : List Int))).bind fun t206 => (if t206 = true then (if t165 = 210 then ((liveryref17_Same.f k t171 (([10, 5] : List Int))).bind fun t210 => (if t210 = true then (if t174 = 0 then (if t183 = 2 then (some (bt184.2 == 2)) else (none)) else (none)) else (none))) else (none)) else (none))) else (none))) else (none))) else (none))) else (none)) else (none)) else (none)) else (none))) = some r := H
 have A7 := XPrint.A0 A70
 clear A70
 replace H := Option.bind_eq_some_iff.mp H
 obtain ⟨⟨t184, t187⟩, A80, H⟩ := H
 replace H : (if t158 = 10 then (if t159 = 0 then (if t160 = (-1) then (if t161 = 0 then ((liverylaw18_ends.f k y155 20 0 (([13, 18, 20] : List Int))).bind fun t191 => (if t191 = true then ((liverylaw18_ends.f k y155 20 1 (([3, 8, 20] : List Int))).bind fun t195 => (if t195 = true then ((liverylaw18_ends.f k y155 20 2 (([6, 16, 20] : List Int))).bind fun t199 => (if t199 = true then ((liverylaw18_ends.f k (([1, 1, 1] : List Int)) 8 2 (([2, 5, 8] : List Int))).bind fun t206 => (if t206 = true then (if t165 = 210 then ((liveryref17_Same.f k t171 (([10, 5] : List Int))).bind fun t210 => (if t210 = true then (if t174 = 0 then (if t183 = 2 then (some (t187 == 2)) else (none)) else (none)) else (none))) else (none)) else (none))) else (none))) else (none))) else (none))) else (none)) else (none)) else (none)) else (none)) = some r := H
 have A8 := XPrint.A0 A80
 clear A80
 by_cases c9 : t158 = 10
 ·rw [if_pos c9] at H
  have c9b0 : (t158 == 10) = true := beq_iff_eq.mpr c9
  have c9b1 : (t158 != 10) = false := bne_eq_false_iff_eq.mpr c9
  clear c9
  by_cases c10 : t159 = 0
  ·rw [if_pos c10] at H
   have c10b0 : (t159 == 0) = true := beq_iff_eq.mpr c10
   have c10b1 : (t159 != 0) = false := bne_eq_false_iff_eq.mpr c10
   clear c10
   by_cases c11 : t160 = (-1)
   ·rw [if_pos c11] at H
    have c11b0 : (t160 == (-1)) = true := beq_iff_eq.mpr c11
    have c11b1 : (t160 != (-1)) = false := bne_eq_false_iff_eq.mpr c11
    clear c11
    by_cases c12 : t161 = 0
    ·rw [if_pos c12] at H
     have c12b0 : (t161 == 0) = true := beq_iff_eq.mpr c12
     have c12b1 : (t161 != 0) = false := bne_eq_false_iff_eq.mpr c12
     clear c12
     obtain ⟨y188, hy188⟩ : ∃ y_ : List Int, y_ = (([13, 18, 20] : List Int)) := ⟨_, rfl⟩
     replace H : ((liverylaw18_ends.f k y155 20 0 y188).bind fun t191 => (if t191 = true then ((liverylaw18_ends.f k y155 20 1 (([3, 8, 20] : List Int))).bind fun t195 => (if t195 = true then ((liverylaw18_ends.f k y155 20 2 (([6, 16, 20] : List Int))).bind fun t199 => (if t199 = true then ((liverylaw18_ends.f k (([1, 1, 1] : List Int)) 8 2 (([2, 5, 8] : List Int))).bind fun t206 => (if t206 = true then (if t165 = 210 then ((liveryref17_Same.f k t171 (([10, 5] : List Int))).bind fun t210 => (if t210 = true then (if t174 = 0 then (if t183 = 2 then (some (t187 == 2)) else (none)) else (none)) else (none))) else (none)) else (none))) else (none))) else (none))) else (none))) = some r := by first | (rw [hy188]; with_reducible exact H) | (have H2_ := (Option.bind_some _ _).symm.trans H; rw [hy188]; with_reducible exact H2_) | (have H2_ := (Option.bind_some _ _).symm.trans H; with_reducible exact H2_) | with_reducible exact H | (rw [hy188]; exact H) | exact H
     have Ny188 := XPrint.A0 hy188
     clear hy188
     replace H := Option.bind_eq_some_iff.mp H
     obtain ⟨t191, A130, H⟩ := H
     try set_option simprocs false in dsimp only at H
     have A13 := XPrint.A0 A130
     clear A130
     by_cases c14 : t191 = true
     ·subst c14
      have H1 := H; rw [if_pos rfl] at H1
      clear H
      have H := H1
      clear H1
      obtain ⟨y192, hy192⟩ : ∃ y_ : List Int, y_ = (([3, 8, 20] : List Int)) := ⟨_, rfl⟩
      replace H : ((liverylaw18_ends.f k y155 20 1 y192).bind fun t195 => (if t195 = true then ((liverylaw18_ends.f k y155 20 2 (([6, 16, 20] : List Int))).bind fun t199 => (if t199 = true then ((liverylaw18_ends.f k (([1, 1, 1] : List Int)) 8 2 (([2, 5, 8] : List Int))).bind fun t206 => (if t206 = true then (if t165 = 210 then ((liveryref17_Same.f k t171 (([10, 5] : List Int))).bind fun t210 => (if t210 = true then (if t174 = 0 then (if t183 = 2 then (some (t187 == 2)) else (none)) else (none)) else (none))) else (none)) else (none))) else (none))) else (none))) = some r := by first | (rw [hy192]; with_reducible exact H) | (have H2_ := (Option.bind_some _ _).symm.trans H; rw [hy192]; with_reducible exact H2_) | (have H2_ := (Option.bind_some _ _).symm.trans H; with_reducible exact H2_) | with_reducible exact H | (rw [hy192]; exact H) | exact H
      have Ny192 := XPrint.A0 hy192
      clear hy192
      replace H := Option.bind_eq_some_iff.mp H
      obtain ⟨t195, A150, H⟩ := H
      try set_option simprocs false in dsimp only at H
      have A15 := XPrint.A0 A150
      clear A150
      by_cases c16 : t195 = true
      ·subst c16
       have H1 := H; rw [if_pos rfl] at H1
       clear H
       have H := H1
       clear H1
       obtain ⟨y196, hy196⟩ : ∃ y_ : List Int, y_ = (([6, 16, 20] : List Int)) := ⟨_, rfl⟩
       replace H : ((liverylaw18_ends.f k y155 20 2 y196).bind fun t199 => (if t199 = true then ((liverylaw18_ends.f k (([1, 1, 1] : List Int)) 8 2 (([2, 5, 8] : List Int))).bind fun t206 => (if t206 = true then (if t165 = 210 then ((liveryref17_Same.f k t171 (([10, 5] : List Int))).bind fun t210 => (if t210 = true then (if t174 = 0 then (if t183 = 2 then (some (t187 == 2)) else (none)) else (none)) else (none))) else (none)) else (none))) else (none))) = some r := by first | (rw [hy196]; with_reducible exact H) | (have H2_ := (Option.bind_some _ _).symm.trans H; rw [hy196]; with_reducible exact H2_) | (have H2_ := (Option.bind_some _ _).symm.trans H; with_reducible exact H2_) | with_reducible exact H | (rw [hy196]; exact H) | exact H
       have Ny196 := XPrint.A0 hy196
       clear hy196
       replace H := Option.bind_eq_some_iff.mp H
       obtain ⟨t199, A170, H⟩ := H
       try set_option simprocs false in dsimp only at H
       have A17 := XPrint.A0 A170
       clear A170
       by_cases c18 : t199 = true
       ·subst c18
        have H1 := H; rw [if_pos rfl] at H1
        clear H
        have H := H1
        clear H1
        obtain ⟨y200, hy200⟩ : ∃ y_ : List Int, y_ = (([1, 1, 1] : List Int)) := ⟨_, rfl⟩
        replace H : ((liverylaw18_ends.f k y200 8 2 (([2, 5, 8] : List Int))).bind fun t206 => (if t206 = true then (if t165 = 210 then ((liveryref17_Same.f k t171 (([10, 5] : List Int))).bind fun t210 => (if t210 = true then (if t174 = 0 then (if t183 = 2 then (some (t187 == 2)) else (none)) else (none)) else (none))) else (none)) else (none))) = some r := by first | (rw [hy200]; with_reducible exact H) | (have H2_ := (Option.bind_some _ _).symm.trans H; rw [hy200]; with_reducible exact H2_) | (have H2_ := (Option.bind_some _ _).symm.trans H; with_reducible exact H2_) | with_reducible exact H | (rw [hy200]; exact H) | exact H
        have Ny200 := XPrint.A0 hy200
        clear hy200
        obtain ⟨y203, hy203⟩ : ∃ y_ : List Int, y_ = (([2, 5, 8] : List Int)) := ⟨_, rfl⟩
        replace H : ((liverylaw18_ends.f k y200 8 2 y203).bind fun t206 => (if t206 = true then (if t165 = 210 then ((liveryref17_Same.f k t171 (([10, 5] : List Int))).bind fun t210 => (if t210 = true then (if t174 = 0 then (if t183 = 2 then (some (t187 == 2)) else (none)) else (none)) else (none))) else (none)) else (none))) = some r := by first | (rw [hy203]; with_reducible exact H) | (have H2_ := (Option.bind_some _ _).symm.trans H; rw [hy203]; with_reducible exact H2_) | (have H2_ := (Option.bind_some _ _).symm.trans H; with_reducible exact H2_) | with_reducible exact H | (rw [hy203]; exact H) | exact H
        have Ny203 := XPrint.A0 hy203
        clear hy203
        replace H := Option.bind_eq_some_iff.mp H
        obtain ⟨t206, A190, H⟩ := H
        try set_option simprocs false in dsimp only at H
        have A19 := XPrint.A0 A190
        clear A190
        by_cases c20 : t206 = true
        ·subst c20
         have H1 := H; rw [if_pos rfl] at H1
         clear H
         have H := H1
         clear H1
         by_cases c21 : t165 = 210
         ·rw [if_pos c21] at H
          have c21b0 : (t165 == 210) = true := beq_iff_eq.mpr c21
          have c21b1 : (t165 != 210) = false := bne_eq_false_iff_eq.mpr c21
          clear c21
          obtain ⟨y207, hy207⟩ : ∃ y_ : List Int, y_ = (([10, 5] : List Int)) := ⟨_, rfl⟩
          replace H : ((liveryref17_Same.f k t171 y207).bind fun t210 => (if t210 = true then (if t174 = 0 then (if t183 = 2 then (some (t187 == 2)) else (none)) else (none)) else (none))) = some r := by first | (rw [hy207]; with_reducible exact H) | (have H2_ := (Option.bind_some _ _).symm.trans H; rw [hy207]; with_reducible exact H2_) | (have H2_ := (Option.bind_some _ _).symm.trans H; with_reducible exact H2_) | with_reducible exact H | (rw [hy207]; exact H) | exact H
          have Ny207 := XPrint.A0 hy207
          clear hy207
          replace H := Option.bind_eq_some_iff.mp H
          obtain ⟨t210, A220, H⟩ := H
          try set_option simprocs false in dsimp only at H
          have A22 := XPrint.A0 A220
          clear A220
          by_cases c23 : t210 = true
          ·subst c23
           have H1 := H; rw [if_pos rfl] at H1
           clear H
           have H := H1
           clear H1
           by_cases c24 : t174 = 0
           ·rw [if_pos c24] at H
            have c24b0 : (t174 == 0) = true := beq_iff_eq.mpr c24
            have c24b1 : (t174 != 0) = false := bne_eq_false_iff_eq.mpr c24
            clear c24
            by_cases c25 : t183 = 2
            ·rw [if_pos c25] at H
             have c25b0 : (t183 == 2) = true := beq_iff_eq.mpr c25
             have c25b1 : (t183 != 2) = false := bne_eq_false_iff_eq.mpr c25
             clear c25
             obtain rfl := Option.some.inj H
             go_enter Try.func46, Try.ntmps46
             go_wp2_with (first | ((with_reducible refine gate_dst (N := 14) rfl ?_); (try (refine gate_guard (by rfl) ?_; dsimp only)); refine Kd.R_lit (Kd.int .i64) _ 2 ?hg (N := 14) ?hd (xs := ([3, 5, 2] : List Int)) (inner := [.int .i64 3, .int .i64 5, .int .i64 2]) (ok := fun _ => True) (okp := fun _ => True) ?hr ?hp (fun _ hk => hk) trivial (Below.refl _ _) (Nat.le_refl _) (by simp) ?_; (case hd => rfl); (case hg => rfl); (case hr => first | (go_simp; done) | (go_simp; rfl)); (case hp => exact (Reps.one (show Kd.M (Kd.int .i64) _ _ _ 3 [.int .i64 3] from rfl) (Reps.one (show Kd.M (Kd.int .i64) _ _ _ 5 [.int .i64 5] from rfl) (Reps.one (show Kd.M (Kd.int .i64) _ _ _ 2 [.int .i64 2] from rfl) (Reps.none _ _))))); intro v156 w26 ho27 hb hg_ hnew_; clear hg_ hnew_; (first | rw [← Ny155.out] at ho27 | (simp only [Int.reduceToNat] at ho27; rw [← Ny155.out] at ho27)); have HO157 := XPrint.A0 (Kd.R_lower ho27 (below_size (by exact XPrint.bz HB.out))); replace HB := XPrint.A0 (below_step (by exact XPrint.bz HB.out) hb); clear hb ho27; obtain ⟨Ao28, co28, eo28⟩ := Kd.R_slice HO157.out; subst eo28) | ((with_reducible refine gate_callee (f := 45) rfl ?_); refine XPrint.gl (some 18) Try.func45 #[.agg #[.int .i64 0, .int .i64 20], .slice Ao28 y155.length co28] ?_; (with_reducible refine (stage_Slack.calls k 0 20 _ _ y155 t158 t159 _ ?side1 ?side2 A1.out).mono ?_); (case side1 => repeat (first | exact (Kd.R_reads' HO157.out).2.2 | (with_reducible refine Kd.C_alloc ?_ _) | (with_reducible refine Kd.C_drewN ?_ _) | (with_reducible refine Kd.C_drew ?_))); (case side2 => exact (Kd.R_reads' HO157.out).2.1); rintro e w29 ⟨rfl, hb⟩; refine ⟨_, rfl, ?_⟩; replace HO157 := XPrint.A0 (XPrint.rb HO157.out hb); replace HB := XPrint.A0 (below_step (by exact XPrint.bz HB.out) hb); (try clear hb); (try clear hb2); (try clear hk); (try clear hi)) | ((with_reducible refine gate_callee (f := 45) rfl ?_); refine XPrint.gl (some 24) Try.func45 #[.agg #[.int .i64 0, .int .i64 9], .slice Ao28 y155.length co28] ?_; (with_reducible refine (stage_Slack.calls k 0 9 _ _ y155 t160 t161 _ ?side1 ?side2 A2.out).mono ?_); (case side1 => repeat (first | exact (Kd.R_reads' HO157.out).2.2 | (with_reducible refine Kd.C_alloc ?_ _) | (with_reducible refine Kd.C_drewN ?_ _) | (with_reducible refine Kd.C_drew ?_))); (case side2 => exact (Kd.R_reads' HO157.out).2.1); rintro e w30 ⟨rfl, hb⟩; refine ⟨_, rfl, ?_⟩; replace HO157 := XPrint.A0 (XPrint.rb HO157.out hb); replace HB := XPrint.A0 (below_step (by exact XPrint.bz HB.out) hb); (try clear hb); (try clear hb2); (try clear hk); (try clear hi)) | ((with_reducible refine gate_callee (f := 47) rfl ?_); refine XPrint.gl (some 30) Try.func47 #[.agg #[.int .i64 0, .int .i64 9], .slice Ao28 y155.length co28, .int .u8 2] ?_; (with_reducible refine (stage_Split.calls k 0 9 _ _ y155 2 t162 t165 _ ?side1 ?side2 A3.out).mono ?_); (case side1 => repeat (first | exact (Kd.R_reads' HO157.out).2.2 | (with_reducible refine Kd.C_alloc ?_ _) | (with_reducible refine Kd.C_drewN ?_ _) | (with_reducible refine Kd.C_drew ?_))); (case side2 => exact (Kd.R_reads' HO157.out).2.1); rintro e w31 ⟨v163, rfl, ho0, hb⟩; refine ⟨_, rfl, ?_⟩; have HO164 := XPrint.A0 (Kd.R_lower ho0 (below_size (by exact XPrint.bz HB.out))); replace HO157 := XPrint.A0 (XPrint.rb HO157.out hb); replace HB := XPrint.A0 (below_step (by exact XPrint.bz HB.out) hb); (try clear hb); (try clear hb2); (try clear hk); (try clear hi); (try clear ho0)) | ((with_reducible refine gate_callee (f := 72) rfl ?_); refine XPrint.gl (some 34) Try.func72 #[] ?_; (with_reducible refine (liverylaw18_plan.calls  t166 t167 t168 _ A4.out).mono ?_); rintro e w32 ⟨v169, rfl, ho0, hb⟩; refine ⟨_, rfl, ?_⟩; have HO170 := XPrint.A0 (Kd.R_lower ho0 (below_size (by exact XPrint.bz HB.out))); replace HO157 := XPrint.A0 (XPrint.rb HO157.out hb); replace HO164 := XPrint.A0 (XPrint.rb HO164.out hb); replace HB := XPrint.A0 (below_step (by exact XPrint.bz HB.out) hb); (try clear hb); (try clear hb2); (try clear hk); (try clear hi); (try clear ho0); obtain ⟨Ao33, co33, eo33⟩ := Kd.R_slice HO170.out; subst eo33) | ((with_reducible refine gate_callee (f := 48) rfl ?_); refine XPrint.gl (some 35) Try.func48 #[.agg #[.int .i64 t166, .int .i64 t167, .slice Ao33 t168.length co33], .int .i64 0] ?_; (with_reducible refine (stage_Lengths.calls k t166 t167 _ _ t168 0 t171 t174 _ ?side1 ?side2 A5.out).mono ?_); (case side1 => repeat (first | exact (Kd.R_reads' HO170.out).2.2 | (with_reducible refine Kd.C_alloc ?_ _) | (with_reducible refine Kd.C_drewN ?_ _) | (with_reducible refine Kd.C_drew ?_))); (case side2 => exact (Kd.R_reads' HO170.out).2.1); rintro e w34 ⟨v172, rfl, ho0, hb⟩; refine ⟨_, rfl, ?_⟩; have HO173 := XPrint.A0 (Kd.R_lower (Kd.R_new' ho0 (Kd.R_lt (by (with_reducible repeat (first | apply Kd.R_alloc | apply Kd.R_drewN | apply Kd.R_drew)); exact HO157.out))) (below_size (by exact XPrint.bz HB.out))); replace HO157 := XPrint.A0 (Kd.R_elder' (by (with_reducible repeat (first | apply Kd.R_alloc | apply Kd.R_drewN | apply Kd.R_drew)); exact HO157.out) (Kd.R_base ho0) hb); replace HO164 := XPrint.A0 (XPrint.rb HO164.out hb); replace HO170 := XPrint.A0 (XPrint.rb HO170.out hb); replace HB := XPrint.A0 (below_step (by exact XPrint.bz HB.out) hb); (try clear hb); (try clear hb2); (try clear hk); (try clear hi); (try clear ho0)) | ((with_reducible refine gate_callee (f := 72) rfl ?_); refine XPrint.gl (some 39) Try.func72 #[] ?_; (with_reducible refine (liverylaw18_plan.calls  t175 t176 t177 _ A6.out).mono ?_); rintro e w35 ⟨v178, rfl, ho0, hb⟩; refine ⟨_, rfl, ?_⟩; have HO179 := XPrint.A0 (Kd.R_lower (Kd.R_new' ho0 (Kd.R_lt (by (with_reducible repeat (first | apply Kd.R_alloc | apply Kd.R_drewN | apply Kd.R_drew)); exact HO170.out))) (below_size (by exact XPrint.bz HB.out))); replace HO157 := XPrint.A0 (XPrint.rb HO157.out hb); replace HO164 := XPrint.A0 (XPrint.rb HO164.out hb); replace HO170 := XPrint.A0 (Kd.R_elder' (by (with_reducible repeat (first | apply Kd.R_alloc | apply Kd.R_drewN | apply Kd.R_drew)); exact HO170.out) (Kd.R_base ho0) hb); replace HO173 := XPrint.A0 (XPrint.rb HO173.out hb); replace HB := XPrint.A0 (below_step (by exact XPrint.bz HB.out) hb); (try clear hb); (try clear hb2); (try clear hk); (try clear hi); (try clear ho0); obtain ⟨Ao36, co36, eo36⟩ := Kd.R_slice HO179.out; subst eo36) | ((with_reducible refine gate_callee (f := 48) rfl ?_); refine XPrint.gl (some 40) Try.func48 #[.agg #[.int .i64 t175, .int .i64 t176, .slice Ao36 t177.length co36], .int .i64 2] ?_; (with_reducible refine (stage_Lengths.calls k t175 t176 _ _ t177 2 t180 t183 _ ?side1 ?side2 A7.out).mono ?_); (case side1 => repeat (first | exact (Kd.R_reads' HO179.out).2.2 | (with_reducible refine Kd.C_alloc ?_ _) | (with_reducible refine Kd.C_drewN ?_ _) | (with_reducible refine Kd.C_drew ?_))); (case side2 => exact (Kd.R_reads' HO179.out).2.1); rintro e w37 ⟨v181, rfl, ho0, hb⟩; refine ⟨_, rfl, ?_⟩; have HO182 := XPrint.A0 (Kd.R_lower (Kd.R_new' (Kd.R_new' ho0 (Kd.R_lt (by (with_reducible repeat (first | apply Kd.R_alloc | apply Kd.R_drewN | apply Kd.R_drew)); exact HO157.out))) (Kd.R_lt (by (with_reducible repeat (first | apply Kd.R_alloc | apply Kd.R_drewN | apply Kd.R_drew)); exact HO173.out))) (below_size (by exact XPrint.bz HB.out))); replace HO157 := XPrint.A0 (Kd.R_elder' (by (with_reducible repeat (first | apply Kd.R_alloc | apply Kd.R_drewN | apply Kd.R_drew)); exact HO157.out) (Kd.R_base ho0) hb); replace HO164 := XPrint.A0 (XPrint.rb HO164.out hb); replace HO170 := XPrint.A0 (XPrint.rb HO170.out hb); replace HO173 := XPrint.A0 (Kd.R_elder' (by (with_reducible repeat (first | apply Kd.R_alloc | apply Kd.R_drewN | apply Kd.R_drew)); exact HO173.out) (Kd.R_base ho0) hb); replace HO179 := XPrint.A0 (XPrint.rb HO179.out hb); replace HB := XPrint.A0 (below_step (by exact XPrint.bz HB.out) hb); (try clear hb); (try clear hb2); (try clear hk); (try clear hi); (try clear ho0)) | ((with_reducible refine gate_callee (f := 47) rfl ?_); refine XPrint.gl (some 46) Try.func47 #[.agg #[.int .i64 0, .int .i64 20], .slice Ao28 y155.length co28, .int .u8 3] ?_; (with_reducible refine (stage_Split.calls k 0 20 _ _ y155 3 t184 t187 _ ?side1 ?side2 A8.out).mono ?_); (case side1 => repeat (first | exact (Kd.R_reads' HO157.out).2.2 | (with_reducible refine Kd.C_alloc ?_ _) | (with_reducible refine Kd.C_drewN ?_ _) | (with_reducible refine Kd.C_drew ?_))); (case side2 => exact (Kd.R_reads' HO157.out).2.1); rintro e w38 ⟨v185, rfl, ho0, hb⟩; refine ⟨_, rfl, ?_⟩; have HO186 := XPrint.A0 (Kd.R_lower (Kd.R_new' ho0 (Kd.R_lt (by (with_reducible repeat (first | apply Kd.R_alloc | apply Kd.R_drewN | apply Kd.R_drew)); exact HO164.out))) (below_size (by exact XPrint.bz HB.out))); replace HO157 := XPrint.A0 (XPrint.rb HO157.out hb); replace HO164 := XPrint.A0 (Kd.R_elder' (by (with_reducible repeat (first | apply Kd.R_alloc | apply Kd.R_drewN | apply Kd.R_drew)); exact HO164.out) (Kd.R_base ho0) hb); replace HO170 := XPrint.A0 (XPrint.rb HO170.out hb); replace HO173 := XPrint.A0 (XPrint.rb HO173.out hb); replace HO179 := XPrint.A0 (XPrint.rb HO179.out hb); replace HO182 := XPrint.A0 (XPrint.rb HO182.out hb); replace HB := XPrint.A0 (below_step (by exact XPrint.bz HB.out) hb); (try clear hb); (try clear hb2); (try clear hk); (try clear hi); (try clear ho0)) | (go_at_call 73; (with_reducible refine XPrint.at_lit #[.int .i64 13, .int .i64 18, .int .i64 20] 2 ?_); have A_ := A13.out; rw [Ny188.out] at A_; (refine (liverylaw18_ends.calls k _ _ y155 20 0 _ _ ([13, 18, 20] : List Int) true _ ?side1 ?side2 ?side3 ?side4 A_).mono ?_); (case side1 => repeat (first | exact (Kd.R_reads' HO157.out).2.2 | (with_reducible refine Kd.C_alloc ?_ _) | (with_reducible refine Kd.C_drewN ?_ _) | (with_reducible refine Kd.C_drew ?_))); (case side2 => exact (Kd.R_reads' HO157.out).2.1); (case side3 => exact XPrint.lit_C _ 2 .i64 [13, 18, 20] _ rfl (by simp)); (case side4 => exact Nat.le_refl _); rintro e w42 ⟨rfl, hb⟩; replace HO157 := XPrint.A0 (XPrint.rb HO157.out hb); replace HO164 := XPrint.A0 (XPrint.rb HO164.out hb); replace HO170 := XPrint.A0 (XPrint.rb HO170.out hb); replace HO173 := XPrint.A0 (XPrint.rb HO173.out hb); replace HO179 := XPrint.A0 (XPrint.rb HO179.out hb); replace HO182 := XPrint.A0 (XPrint.rb HO182.out hb); replace HO186 := XPrint.A0 (XPrint.rb HO186.out hb); replace HB := XPrint.A0 (below_step (by exact XPrint.bz HB.out) hb); (try clear hb); (try clear hb2); (try clear hk); (try clear hi)) | (go_at_call 73; (with_reducible refine XPrint.at_lit #[.int .i64 3, .int .i64 8, .int .i64 20] 2 ?_); have A_ := A15.out; rw [Ny192.out] at A_; (refine (liverylaw18_ends.calls k _ _ y155 20 1 _ _ ([3, 8, 20] : List Int) true _ ?side1 ?side2 ?side3 ?side4 A_).mono ?_); (case side1 => repeat (first | exact (Kd.R_reads' HO157.out).2.2 | (with_reducible refine Kd.C_alloc ?_ _) | (with_reducible refine Kd.C_drewN ?_ _) | (with_reducible refine Kd.C_drew ?_))); (case side2 => exact (Kd.R_reads' HO157.out).2.1); (case side3 => exact XPrint.lit_C _ 2 .i64 [3, 8, 20] _ rfl (by simp)); (case side4 => exact Nat.le_refl _); rintro e w46 ⟨rfl, hb⟩; replace HO157 := XPrint.A0 (XPrint.rb HO157.out hb); replace HO164 := XPrint.A0 (XPrint.rb HO164.out hb); replace HO170 := XPrint.A0 (XPrint.rb HO170.out hb); replace HO173 := XPrint.A0 (XPrint.rb HO173.out hb); replace HO179 := XPrint.A0 (XPrint.rb HO179.out hb); replace HO182 := XPrint.A0 (XPrint.rb HO182.out hb); replace HO186 := XPrint.A0 (XPrint.rb HO186.out hb); replace HB := XPrint.A0 (below_step (by exact XPrint.bz HB.out) hb); (try clear hb); (try clear hb2); (try clear hk); (try clear hi)) | (go_at_call 73; (with_reducible refine XPrint.at_lit #[.int .i64 6, .int .i64 16, .int .i64 20] 2 ?_); have A_ := A17.out; rw [Ny196.out] at A_; (refine (liverylaw18_ends.calls k _ _ y155 20 2 _ _ ([6, 16, 20] : List Int) true _ ?side1 ?side2 ?side3 ?side4 A_).mono ?_); (case side1 => repeat (first | exact (Kd.R_reads' HO157.out).2.2 | (with_reducible refine Kd.C_alloc ?_ _) | (with_reducible refine Kd.C_drewN ?_ _) | (with_reducible refine Kd.C_drew ?_))); (case side2 => exact (Kd.R_reads' HO157.out).2.1); (case side3 => exact XPrint.lit_C _ 2 .i64 [6, 16, 20] _ rfl (by simp)); (case side4 => exact Nat.le_refl _); rintro e w50 ⟨rfl, hb⟩; replace HO157 := XPrint.A0 (XPrint.rb HO157.out hb); replace HO164 := XPrint.A0 (XPrint.rb HO164.out hb); replace HO170 := XPrint.A0 (XPrint.rb HO170.out hb); replace HO173 := XPrint.A0 (XPrint.rb HO173.out hb); replace HO179 := XPrint.A0 (XPrint.rb HO179.out hb); replace HO182 := XPrint.A0 (XPrint.rb HO182.out hb); replace HO186 := XPrint.A0 (XPrint.rb HO186.out hb); replace HB := XPrint.A0 (below_step (by exact XPrint.bz HB.out) hb); (try clear hb); (try clear hb2); (try clear hk); (try clear hi)) | ((with_reducible refine gate_dst (N := 79) rfl ?_); (try (refine gate_guard (by rfl) ?_; dsimp only)); refine Kd.R_lit (Kd.int .i64) _ 2 ?hg (N := 79) ?hd (xs := ([1, 1, 1] : List Int)) (inner := [.int .i64 1, .int .i64 1, .int .i64 1]) (ok := fun _ => True) (okp := fun _ => True) ?hr ?hp (fun _ hk => hk) trivial (Below.refl _ _) (Nat.le_refl _) (by simp) ?_; (case hd => rfl); (case hg => rfl); (case hr => first | (go_simp; done) | (go_simp; rfl)); (case hp => exact (Reps.one (show Kd.M (Kd.int .i64) _ _ _ 1 [.int .i64 1] from rfl) (Reps.one (show Kd.M (Kd.int .i64) _ _ _ 1 [.int .i64 1] from rfl) (Reps.one (show Kd.M (Kd.int .i64) _ _ _ 1 [.int .i64 1] from rfl) (Reps.none _ _))))); intro v201 w51 ho52 hb hg_ hnew_; clear hg_ hnew_; (first | rw [← Ny200.out] at ho52 | (simp only [Int.reduceToNat] at ho52; rw [← Ny200.out] at ho52)); have HO202 := XPrint.A0 (Kd.R_lower ho52 (below_size (by exact XPrint.bz HB.out))); replace HO157 := XPrint.A0 (XPrint.rb HO157.out hb); replace HO164 := XPrint.A0 (XPrint.rb HO164.out hb); replace HO170 := XPrint.A0 (XPrint.rb HO170.out hb); replace HO173 := XPrint.A0 (XPrint.rb HO173.out hb); replace HO179 := XPrint.A0 (XPrint.rb HO179.out hb); replace HO182 := XPrint.A0 (XPrint.rb HO182.out hb); replace HO186 := XPrint.A0 (XPrint.rb HO186.out hb); replace HB := XPrint.A0 (below_step (by exact XPrint.bz HB.out) hb); clear hb ho52) | (go_at_call 73; (with_reducible refine XPrint.at_lit #[.int .i64 2, .int .i64 5, .int .i64 8] 2 ?_); obtain ⟨Ao55, co55, eo55⟩ := Kd.R_slice HO202.out; subst eo55; have A_ := A19.out; rw [Ny203.out] at A_; (refine (liverylaw18_ends.calls k _ _ y200 8 2 _ _ ([2, 5, 8] : List Int) true _ ?side1 ?side2 ?side3 ?side4 A_).mono ?_); (case side1 => repeat (first | exact (Kd.R_reads' HO202.out).2.2 | (with_reducible refine Kd.C_alloc ?_ _) | (with_reducible refine Kd.C_drewN ?_ _) | (with_reducible refine Kd.C_drew ?_))); (case side2 => exact (Kd.R_reads' HO202.out).2.1); (case side3 => exact XPrint.lit_C _ 2 .i64 [2, 5, 8] _ rfl (by simp)); (case side4 => exact Nat.le_refl _); rintro e w57 ⟨rfl, hb⟩; replace HO157 := XPrint.A0 (XPrint.rb HO157.out hb); replace HO164 := XPrint.A0 (XPrint.rb HO164.out hb); replace HO170 := XPrint.A0 (XPrint.rb HO170.out hb); replace HO173 := XPrint.A0 (XPrint.rb HO173.out hb); replace HO179 := XPrint.A0 (XPrint.rb HO179.out hb); replace HO182 := XPrint.A0 (XPrint.rb HO182.out hb); replace HO186 := XPrint.A0 (XPrint.rb HO186.out hb); replace HO202 := XPrint.A0 (XPrint.rb HO202.out hb); replace HB := XPrint.A0 (below_step (by exact XPrint.bz HB.out) hb); (try clear hb); (try clear hb2); (try clear hk); (try clear hi)) | (go_at_call 74; (with_reducible refine XPrint.at_lit #[.int .i64 10, .int .i64 5] 2 ?_); obtain ⟨Ao60, co60, eo60⟩ := Kd.R_slice HO173.out; subst eo60; have A_ := A22.out; rw [Ny207.out] at A_; (refine (liveryref17_Same.calls k _ _ t171 _ _ ([10, 5] : List Int) true _ ?side1 ?side2 ?side3 ?side4 A_).mono ?_); (case side1 => repeat (first | exact (Kd.R_reads' HO173.out).2.2 | (with_reducible refine Kd.C_alloc ?_ _) | (with_reducible refine Kd.C_drewN ?_ _) | (with_reducible refine Kd.C_drew ?_))); (case side2 => exact (Kd.R_reads' HO173.out).2.1); (case side3 => exact XPrint.lit_C _ 2 .i64 [10, 5] _ rfl (by simp)); (case side4 => exact Nat.le_refl _); rintro e w58 ⟨rfl, ⟨nd, hnd⟩⟩; have hb := XPrint.lit_b hnd; clear hnd A_; replace HO157 := XPrint.A0 (XPrint.rb HO157.out hb); replace HO164 := XPrint.A0 (XPrint.rb HO164.out hb); replace HO170 := XPrint.A0 (XPrint.rb HO170.out hb); replace HO173 := XPrint.A0 (XPrint.rb HO173.out hb); replace HO179 := XPrint.A0 (XPrint.rb HO179.out hb); replace HO182 := XPrint.A0 (XPrint.rb HO182.out hb); replace HO186 := XPrint.A0 (XPrint.rb HO186.out hb); replace HO202 := XPrint.A0 (XPrint.rb HO202.out hb); replace HB := XPrint.A0 (below_step (by exact XPrint.bz HB.out) hb); clear hb))
             go_ret
             exact ⟨by first | rfl | (simp [errW_none, errW_some] <;> rfl) | (simp [*, errW_none, errW_some] <;> rfl), by exact XPrint.bz HB.out⟩
            ·rw [if_neg c25] at H
             exact absurd H (by simp)
           ·rw [if_neg c24] at H
            exact absurd H (by simp)
          ·replace c23 := Bool.eq_false_iff.mpr c23
           subst c23
           have H1 := H; rw [if_neg (show ¬ (false = true) by decide)] at H1
           clear H
           have H := H1
           clear H1
           exact absurd H (by simp)
         ·rw [if_neg c21] at H
          exact absurd H (by simp)
        ·replace c20 := Bool.eq_false_iff.mpr c20
         subst c20
         have H1 := H; rw [if_neg (show ¬ (false = true) by decide)] at H1
         clear H
         have H := H1
         clear H1
         exact absurd H (by simp)
       ·replace c18 := Bool.eq_false_iff.mpr c18
        subst c18
        have H1 := H; rw [if_neg (show ¬ (false = true) by decide)] at H1
        clear H
        have H := H1
        clear H1
        exact absurd H (by simp)
      ·replace c16 := Bool.eq_false_iff.mpr c16
       subst c16
       have H1 := H; rw [if_neg (show ¬ (false = true) by decide)] at H1
       clear H
       have H := H1
       clear H1
       exact absurd H (by simp)
     ·replace c14 := Bool.eq_false_iff.mpr c14
      subst c14
      have H1 := H; rw [if_neg (show ¬ (false = true) by decide)] at H1
      clear H
      have H := H1
      clear H1
      exact absurd H (by simp)
    ·rw [if_neg c12] at H
     exact absurd H (by simp)
   ·rw [if_neg c11] at H
    exact absurd H (by simp)
  ·rw [if_neg c10] at H
   exact absurd H (by simp)
 ·rw [if_neg c9] at H
  exact absurd H (by simp)

end Go.Proofs.Ytkaokiiooakleaa.PStageFair
