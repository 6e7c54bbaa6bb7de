-- printed by this session's own driver over the kit's printer: Lean checks it
import Derived.Test.YtkaokiiooakleaaCStageParts0
import Derived.Test.YtkaokiiooakleaaCStageParts3
import Derived.Test.YtkaokiiooakleaaCStageParts4
import Derived.Test.YtkaokiiooakleaaCStageParts11
namespace Go.Proofs.Ytkaokiiooakleaa.PStageParts
open Go.RowKit Go.Proofs.YtkaokiiooakleaaW.PrintWords Go.Proofs.YtkaokiiooakleaaW.PrintLast Go.Proofs.YtkaokiiooakleaaW.PrintMore
attribute [local go_sem] max2_int min2_int max_two min_two max_three min_three max_four min_four   -- for this text's walks alone
set_option linter.unusedVariables false
set_option linter.unusedSimpArgs false

/-! ### liverylaw18_head: function 46 -/
def liverylaw18_head.f (k : Nat)  : Option (Bool) := (some (([3, 5, 2] : List Int) : List Int)).bind fun y172 => ((stage_Slack.f k 0 20 y172).bind fun bt175 => ((stage_Slack.f k 0 9 y172).bind fun bt177 => ((stage_Split.f k 0 9 y172 2).bind fun bt179 => ((liverylaw18_plan.f).bind fun bt183 => ((stage_Lengths.f k bt183.1 bt183.2.1 bt183.2.2 0).bind fun bt188 => ((liverylaw18_plan.f).bind fun bt192 => ((stage_Lengths.f k bt192.1 bt192.2.1 bt192.2.2 2).bind fun bt197 => ((stage_Split.f k 0 20 y172 3).bind fun bt201 => (if bt175.1 = 10 then (if bt175.2 = 0 then (if bt177.1 = (-1) then (if bt177.2 = 0 then ((liverylaw18_ends.f k y172 20 0 (([13, 18, 20] : List Int))).bind fun t208 => (if t208 = true then ((liverylaw18_ends.f k y172 20 1 (([3, 8, 20] : List Int))).bind fun t212 => (if t212 = true then ((liverylaw18_ends.f k y172 20 2 (([6, 16, 20] : List Int))).bind fun t216 => (if t216 = true then ((liverylaw18_ends.f k (([1, 1, 1] : List Int)) 8 2 (([2, 5, 8] : List Int))).bind fun t223 => (if t223 = true then (if bt179.2 = 210 then ((liveryref17_Same.f k bt188.1 (([10, 5] : List Int))).bind fun t227 => (if t227 = true then (if bt188.2 = 0 then (if bt197.2 = 2 then (some (bt201.2 == 2)) else (none)) else (none)) else (none))) else (none)) else (none))) else (none))) else (none))) else (none))) else (none)) else (none)) else (none)) else (none))))))))))
theorem liverylaw18_head.mono : ∀ k, LeO (liverylaw18_head.f k ) (liverylaw18_head.f (k + 1) ) := by
 intro  k
 unfold liverylaw18_head.f
 repeat' first
   | (with_reducible exact liverylaw18_ends.mono _ _ _ _ _)
   | (with_reducible exact liveryref17_Same.mono _ _ _)
   | (with_reducible exact stage_Lengths.mono _ _ _ _ _)
   | (with_reducible exact stage_Slack.mono _ _ _ _)
   | (with_reducible exact stage_Split.mono _ _ _ _ _)
   | (with_reducible exact LeO.refl _)
   | (with_reducible exact LeO.none _)
   | (with_reducible refine LeO.ite ?_ ?_)
   | (with_reducible refine LeO.bind ?_ (fun _ => ?_))
   | exact liverylaw18_ends.mono _ _ _ _ _
   | exact liveryref17_Same.mono _ _ _
   | exact stage_Lengths.mono _ _ _ _ _
   | exact stage_Slack.mono _ _ _ _
   | exact stage_Split.mono _ _ _ _ _
   | exact LeO.none _
   | refine LeO.ite ?_ ?_
   | refine LeO.bind ?_ (fun _ => ?_)
set_option maxHeartbeats 8000000 in
set_option maxRecDepth 100000 in
theorem liverylaw18_head.calls (k : Nat)  (r : Bool) (w : World) (h : liverylaw18_head.f k  = some r) :
  Calls Try.prog 46 #[] w fun e w' => e = .returned (.bool r) ∧ Below w.heap.size w w' := by
 have hu71 := Try.underlying71
 have HB := XPrint.A0 (Below.refl w.heap.size w)
 have H : ((some (([3, 5, 2] : List Int) : List Int)).bind fun y172 => ((stage_Slack.f k 0 20 y172).bind fun bt175 => ((stage_Slack.f k 0 9 y172).bind fun bt177 => ((stage_Split.f k 0 9 y172 2).bind fun bt179 => ((liverylaw18_plan.f).bind fun bt183 => ((stage_Lengths.f k bt183.1 bt183.2.1 bt183.2.2 0).bind fun bt188 => ((liverylaw18_plan.f).bind fun bt192 => ((stage_Lengths.f k bt192.1 bt192.2.1 bt192.2.2 2).bind fun bt197 => ((stage_Split.f k 0 20 y172 3).bind fun bt201 => (if bt175.1 = 10 then (if bt175.2 = 0 then (if bt177.1 = (-1) then (if bt177.2 = 0 then ((liverylaw18_ends.f k y172 20 0 (([13, 18, 20] : List Int))).bind fun t208 => (if t208 = true then ((liverylaw18_ends.f k y172 20 1 (([3, 8, 20] : List Int))).bind fun t212 => (if t212 = true then ((liverylaw18_ends.f k y172 20 2 (([6, 16, 20] : List Int))).bind fun t216 => (if t216 = true then ((liverylaw18_ends.f k (([1, 1, 1] : List Int)) 8 2 (([2, 5, 8] : List Int))).bind fun t223 => (if t223 = true then (if bt179.2 = 210 then ((liveryref17_Same.f k bt188.1 (([10, 5] : List Int))).bind fun t227 => (if t227 = true then (if bt188.2 = 0 then (if bt197.2 = 2 then (some (bt201.2 == 2)) else (none)) else (none)) else (none))) else (none)) else (none))) else (none))) else (none))) else (none))) else (none)) else (none)) else (none)) else (none))))))))))) = some r := h
 clear h
 obtain ⟨y172, hy172⟩ : ∃ y_ : List Int, y_ = (([3, 5, 2] : List Int)) := ⟨_, rfl⟩
 replace H : ((stage_Slack.f k 0 20 y172).bind fun bt175 => ((stage_Slack.f k 0 9 y172).bind fun bt177 => ((stage_Split.f k 0 9 y172 2).bind fun bt179 => ((liverylaw18_plan.f).bind fun bt183 => ((stage_Lengths.f k bt183.1 bt183.2.1 bt183.2.2 0).bind fun bt188 => ((liverylaw18_plan.f).bind fun bt192 => ((stage_Lengths.f k bt192.1 bt192.2.1 bt192.2.2 2).bind fun bt197 => ((stage_Split.f k 0 20 y172 3).bind fun bt201 => (if bt175.1 = 10 then (if bt175.2 = 0 then (if bt177.1 = (-1) then (if bt177.2 = 0 then ((liverylaw18_ends.f k y172 20 0 (([13, 18, 20] : List Int))).bind fun t208 => (if t208 = true then ((liverylaw18_ends.f k y172 20 1 (([3, 8, 20] : List Int))).bind fun t212 => (if t212 = true then ((liverylaw18_ends.f k y172 20 2 (([6, 16, 20] : List Int))).bind fun t216 => (if t216 = true then ((liverylaw18_ends.f k (([1, 1, 1] : List Int)) 8 2 (([2, 5, 8] : List Int))).bind fun t223 => (if t223 = true then (if bt179.2 = 210 then ((liveryref17_Same.f k bt188.1 (([10, 5] : List Int))).bind fun t227 => (if t227 = true then (if bt188.2 = 0 then (if bt197.2 = 2 then (some (bt201.2 == 2)) else (none)) else (none)) else (none))) else (none)) else (none))) else (none))) else (none))) else (none))) else (none)) else (none)) else (none)) else (none)))))))))) = some r := by first | (rw [hy172]; with_reducible exact H) | (have H2_ := (Option.bind_some _ _).symm.trans H; rw [hy172]; with_reducible exact H2_) | (have H2_ := (Option.bind_some _ _).symm.trans H; with_reducible exact H2_) | with_reducible exact H | (rw [hy172]; exact H) | exact H
 have Ny172 := XPrint.A0 hy172
 clear hy172
 replace H := Option.bind_eq_some_iff.mp H
 obtain ⟨⟨t175, t176⟩, A10, H⟩ := H
 replace H : ((stage_Slack.f k 0 9 y172).bind fun bt177 => ((stage_Split.f k 0 9 y172 2).bind fun bt179 => ((liverylaw18_plan.f).bind fun bt183 => ((stage_Lengths.f k bt183.1 bt183.2.1 bt183.2.2 0).bind fun bt188 => ((liverylaw18_plan.f).bind fun bt192 => ((stage_Lengths.f k bt192.1 bt192.2.1 bt192.2.2 2).bind fun bt197 => ((stage_Split.f k 0 20 y172 3).bind fun bt201 => (if t175 = 10 then (if t176 = 0 then (if bt177.1 = (-1) then (if bt177.2 = 0 then ((liverylaw18_ends.f k y172 20 0 (([13, 18, 20] : List Int))).bind fun t208 => (if t208 = true then ((liverylaw18_ends.f k y172 20 1 (([3, 8, 20] : List Int))).bind fun t212 => (if t212 = true then ((liverylaw18_ends.f k y172 20 2 (([6, 16, 20] : List Int))).bind fun t216 => (if t216 = true then ((liverylaw18_ends.f k (([1, 1, 1] : List Int)) 8 2 (([2, 5, 8] : List Int))).bind fun t223 => (if t223 = true then (if bt179.2 = 210 then ((liveryref17_Same.f k bt188.1 (([10, 5] : List Int))).bind fun t227 => (if t227 = true then (if bt188.2 = 0 then (if bt197.2 = 2 then (some (bt201.2 == 2)) else (none)) else (none)) else (none))) else (none)) else (none))) else (none))) else (none))) else (none))) else (none)) else (none)) else (none)) else (none))))))))) = some r := H
 have A1 := XPrint.A0 A10
 clear A10
 replace H := Option.bind_eq_some_iff.mp H
 obtain ⟨⟨t177, t178⟩, A20, H⟩ := H
 replace H : ((stage_Split.f k 0 9 y172 2).bind fun bt179 => ((liverylaw18_plan.f).bind fun bt183 => ((stage_Lengths.f k bt183.1 bt183.2.1 bt183.2.2 0).bind fun bt188 => ((liverylaw18_plan.f).bind fun bt192 => ((stage_Lengths.f k bt192.1 bt192.2.1 bt192.2.2 2).bind fun bt197 => ((stage_Split.f k 0 20 y172 3).bind fun bt201 => (if t175 = 10 then (if t176 = 0 then (if t177 = (-1) then (if t178 = 0 then ((liverylaw18_ends.f k y172 20 0 (([13, 18, 20] : List Int))).bind fun t208 => (if t208 = true then ((liverylaw18_ends.f k y172 20 1 (([3, 8, 20] : List Int))).bind fun t212 => (if t212 = true then ((liverylaw18_ends.f k y172 20 2 (([6, 16, 20] : List Int))).bind fun t216 => (if t216 = true then ((liverylaw18_ends.f k (([1, 1, 1] : List Int)) 8 2 (([2, 5, 8] : List Int))).bind fun t223 => (if t223 = true then (if bt179.2 = 210 then ((liveryref17_Same.f k bt188.1 (([10, 5] : List Int))).bind fun t227 => (if t227 = true then (if bt188.2 = 0 then (if bt197.2 = 2 then (some (bt201.2 == 2)) else (none)) else (none)) else (none))) else (none)) else (none))) else (none))) else (none))) else (none))) else (none)) else (none)) else (none)) else (none)))))))) = some r := H
 have A2 := XPrint.A0 A20
 clear A20
 replace H := Option.bind_eq_some_iff.mp H
 obtain ⟨⟨t179, t182⟩, A30, H⟩ := H
 replace H : ((liverylaw18_plan.f).bind fun bt183 => ((stage_Lengths.f k bt183.1 bt183.2.1 bt183.2.2 0).bind fun bt188 => ((liverylaw18_plan.f).bind fun bt192 => ((stage_Lengths.f k bt192.1 bt192.2.1 bt192.2.2 2).bind fun bt197 => ((stage_Split.f k 0 20 y172 3).bind fun bt201 => (if t175 = 10 then (if t176 = 0 then (if t177 = (-1) then (if t178 = 0 then ((liverylaw18_ends.f k y172 20 0 (([13, 18, 20] : List Int))).bind fun t208 => (if t208 = true then ((liverylaw18_ends.f k y172 20 1 (([3, 8, 20] : List Int))).bind fun t212 => (if t212 = true then ((liverylaw18_ends.f k y172 20 2 (([6, 16, 20] : List Int))).bind fun t216 => (if t216 = true then ((liverylaw18_ends.f k (([1, 1, 1] : List Int)) 8 2 (([2, 5, 8] : List Int))).bind fun t223 => (if t223 = true then (if t182 = 210 then ((liveryref17_Same.f k bt188.1 (([10, 5] : List Int))).bind fun t227 => (if t227 = true then (if bt188.2 = 0 then (if bt197.2 = 2 then (some (bt201.2 == 2)) else (none)) else (none)) else (none))) else (none)) else (none))) else (none))) else (none))) else (none))) else (none)) else (none)) else (none)) else (none))))))) = some r := H
 have A3 := XPrint.A0 A30
 clear A30
 replace H := Option.bind_eq_some_iff.mp H
 obtain ⟨⟨t183, t184, t185⟩, A40, H⟩ := H
 replace H : ((stage_Lengths.f k t183 t184 t185 0).bind fun bt188 => ((liverylaw18_plan.f).bind fun bt192 => ((stage_Lengths.f k bt192.1 bt192.2.1 bt192.2.2 2).bind fun bt197 => ((stage_Split.f k 0 20 y172 3).bind fun bt201 => (if t175 = 10 then (if t176 = 0 then (if t177 = (-1) then (if t178 = 0 then ((liverylaw18_ends.f k y172 20 0 (([13, 18, 20] : List Int))).bind fun t208 => (if t208 = true then ((liverylaw18_ends.f k y172 20 1 (([3, 8, 20] : List Int))).bind fun t212 => (if t212 = true then ((liverylaw18_ends.f k y172 20 2 (([6, 16, 20] : List Int))).bind fun t216 => (if t216 = true then ((liverylaw18_ends.f k (([1, 1, 1] : List Int)) 8 2 (([2, 5, 8] : List Int))).bind fun t223 => (if t223 = true then (if t182 = 210 then ((liveryref17_Same.f k bt188.1 (([10, 5] : List Int))).bind fun t227 => (if t227 = true then (if bt188.2 = 0 then (if bt197.2 = 2 then (some (bt201.2 == 2)) else (none)) else (none)) else (none))) else (none)) else (none))) else (none))) else (none))) else (none))) else (none)) else (none)) else (none)) else (none)))))) = some r := H
 have A4 := XPrint.A0 A40
 clear A40
 replace H := Option.bind_eq_some_iff.mp H
 obtain ⟨⟨t188, t191⟩, A50, H⟩ := H
 replace H : ((liverylaw18_plan.f).bind fun bt192 => ((stage_Lengths.f k bt192.1 bt192.2.1 bt192.2.2 2).bind fun bt197 => ((stage_Split.f k 0 20 y172 3).bind fun bt201 => (if t175 = 10 then (if t176 = 0 then (if t177 = (-1) then (if t178 = 0 then ((liverylaw18_ends.f k y172 20 0 (([13, 18, 20] : List Int))).bind fun t208 => (if t208 = true then ((liverylaw18_ends.f k y172 20 1 (([3, 8, 20] : List Int))).bind fun t212 => (if t212 = true then ((liverylaw18_ends.f k y172 20 2 (([6, 16, 20] : List Int))).bind fun t216 => (if t216 = true then ((liverylaw18_ends.f k (([1, 1, 1] : List Int)) 8 2 (([2, 5, 8] : List Int))).bind fun t223 => (if t223 = true then (if t182 = 210 then ((liveryref17_Same.f k t188 (([10, 5] : List Int))).bind fun t227 => (if t227 = true then (if t191 = 0 then (if bt197.2 = 2 then (some (bt201.2 == 2)) else (none)) else (none)) else (none))) else (none)) else (none))) else (none))) else (none))) else (none))) else (none)) else (none)) else (none)) else (none))))) = some r := H
 have A5 := XPrint.A0 A50
 clear A50
 replace H := Option.bind_eq_some_iff.mp H
 obtain ⟨⟨t192, t193, t194⟩, A60, H⟩ := H
 replace H : ((stage_Lengths.f k t192 t193 t194 2).bind fun bt197 => ((stage_Split.f k 0 20 y172 3).bind fun bt201 => (if t175 = 10 then (if t176 = 0 then (if t177 = (-1) then (if t178 = 0 then ((liverylaw18_ends.f k y172 20 0 (([13, 18, 20] : List Int))).bind fun t208 => (if t208 = true then ((liverylaw18_ends.f k y172 20 1 (([3, 8, 20] : List Int))).bind fun t212 => (if t212 = true then ((liverylaw18_ends.f k y172 20 2 (([6, 16, 20] : List Int))).bind fun t216 => (if t216 = true then ((liverylaw18_ends.f k (([1, 1, 1] : List Int)) 8 2 (([2, 5, 8] : List Int))).bind fun t223 => (if t223 = true then (if t182 = 210 then ((liveryref17_Same.f k t188 (([10, 5] : List Int))).bind fun t227 => (if t227 = true then (if t191 = 0 then (if bt197.2 = 2 then (some (bt201.2 == 2)) else (none)) else (none)) else (none))) else (none)) else (none))) else (none))) else (none))) else (none))) else (none)) else (none)) else (none)) else (none)))) = some r := H
 have A6 := XPrint.A0 A60
 clear A60
 replace H := Option.bind_eq_some_iff.mp H
 obtain ⟨⟨t197, t200⟩, A70, H⟩ := H
 replace H : ((stage_Split.f k 0 20 y172 3).bind fun bt201 => (if t175 = 10 then (if t176 = 0 then (if t177 = (-1) then (if t178 = 0 then ((liverylaw18_ends.f k y172 20 0 (([13, 18, 20] : List Int))).bind fun t208 => (if t208 = true then ((liverylaw18_ends.f k y172 20 1 (([3, 8, 20] : List Int))).bind fun t212 => (if t212 = true then ((liverylaw18_ends.f k y172 20 2 (([6, 16, 20] : List Int))).bind fun t216 => (if t216 = true then ((liverylaw18_ends.f k (([1, 1, 1] : List Int)) 8 2 (([2, 5, 8] : List Int))).bind fun t223 => (if t223 = true then (if t182 = 210 then ((liveryref17_Same.f k t188 (([10, 5] : List Int))).bind fun t227 => (if t227 = true then (if t191 = 0 then (if t200 = 2 then (some (bt201.2 == 2)) else (none)) else (none)) else (none))) else (none)) else (none))) else (none))) else (none))) else (none))) else (none)) else (none)) else (none)) else (none))) = some r := H
 have A7 := XPrint.A0 A70
 clear A70
 replace H := Option.bind_eq_some_iff.mp H
 obtain ⟨⟨t201, t204⟩, A80, H⟩ := H
 replace H : (if t175 = 10 then (if t176 = 0 then (if t177 = (-1) then (if t178 = 0 then ((liverylaw18_ends.f k y172 20 0 (([13, 18, 20] : List Int))).bind fun t208 => (if t208 = true then ((liverylaw18_ends.f k y172 20 1 (([3, 8, 20] : List Int))).bind fun t212 => (if t212 = true then ((liverylaw18_ends.f k y172 20 2 (([6, 16, 20] : List Int))).bind fun t216 => (if t216 = true then ((liverylaw18_ends.f k (([1, 1, 1] : List Int)) 8 2 (([2, 5, 8] : List Int))).bind fun t223 => (if t223 = true then (if t182 = 210 then ((liveryref17_Same.f k t188 (([10, 5] : List Int))).bind fun t227 => (if t227 = true then (if t191 = 0 then (if t200 = 2 then (some (t204 == 2)) else (none)) else (none)) else (none))) else (none)) else (none))) else (none))) else (none))) else (none))) else (none)) else (none)) else (none)) else (none)) = some r := H
 have A8 := XPrint.A0 A80
 clear A80
 by_cases c9 : t175 = 10
 ·rw [if_pos c9] at H
  have c9b0 : (t175 == 10) = true := beq_iff_eq.mpr c9
  have c9b1 : (t175 != 10) = false := bne_eq_false_iff_eq.mpr c9
  clear c9
  by_cases c10 : t176 = 0
  ·rw [if_pos c10] at H
   have c10b0 : (t176 == 0) = true := beq_iff_eq.mpr c10
   have c10b1 : (t176 != 0) = false := bne_eq_false_iff_eq.mpr c10
   clear c10
   by_cases c11 : t177 = (-1)
   ·rw [if_pos c11] at H
    have c11b0 : (t177 == (-1)) = true := beq_iff_eq.mpr c11
    have c11b1 : (t177 != (-1)) = false := bne_eq_false_iff_eq.mpr c11
    clear c11
    by_cases c12 : t178 = 0
    ·rw [if_pos c12] at H
     have c12b0 : (t178 == 0) = true := beq_iff_eq.mpr c12
     have c12b1 : (t178 != 0) = false := bne_eq_false_iff_eq.mpr c12
     clear c12
     obtain ⟨y205, hy205⟩ : ∃ y_ : List Int, y_ = (([13, 18, 20] : List Int)) := ⟨_, rfl⟩
     replace H : ((liverylaw18_ends.f k y172 20 0 y205).bind fun t208 => (if t208 = true then ((liverylaw18_ends.f k y172 20 1 (([3, 8, 20] : List Int))).bind fun t212 => (if t212 = true then ((liverylaw18_ends.f k y172 20 2 (([6, 16, 20] : List Int))).bind fun t216 => (if t216 = true then ((liverylaw18_ends.f k (([1, 1, 1] : List Int)) 8 2 (([2, 5, 8] : List Int))).bind fun t223 => (if t223 = true then (if t182 = 210 then ((liveryref17_Same.f k t188 (([10, 5] : List Int))).bind fun t227 => (if t227 = true then (if t191 = 0 then (if t200 = 2 then (some (t204 == 2)) else (none)) else (none)) else (none))) else (none)) else (none))) else (none))) else (none))) else (none))) = some r := by first | (rw [hy205]; with_reducible exact H) | (have H2_ := (Option.bind_some _ _).symm.trans H; rw [hy205]; with_reducible exact H2_) | (have H2_ := (Option.bind_some _ _).symm.trans H; with_reducible exact H2_) | with_reducible exact H | (rw [hy205]; exact H) | exact H
     have Ny205 := XPrint.A0 hy205
     clear hy205
     replace H := Option.bind_eq_some_iff.mp H
     obtain ⟨t208, A130, H⟩ := H
     try set_option simprocs false in dsimp only at H
     have A13 := XPrint.A0 A130
     clear A130
     by_cases c14 : t208 = true
     ·subst c14
      have H1 := H; rw [if_pos rfl] at H1
      clear H
      have H := H1
      clear H1
      obtain ⟨y209, hy209⟩ : ∃ y_ : List Int, y_ = (([3, 8, 20] : List Int)) := ⟨_, rfl⟩
      replace H : ((liverylaw18_ends.f k y172 20 1 y209).bind fun t212 => (if t212 = true then ((liverylaw18_ends.f k y172 20 2 (([6, 16, 20] : List Int))).bind fun t216 => (if t216 = true then ((liverylaw18_ends.f k (([1, 1, 1] : List Int)) 8 2 (([2, 5, 8] : List Int))).bind fun t223 => (if t223 = true then (if t182 = 210 then ((liveryref17_Same.f k t188 (([10, 5] : List Int))).bind fun t227 => (if t227 = true then (if t191 = 0 then (if t200 = 2 then (some (t204 == 2)) else (none)) else (none)) else (none))) else (none)) else (none))) else (none))) else (none))) = some r := by first | (rw [hy209]; with_reducible exact H) | (have H2_ := (Option.bind_some _ _).symm.trans H; rw [hy209]; with_reducible exact H2_) | (have H2_ := (Option.bind_some _ _).symm.trans H; with_reducible exact H2_) | with_reducible exact H | (rw [hy209]; exact H) | exact H
      have Ny209 := XPrint.A0 hy209
      clear hy209
      replace H := Option.bind_eq_some_iff.mp H
      obtain ⟨t212, A150, H⟩ := H
      try set_option simprocs false in dsimp only at H
      have A15 := XPrint.A0 A150
      clear A150
      by_cases c16 : t212 = true
      ·subst c16
       have H1 := H; rw [if_pos rfl] at H1
       clear H
       have H := H1
       clear H1
       obtain ⟨y213, hy213⟩ : ∃ y_ : List Int, y_ = (([6, 16, 20] : List Int)) := ⟨_, rfl⟩
       replace H : ((liverylaw18_ends.f k y172 20 2 y213).bind fun t216 => (if t216 = true then ((liverylaw18_ends.f k (([1, 1, 1] : List Int)) 8 2 (([2, 5, 8] : List Int))).bind fun t223 => (if t223 = true then (if t182 = 210 then ((liveryref17_Same.f k t188 (([10, 5] : List Int))).bind fun t227 => (if t227 = true then (if t191 = 0 then (if t200 = 2 then (some (t204 == 2)) else (none)) else (none)) else (none))) else (none)) else (none))) else (none))) = some r := by first | (rw [hy213]; with_reducible exact H) | (have H2_ := (Option.bind_some _ _).symm.trans H; rw [hy213]; with_reducible exact H2_) | (have H2_ := (Option.bind_some _ _).symm.trans H; with_reducible exact H2_) | with_reducible exact H | (rw [hy213]; exact H) | exact H
       have Ny213 := XPrint.A0 hy213
       clear hy213
       replace H := Option.bind_eq_some_iff.mp H
       obtain ⟨t216, A170, H⟩ := H
       try set_option simprocs false in dsimp only at H
       have A17 := XPrint.A0 A170
       clear A170
       by_cases c18 : t216 = true
       ·subst c18
        have H1 := H; rw [if_pos rfl] at H1
        clear H
        have H := H1
        clear H1
        obtain ⟨y217, hy217⟩ : ∃ y_ : List Int, y_ = (([1, 1, 1] : List Int)) := ⟨_, rfl⟩
        replace H : ((liverylaw18_ends.f k y217 8 2 (([2, 5, 8] : List Int))).bind fun t223 => (if t223 = true then (if t182 = 210 then ((liveryref17_Same.f k t188 (([10, 5] : List Int))).bind fun t227 => (if t227 = true then (if t191 = 0 then (if t200 = 2 then (some (t204 == 2)) else (none)) else (none)) else (none))) else (none)) else (none))) = some r := by first | (rw [hy217]; with_reducible exact H) | (have H2_ := (Option.bind_some _ _).symm.trans H; rw [hy217]; with_reducible exact H2_) | (have H2_ := (Option.bind_some _ _).symm.trans H; with_reducible exact H2_) | with_reducible exact H | (rw [hy217]; exact H) | exact H
        have Ny217 := XPrint.A0 hy217
        clear hy217
        obtain ⟨y220, hy220⟩ : ∃ y_ : List Int, y_ = (([2, 5, 8] : List Int)) := ⟨_, rfl⟩
        replace H : ((liverylaw18_ends.f k y217 8 2 y220).bind fun t223 => (if t223 = true then (if t182 = 210 then ((liveryref17_Same.f k t188 (([10, 5] : List Int))).bind fun t227 => (if t227 = true then (if t191 = 0 then (if t200 = 2 then (some (t204 == 2)) else (none)) else (none)) else (none))) else (none)) else (none))) = some r := by first | (rw [hy220]; with_reducible exact H) | (have H2_ := (Option.bind_some _ _).symm.trans H; rw [hy220]; with_reducible exact H2_) | (have H2_ := (Option.bind_some _ _).symm.trans H; with_reducible exact H2_) | with_reducible exact H | (rw [hy220]; exact H) | exact H
        have Ny220 := XPrint.A0 hy220
        clear hy220
        replace H := Option.bind_eq_some_iff.mp H
        obtain ⟨t223, A190, H⟩ := H
        try set_option simprocs false in dsimp only at H
        have A19 := XPrint.A0 A190
        clear A190
        by_cases c20 : t223 = true
        ·subst c20
         have H1 := H; rw [if_pos rfl] at H1
         clear H
         have H := H1
         clear H1
         by_cases c21 : t182 = 210
         ·rw [if_pos c21] at H
          have c21b0 : (t182 == 210) = true := beq_iff_eq.mpr c21
          have c21b1 : (t182 != 210) = false := bne_eq_false_iff_eq.mpr c21
          clear c21
          obtain ⟨y224, hy224⟩ : ∃ y_ : List Int, y_ = (([10, 5] : List Int)) := ⟨_, rfl⟩
          replace H : ((liveryref17_Same.f k t188 y224).bind fun t227 => (if t227 = true then (if t191 = 0 then (if t200 = 2 then (some (t204 == 2)) else (none)) else (none)) else (none))) = some r := by first | (rw [hy224]; with_reducible exact H) | (have H2_ := (Option.bind_some _ _).symm.trans H; rw [hy224]; with_reducible exact H2_) | (have H2_ := (Option.bind_some _ _).symm.trans H; with_reducible exact H2_) | with_reducible exact H | (rw [hy224]; exact H) | exact H
          have Ny224 := XPrint.A0 hy224
          clear hy224
          replace H := Option.bind_eq_some_iff.mp H
          obtain ⟨t227, A220, H⟩ := H
          try set_option simprocs false in dsimp only at H
          have A22 := XPrint.A0 A220
          clear A220
          by_cases c23 : t227 = true
          ·subst c23
           have H1 := H; rw [if_pos rfl] at H1
           clear H
           have H := H1
           clear H1
           by_cases c24 : t191 = 0
           ·rw [if_pos c24] at H
            have c24b0 : (t191 == 0) = true := beq_iff_eq.mpr c24
            have c24b1 : (t191 != 0) = false := bne_eq_false_iff_eq.mpr c24
            clear c24
            by_cases c25 : t200 = 2
            ·rw [if_pos c25] at H
             have c25b0 : (t200 == 2) = true := beq_iff_eq.mpr c25
             have c25b1 : (t200 != 2) = false := bne_eq_false_iff_eq.mpr c25
             clear c25
             obtain rfl := Option.some.inj H
             go_enter Try.func46, Try.ntmps46
             go_wp2_with (first | ((with_reducible refine gate_dst (N := 14) rfl ?_); (try (refine gate_guard (by rfl) ?_; dsimp only)); refine Kd.R_lit (Kd.int .i64) _ 2 ?hg (N := 14) ?hd (xs := ([3, 5, 2] : List Int)) (inner := [.int .i64 3, .int .i64 5, .int .i64 2]) (ok := fun _ => True) (okp := fun _ => True) ?hr ?hp (fun _ hk => hk) trivial (Below.refl _ _) (Nat.le_refl _) (by simp) ?_; (case hd => rfl); (case hg => rfl); (case hr => first | (go_simp; done) | (go_simp; rfl)); (case hp => exact (Reps.one (show Kd.M (Kd.int .i64) _ _ _ 3 [.int .i64 3] from rfl) (Reps.one (show Kd.M (Kd.int .i64) _ _ _ 5 [.int .i64 5] from rfl) (Reps.one (show Kd.M (Kd.int .i64) _ _ _ 2 [.int .i64 2] from rfl) (Reps.none _ _))))); intro v173 w26 ho27 hb hg_ hnew_; clear hg_ hnew_; (first | rw [← Ny172.out] at ho27 | (simp only [Int.reduceToNat] at ho27; rw [← Ny172.out] at ho27)); have HO174 := XPrint.A0 (Kd.R_lower ho27 (below_size (by exact XPrint.bz HB.out))); replace HB := XPrint.A0 (below_step (by exact XPrint.bz HB.out) hb); clear hb ho27; obtain ⟨Ao28, co28, eo28⟩ := Kd.R_slice HO174.out; subst eo28) | ((with_reducible refine gate_callee (f := 45) rfl ?_); refine XPrint.gl (some 18) Try.func45 #[.agg #[.int .i64 0, .int .i64 20], .slice Ao28 y172.length co28] ?_; (with_reducible refine (stage_Slack.calls k 0 20 _ _ y172 t175 t176 _ ?side1 ?side2 A1.out).mono ?_); (case side1 => repeat (first | exact (Kd.R_reads' HO174.out).2.2 | (with_reducible refine Kd.C_alloc ?_ _) | (with_reducible refine Kd.C_drewN ?_ _) | (with_reducible refine Kd.C_drew ?_))); (case side2 => exact (Kd.R_reads' HO174.out).2.1); rintro e w29 ⟨rfl, hb⟩; refine ⟨_, rfl, ?_⟩; replace HO174 := XPrint.A0 (XPrint.rb HO174.out hb); replace HB := XPrint.A0 (below_step (by exact XPrint.bz HB.out) hb); (try clear hb); (try clear hb2); (try clear hk); (try clear hi)) | ((with_reducible refine gate_callee (f := 45) rfl ?_); refine XPrint.gl (some 24) Try.func45 #[.agg #[.int .i64 0, .int .i64 9], .slice Ao28 y172.length co28] ?_; (with_reducible refine (stage_Slack.calls k 0 9 _ _ y172 t177 t178 _ ?side1 ?side2 A2.out).mono ?_); (case side1 => repeat (first | exact (Kd.R_reads' HO174.out).2.2 | (with_reducible refine Kd.C_alloc ?_ _) | (with_reducible refine Kd.C_drewN ?_ _) | (with_reducible refine Kd.C_drew ?_))); (case side2 => exact (Kd.R_reads' HO174.out).2.1); rintro e w30 ⟨rfl, hb⟩; refine ⟨_, rfl, ?_⟩; replace HO174 := XPrint.A0 (XPrint.rb HO174.out hb); replace HB := XPrint.A0 (below_step (by exact XPrint.bz HB.out) hb); (try clear hb); (try clear hb2); (try clear hk); (try clear hi)) | ((with_reducible refine gate_callee (f := 47) rfl ?_); refine XPrint.gl (some 30) Try.func47 #[.agg #[.int .i64 0, .int .i64 9], .slice Ao28 y172.length co28, .int .u8 2] ?_; (with_reducible refine (stage_Split.calls k 0 9 _ _ y172 2 t179 t182 _ ?side1 ?side2 A3.out).mono ?_); (case side1 => repeat (first | exact (Kd.R_reads' HO174.out).2.2 | (with_reducible refine Kd.C_alloc ?_ _) | (with_reducible refine Kd.C_drewN ?_ _) | (with_reducible refine Kd.C_drew ?_))); (case side2 => exact (Kd.R_reads' HO174.out).2.1); rintro e w31 ⟨v180, rfl, ho0, hb⟩; refine ⟨_, rfl, ?_⟩; have HO181 := XPrint.A0 (Kd.R_lower ho0 (below_size (by exact XPrint.bz HB.out))); replace HO174 := XPrint.A0 (XPrint.rb HO174.out hb); replace HB := XPrint.A0 (below_step (by exact XPrint.bz HB.out) hb); (try clear hb); (try clear hb2); (try clear hk); (try clear hi); (try clear ho0)) | ((with_reducible refine gate_callee (f := 72) rfl ?_); refine XPrint.gl (some 34) Try.func72 #[] ?_; (with_reducible refine (liverylaw18_plan.calls  t183 t184 t185 _ A4.out).mono ?_); rintro e w32 ⟨v186, rfl, ho0, hb⟩; refine ⟨_, rfl, ?_⟩; have HO187 := XPrint.A0 (Kd.R_lower ho0 (below_size (by exact XPrint.bz HB.out))); replace HO174 := XPrint.A0 (XPrint.rb HO174.out hb); replace HO181 := XPrint.A0 (XPrint.rb HO181.out hb); replace HB := XPrint.A0 (below_step (by exact XPrint.bz HB.out) hb); (try clear hb); (try clear hb2); (try clear hk); (try clear hi); (try clear ho0); obtain ⟨Ao33, co33, eo33⟩ := Kd.R_slice HO187.out; subst eo33) | ((with_reducible refine gate_callee (f := 48) rfl ?_); refine XPrint.gl (some 35) Try.func48 #[.agg #[.int .i64 t183, .int .i64 t184, .slice Ao33 t185.length co33], .int .i64 0] ?_; (with_reducible refine (stage_Lengths.calls k t183 t184 _ _ t185 0 t188 t191 _ ?side1 ?side2 A5.out).mono ?_); (case side1 => repeat (first | exact (Kd.R_reads' HO187.out).2.2 | (with_reducible refine Kd.C_alloc ?_ _) | (with_reducible refine Kd.C_drewN ?_ _) | (with_reducible refine Kd.C_drew ?_))); (case side2 => exact (Kd.R_reads' HO187.out).2.1); rintro e w34 ⟨v189, rfl, ho0, hb⟩; refine ⟨_, rfl, ?_⟩; have HO190 := XPrint.A0 (Kd.R_lower (Kd.R_new' ho0 (Kd.R_lt (by (with_reducible repeat (first | apply Kd.R_alloc | apply Kd.R_drewN | apply Kd.R_drew)); exact HO174.out))) (below_size (by exact XPrint.bz HB.out))); replace HO174 := XPrint.A0 (Kd.R_elder' (by (with_reducible repeat (first | apply Kd.R_alloc | apply Kd.R_drewN | apply Kd.R_drew)); exact HO174.out) (Kd.R_base ho0) hb); replace HO181 := XPrint.A0 (XPrint.rb HO181.out hb); replace HO187 := XPrint.A0 (XPrint.rb HO187.out hb); replace HB := XPrint.A0 (below_step (by exact XPrint.bz HB.out) hb); (try clear hb); (try clear hb2); (try clear hk); (try clear hi); (try clear ho0)) | ((with_reducible refine gate_callee (f := 72) rfl ?_); refine XPrint.gl (some 39) Try.func72 #[] ?_; (with_reducible refine (liverylaw18_plan.calls  t192 t193 t194 _ A6.out).mono ?_); rintro e w35 ⟨v195, rfl, ho0, hb⟩; refine ⟨_, rfl, ?_⟩; have HO196 := XPrint.A0 (Kd.R_lower (Kd.R_new' ho0 (Kd.R_lt (by (with_reducible repeat (first | apply Kd.R_alloc | apply Kd.R_drewN | apply Kd.R_drew)); exact HO187.out))) (below_size (by exact XPrint.bz HB.out))); replace HO174 := XPrint.A0 (XPrint.rb HO174.out hb); replace HO181 := XPrint.A0 (XPrint.rb HO181.out hb); replace HO187 := XPrint.A0 (Kd.R_elder' (by (with_reducible repeat (first | apply Kd.R_alloc | apply Kd.R_drewN | apply Kd.R_drew)); exact HO187.out) (Kd.R_base ho0) hb); replace HO190 := XPrint.A0 (XPrint.rb HO190.out hb); replace HB := XPrint.A0 (below_step (by exact XPrint.bz HB.out) hb); (try clear hb); (try clear hb2); (try clear hk); (try clear hi); (try clear ho0); obtain ⟨Ao36, co36, eo36⟩ := Kd.R_slice HO196.out; subst eo36) | ((with_reducible refine gate_callee (f := 48) rfl ?_); refine XPrint.gl (some 40) Try.func48 #[.agg #[.int .i64 t192, .int .i64 t193, .slice Ao36 t194.length co36], .int .i64 2] ?_; (with_reducible refine (stage_Lengths.calls k t192 t193 _ _ t194 2 t197 t200 _ ?side1 ?side2 A7.out).mono ?_); (case side1 => repeat (first | exact (Kd.R_reads' HO196.out).2.2 | (with_reducible refine Kd.C_alloc ?_ _) | (with_reducible refine Kd.C_drewN ?_ _) | (with_reducible refine Kd.C_drew ?_))); (case side2 => exact (Kd.R_reads' HO196.out).2.1); rintro e w37 ⟨v198, rfl, ho0, hb⟩; refine ⟨_, rfl, ?_⟩; have HO199 := XPrint.A0 (Kd.R_lower (Kd.R_new' (Kd.R_new' ho0 (Kd.R_lt (by (with_reducible repeat (first | apply Kd.R_alloc | apply Kd.R_drewN | apply Kd.R_drew)); exact HO174.out))) (Kd.R_lt (by (with_reducible repeat (first | apply Kd.R_alloc | apply Kd.R_drewN | apply Kd.R_drew)); exact HO190.out))) (below_size (by exact XPrint.bz HB.out))); replace HO174 := XPrint.A0 (Kd.R_elder' (by (with_reducible repeat (first | apply Kd.R_alloc | apply Kd.R_drewN | apply Kd.R_drew)); exact HO174.out) (Kd.R_base ho0) hb); replace HO181 := XPrint.A0 (XPrint.rb HO181.out hb); replace HO187 := XPrint.A0 (XPrint.rb HO187.out hb); replace HO190 := XPrint.A0 (Kd.R_elder' (by (with_reducible repeat (first | apply Kd.R_alloc | apply Kd.R_drewN | apply Kd.R_drew)); exact HO190.out) (Kd.R_base ho0) hb); replace HO196 := XPrint.A0 (XPrint.rb HO196.out hb); replace HB := XPrint.A0 (below_step (by exact XPrint.bz HB.out) hb); (try clear hb); (try clear hb2); (try clear hk); (try clear hi); (try clear ho0)) | ((with_reducible refine gate_callee (f := 47) rfl ?_); refine XPrint.gl (some 46) Try.func47 #[.agg #[.int .i64 0, .int .i64 20], .slice Ao28 y172.length co28, .int .u8 3] ?_; (with_reducible refine (stage_Split.calls k 0 20 _ _ y172 3 t201 t204 _ ?side1 ?side2 A8.out).mono ?_); (case side1 => repeat (first | exact (Kd.R_reads' HO174.out).2.2 | (with_reducible refine Kd.C_alloc ?_ _) | (with_reducible refine Kd.C_drewN ?_ _) | (with_reducible refine Kd.C_drew ?_))); (case side2 => exact (Kd.R_reads' HO174.out).2.1); rintro e w38 ⟨v202, rfl, ho0, hb⟩; refine ⟨_, rfl, ?_⟩; have HO203 := XPrint.A0 (Kd.R_lower (Kd.R_new' ho0 (Kd.R_lt (by (with_reducible repeat (first | apply Kd.R_alloc | apply Kd.R_drewN | apply Kd.R_drew)); exact HO181.out))) (below_size (by exact XPrint.bz HB.out))); replace HO174 := XPrint.A0 (XPrint.rb HO174.out hb); replace HO181 := XPrint.A0 (Kd.R_elder' (by (with_reducible repeat (first | apply Kd.R_alloc | apply Kd.R_drewN | apply Kd.R_drew)); exact HO181.out) (Kd.R_base ho0) hb); replace HO187 := XPrint.A0 (XPrint.rb HO187.out hb); replace HO190 := XPrint.A0 (XPrint.rb HO190.out hb); replace HO196 := XPrint.A0 (XPrint.rb HO196.out hb); replace HO199 := XPrint.A0 (XPrint.rb HO199.out hb); replace HB := XPrint.A0 (below_step (by exact XPrint.bz HB.out) hb); (try clear hb); (try clear hb2); (try clear hk); (try clear hi); (try clear ho0)) | (go_at_call 73; (with_reducible refine XPrint.at_lit #[.int .i64 13, .int .i64 18, .int .i64 20] 2 ?_); have A_ := A13.out; rw [Ny205.out] at A_; (refine (liverylaw18_ends.calls k _ _ y172 20 0 _ _ ([13, 18, 20] : List Int) true _ ?side1 ?side2 ?side3 ?side4 A_).mono ?_); (case side1 => repeat (first | exact (Kd.R_reads' HO174.out).2.2 | (with_reducible refine Kd.C_alloc ?_ _) | (with_reducible refine Kd.C_drewN ?_ _) | (with_reducible refine Kd.C_drew ?_))); (case side2 => exact (Kd.R_reads' HO174.out).2.1); (case side3 => exact XPrint.lit_C _ 2 .i64 [13, 18, 20] _ rfl (by simp)); (case side4 => exact Nat.le_refl _); rintro e w42 ⟨rfl, hb⟩; replace HO174 := XPrint.A0 (XPrint.rb HO174.out hb); replace HO181 := XPrint.A0 (XPrint.rb HO181.out hb); replace HO187 := XPrint.A0 (XPrint.rb HO187.out hb); replace HO190 := XPrint.A0 (XPrint.rb HO190.out hb); replace HO196 := XPrint.A0 (XPrint.rb HO196.out hb); replace HO199 := XPrint.A0 (XPrint.rb HO199.out hb); replace HO203 := XPrint.A0 (XPrint.rb HO203.out hb); replace HB := XPrint.A0 (below_step (by exact XPrint.bz HB.out) hb); (try clear hb); (try clear hb2); (try clear hk); (try clear hi)) | (go_at_call 73; (with_reducible refine XPrint.at_lit #[.int .i64 3, .int .i64 8, .int .i64 20] 2 ?_); have A_ := A15.out; rw [Ny209.out] at A_; (refine (liverylaw18_ends.calls k _ _ y172 20 1 _ _ ([3, 8, 20] : List Int) true _ ?side1 ?side2 ?side3 ?side4 A_).mono ?_); (case side1 => repeat (first | exact (Kd.R_reads' HO174.out).2.2 | (with_reducible refine Kd.C_alloc ?_ _) | (with_reducible refine Kd.C_drewN ?_ _) | (with_reducible refine Kd.C_drew ?_))); (case side2 => exact (Kd.R_reads' HO174.out).2.1); (case side3 => exact XPrint.lit_C _ 2 .i64 [3, 8, 20] _ rfl (by simp)); (case side4 => exact Nat.le_refl _); rintro e w46 ⟨rfl, hb⟩; replace HO174 := XPrint.A0 (XPrint.rb HO174.out hb); replace HO181 := XPrint.A0 (XPrint.rb HO181.out hb); replace HO187 := XPrint.A0 (XPrint.rb HO187.out hb); replace HO190 := XPrint.A0 (XPrint.rb HO190.out hb); replace HO196 := XPrint.A0 (XPrint.rb HO196.out hb); replace HO199 := XPrint.A0 (XPrint.rb HO199.out hb); replace HO203 := XPrint.A0 (XPrint.rb HO203.out hb); replace HB := XPrint.A0 (below_step (by exact XPrint.bz HB.out) hb); (try clear hb); (try clear hb2); (try clear hk); (try clear hi)) | (go_at_call 73; (with_reducible refine XPrint.at_lit #[.int .i64 6, .int .i64 16, .int .i64 20] 2 ?_); have A_ := A17.out; rw [Ny213.out] at A_; (refine (liverylaw18_ends.calls k _ _ y172 20 2 _ _ ([6, 16, 20] : List Int) true _ ?side1 ?side2 ?side3 ?side4 A_).mono ?_); (case side1 => repeat (first | exact (Kd.R_reads' HO174.out).2.2 | (with_reducible refine Kd.C_alloc ?_ _) | (with_reducible refine Kd.C_drewN ?_ _) | (with_reducible refine Kd.C_drew ?_))); (case side2 => exact (Kd.R_reads' HO174.out).2.1); (case side3 => exact XPrint.lit_C _ 2 .i64 [6, 16, 20] _ rfl (by simp)); (case side4 => exact Nat.le_refl _); rintro e w50 ⟨rfl, hb⟩; replace HO174 := XPrint.A0 (XPrint.rb HO174.out hb); replace HO181 := XPrint.A0 (XPrint.rb HO181.out hb); replace HO187 := XPrint.A0 (XPrint.rb HO187.out hb); replace HO190 := XPrint.A0 (XPrint.rb HO190.out hb); replace HO196 := XPrint.A0 (XPrint.rb HO196.out hb); replace HO199 := XPrint.A0 (XPrint.rb HO199.out hb); replace HO203 := XPrint.A0 (XPrint.rb HO203.out hb); replace HB := XPrint.A0 (below_step (by exact XPrint.bz HB.out) hb); (try clear hb); (try clear hb2); (try clear hk); (try clear hi)) | ((with_reducible refine gate_dst (N := 79) rfl ?_); (try (refine gate_guard (by rfl) ?_; dsimp only)); refine Kd.R_lit (Kd.int .i64) _ 2 ?hg (N := 79) ?hd (xs := ([1, 1, 1] : List Int)) (inner := [.int .i64 1, .int .i64 1, .int .i64 1]) (ok := fun _ => True) (okp := fun _ => True) ?hr ?hp (fun _ hk => hk) trivial (Below.refl _ _) (Nat.le_refl _) (by simp) ?_; (case hd => rfl); (case hg => rfl); (case hr => first | (go_simp; done) | (go_simp; rfl)); (case hp => exact (Reps.one (show Kd.M (Kd.int .i64) _ _ _ 1 [.int .i64 1] from rfl) (Reps.one (show Kd.M (Kd.int .i64) _ _ _ 1 [.int .i64 1] from rfl) (Reps.one (show Kd.M (Kd.int .i64) _ _ _ 1 [.int .i64 1] from rfl) (Reps.none _ _))))); intro v218 w51 ho52 hb hg_ hnew_; clear hg_ hnew_; (first | rw [← Ny217.out] at ho52 | (simp only [Int.reduceToNat] at ho52; rw [← Ny217.out] at ho52)); have HO219 := XPrint.A0 (Kd.R_lower ho52 (below_size (by exact XPrint.bz HB.out))); replace HO174 := XPrint.A0 (XPrint.rb HO174.out hb); replace HO181 := XPrint.A0 (XPrint.rb HO181.out hb); replace HO187 := XPrint.A0 (XPrint.rb HO187.out hb); replace HO190 := XPrint.A0 (XPrint.rb HO190.out hb); replace HO196 := XPrint.A0 (XPrint.rb HO196.out hb); replace HO199 := XPrint.A0 (XPrint.rb HO199.out hb); replace HO203 := XPrint.A0 (XPrint.rb HO203.out hb); replace HB := XPrint.A0 (below_step (by exact XPrint.bz HB.out) hb); clear hb ho52) | (go_at_call 73; (with_reducible refine XPrint.at_lit #[.int .i64 2, .int .i64 5, .int .i64 8] 2 ?_); obtain ⟨Ao55, co55, eo55⟩ := Kd.R_slice HO219.out; subst eo55; have A_ := A19.out; rw [Ny220.out] at A_; (refine (liverylaw18_ends.calls k _ _ y217 8 2 _ _ ([2, 5, 8] : List Int) true _ ?side1 ?side2 ?side3 ?side4 A_).mono ?_); (case side1 => repeat (first | exact (Kd.R_reads' HO219.out).2.2 | (with_reducible refine Kd.C_alloc ?_ _) | (with_reducible refine Kd.C_drewN ?_ _) | (with_reducible refine Kd.C_drew ?_))); (case side2 => exact (Kd.R_reads' HO219.out).2.1); (case side3 => exact XPrint.lit_C _ 2 .i64 [2, 5, 8] _ rfl (by simp)); (case side4 => exact Nat.le_refl _); rintro e w57 ⟨rfl, hb⟩; replace HO174 := XPrint.A0 (XPrint.rb HO174.out hb); replace HO181 := XPrint.A0 (XPrint.rb HO181.out hb); replace HO187 := XPrint.A0 (XPrint.rb HO187.out hb); replace HO190 := XPrint.A0 (XPrint.rb HO190.out hb); replace HO196 := XPrint.A0 (XPrint.rb HO196.out hb); replace HO199 := XPrint.A0 (XPrint.rb HO199.out hb); replace HO203 := XPrint.A0 (XPrint.rb HO203.out hb); replace HO219 := XPrint.A0 (XPrint.rb HO219.out hb); replace HB := XPrint.A0 (below_step (by exact XPrint.bz HB.out) hb); (try clear hb); (try clear hb2); (try clear hk); (try clear hi)) | (go_at_call 74; (with_reducible refine XPrint.at_lit #[.int .i64 10, .int .i64 5] 2 ?_); obtain ⟨Ao60, co60, eo60⟩ := Kd.R_slice HO190.out; subst eo60; have A_ := A22.out; rw [Ny224.out] at A_; (refine (liveryref17_Same.calls k _ _ t188 _ _ ([10, 5] : List Int) true _ ?side1 ?side2 ?side3 ?side4 A_).mono ?_); (case side1 => repeat (first | exact (Kd.R_reads' HO190.out).2.2 | (with_reducible refine Kd.C_alloc ?_ _) | (with_reducible refine Kd.C_drewN ?_ _) | (with_reducible refine Kd.C_drew ?_))); (case side2 => exact (Kd.R_reads' HO190.out).2.1); (case side3 => exact XPrint.lit_C _ 2 .i64 [10, 5] _ rfl (by simp)); (case side4 => exact Nat.le_refl _); rintro e w58 ⟨rfl, ⟨nd, hnd⟩⟩; have hb := XPrint.lit_b hnd; clear hnd A_; replace HO174 := XPrint.A0 (XPrint.rb HO174.out hb); replace HO181 := XPrint.A0 (XPrint.rb HO181.out hb); replace HO187 := XPrint.A0 (XPrint.rb HO187.out hb); replace HO190 := XPrint.A0 (XPrint.rb HO190.out hb); replace HO196 := XPrint.A0 (XPrint.rb HO196.out hb); replace HO199 := XPrint.A0 (XPrint.rb HO199.out hb); replace HO203 := XPrint.A0 (XPrint.rb HO203.out hb); replace HO219 := XPrint.A0 (XPrint.rb HO219.out hb); replace HB := XPrint.A0 (below_step (by exact XPrint.bz HB.out) hb); clear hb))
             go_ret
             exact ⟨by first | rfl | (simp [errW_none, errW_some] <;> rfl) | (simp [*, errW_none, errW_some] <;> rfl), by exact XPrint.bz HB.out⟩
            ·rw [if_neg c25] at H
             exact absurd H (by simp)
           ·rw [if_neg c24] at H
            exact absurd H (by simp)
          ·replace c23 := Bool.eq_false_iff.mpr c23
           subst c23
           have H1 := H; rw [if_neg (show ¬ (false = true) by decide)] at H1
           clear H
           have H := H1
           clear H1
           exact absurd H (by simp)
         ·rw [if_neg c21] at H
          exact absurd H (by simp)
        ·replace c20 := Bool.eq_false_iff.mpr c20
         subst c20
         have H1 := H; rw [if_neg (show ¬ (false = true) by decide)] at H1
         clear H
         have H := H1
         clear H1
         exact absurd H (by simp)
       ·replace c18 := Bool.eq_false_iff.mpr c18
        subst c18
        have H1 := H; rw [if_neg (show ¬ (false = true) by decide)] at H1
        clear H
        have H := H1
        clear H1
        exact absurd H (by simp)
      ·replace c16 := Bool.eq_false_iff.mpr c16
       subst c16
       have H1 := H; rw [if_neg (show ¬ (false = true) by decide)] at H1
       clear H
       have H := H1
       clear H1
       exact absurd H (by simp)
     ·replace c14 := Bool.eq_false_iff.mpr c14
      subst c14
      have H1 := H; rw [if_neg (show ¬ (false = true) by decide)] at H1
      clear H
      have H := H1
      clear H1
      exact absurd H (by simp)
    ·rw [if_neg c12] at H
     exact absurd H (by simp)
   ·rw [if_neg c11] at H
    exact absurd H (by simp)
  ·rw [if_neg c10] at H
   exact absurd H (by simp)
 ·rw [if_neg c9] at H
  exact absurd H (by simp)

/-! ### liverylaw18_big: function 50 -/
def liverylaw18_big.l0 : Nat → List Int → Int → Option (Bool)
 | 0, _, _ => none
 | k + 1, x0, x3 => if x3 < (x0.length : Int) then (if 0 ≤ x3 then (if (rd x0 x3) > 4096 then (some true) else (liverylaw18_big.l0 k x0 (wrap64 (x3 + 1)))) else (none)) else (some false)
def liverylaw18_big.f (k : Nat) (l0 : List Int) : Option (Bool) := liverylaw18_big.l0 k l0 0
theorem liverylaw18_big.mono_l : ∀ k, (∀ y0 y1, LeO (liverylaw18_big.l0 k y0 y1) (liverylaw18_big.l0 (k + 1) y0 y1))
 | 0 => fun _ _ r h => by simp [liverylaw18_big.l0] at h
 | k + 1 => by
  have ih0 := liverylaw18_big.mono_l k
  ·intro y0 y1
   unfold liverylaw18_big.l0
   repeat' first
   | (with_reducible exact ih0 _ _)
   | (with_reducible exact LeO.refl _)
   | (with_reducible exact LeO.none _)
   | (with_reducible refine LeO.ite ?_ ?_)
   | (with_reducible refine LeO.bind ?_ (fun _ => ?_))
   | exact ih0 _ _
   | exact LeO.none _
   | refine LeO.ite ?_ ?_
   | refine LeO.bind ?_ (fun _ => ?_)
theorem liverylaw18_big.mono : ∀ a0 k, LeO (liverylaw18_big.f k a0) (liverylaw18_big.f (k + 1) a0) := by
 intro a0 k
 have ih0 := liverylaw18_big.mono_l k
 unfold liverylaw18_big.f
 repeat' first
   | (with_reducible exact ih0 _ _)
   | (with_reducible exact LeO.refl _)
   | (with_reducible exact LeO.none _)
   | (with_reducible refine LeO.ite ?_ ?_)
   | (with_reducible refine LeO.bind ?_ (fun _ => ?_))
   | exact ih0 _ _
   | exact LeO.none _
   | refine LeO.ite ?_ ?_
   | refine LeO.bind ?_ (fun _ => ?_)
set_option maxHeartbeats 8000000 in
set_option maxRecDepth 100000 in
theorem liverylaw18_big.calls (k : Nat) (A0 : Option Addr) (c0 : Nat) (l0 : List Int) (r : Bool) (w : World) (hr0 : Kd.C (Kd.int .i64) w A0 l0.length l0) (hc0 : l0.length ≤ c0) (h : liverylaw18_big.f k l0 = some r) :
  Calls Try.prog 50 #[.slice A0 l0.length c0] w fun e w' => e = .returned (.bool r) ∧ Drawn0 w w' := by
 have HR0 := XPrint.A0 hr0
 have HC0 := XPrint.A0 hc0
 clear hr0 hc0
 have H : (liverylaw18_big.l0 k l0 0) = some r := h
 clear h
 have H' := XPrint.A0 H
 clear H
 go_enter Try.func50, Try.ntmps50
 go_wp2
 go_loopg [3] k (fun kq v3 w' => ∃ (x3_1 : Int), v3 = .int .i64 x3_1 ∧ Aside0 (liverylaw18_big.l0 kq l0 x3_1 = some r) ∧ Aside0 (kq ≤ k) ∧ Drawn0 w w')
 case atStart => exact ⟨(0), (by first | rfl | (simp; done) | (simp [*]; done)), H', ⟨Nat.le_refl _⟩, by repeat (first | exact Drawn0.refl _ | apply Drawn0.step)⟩
 case round =>
  clear H'
  obtain ⟨x3_1, rfl, HA, HK1, ⟨m1, rfl⟩⟩ := hrel
  cases gk with
  | zero => exact absurd HA.out (by simp [liverylaw18_big.l0])
  | succ k1 =>
   have H := HA.out
   clear HA
   simp only [liverylaw18_big.l0] at H
   by_cases c2 : x3_1 < (l0.length : Int)
   ·rw [if_pos c2] at H
    have c2b0 : decide (x3_1 < (l0.length : Int)) = true := decide_eq_true c2
    clear c2
    by_cases c3 : 0 ≤ x3_1
    ·rw [if_pos c3] at H
     have c3b0 : decide (0 ≤ x3_1) = true := decide_eq_true c3
     clear c3
     by_cases c4 : (rd l0 x3_1) > 4096
     ·rw [if_pos c4] at H
      have c4b0 : decide (4096 < (rd l0 x3_1)) = true := decide_eq_true c4
      clear c4
      obtain rfl := Option.some.inj H
      have p228 : 0 ≤ (x3_1 : Int) := of_decide_eq_true (by first | (with_reducible assumption) | assumption)
      have q228 : x3_1 < (l0.length : Int) := of_decide_eq_true (by first | (with_reducible assumption) | assumption)
      obtain ⟨ad228, e228, hx228_0⟩ := Kd.at_int HR0.out x3_1 p228 q228
      cases e228
      replace p228 := eq_true p228
      replace q228 := eq_true q228
      go_wp2
      go_ret
      exact ⟨by first | rfl | (simp; done) | (simp [*]; done), by repeat (first | exact Drawn0.refl _ | apply Drawn0.step)⟩
     ·rw [if_neg c4] at H
      have c4b0 : decide (4096 < (rd l0 x3_1)) = false := decide_eq_false c4
      clear c4
      have H' := XPrint.A0 H
      clear H
      have p228 : 0 ≤ (x3_1 : Int) := of_decide_eq_true (by first | (with_reducible assumption) | assumption)
      have q228 : x3_1 < (l0.length : Int) := of_decide_eq_true (by first | (with_reducible assumption) | assumption)
      obtain ⟨ad228, e228, hx228_0⟩ := Kd.at_int HR0.out x3_1 p228 q228
      cases e228
      replace p228 := eq_true p228
      replace q228 := eq_true q228
      go_wp2
      go_roundg k1
      case measure => have := HK1.out; omega
      case rel => exact ⟨(wrap64 (x3_1 + 1)), (by first | rfl | (simp; done) | (simp [*]; done)), H', ⟨by have := HK1.out; omega⟩, by repeat (first | exact Drawn0.refl _ | apply Drawn0.step)⟩
    ·rw [if_neg c3] at H
     exact absurd H (by simp)
   ·rw [if_neg c2] at H
    have c2b0 : decide (x3_1 < (l0.length : Int)) = false := decide_eq_false c2
    clear c2
    obtain rfl := Option.some.inj H
    go_wp2
    go_ret
    exact ⟨by first | rfl | (simp; done) | (simp [*]; done), by repeat (first | exact Drawn0.refl _ | apply Drawn0.step)⟩

end Go.Proofs.Ytkaokiiooakleaa.PStageParts
