-- printed by this session's own driver over the kit's printer: Lean checks it
import Derived.Test.YthibppfdonepoaaCNodePlaysPNodePlx0
namespace Go.Proofs.Ythibppfdonepoaa.PNodePl
open Go.RowKit Go.Proofs.YthibppfdonepoaaW.PrintWords Go.Proofs.YthibppfdonepoaaW.PrintLast Go.Proofs.YthibppfdonepoaaW.PrintMore
attribute [local go_sem] max2_int min2_int max_two min_two max_three min_three max_four min_four   -- for this text's walks alone
set_option linter.unusedVariables false
set_option linter.unusedSimpArgs false

/-! GIVEN -/
/-! ### liverylaw22_NodePlays: function 3 -/
/-- The law holds of every unit and acts. -/
def liverylaw22_NodePlays.f (a0_0 a0_1 : Int) (l1 : List (S41)) : Option Bool := if (l1.all fun x => (Lit.int .u32 x.f1.f0).wf) = true then some true else none
theorem liverylaw22_NodePlays.calls (a0_0 a0_1 : Int) (A1 : Option Addr) (c1 : Nat) (l1 : List (S41)) (r : Bool) (w : World) (hr1 : Kd.C k41 w A1 l1.length l1) (hc1 : l1.length ≤ c1) (h : liverylaw22_NodePlays.f a0_0 a0_1 l1 = some r) :
    Calls Try.prog 3 #[.agg #[.int .i64 a0_0, .int .i64 a0_1], .slice A1 l1.length c1] w fun e w' => e = .returned (.bool r) ∧ Below w.heap.size w w' := by
  unfold liverylaw22_NodePlays.f at h
  split at h
  · rename_i hwf
    obtain rfl : true = r := by simpa using h
    let l : List (Bool × PNodePlays.S39) := l1.map fun x => (x.f0, ⟨x.f1.f0, ⟨x.f1.f1.f0, x.f1.f1.f1⟩⟩)
    have hll : l.length = l1.length := List.length_map _
    have hA : NodeT.Acts w A1 l := by
      refine ⟨fun j hj => ?_, fun x hx => ?_⟩
      · rw [hll] at hj
        obtain ⟨ad, hA, d0, d1, d2, d3⟩ := at_T41 hr1 (j : Int) (by omega) (by omega)
        have ej : (j : Int).toNat = j := by simp
        have er : rd_T41 l1 (j : Int) = l1[j] := by unfold rd_T41; rw [ej, List.getD_eq_getElem?_getD, List.getElem?_eq_getElem hj]; rfl
        rw [er, ej] at d0 d1 d2 d3
        refine ⟨ad, hA, ⟨?_, ?_, ?_, ?_⟩⟩ <;> simp only [l, List.getElem_map] <;> assumption
      · obtain ⟨y, hy, rfl⟩ := List.mem_map.1 hx
        exact List.all_eq_true.1 hwf y hy
    have hle : l.length ≤ 9223372036854775807 := by rw [hll]; exact Kd.C_max hr1
    have key : Calls Try.prog 3 #[.agg #[.int .i64 a0_0, .int .i64 a0_1], .slice A1 l.length c1] w fun e w' => e = .returned (.bool true) ∧ Below w.heap.size w w' := by
      by_cases hu : NodeT.okV 1 ⟨a0_0, a0_1⟩
      · by_cases hn : 100 < l.length
        · exact NodeT.nodePlays_long a0_0 a0_1 A1 l.length c1 w hu hn
        · exact NodeT.nodePlays a0_0 a0_1 A1 c1 l w hA hle hu hn
      · exact NodeT.nodePlays_bad a0_0 a0_1 A1 l.length c1 w hu
    rwa [hll] at key
  · cases h


end Go.Proofs.Ythibppfdonepoaa.PNodePl
