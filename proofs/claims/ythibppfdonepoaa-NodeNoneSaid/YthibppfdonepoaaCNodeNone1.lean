-- printed by this session's own driver over the kit's printer: Lean checks it
import Derived.Test.YthibppfdonepoaaCNodeNone0
namespace Go.Proofs.Ythibppfdonepoaa.PNodeNone
open Go.RowKit Go.Proofs.YthibppfdonepoaaW.PrintWords Go.Proofs.YthibppfdonepoaaW.PrintLast Go.Proofs.YthibppfdonepoaaW.PrintMore
attribute [local go_sem] max2_int min2_int max_two min_two max_three min_three max_four min_four   -- for this text's walks alone
set_option linter.unusedVariables false
set_option linter.unusedSimpArgs false

/-! GIVEN -/
/-! ### liverylaw22_NodeNone: function 6 -/
/-- The law holds of every node. -/
def liverylaw22_NodeNone.f (a0_0 a0_1 a0_2 : Int) : Option Bool := some true
theorem liverylaw22_NodeNone.calls (a0_0 a0_1 a0_2 : Int) (r : Bool) (w : World) (h : liverylaw22_NodeNone.f a0_0 a0_1 a0_2 = some r) :
    Calls Try.prog 6 #[.agg #[.int .u32 a0_0, .int .i64 a0_1, .int .i64 a0_2]] w fun e w' => e = .returned (.bool r) ∧ Below w.heap.size w w' := by
  obtain rfl : true = r := by simpa [liverylaw22_NodeNone.f] using h
  exact NodeT.nodeNone a0_0 a0_1 a0_2 w


end Go.Proofs.Ythibppfdonepoaa.PNodeNone
