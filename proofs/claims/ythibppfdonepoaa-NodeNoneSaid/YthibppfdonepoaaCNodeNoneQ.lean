/- The statement NodeNone over numbers and lists alone: of every input. No condition but that numbers are of their kind. -/
import Derived.Test.YthibppfdonepoaaCNodeNone0
import Derived.Test.YthibppfdonepoaaCNodeNone1
import Derived.Test.YthibppfdonepoaaCNodeNoneW
set_option linter.unusedVariables false
namespace Go.Proofs.Ythibppfdonepoaa.PNodeNone
open Go.RowKit Go.Proofs.YthibppfdonepoaaW.PrintWords Go.Proofs.YthibppfdonepoaaW.PrintLast Go.Proofs.YthibppfdonepoaaW.PrintMore
theorem NodeNone (a0 a1 a2 : Int) (w0 : ((Lit.int .u32 a0).wf = true) ∧ (((Lit.int .i64 a1).wf = true) ∧ ((Lit.int .i64 a2).wf = true))) : liverylaw22_NodeNone.f a0 a1 a2 = some true := rfl
end Go.Proofs.Ythibppfdonepoaa.PNodeNone
