/- The statement NodePlays over numbers and lists alone: of every input. No condition but that numbers are of their kind. -/
import Derived.Test.YthibppfdonepoaaCNodePlaysPNodePlx0
import Derived.Test.YthibppfdonepoaaCNodePlaysPNodePlx1
import Derived.Test.YthibppfdonepoaaCNodePlaysW
set_option linter.unusedVariables false
namespace Go.Proofs.Ythibppfdonepoaa.PNodePl
open Go.RowKit Go.Proofs.YthibppfdonepoaaW.PrintWords Go.Proofs.YthibppfdonepoaaW.PrintLast Go.Proofs.YthibppfdonepoaaW.PrintMore
theorem NodePlays (a0 a1 : Int) (l1 : List S41) (w0 : ((Lit.int .i64 a0).wf = true) ∧ ((Lit.int .i64 a1).wf = true)) (w1 : (l1.length ≤ maxLen ∧ ∀ x ∈ l1, (True) ∧ (((Lit.int .u32 x.f1.f0).wf = true) ∧ (((Lit.int .i64 x.f1.f1.f0).wf = true) ∧ ((Lit.int .i64 x.f1.f1.f1).wf = true))))) : liverylaw22_NodePlays.f a0 a1 l1 = some true :=
  if_pos (List.all_eq_true.2 fun x hx => (w1.2 x hx).2.1)
end Go.Proofs.Ythibppfdonepoaa.PNodePl
