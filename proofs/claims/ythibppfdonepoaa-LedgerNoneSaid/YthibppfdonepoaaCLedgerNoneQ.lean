/- The statement LedgerNone over numbers and lists alone: of every input. No condition but that numbers are of their kind. -/
import Derived.Test.YthibppfdonepoaaCLedgerNone0
import Derived.Test.YthibppfdonepoaaCLedgerNone1
import Derived.Test.YthibppfdonepoaaCLedgerNoneW
set_option linter.unusedVariables false
namespace Go.Proofs.Ythibppfdonepoaa.PLedgerNone
open Go.RowKit Go.Proofs.YthibppfdonepoaaW.PrintWords Go.Proofs.YthibppfdonepoaaW.PrintLast Go.Proofs.YthibppfdonepoaaW.PrintMore
theorem LedgerNone (a0 a1 a2 a3 a4 : Int) (a5 : Bool) (a6 : Int) (w0 : ((Lit.int .u8 a0).wf = true) ∧ (((Lit.int .u32 a1).wf = true) ∧ (((Lit.int .i64 a2).wf = true) ∧ ((Lit.int .i64 a3).wf = true))) ∧ ((Lit.int .u32 a4).wf = true) ∧ (True) ∧ ((Lit.int .i64 a6).wf = true)) : liverylaw23_LedgerNone.f a0 a1 a2 a3 a4 a5 a6 = some true := rfl
end Go.Proofs.Ythibppfdonepoaa.PLedgerNone
