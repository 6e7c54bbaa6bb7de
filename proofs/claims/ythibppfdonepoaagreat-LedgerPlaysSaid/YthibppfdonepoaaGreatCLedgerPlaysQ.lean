/- The statement LedgerPlays over numbers and lists alone: of every input. No condition but that numbers are of their kind. -/
import Derived.Test.YthibppfdonepoaaGreatCLedgerPlays0
import Derived.Test.YthibppfdonepoaaGreatCLedgerPlays1
import Derived.Test.YthibppfdonepoaaGreatCLedgerPlaysW
set_option linter.unusedVariables false
namespace Go.Proofs.YthibppfdonepoaaGreat.PLedgerPlays
open Go.RowKit Go.Proofs.YthibppfdonepoaaGreatW.PrintWords Go.Proofs.YthibppfdonepoaaGreatW.PrintLast Go.Proofs.YthibppfdonepoaaGreatW.PrintMore
theorem LedgerPlays (a0 a1 : Int) (l1 : List S61) (w0 : ((Lit.int .i64 a0).wf = true) ∧ ((Lit.int .i64 a1).wf = true)) (w1 : (l1.length ≤ maxLen ∧ ∀ x ∈ l1, ((Lit.int .u8 x.f0).wf = true) ∧ (((Lit.int .u32 x.f1.f0).wf = true) ∧ (((Lit.int .i64 x.f1.f1.f0).wf = true) ∧ ((Lit.int .i64 x.f1.f1.f1).wf = true))) ∧ ((Lit.int .u32 x.f2).wf = true) ∧ (True) ∧ ((Lit.int .i64 x.f4).wf = true))) : liverylaw23_LedgerPlays.f a0 a1 l1 = some true :=
 if_pos (List.all_eq_true.2 fun x hx => by
  have h := w1.2 x hx
  rw [h.1, h.2.1.1, h.2.2.1, h.2.2.2.2]
  rfl)
end Go.Proofs.YthibppfdonepoaaGreat.PLedgerPlays
