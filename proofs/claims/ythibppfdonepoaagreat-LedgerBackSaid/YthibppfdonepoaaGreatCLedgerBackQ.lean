/- The statement LedgerBack over numbers and lists alone: of every input. No condition but that numbers are of their kind. -/
import Derived.Test.YthibppfdonepoaaGreatCLedgerBack0
import Derived.Test.YthibppfdonepoaaGreatCLedgerBack1
import Derived.Test.YthibppfdonepoaaGreatCLedgerBackW
set_option linter.unusedVariables false
namespace Go.Proofs.YthibppfdonepoaaGreat.PLedgerBack
open Go.RowKit Go.Proofs.YthibppfdonepoaaGreatW.PrintWords Go.Proofs.YthibppfdonepoaaGreatW.PrintLast Go.Proofs.YthibppfdonepoaaGreatW.PrintMore
theorem LedgerBack (a0 a1 : Int) (l1 : List S61) (b0 b1 b2 b3 b4 : Int) (b5 : Bool) (b6 : Int) (w0 : ((Lit.int .i64 a0).wf = true) ∧ ((Lit.int .i64 a1).wf = true)) (w1 : (l1.length ≤ maxLen ∧ ∀ x ∈ l1, ((Lit.int .u8 x.f0).wf = true) ∧ (((Lit.int .u32 x.f1.f0).wf = true) ∧ (((Lit.int .i64 x.f1.f1.f0).wf = true) ∧ ((Lit.int .i64 x.f1.f1.f1).wf = true))) ∧ ((Lit.int .u32 x.f2).wf = true) ∧ (True) ∧ ((Lit.int .i64 x.f4).wf = true))) (w2 : ((Lit.int .u8 b0).wf = true) ∧ (((Lit.int .u32 b1).wf = true) ∧ (((Lit.int .i64 b2).wf = true) ∧ ((Lit.int .i64 b3).wf = true))) ∧ ((Lit.int .u32 b4).wf = true) ∧ (True) ∧ ((Lit.int .i64 b6).wf = true)) : liverylaw23_LedgerBack.f a0 a1 l1 b0 b1 b2 b3 b4 b5 b6 = some true :=
 if_pos ⟨⟨w2.1, w2.2.1.1, w2.2.2.1, w2.2.2.2.2⟩, List.all_eq_true.2 fun x hx => by
  have h := w1.2 x hx
  rw [h.1, h.2.1.1, h.2.2.1, h.2.2.2.2]
  rfl⟩
end Go.Proofs.YthibppfdonepoaaGreat.PLedgerBack
