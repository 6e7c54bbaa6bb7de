-- printed by this session's own driver over the kit's printer: Lean checks it
import Derived.Test.YthibppfdonepoaaCLedgerNone0
namespace Go.Proofs.Ythibppfdonepoaa.PLedgerNone
open Go.RowKit Go.Proofs.YthibppfdonepoaaW.PrintWords Go.Proofs.YthibppfdonepoaaW.PrintLast Go.Proofs.YthibppfdonepoaaW.PrintMore
attribute [local go_sem] max2_int min2_int max_two min_two max_three min_three max_four min_four   -- for this text's walks alone
set_option linter.unusedVariables false
set_option linter.unusedSimpArgs false

/-! GIVEN -/
/-! ### liverylaw23_LedgerNone: function 14 -/
/-- The law holds of every act. -/
def liverylaw23_LedgerNone.f (a0_0 a0_1 a0_2 a0_3 a0_4 : Int) (a0_5 : Bool) (a0_6 : Int) : Option Bool := some true
theorem liverylaw23_LedgerNone.calls (a0_0 a0_1 a0_2 a0_3 a0_4 : Int) (a0_5 : Bool) (a0_6 : Int) (r : Bool) (w : World) (h : liverylaw23_LedgerNone.f a0_0 a0_1 a0_2 a0_3 a0_4 a0_5 a0_6 = some r) :
    Calls Try.prog 14 #[.agg #[.int .u8 a0_0, .int .u32 a0_1, .int .i64 a0_2, .int .i64 a0_3, .int .u32 a0_4, .bool a0_5, .int .i64 a0_6]] w fun e w' => e = .returned (.bool r) ∧ Below w.heap.size w w' := by
  obtain rfl : true = r := by simpa [liverylaw23_LedgerNone.f] using h
  exact LedT.ledgerNone a0_0 a0_1 a0_2 a0_3 a0_4 a0_6 a0_5 w


end Go.Proofs.Ythibppfdonepoaa.PLedgerNone
