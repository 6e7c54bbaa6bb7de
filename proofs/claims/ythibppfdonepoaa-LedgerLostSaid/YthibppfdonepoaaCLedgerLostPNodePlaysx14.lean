
import Derived.Test.YthibppfdonepoaaCLedgerLostPNodePlaysx0
import Derived.Test.YthibppfdonepoaaCLedgerLostPNodePlaysx13
namespace Go.Proofs.Ythibppfdonepoaa.PNodePlays
open Go.RowKit Go.Proofs.YthibppfdonepoaaW.PrintWords Go.Proofs.YthibppfdonepoaaW.PrintLast Go.Proofs.YthibppfdonepoaaW.PrintMore
attribute [local go_sem] max2_int min2_int max_two min_two max_three min_three max_four min_four
set_option linter.unusedVariables false
set_option linter.unusedSimpArgs false
end Go.Proofs.Ythibppfdonepoaa.PNodePlays
