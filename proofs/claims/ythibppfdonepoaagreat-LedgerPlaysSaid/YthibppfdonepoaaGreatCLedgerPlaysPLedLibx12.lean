
import Derived.Test.YthibppfdonepoaaGreatCLedgerPlaysPLedLibx0
import Derived.Test.YthibppfdonepoaaGreatCLedgerPlaysPLedLibx11
namespace Go.Proofs.YthibppfdonepoaaGreat.PLedLib
open Go.RowKit Go.Proofs.YthibppfdonepoaaGreatW.PrintWords Go.Proofs.YthibppfdonepoaaGreatW.PrintLast Go.Proofs.YthibppfdonepoaaGreatW.PrintMore
attribute [local go_sem] max2_int min2_int max_two min_two max_three min_three max_four min_four
set_option linter.unusedVariables false
set_option linter.unusedSimpArgs false
end Go.Proofs.YthibppfdonepoaaGreat.PLedLib
