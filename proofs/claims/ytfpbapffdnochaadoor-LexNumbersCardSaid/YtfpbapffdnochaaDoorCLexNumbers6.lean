-- printed by this session's own driver over the kit's printer: Lean checks it
import Derived.Test.YtfpbapffdnochaaDoorCLexNumbers0
namespace Go.Proofs.YtfpbapffdnochaaDoor.PLexNumbers
open Go.RowKit Go.Proofs.YtfpbapffdnochaaDoorW.PrintWords Go.Proofs.YtfpbapffdnochaaDoorW.PrintLast Go.Proofs.YtfpbapffdnochaaDoorW.PrintMore
attribute [local go_sem] max2_int min2_int max_two min_two max_three min_three max_four min_four   -- for this text's walks alone
set_option linter.unusedVariables false
set_option linter.unusedSimpArgs false

/-! GIVEN -/
/-! ### lex_Word: function 16 -/
/-- Is a run a word? -/
def lex_Word.f (a0 : ByteArray) : Option Bool := if 9223372036854775807 < a0.size then none else some (LexH.wordF a0.toList)
theorem lex_Word.calls (a0 : ByteArray) (r : Bool) (w : World) (h : lex_Word.f a0 = some r) :
    Calls Tryd.prog 16 #[.string a0] w fun e w' => e = .returned (.bool r) ∧ Below w.heap.size w w' := by
  unfold lex_Word.f at h
  split at h
  · cases h
  · injection h with h
    subst h
    exact LexH.word a0 w (by unfold maxLen; omega)


end Go.Proofs.YtfpbapffdnochaaDoor.PLexNumbers
