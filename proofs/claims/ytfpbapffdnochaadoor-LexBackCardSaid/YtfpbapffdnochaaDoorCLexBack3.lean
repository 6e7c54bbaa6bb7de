-- printed by this session's own driver over the kit's printer: Lean checks it
import Derived.Test.YtfpbapffdnochaaDoorCLexBack0
namespace Go.Proofs.YtfpbapffdnochaaDoor.PLexBack
open Go.RowKit Go.Proofs.YtfpbapffdnochaaDoorW.PrintWords Go.Proofs.YtfpbapffdnochaaDoorW.PrintLast Go.Proofs.YtfpbapffdnochaaDoorW.PrintMore
attribute [local go_sem] max2_int min2_int max_two min_two max_three min_three max_four min_four   -- for this text's walks alone
set_option linter.unusedVariables false
set_option linter.unusedSimpArgs false

/-! GIVEN -/
/-! ### lex_Text: function 11 -/
/-- The text of tokens (of at most so many bytes). -/
def lex_Text.f (l0 : List S30) : Option ByteArray :=
  if 9223372036854775807 < l0.length ∨ 140737488355328 < (l0.map fun x => x.f1.size + 1).sum then none else some ⟨(LexH.textK (l0.map fun x => (x.f0, x.f1)) l0.length).toArray⟩
theorem lex_Text.calls (A0 : Option Addr) (c0 : Nat) (l0 : List S30) (r : ByteArray) (w : World) (hr0 : Kd.C k30 w A0 l0.length l0) (hc0 : l0.length ≤ c0) (h : lex_Text.f l0 = some r) :
    Calls Tryd.prog 11 #[.slice A0 l0.length c0] w fun e w' => e = .returned (.string r) ∧ Below w.heap.size w w' := by
  unfold lex_Text.f at h
  split at h
  · cases h
  · rename_i h0
    injection h with h
    subst h
    have T := LexH.textW A0 c0 (l0.map fun x => (x.f0, x.f1)) w (by rw [List.length_map]; unfold maxLen; omega) (fun j hj => ?_) (by rw [List.map_map]; exact Nat.le_of_not_lt fun h => h0 (.inr h))
    · rw [List.length_map] at T
      exact T
    · rw [List.length_map] at hj
      obtain ⟨ad, e1, c1, c2, c3, c4⟩ := at_T30 hr0 (j : Int) (by omega) (by omega)
      have ej : (j : Int).toNat = j := by simp
      have er : rd_T30 l0 (j : Int) = l0[j] := by unfold rd_T30; rw [ej, List.getD_eq_getElem?_getD, List.getElem?_eq_getElem hj]; rfl
      rw [er, ej] at c1 c2 c3 c4
      refine ⟨ad, e1, ?_, ?_, _, _, c3, c4⟩
      · rw [List.getElem_map]; exact c1
      · rw [List.getElem_map]; exact c2


end Go.Proofs.YtfpbapffdnochaaDoor.PLexBack
