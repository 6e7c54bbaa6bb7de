-- printed by this session's own driver over the kit's printer: Lean checks it
import Derived.Test.YtfpbapffdnochaaDoorCLexBack0
namespace Go.Proofs.YtfpbapffdnochaaDoor.PLexBack
open Go.RowKit Go.Proofs.YtfpbapffdnochaaDoorW.PrintWords Go.Proofs.YtfpbapffdnochaaDoorW.PrintLast Go.Proofs.YtfpbapffdnochaaDoorW.PrintMore
attribute [local go_sem] max2_int min2_int max_two min_two max_three min_three max_four min_four   -- for this text's walks alone
set_option linter.unusedVariables false
set_option linter.unusedSimpArgs false

/-! GIVEN -/
/-! ### liveryref06_Same: function 12 -/
/-- Are two rows of tokens the same (with places)? -/
def liveryref06_Same.f (l0 l1 : List S30) (a2 : Bool) : Option Bool :=
  if 9223372036854775807 < l0.length then none else some (LexH.sameAll a2 (l0.map fun x => (x.f0, x.f1, x.f2, x.f3)) (l1.map fun x => (x.f0, x.f1, x.f2, x.f3)))
theorem liveryref06_Same.calls (A0 : Option Addr) (c0 : Nat) (l0 : List S30) (A1 : Option Addr) (c1 : Nat) (l1 : List S30) (a2 : Bool) (r : Bool) (w : World) (hr0 : Kd.C k30 w A0 l0.length l0) (hc0 : l0.length ≤ c0) (hr1 : Kd.C k30 w A1 l1.length l1) (hc1 : l1.length ≤ c1) (h : liveryref06_Same.f l0 l1 a2 = some r) :
    Calls Tryd.prog 12 #[.slice A0 l0.length c0, .slice A1 l1.length c1, .bool a2] w fun e w' => e = .returned (.bool r) ∧ Below w.heap.size w w' := by
  unfold liveryref06_Same.f at h
  split at h
  · cases h
  · rename_i h0
    injection h with h
    subst h
    have G : ∀ (A : Option Addr) (l : List S30), Kd.C k30 w A l.length l → ∀ j (hj : j < (l.map fun x => ((x.f0, x.f1, x.f2, x.f3) : LexH.T4)).length), ∃ ad, A = some ad ∧ LexH.At4 w (ad.add (j * 4)) (l.map fun x => ((x.f0, x.f1, x.f2, x.f3) : LexH.T4))[j] := by
      intro A l hr j hj
      rw [List.length_map] at hj
      obtain ⟨ad, e1, d1, d2, d3, d4⟩ := at_T30 hr (j : Int) (by omega) (by omega)
      have ej : (j : Int).toNat = j := by simp
      have er : rd_T30 l (j : Int) = l[j] := by unfold rd_T30; rw [ej, List.getD_eq_getElem?_getD, List.getElem?_eq_getElem hj]; rfl
      rw [er, ej] at d1 d2 d3 d4
      rw [List.getElem_map]
      exact ⟨ad, e1, d1, d2, d3, d4⟩
    have T := LexH.sameW A0 A1 c0 c1 (l0.map fun x => (x.f0, x.f1, x.f2, x.f3)) (l1.map fun x => (x.f0, x.f1, x.f2, x.f3)) a2 w (by rw [List.length_map]; unfold maxLen; omega) (G A0 l0 hr0) (G A1 l1 hr1)
    rw [List.length_map, List.length_map] at T
    exact T


end Go.Proofs.YtfpbapffdnochaaDoor.PLexBack
