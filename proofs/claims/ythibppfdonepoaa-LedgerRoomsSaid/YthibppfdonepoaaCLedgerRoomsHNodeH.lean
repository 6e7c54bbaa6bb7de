/- Vectors, in plain words (parts of tpl/pure Vec*). -/
import Derived.Test.YthibppfdonepoaaCLedgerRoomsHNodeF
import Derived.Test.YthibppfdonepoaaCLedgerRoomsPNodePlaysx12
set_option linter.unusedVariables false
namespace Go.Proofs.Ythibppfdonepoaa.NodeT
open Go.RowKit Go.Proofs.Ythibppfdonepoaa.PNodePlays Go.Proofs.YthibppfdonepoaaW.PrintWords Go.Proofs.YthibppfdonepoaaW.PrintLast
def inV (x y : Int) : Prop := (-1125899906842624 ≤ x ∧ x ≤ 1125899906842624) ∧ (-1125899906842624 ≤ y ∧ y ≤ 1125899906842624)
instance (x y : Int) : Decidable (inV x y) := inferInstanceAs (Decidable (_ ∧ _))
def b64 (x : Int) : Prop := -9223372036854775808 ≤ x ∧ x ≤ 9223372036854775807
theorem w64 {x : Int} (h : b64 x) : wrap64 x = x := by
  unfold b64 at h
  unfold wrap64
  omega
theorem May_ev (x y : Int) : Ev (fun k => vec_May.f k x y) (decide (inV x y)) := by
  refine Ev.of (vec_May.mono x y) (k := 3) ?_
  have e : wrap64 (0 + 1) = 1 := by unfold wrap64; omega
  have e2 : wrap64 (1 + 1) = 2 := by unfold wrap64; omega
  simp only [vec_May.f, vec_fits_int64.f, vec_fits_int64.l0, rd, e, e2]
  by_cases h1 : x < -1125899906842624
  · rw [decide_eq_false (show ¬ inV x y by unfold inV; omega)]; simp [h1]
  · by_cases h2 : x > 1125899906842624
    · rw [decide_eq_false (show ¬ inV x y by unfold inV; omega)]; simp [h1, h2]
    · by_cases h3 : y < -1125899906842624
      · rw [decide_eq_false (show ¬ inV x y by unfold inV; omega)]; simp [h1, h2, h3]
      · by_cases h4 : y > 1125899906842624
        · rw [decide_eq_false (show ¬ inV x y by unfold inV; omega)]; simp [h1, h2, h3, h4]
        · rw [decide_eq_true (show inV x y by unfold inV; omega)]; simp [h1, h2, h3, h4]
theorem told_nil (k : Nat) (l0 l : List S23) (n : Int) (i : Int) (h : ¬ i < n) (h0 : 0 < l0.length) : vec_told.l0 (k + 1) l0 l n i = some ((rd_T23 l0 0).f0, (rd_T23 l0 0).f1, 0) := by
  simp only [vec_told.l0]
  rw [if_neg h, if_pos (by omega)]
theorem told_cons (k : Nat) (l0 l : List S23) (n : Int) (i : Int) (b : Bool) (h : i < n) (hi : 0 ≤ i) (hl : i < l.length) (hb : vec_May.f k (rd_T23 l i).f0 (rd_T23 l i).f1 = some b) :
    vec_told.l0 (k + 1) l0 l n i = if b = true then vec_told.l0 k l0 l n (wrap64 (i + 1)) else some (0, 0, 10) := by
  simp only [vec_told.l0]
  rw [if_pos h, if_pos hi, if_pos hl, hb]
  rfl
theorem told2_ev (a b : S23) : Ev (fun k => vec_told.f k [a, b]) (if inV a.f0 a.f1 ∧ inV b.f0 b.f1 then (a.f0, a.f1, 0) else (0, 0, 10)) := by
  obtain ⟨K1, h1⟩ := May_ev a.f0 a.f1
  dsimp only at h1
  obtain ⟨K2, h2⟩ := May_ev b.f0 b.f1
  dsimp only at h2
  have e : wrap64 (0 + 1) = 1 := by unfold wrap64; omega
  have e2 : wrap64 (1 + 1) = 2 := by unfold wrap64; omega
  refine Ev.of (vec_told.mono _) (k := K1 + K2 + 2 + 1) ?_
  unfold vec_told.f
  rw [told_cons (K1 + K2 + 2) _ _ _ _ _ (by simp) (by omega) (by simp) (h1 _ (by omega)), e]
  by_cases ha : inV a.f0 a.f1
  · rw [decide_eq_true ha, if_pos rfl, told_cons (K1 + K2 + 1) _ _ _ _ _ (by simp) (by omega) (by simp) (h2 _ (by omega)), e2]
    by_cases hb : inV b.f0 b.f1
    · rw [decide_eq_true hb, if_pos rfl, told_nil _ _ _ _ _ (by simp) (by simp), if_pos ⟨ha, hb⟩]
      rfl
    · rw [decide_eq_false hb, if_neg (by simp), if_neg (fun h => hb h.2)]
  · rw [decide_eq_false ha, if_neg (by simp), if_neg (fun h => ha h.1)]
theorem LE_f (a b c d : Int) : vec_LE.f a b c d = some (decide (a ≤ c ∧ b ≤ d)) := by
  simp only [vec_LE.f, vec_both_bool_at_vec_LE_1.f, vec_LE_1.f, Option.bind_some]
  by_cases h : a ≤ c <;> simp [h]
/-- How many units fit. -/
def units (a b c d : Int) : Int × Int :=
  if ¬ (1 ≤ c ∧ 1 ≤ d) then (0, 2) else if ¬ (inV a b ∧ inV c d) then (0, 10) else if a < 0 ∨ b < 0 then (0, 0) else (mn (a / c) (b / d), 0)
theorem Units1_f (a c : Int) (ha : b64 a) (hc : 1 ≤ c) : vec_Units_1.f a c = some (if a < 0 then 0 else a / c) := by
  unfold vec_Units_1.f
  by_cases h : a < 0
  · simp [h]
  · rw [if_neg h, if_neg (by omega), if_neg h, Int.tdiv_eq_ediv_of_nonneg (by omega)]
    have h1 : 0 ≤ a / c := Int.ediv_nonneg (by omega) (by omega)
    have h2 : a / c ≤ a := Int.ediv_le_self _ (by omega)
    unfold b64 at ha
    rw [w64 (by unfold b64; omega)]
theorem Units_ev (a b c d : Int) (ha : b64 a) (hb : b64 b) : Ev (fun k => vec_Units.f k a b c d) (units a b c d) := by
  obtain ⟨K, hK⟩ := told2_ev ⟨a, b⟩ ⟨c, d⟩
  dsimp only at hK
  refine ⟨K, fun k hk => ?_⟩
  simp only [vec_Units.f, LE_f, Option.bind_some, hK k hk]
  unfold units
  by_cases h1 : 1 ≤ c ∧ 1 ≤ d
  · rw [decide_eq_true h1, if_pos rfl, if_neg (show ¬ ¬ (1 ≤ c ∧ 1 ≤ d) from fun h => h h1)]
    by_cases h2 : inV a b ∧ inV c d
    · rw [if_pos h2, if_neg (show ¬ ¬ (inV a b ∧ inV c d) from fun h => h h2)]
      simp only [vec_both_int64_at_vec_Units_1.f, Units1_f a c ha h1.1, Units1_f b d hb h1.2, Option.bind_some, if_true]
      have h3 : 0 ≤ a / c ∨ a < 0 := by
        by_cases h : a < 0
        · exact .inr h
        · exact .inl (Int.ediv_nonneg (by omega) (by omega))
      have h4 : 0 ≤ b / d ∨ b < 0 := by
        by_cases h : b < 0
        · exact .inr h
        · exact .inl (Int.ediv_nonneg (by omega) (by omega))
      by_cases h5 : a < 0
      · by_cases h6 : b < 0 <;> simp [h5, h6, mn]; omega
      · by_cases h6 : b < 0
        · simp [h5, h6, mn]; omega
        · simp [h5, h6]
    · simp [h2]
  · simp [h1]
theorem Scale_f (a b n : Int) (hn : b64 n) : vec_Scale.f a b n = some (if inV a b then (if vec_Scale.bad a n = true ∨ vec_Scale.bad b n = true then (0, 0, 10) else (vec_Scale.v a n, vec_Scale.v b n, 0)) else (0, 0, 10)) := by
  unfold vec_Scale.f
  rw [if_neg (fun h => h hn)]
  by_cases h : inV a b
  · rw [if_pos (show vec_Scale.may a b from h), if_pos h]
    by_cases h2 : vec_Scale.bad a n = true ∨ vec_Scale.bad b n = true
    · rw [if_pos h2, if_pos h2]
    · rw [if_neg h2, if_neg h2]
  · rw [if_neg (show ¬ vec_Scale.may a b from h), if_neg h]
end Go.Proofs.Ythibppfdonepoaa.NodeT
