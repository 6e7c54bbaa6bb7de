/- The reference of vectors, in plain words (parts of tpl/pure Vec*). -/
import Derived.Test.YthibppfdonepoaaCNodePlaysHNodeH
import Derived.Test.YthibppfdonepoaaCNodePlaysPNodeLibx12
set_option linter.unusedVariables false
namespace Go.Proofs.Ythibppfdonepoaa.NodeT
open Go.RowKit Go.Proofs.Ythibppfdonepoaa.PNodeLib Go.Proofs.Ythibppfdonepoaa.PNodePlays Go.Proofs.YthibppfdonepoaaW.PrintWords Go.Proofs.YthibppfdonepoaaW.PrintLast
theorem refMay (x y : Int) : PNodeLib.liveryref01_May.f x y = some (decide (inV x y)) := by
  unfold PNodeLib.liveryref01_May.f
  by_cases h1 : x ≥ -1125899906842624
  · by_cases h2 : x ≤ 1125899906842624
    · by_cases h3 : y ≥ -1125899906842624
      · rw [if_pos h1, if_pos h2, if_pos h3]
        by_cases h4 : y ≤ 1125899906842624
        · rw [decide_eq_true h4, decide_eq_true (show inV x y by unfold inV; omega)]
        · rw [decide_eq_false h4, decide_eq_false (show ¬ inV x y by unfold inV; omega)]
      · rw [if_pos h1, if_pos h2, if_neg h3, decide_eq_false (show ¬ inV x y by unfold inV; omega)]
    · rw [if_pos h1, if_neg h2, decide_eq_false (show ¬ inV x y by unfold inV; omega)]
  · rw [if_neg h1, decide_eq_false (show ¬ inV x y by unfold inV; omega)]
theorem refAdd (a b c d : Int) : liveryref01_Add.f a b c d = some (if inV a b ∧ inV c d ∧ inV (wrap64 (a + c)) (wrap64 (b + d)) then (wrap64 (a + c), wrap64 (b + d), 0) else (0, 0, 10)) := by
  unfold liveryref01_Add.f liveryref01_told.f
  simp only [refMay, Option.bind_some]
  by_cases h1 : inV a b
  · by_cases h2 : inV c d
    · by_cases h3 : inV (wrap64 (a + c)) (wrap64 (b + d)) <;> simp [h1, h2, h3]
    · simp [h2]
  · simp [h1]
theorem refLE (a b c d : Int) : liveryref01_LE.f a b c d = some (decide (a ≤ c ∧ b ≤ d)) := by
  unfold liveryref01_LE.f
  by_cases h : a ≤ c <;> simp [h]
theorem times_ev (x n : Int) (hn : b64 n) : ∃ r : Int × Bool, Ev (fun k => liveryref01_times.f k x n) r ∧ (-1125899906842624 ≤ x ∧ x ≤ 1125899906842624 → r = (vec_Scale.v x n, !vec_Scale.bad x n)) := by
  by_cases h0 : x = 0 ∨ n = 0
  · refine ⟨(0, true), Ev.of (liveryref01_times.mono x n) (k := 1) ?_, fun _ => ?_⟩
    · unfold liveryref01_times.f
      by_cases hx : x = 0
      · rw [if_pos hx]; rfl
      · have hn0 : n = 0 := by omega
        rw [if_neg hx, hn0]; rfl
    · simp [vec_Scale.v, vec_Scale.bad, h0]
  · have hx : ¬ x = 0 := fun h => h0 (.inl h)
    have hn0 : (n == 0) = false := by simp; omega
    by_cases hr : n > 1125899906842624 ∨ n < -1125899906842624
    · refine ⟨(0, false), Ev.of (liveryref01_times.mono x n) (k := 2) ?_, fun _ => ?_⟩
      · unfold liveryref01_times.f
        rw [if_neg hx, hn0]
        simp only [liveryref01_times.j0, liveryref01_times.j1]
        rw [if_neg (by simp)]
        by_cases h1 : n > 1125899906842624
        · rw [if_pos h1]; rfl
        · rw [if_neg h1, decide_eq_true (by omega)]; rfl
      · unfold vec_Scale.v vec_Scale.bad
        rw [if_neg h0, if_pos (by omega), decide_eq_true ⟨h0, by omega⟩]; rfl
    · have hd1 : 1 ≤ mx n (-n) := by unfold mx; split <;> omega
      have hd2 : mx n (-n) ≤ 1125899906842624 := by unfold mx; split <;> omega
      have hq0 : 0 ≤ 1125899906842624 / mx n (-n) := Int.ediv_nonneg (by omega) (by omega)
      have hq1 : 1125899906842624 / mx n (-n) ≤ 1125899906842624 := Int.ediv_le_self _ (by omega)
      have eq : wrap64 (Int.tdiv (1125899906842624 : Int) (mx n (wrap64 (-n)))) = 1125899906842624 / mx n (-n) := by
        rw [w64 (x := -n) (by unfold b64; omega), Int.tdiv_eq_ediv_of_nonneg (by omega)]
        exact w64 (by unfold b64; omega)
      have step : ∀ k, liveryref01_times.f (k + 2) x n = if mx x (wrap64 (-x)) > 1125899906842624 / mx n (-n) then some (0, false) else some (wrap64 (x * n), true) := by
        intro k
        unfold liveryref01_times.f
        rw [if_neg hx, hn0]
        simp only [liveryref01_times.j0, liveryref01_times.j1]
        rw [if_neg (by simp), if_neg (by omega), decide_eq_false (by omega), if_neg (by simp), eq, w64 (x := -n) (by unfold b64; omega), if_neg (by omega)]
      by_cases hq : mx x (wrap64 (-x)) > 1125899906842624 / mx n (-n)
      · refine ⟨(0, false), Ev.of (liveryref01_times.mono x n) (k := 2) (by rw [step 0, if_pos hq]), fun hb => ?_⟩
        rw [w64 (x := -x) (by unfold b64; omega)] at hq
        unfold vec_Scale.v vec_Scale.bad
        rw [if_neg h0, if_pos (by omega), decide_eq_true ⟨h0, by omega⟩]; rfl
      · refine ⟨(wrap64 (x * n), true), Ev.of (liveryref01_times.mono x n) (k := 2) (by rw [step 0, if_neg hq]), fun hb => ?_⟩
        rw [w64 (x := -x) (by unfold b64; omega)] at hq
        have hm := vec_Scale.mul_in rfl rfl hd1 hq
        unfold vec_Scale.v vec_Scale.bad
        rw [if_neg h0, if_neg (by omega), decide_eq_false (by omega), w64 (by unfold b64; omega)]; rfl
theorem refScale_ev (a b n : Int) (hn : b64 n) : Ev (fun k => liveryref01_Scale.f k a b n) (if inV a b then (if vec_Scale.bad a n = true ∨ vec_Scale.bad b n = true then (0, 0, 10) else (vec_Scale.v a n, vec_Scale.v b n, 0)) else (0, 0, 10)) := by
  obtain ⟨r1, ⟨K1, h1⟩, g1⟩ := times_ev a n hn
  dsimp only at h1
  obtain ⟨r2, ⟨K2, h2⟩, g2⟩ := times_ev b n hn
  dsimp only at h2
  refine ⟨K1 + K2, fun k hk => ?_⟩
  simp only [liveryref01_Scale.f, refMay]
  rw [h1 k (by omega), h2 k (by omega)]
  simp only [Option.bind_some]
  by_cases h : inV a b
  · rw [if_pos h, decide_eq_true h, g1 h.1, g2 h.2]
    cases hb1 : vec_Scale.bad a n <;> cases hb2 : vec_Scale.bad b n <;> simp
  · simp [h]
end Go.Proofs.Ythibppfdonepoaa.NodeT
