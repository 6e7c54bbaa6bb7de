/- The statement VecTells over numbers and lists alone: of every input. No condition but that numbers are of their kind. -/
import Derived.Test.YtdcgilnmncanfaaCVecTells0
import Derived.Test.YtdcgilnmncanfaaCVecTells1
import Derived.Test.YtdcgilnmncanfaaCVecTells2
import Derived.Test.YtdcgilnmncanfaaCVecTells3
import Derived.Test.YtdcgilnmncanfaaCVecTells4
import Derived.Test.YtdcgilnmncanfaaCVecTells5
import Derived.Test.YtdcgilnmncanfaaCVecTells6
import Derived.Test.YtdcgilnmncanfaaCVecTells7
import Derived.Test.YtdcgilnmncanfaaCVecTells8
import Derived.Test.YtdcgilnmncanfaaCVecTells9
import Derived.Test.YtdcgilnmncanfaaCVecTellsW
set_option linter.unusedVariables false
namespace Go.Proofs.Ytdcgilnmncanfaa.PVecTells
open Go.RowKit Go.Proofs.YtdcgilnmncanfaaW.PrintWords Go.Proofs.YtdcgilnmncanfaaW.PrintLast Go.Proofs.YtdcgilnmncanfaaW.PrintMore
def inV (x y : Int) : Prop := (-1125899906842624 ≤ x ∧ x ≤ 1125899906842624) ∧ (-1125899906842624 ≤ y ∧ y ≤ 1125899906842624)
instance (x y : Int) : Decidable (inV x y) := inferInstanceAs (Decidable (_ ∧ _))
def b64 (x : Int) : Prop := -9223372036854775808 ≤ x ∧ x ≤ 9223372036854775807
theorem w64 {x : Int} (h : b64 x) : wrap64 x = x := by
  unfold b64 at h
  unfold wrap64
  omega
theorem May_ev (x y : Int) : Ev (fun k => vec_May.f k x y) (decide (inV x y)) := by
  refine Ev.of (vec_May.mono x y) (k := 3) ?_
  have e : wrap64 (0 + 1) = 1 := by unfold wrap64; omega
  have e2 : wrap64 (1 + 1) = 2 := by unfold wrap64; omega
  simp only [vec_May.f, vec_fits_int64.f, vec_fits_int64.l0, rd, e, e2]
  by_cases h1 : x < -1125899906842624
  · rw [decide_eq_false (show ¬ inV x y by unfold inV; omega)]; simp [h1]
  · by_cases h2 : x > 1125899906842624
    · rw [decide_eq_false (show ¬ inV x y by unfold inV; omega)]; simp [h1, h2]
    · by_cases h3 : y < -1125899906842624
      · rw [decide_eq_false (show ¬ inV x y by unfold inV; omega)]; simp [h1, h2, h3]
      · by_cases h4 : y > 1125899906842624
        · rw [decide_eq_false (show ¬ inV x y by unfold inV; omega)]; simp [h1, h2, h3, h4]
        · rw [decide_eq_true (show inV x y by unfold inV; omega)]; simp [h1, h2, h3, h4]
theorem told_nil (k : Nat) (l0 l : List S23) (n : Int) (i : Int) (h : ¬ i < n) (h0 : 0 < l0.length) : vec_told.l0 (k + 1) l0 l n i = some ((rd_T23 l0 0).f0, (rd_T23 l0 0).f1, 0) := by
  simp only [vec_told.l0]
  rw [if_neg h, if_pos (by omega)]
theorem told_cons (k : Nat) (l0 l : List S23) (n : Int) (i : Int) (b : Bool) (h : i < n) (hi : 0 ≤ i) (hl : i < l.length) (hb : vec_May.f k (rd_T23 l i).f0 (rd_T23 l i).f1 = some b) :
    vec_told.l0 (k + 1) l0 l n i = if b = true then vec_told.l0 k l0 l n (wrap64 (i + 1)) else some (0, 0, 10) := by
  simp only [vec_told.l0]
  rw [if_pos h, if_pos hi, if_pos hl, hb]
  rfl
theorem told2_ev (a b : S23) : Ev (fun k => vec_told.f k [a, b]) (if inV a.f0 a.f1 ∧ inV b.f0 b.f1 then (a.f0, a.f1, 0) else (0, 0, 10)) := by
  obtain ⟨K1, h1⟩ := May_ev a.f0 a.f1
  dsimp only at h1
  obtain ⟨K2, h2⟩ := May_ev b.f0 b.f1
  dsimp only at h2
  have e : wrap64 (0 + 1) = 1 := by unfold wrap64; omega
  have e2 : wrap64 (1 + 1) = 2 := by unfold wrap64; omega
  refine Ev.of (vec_told.mono _) (k := K1 + K2 + 2 + 1) ?_
  unfold vec_told.f
  rw [told_cons (K1 + K2 + 2) _ _ _ _ _ (by simp) (by omega) (by simp) (h1 _ (by omega)), e]
  by_cases ha : inV a.f0 a.f1
  · rw [decide_eq_true ha, if_pos rfl, told_cons (K1 + K2 + 1) _ _ _ _ _ (by simp) (by omega) (by simp) (h2 _ (by omega)), e2]
    by_cases hb : inV b.f0 b.f1
    · rw [decide_eq_true hb, if_pos rfl, told_nil _ _ _ _ _ (by simp) (by simp), if_pos ⟨ha, hb⟩]
      rfl
    · rw [decide_eq_false hb, if_neg (by simp), if_neg (fun h => hb h.2)]
  · rw [decide_eq_false ha, if_neg (by simp), if_neg (fun h => ha h.1)]
theorem told3_ev (a b c : S23) : Ev (fun k => vec_told.f k [a, b, c]) (if inV a.f0 a.f1 ∧ inV b.f0 b.f1 ∧ inV c.f0 c.f1 then (a.f0, a.f1, 0) else (0, 0, 10)) := by
  obtain ⟨K1, h1⟩ := May_ev a.f0 a.f1
  dsimp only at h1
  obtain ⟨K2, h2⟩ := May_ev b.f0 b.f1
  dsimp only at h2
  obtain ⟨K3, h3⟩ := May_ev c.f0 c.f1
  dsimp only at h3
  have e : wrap64 (0 + 1) = 1 := by unfold wrap64; omega
  have e2 : wrap64 (1 + 1) = 2 := by unfold wrap64; omega
  have e3 : wrap64 (2 + 1) = 3 := by unfold wrap64; omega
  refine Ev.of (vec_told.mono _) (k := K1 + K2 + K3 + 3 + 1) ?_
  unfold vec_told.f
  rw [told_cons (K1 + K2 + K3 + 3) _ _ _ _ _ (by simp) (by omega) (by simp) (h1 _ (by omega)), e]
  by_cases ha : inV a.f0 a.f1
  · rw [decide_eq_true ha, if_pos rfl, told_cons (K1 + K2 + K3 + 2) _ _ _ _ _ (by simp) (by omega) (by simp) (h2 _ (by omega)), e2]
    by_cases hb : inV b.f0 b.f1
    · rw [decide_eq_true hb, if_pos rfl, told_cons (K1 + K2 + K3 + 1) _ _ _ _ _ (by simp) (by omega) (by simp) (h3 _ (by omega)), e3]
      by_cases hc : inV c.f0 c.f1
      · rw [decide_eq_true hc, if_pos rfl, told_nil _ _ _ _ _ (by simp) (by simp), if_pos ⟨ha, hb, hc⟩]
        rfl
      · rw [decide_eq_false hc, if_neg (by simp), if_neg (fun h => hc h.2.2)]
    · rw [decide_eq_false hb, if_neg (by simp), if_neg (fun h => hb h.2.1)]
  · rw [decide_eq_false ha, if_neg (by simp), if_neg (fun h => ha h.1)]
theorem Sub_ev (a b c d : Int) : Ev (fun k => vec_Sub.f k a b c d) (if inV (wrap64 (a - c)) (wrap64 (b - d)) ∧ inV a b ∧ inV c d then (wrap64 (a - c), wrap64 (b - d), 0) else (0, 0, 10)) := by
  obtain ⟨K, h⟩ := told3_ev ⟨wrap64 (a - c), wrap64 (b - d)⟩ ⟨a, b⟩ ⟨c, d⟩
  dsimp only at h
  refine ⟨K, fun k hk => ?_⟩
  simp only [vec_Sub.f, vec_Sub_1_10052.f, vec_Sub_1_10058.f, vec_Sub_1_53.f, Option.bind_some]
  rw [h k hk]
  rfl
theorem refMay (x y : Int) : liveryref01_May.f x y = some (decide (inV x y)) := by
  unfold liveryref01_May.f
  by_cases h1 : x ≥ -1125899906842624
  · by_cases h2 : x ≤ 1125899906842624
    · by_cases h3 : y ≥ -1125899906842624
      · rw [if_pos h1, if_pos h2, if_pos h3]
        by_cases h4 : y ≤ 1125899906842624
        · rw [decide_eq_true h4, decide_eq_true (show inV x y by unfold inV; omega)]
        · rw [decide_eq_false h4, decide_eq_false (show ¬ inV x y by unfold inV; omega)]
      · rw [if_pos h1, if_pos h2, if_neg h3, decide_eq_false (show ¬ inV x y by unfold inV; omega)]
    · rw [if_pos h1, if_neg h2, decide_eq_false (show ¬ inV x y by unfold inV; omega)]
  · rw [if_neg h1, decide_eq_false (show ¬ inV x y by unfold inV; omega)]
theorem refAdd (a b c d : Int) : liveryref01_Add.f a b c d = some (if inV a b ∧ inV c d ∧ inV (wrap64 (a + c)) (wrap64 (b + d)) then (wrap64 (a + c), wrap64 (b + d), 0) else (0, 0, 10)) := by
  unfold liveryref01_Add.f liveryref01_told.f
  simp only [refMay, Option.bind_some]
  by_cases h1 : inV a b
  · by_cases h2 : inV c d
    · by_cases h3 : inV (wrap64 (a + c)) (wrap64 (b + d)) <;> simp [h1, h2, h3]
    · simp [h2]
  · simp [h1]
theorem refSub (a b c d : Int) (ha : b64 a) (hb : b64 b) : liveryref01_Sub.f a b c d = some (if inV (wrap64 (a - c)) (wrap64 (b - d)) ∧ inV a b ∧ inV c d then (wrap64 (a - c), wrap64 (b - d), 0) else (0, 0, 10)) := by
  unfold liveryref01_Sub.f
  simp only [refMay, refAdd, Option.bind_some]
  by_cases h2 : inV c d
  · have h2' := h2
    unfold inV at h2'
    rw [w64 (x := -c) (by unfold b64; omega), w64 (x := -d) (by unfold b64; omega)]
    have h3 : inV (-c) (-d) := by unfold inV; omega
    have e1 : a + -c = a - c := by omega
    have e2 : b + -d = b - d := by omega
    rw [e1, e2]
    by_cases h1 : inV a b
    · by_cases h4 : inV (wrap64 (a - c)) (wrap64 (b - d)) <;> simp [h1, h2, h3, h4]
    · simp [h1, h2]
  · simp [h2]
theorem times_ev (x n : Int) (hn : b64 n) : ∃ r : Int × Bool, Ev (fun k => liveryref01_times.f k x n) r ∧ (-1125899906842624 ≤ x ∧ x ≤ 1125899906842624 → r = (vec_Scale.v x n, !vec_Scale.bad x n)) := by
  by_cases h0 : x = 0 ∨ n = 0
  · refine ⟨(0, true), Ev.of (liveryref01_times.mono x n) (k := 1) ?_, fun _ => ?_⟩
    · unfold liveryref01_times.f
      by_cases hx : x = 0
      · rw [if_pos hx]; rfl
      · have hn0 : n = 0 := by omega
        rw [if_neg hx, hn0]; rfl
    · simp [vec_Scale.v, vec_Scale.bad, h0]
  · have hx : ¬ x = 0 := fun h => h0 (.inl h)
    have hn0 : (n == 0) = false := by simp; omega
    by_cases hr : n > 1125899906842624 ∨ n < -1125899906842624
    · refine ⟨(0, false), Ev.of (liveryref01_times.mono x n) (k := 2) ?_, fun _ => ?_⟩
      · unfold liveryref01_times.f
        rw [if_neg hx, hn0]
        simp only [liveryref01_times.j0, liveryref01_times.j1]
        rw [if_neg (by simp)]
        by_cases h1 : n > 1125899906842624
        · rw [if_pos h1]; rfl
        · rw [if_neg h1, decide_eq_true (by omega)]; rfl
      · unfold vec_Scale.v vec_Scale.bad
        rw [if_neg h0, if_pos (by omega), decide_eq_true ⟨h0, by omega⟩]; rfl
    · have hd1 : 1 ≤ mx n (-n) := by unfold mx; split <;> omega
      have hd2 : mx n (-n) ≤ 1125899906842624 := by unfold mx; split <;> omega
      have hq0 : 0 ≤ 1125899906842624 / mx n (-n) := Int.ediv_nonneg (by omega) (by omega)
      have hq1 : 1125899906842624 / mx n (-n) ≤ 1125899906842624 := Int.ediv_le_self _ (by omega)
      have eq : wrap64 (Int.tdiv (1125899906842624 : Int) (mx n (wrap64 (-n)))) = 1125899906842624 / mx n (-n) := by
        rw [w64 (x := -n) (by unfold b64; omega), Int.tdiv_eq_ediv_of_nonneg (by omega)]
        exact w64 (by unfold b64; omega)
      have step : ∀ k, liveryref01_times.f (k + 2) x n = if mx x (wrap64 (-x)) > 1125899906842624 / mx n (-n) then some (0, false) else some (wrap64 (x * n), true) := by
        intro k
        unfold liveryref01_times.f
        rw [if_neg hx, hn0]
        simp only [liveryref01_times.j0, liveryref01_times.j1]
        rw [if_neg (by simp), if_neg (by omega), decide_eq_false (by omega), if_neg (by simp), eq, w64 (x := -n) (by unfold b64; omega), if_neg (by omega)]
      by_cases hq : mx x (wrap64 (-x)) > 1125899906842624 / mx n (-n)
      · refine ⟨(0, false), Ev.of (liveryref01_times.mono x n) (k := 2) (by rw [step 0, if_pos hq]), fun hb => ?_⟩
        rw [w64 (x := -x) (by unfold b64; omega)] at hq
        unfold vec_Scale.v vec_Scale.bad
        rw [if_neg h0, if_pos (by omega), decide_eq_true ⟨h0, by omega⟩]; rfl
      · refine ⟨(wrap64 (x * n), true), Ev.of (liveryref01_times.mono x n) (k := 2) (by rw [step 0, if_neg hq]), fun hb => ?_⟩
        rw [w64 (x := -x) (by unfold b64; omega)] at hq
        have hm := vec_Scale.mul_in rfl rfl hd1 hq
        unfold vec_Scale.v vec_Scale.bad
        rw [if_neg h0, if_neg (by omega), decide_eq_false (by omega), w64 (by unfold b64; omega)]; rfl
theorem Scale_f (a b n : Int) (hn : b64 n) : vec_Scale.f a b n = some (if inV a b then (if vec_Scale.bad a n = true ∨ vec_Scale.bad b n = true then (0, 0, 10) else (vec_Scale.v a n, vec_Scale.v b n, 0)) else (0, 0, 10)) := by
  unfold vec_Scale.f
  rw [if_neg (fun h => h hn)]
  by_cases h : inV a b
  · rw [if_pos (show vec_Scale.may a b from h), if_pos h]
    by_cases h2 : vec_Scale.bad a n = true ∨ vec_Scale.bad b n = true
    · rw [if_pos h2, if_pos h2]
    · rw [if_neg h2, if_neg h2]
  · rw [if_neg (show ¬ vec_Scale.may a b from h), if_neg h]
theorem refScale_ev (a b n : Int) (hn : b64 n) : Ev (fun k => liveryref01_Scale.f k a b n) (if inV a b then (if vec_Scale.bad a n = true ∨ vec_Scale.bad b n = true then (0, 0, 10) else (vec_Scale.v a n, vec_Scale.v b n, 0)) else (0, 0, 10)) := by
  obtain ⟨r1, ⟨K1, h1⟩, g1⟩ := times_ev a n hn
  dsimp only at h1
  obtain ⟨r2, ⟨K2, h2⟩, g2⟩ := times_ev b n hn
  dsimp only at h2
  refine ⟨K1 + K2, fun k hk => ?_⟩
  simp only [liveryref01_Scale.f, refMay]
  rw [h1 k (by omega), h2 k (by omega)]
  simp only [Option.bind_some]
  by_cases h : inV a b
  · rw [if_pos h, decide_eq_true h, g1 h.1, g2 h.2]
    cases hb1 : vec_Scale.bad a n <;> cases hb2 : vec_Scale.bad b n <;> simp
  · simp [h]
theorem LE_f (a b c d : Int) : vec_LE.f a b c d = some (decide (a ≤ c ∧ b ≤ d)) := by
  simp only [vec_LE.f, vec_LE_1_10062.f, vec_LE_1_63.f, Option.bind_some]
  by_cases h : a ≤ c <;> simp [h]
theorem refLE (a b c d : Int) : liveryref01_LE.f a b c d = some (decide (a ≤ c ∧ b ≤ d)) := by
  unfold liveryref01_LE.f
  by_cases h : a ≤ c <;> simp [h]
theorem Min_f (a b c d : Int) : vec_Min.f a b c d = some (mn a c, mn b d) := rfl
theorem Max_f (a b c d : Int) : vec_Max.f a b c d = some (mx a c, mx b d) := rfl
/-- How many units fit. -/
def units (a b c d : Int) : Int × Int :=
  if ¬ (1 ≤ c ∧ 1 ≤ d) then (0, 2) else if ¬ (inV a b ∧ inV c d) then (0, 10) else if a < 0 ∨ b < 0 then (0, 0) else (mn (a / c) (b / d), 0)
theorem Units1_f (a c : Int) (ha : b64 a) (hc : 1 ≤ c) : vec_Units_1_59.f a c = some (if a < 0 then 0 else a / c) := by
  unfold vec_Units_1_59.f
  by_cases h : a < 0
  · simp [h]
  · rw [if_neg h, if_neg (by omega), if_neg h, Int.tdiv_eq_ediv_of_nonneg (by omega)]
    have h1 : 0 ≤ a / c := Int.ediv_nonneg (by omega) (by omega)
    have h2 : a / c ≤ a := Int.ediv_le_self _ (by omega)
    unfold b64 at ha
    rw [w64 (by unfold b64; omega)]
theorem Units_ev (a b c d : Int) (ha : b64 a) (hb : b64 b) : Ev (fun k => vec_Units.f k a b c d) (units a b c d) := by
  obtain ⟨K, hK⟩ := told2_ev ⟨a, b⟩ ⟨c, d⟩
  dsimp only at hK
  refine ⟨K, fun k hk => ?_⟩
  simp only [vec_Units.f, LE_f, Option.bind_some, hK k hk]
  unfold units
  by_cases h1 : 1 ≤ c ∧ 1 ≤ d
  · rw [decide_eq_true h1, if_pos rfl, if_neg (show ¬ ¬ (1 ≤ c ∧ 1 ≤ d) from fun h => h h1)]
    by_cases h2 : inV a b ∧ inV c d
    · rw [if_pos h2, if_neg (show ¬ ¬ (inV a b ∧ inV c d) from fun h => h h2)]
      simp only [vec_Units_1_20058.f, Units1_f a c ha h1.1, Units1_f b d hb h1.2, Option.bind_some, if_true]
      have h3 : 0 ≤ a / c ∨ a < 0 := by
        by_cases h : a < 0
        · exact .inr h
        · exact .inl (Int.ediv_nonneg (by omega) (by omega))
      have h4 : 0 ≤ b / d ∨ b < 0 := by
        by_cases h : b < 0
        · exact .inr h
        · exact .inl (Int.ediv_nonneg (by omega) (by omega))
      by_cases h5 : a < 0
      · by_cases h6 : b < 0 <;> simp [h5, h6, mn]; omega
      · by_cases h6 : b < 0
        · simp [h5, h6, mn]; omega
        · simp [h5, h6]
    · simp [h2]
  · simp [h1]
theorem refUnits_ev (a b c d : Int) : Ev (fun k => liveryref01_Units.f k a b c d) (units a b c d) := by
  refine Ev.of (liveryref01_Units.mono _ _ _ _) (k := 2) ?_
  unfold liveryref01_Units.f units
  by_cases h1 : c < 1
  · rw [if_pos h1, if_pos (by omega)]
    rfl
  · by_cases h2 : d < 1
    · rw [if_neg h1, decide_eq_true h2, if_pos (by omega)]
      rfl
    · rw [if_neg h1, decide_eq_false h2, if_neg (by omega)]
      simp only [liveryref01_Units.j0, liveryref01_Units.j1, refMay, Option.bind_some]
      rw [if_neg (by simp)]
      by_cases h3 : inV a b
      · by_cases h4 : inV c d
        · by_cases h5 : a < 0
          · simp [h3, h4, h5]
          · by_cases h6 : b < 0
            · simp [h3, h4, h5, h6]
            · have h3' := h3
              have h4' := h4
              unfold inV at h3' h4'
              have q1 : 0 ≤ a / c := Int.ediv_nonneg (by omega) (by omega)
              have q2 : a / c ≤ a := Int.ediv_le_self _ (by omega)
              have q3 : 0 ≤ b / d := Int.ediv_nonneg (by omega) (by omega)
              have q4 : b / d ≤ b := Int.ediv_le_self _ (by omega)
              have q5 : ¬ c = 0 := by omega
              have q6 : ¬ d = 0 := by omega
              rw [Int.tdiv_eq_ediv_of_nonneg (by omega), Int.tdiv_eq_ediv_of_nonneg (by omega), w64 (x := a / c) (by unfold b64; omega), w64 (x := b / d) (by unfold b64; omega)]
              simp [h3, h4, h5, h6, q5, q6]
        · simp [h3, h4]
      · simp [h3]
theorem head_ev : Ev (fun k => liverylaw01_head.f k) true := Ev.of liverylaw01_head.mono (k := 12) (by kernel_rfl)
theorem VecTells (a0_0 a0_1 a1_0 a1_1 a2 : Int) (w0 : (Lit.int .i64 a0_0).wf = true ∧ (Lit.int .i64 a0_1).wf = true) (w1 : (Lit.int .i64 a1_0).wf = true ∧ (Lit.int .i64 a1_1).wf = true) (w2 : (Lit.int .i64 a2).wf = true) : ∃ k, liverylaw01_VecTells.f k a0_0 a0_1 a1_0 a1_1 a2 = some true := by
  have h0 : b64 a0_0 := XOpen.i64_of w0.1
  have h1 : b64 a0_1 := XOpen.i64_of w0.2
  have h4 : b64 a2 := XOpen.i64_of w2
  obtain ⟨K1, k1⟩ := Sub_ev a0_0 a0_1 a1_0 a1_1
  dsimp only at k1
  obtain ⟨K2, k2⟩ := refScale_ev a0_0 a0_1 a2 h4
  dsimp only at k2
  obtain ⟨K3, k3⟩ := Units_ev a0_0 a0_1 a1_0 a1_1 h0 h1
  dsimp only at k3
  obtain ⟨K4, k4⟩ := refUnits_ev a0_0 a0_1 a1_0 a1_1
  dsimp only at k4
  obtain ⟨K5, k5⟩ := May_ev a0_0 a0_1
  dsimp only at k5
  obtain ⟨K6, k6⟩ := head_ev
  dsimp only at k6
  refine ⟨K1 + K2 + K3 + K4 + K5 + K6, ?_⟩
  unfold liverylaw01_VecTells.f
  rw [k1 _ (by omega), k2 _ (by omega), k3 _ (by omega), k4 _ (by omega), k5 _ (by omega), k6 _ (by omega)]
  simp only [Option.bind_some, refSub a0_0 a0_1 a1_0 a1_1 h0 h1, Scale_f a0_0 a0_1 a2 h4, refMay, Min_f, liveryref01_Min.f, Max_f, liveryref01_Max.f, LE_f, refLE, beq_self_eq_true, Bool.and_self, if_true]
end Go.Proofs.Ytdcgilnmncanfaa.PVecTells
