/- The reference of vectors, in plain words (parts of tpl/pure Vec*). Of a node one unit more would not fit: plain facts. -/
import Derived.Test.YthibppfdonepoaaCLedgerRoomsHNodeH
import Derived.Test.YthibppfdonepoaaCLedgerRoomsPNodeLibx12
import Derived.Test.YthibppfdonepoaaCLedgerRoomsHNodeI
set_option linter.unusedVariables false
namespace Go.Proofs.Ythibppfdonepoaa.NodeT
open Go.RowKit Go.Proofs.Ythibppfdonepoaa.PNodeLib Go.Proofs.Ythibppfdonepoaa.PNodePlays Go.Proofs.YthibppfdonepoaaW.PrintWords Go.Proofs.YthibppfdonepoaaW.PrintLast
theorem refMay (x y : Int) : PNodeLib.liveryref01_May.f x y = some (decide (inV x y)) := by
  unfold PNodeLib.liveryref01_May.f
  by_cases h1 : x ≥ -1125899906842624
  · by_cases h2 : x ≤ 1125899906842624
    · by_cases h3 : y ≥ -1125899906842624
      · rw [if_pos h1, if_pos h2, if_pos h3]
        by_cases h4 : y ≤ 1125899906842624
        · rw [decide_eq_true h4, decide_eq_true (show inV x y by unfold inV; omega)]
        · rw [decide_eq_false h4, decide_eq_false (show ¬ inV x y by unfold inV; omega)]
      · rw [if_pos h1, if_pos h2, if_neg h3, decide_eq_false (show ¬ inV x y by unfold inV; omega)]
    · rw [if_pos h1, if_neg h2, decide_eq_false (show ¬ inV x y by unfold inV; omega)]
  · rw [if_neg h1, decide_eq_false (show ¬ inV x y by unfold inV; omega)]
theorem refAdd (a b c d : Int) : liveryref01_Add.f a b c d = some (if inV a b ∧ inV c d ∧ inV (wrap64 (a + c)) (wrap64 (b + d)) then (wrap64 (a + c), wrap64 (b + d), 0) else (0, 0, 10)) := by
  unfold liveryref01_Add.f liveryref01_told.f
  simp only [refMay, Option.bind_some]
  by_cases h1 : inV a b
  · by_cases h2 : inV c d
    · by_cases h3 : inV (wrap64 (a + c)) (wrap64 (b + d)) <;> simp [h1, h2, h3]
    · simp [h2]
  · simp [h1]
theorem refLE (a b c d : Int) : liveryref01_LE.f a b c d = some (decide (a ≤ c ∧ b ≤ d)) := by
  unfold liveryref01_LE.f
  by_cases h : a ≤ c <;> simp [h]
theorem times_ev (x n : Int) (hn : b64 n) : ∃ r : Int × Bool, Ev (fun k => liveryref01_times.f k x n) r ∧ (-1125899906842624 ≤ x ∧ x ≤ 1125899906842624 → r = (vec_Scale.v x n, !vec_Scale.bad x n)) := by
  by_cases h0 : x = 0 ∨ n = 0
  · refine ⟨(0, true), Ev.of (liveryref01_times.mono x n) (k := 1) ?_, fun _ => ?_⟩
    · unfold liveryref01_times.f
      by_cases hx : x = 0
      · rw [if_pos hx]; rfl
      · have hn0 : n = 0 := by omega
        rw [if_neg hx, hn0]; rfl
    · simp [vec_Scale.v, vec_Scale.bad, h0]
  · have hx : ¬ x = 0 := fun h => h0 (.inl h)
    have hn0 : (n == 0) = false := by simp; omega
    by_cases hr : n > 1125899906842624 ∨ n < -1125899906842624
    · refine ⟨(0, false), Ev.of (liveryref01_times.mono x n) (k := 2) ?_, fun _ => ?_⟩
      · unfold liveryref01_times.f
        rw [if_neg hx, hn0]
        simp only [liveryref01_times.j0, liveryref01_times.j1]
        rw [if_neg (by simp)]
        by_cases h1 : n > 1125899906842624
        · rw [if_pos h1]; rfl
        · rw [if_neg h1, decide_eq_true (by omega)]; rfl
      · unfold vec_Scale.v vec_Scale.bad
        rw [if_neg h0, if_pos (by omega), decide_eq_true ⟨h0, by omega⟩]; rfl
    · have hd1 : 1 ≤ mx n (-n) := by unfold mx; split <;> omega
      have hd2 : mx n (-n) ≤ 1125899906842624 := by unfold mx; split <;> omega
      have hq0 : 0 ≤ 1125899906842624 / mx n (-n) := Int.ediv_nonneg (by omega) (by omega)
      have hq1 : 1125899906842624 / mx n (-n) ≤ 1125899906842624 := Int.ediv_le_self _ (by omega)
      have eq : wrap64 (Int.tdiv (1125899906842624 : Int) (mx n (wrap64 (-n)))) = 1125899906842624 / mx n (-n) := by
        rw [w64 (x := -n) (by unfold b64; omega), Int.tdiv_eq_ediv_of_nonneg (by omega)]
        exact w64 (by unfold b64; omega)
      have step : ∀ k, liveryref01_times.f (k + 2) x n = if mx x (wrap64 (-x)) > 1125899906842624 / mx n (-n) then some (0, false) else some (wrap64 (x * n), true) := by
        intro k
        unfold liveryref01_times.f
        rw [if_neg hx, hn0]
        simp only [liveryref01_times.j0, liveryref01_times.j1]
        rw [if_neg (by simp), if_neg (by omega), decide_eq_false (by omega), if_neg (by simp), eq, w64 (x := -n) (by unfold b64; omega), if_neg (by omega)]
      by_cases hq : mx x (wrap64 (-x)) > 1125899906842624 / mx n (-n)
      · refine ⟨(0, false), Ev.of (liveryref01_times.mono x n) (k := 2) (by rw [step 0, if_pos hq]), fun hb => ?_⟩
        rw [w64 (x := -x) (by unfold b64; omega)] at hq
        unfold vec_Scale.v vec_Scale.bad
        rw [if_neg h0, if_pos (by omega), decide_eq_true ⟨h0, by omega⟩]; rfl
      · refine ⟨(wrap64 (x * n), true), Ev.of (liveryref01_times.mono x n) (k := 2) (by rw [step 0, if_neg hq]), fun hb => ?_⟩
        rw [w64 (x := -x) (by unfold b64; omega)] at hq
        have hm := vec_Scale.mul_in rfl rfl hd1 hq
        unfold vec_Scale.v vec_Scale.bad
        rw [if_neg h0, if_neg (by omega), decide_eq_false (by omega), w64 (by unfold b64; omega)]; rfl
theorem refScale_ev (a b n : Int) (hn : b64 n) : Ev (fun k => liveryref01_Scale.f k a b n) (if inV a b then (if vec_Scale.bad a n = true ∨ vec_Scale.bad b n = true then (0, 0, 10) else (vec_Scale.v a n, vec_Scale.v b n, 0)) else (0, 0, 10)) := by
  obtain ⟨r1, ⟨K1, h1⟩, g1⟩ := times_ev a n hn
  dsimp only at h1
  obtain ⟨r2, ⟨K2, h2⟩, g2⟩ := times_ev b n hn
  dsimp only at h2
  refine ⟨K1 + K2, fun k hk => ?_⟩
  simp only [liveryref01_Scale.f, refMay]
  rw [h1 k (by omega), h2 k (by omega)]
  simp only [Option.bind_some]
  by_cases h : inV a b
  · rw [if_pos h, decide_eq_true h, g1 h.1, g2 h.2]
    cases hb1 : vec_Scale.bad a n <;> cases hb2 : vec_Scale.bad b n <;> simp
  · simp [h]
end Go.Proofs.Ythibppfdonepoaa.NodeT
set_option linter.unusedVariables false
namespace Go.Proofs.Ythibppfdonepoaa.NodeT
open Go.RowKit Go.Proofs.Ythibppfdonepoaa.PNodePlays Go.Proofs.YthibppfdonepoaaW.PrintWords Go.Proofs.YthibppfdonepoaaW.PrintLast
theorem mul_more {u x n : Int} (hu : 1 ≤ u) (h : n + 1 > x / u) : ¬ u * (n + 1) ≤ x := by
  intro h2
  have : n + 1 ≤ x / u := (Int.le_ediv_iff_mul_le (by omega)).2 (by rw [Int.mul_comm]; exact h2)
  omega
theorem scale_more {u0 u1 : Int} {x : S39} (hu : okV 1 ⟨u0, u1⟩) (hx : okV 0 x.f1) : ∃ (k : Nat) (s0 s1 s2 : Int), PNodeLib.liveryref01_Scale.f k u0 u1 (uns u0 u1 x + 1) = some (s0, s1, s2) ∧ (s2 = 10 ∨ s2 = 0 ∧ decide (s0 ≤ x.f1.f0 ∧ s1 ≤ x.f1.f1) = false) := by
  have hn := uns_nonneg hu hx
  have hq : uns u0 u1 x + 1 > x.f1.f0 / u0 ∨ uns u0 u1 x + 1 > x.f1.f1 / u1 := by unfold uns mn; split <;> omega
  obtain ⟨n, hN⟩ : ∃ n, uns u0 u1 x = n := ⟨_, rfl⟩
  rw [hN] at hn hq ⊢
  obtain ⟨K, hK⟩ := refScale_ev u0 u1 (n + 1) (by unfold b64; omega)
  have h := hK K (Nat.le_refl _)
  dsimp only at h
  unfold okV at hu
  dsimp only at hu
  by_cases hv : inV u0 u1
  · rw [if_pos hv] at h
    by_cases hb : vec_Scale.bad u0 (n + 1) = true ∨ vec_Scale.bad u1 (n + 1) = true
    · rw [if_pos hb] at h
      exact ⟨K, _, _, _, h, .inl rfl⟩
    · rw [if_neg hb] at h
      refine ⟨K, _, _, _, h, .inr ⟨rfl, decide_eq_false ?_⟩⟩
      have e : ∀ u, 1 ≤ u → ¬ vec_Scale.bad u (n + 1) = true → vec_Scale.v u (n + 1) = u * (n + 1) := by
        intro u h1 h2
        unfold vec_Scale.bad at h2
        unfold vec_Scale.v
        have h0 : ¬ (u = 0 ∨ n + 1 = 0) := by omega
        rw [if_neg h0, if_neg (fun h3 => h2 (decide_eq_true ⟨h0, h3⟩))]
      rw [e u0 (by omega) (fun h => hb (.inl h)), e u1 (by omega) (fun h => hb (.inr h))]
      rintro ⟨h1, h2⟩
      rcases hq with hq | hq
      · exact mul_more (by omega) hq h1
      · exact mul_more (by omega) hq h2
  · rw [if_neg hv] at h
    exact ⟨K, _, _, _, h, .inl rfl⟩
theorem unit_le {u a b : Int} (hu : 1 ≤ u) (hb : b ≤ a / u) : u * b ≤ a := by
  rw [Int.mul_comm]
  exact (Int.le_ediv_iff_mul_le (by omega)).1 hb
theorem sum_le (F G : S39 → Int) (u : Int) (ns : List S39) (h : ∀ x ∈ ns, u * F x ≤ G x) : u * sumU F ns ≤ sumU G ns := by
  unfold sumU
  induction ns with
  | nil => simp
  | cons a l ih =>
    have h1 := ih fun x hx => h x (by simp [hx])
    have h2 := h a (by simp)
    simp only [List.map_cons, List.sum_cons, Int.mul_add]
    omega
theorem sum_bound (F : S39 → Int) (ns : List S39) (h : ∀ x ∈ ns, 0 ≤ F x ∧ F x ≤ 4096) : 0 ≤ sumU F ns ∧ sumU F ns ≤ 4096 * ns.length := by
  unfold sumU
  induction ns with
  | nil => simp
  | cons a l ih =>
    have h1 := ih fun x hx => h x (by simp [hx])
    have h2 := h a (by simp)
    simp only [List.map_cons, List.sum_cons, List.length_cons]
    omega
theorem Good.units {u0 u1 : Int} {ns : List S39} (hG : Good u0 u1 ns) : ∀ x ∈ ns, 0 ≤ uns u0 u1 x ∧ uns u0 u1 x ≤ 4096 := fun x hx => ⟨(uns_nonneg hG.unit (hG.all x hx).2.1).1, (hG.all x hx).2.2⟩
theorem Good.total {u0 u1 : Int} {ns : List S39} (hG : Good u0 u1 ns) : 0 ≤ sumU (uns u0 u1) ns ∧ sumU (uns u0 u1) ns ≤ 131072 := by
  have := sum_bound (uns u0 u1) ns hG.units
  have := hG.len
  omega
theorem not_bad {u T : Int} (hu : 1 ≤ u) (hu2 : u ≤ 1073741824) (hT : 0 ≤ T) (hT2 : T ≤ 131072) : vec_Scale.bad u T = false ∧ vec_Scale.v u T = u * T := by
  unfold vec_Scale.bad vec_Scale.v
  by_cases h0 : T = 0
  · subst h0
    simp
  · have h1 : ¬ (u = 0 ∨ T = 0) := by omega
    have m1 : mx u (-u) = u := by unfold mx; split <;> omega
    have m2 : mx T (-T) = T := by unfold mx; split <;> omega
    have h2 : u ≤ 1125899906842624 / T := (Int.le_ediv_iff_mul_le (by omega)).2 (by
      have : u * T ≤ 1073741824 * 131072 := Int.mul_le_mul hu2 hT2 hT (by omega)
      omega)
    have h3 : ¬ (T < -1125899906842624 ∨ T > 1125899906842624 ∨ u > 1125899906842624 / T) := by omega
    rw [m1, m2, if_neg h1, if_neg h3]
    exact ⟨decide_eq_false (fun h => h3 h.2), rfl⟩
theorem scale_cap {u0 u1 : Int} {ns : List S39} (hG : Good u0 u1 ns) : vec_Scale.f u0 u1 (sumU (uns u0 u1) ns) = some (u0 * sumU (uns u0 u1) ns, u1 * sumU (uns u0 u1) ns, 0) := by
  have hT := hG.total
  have hu := hG.unit
  unfold okV at hu
  dsimp only at hu
  rw [Scale_f _ _ _ (by unfold b64; omega), if_pos (show inV u0 u1 by unfold inV; omega)]
  obtain ⟨h1, h2⟩ := not_bad (u := u0) (by omega) (by omega) hT.1 hT.2
  obtain ⟨h3, h4⟩ := not_bad (u := u1) (by omega) (by omega) hT.1 hT.2
  rw [h1, h2, h3, h4]
  simp
theorem cap_le {u0 u1 : Int} {ns : List S39} (hG : Good u0 u1 ns) : decide (u0 * sumU (uns u0 u1) ns ≤ sumU (fun x => x.f1.f0) ns ∧ u1 * sumU (uns u0 u1) ns ≤ sumU (fun x => x.f1.f1) ns) = true := by
  have hu := hG.unit
  unfold okV at hu
  dsimp only at hu
  refine decide_eq_true ⟨sum_le _ _ _ _ fun x hx => unit_le (by omega) ?_, sum_le _ _ _ _ fun x hx => unit_le (by omega) ?_⟩
  · unfold uns mn; split <;> omega
  · unfold uns mn; split <;> omega
end Go.Proofs.Ythibppfdonepoaa.NodeT
