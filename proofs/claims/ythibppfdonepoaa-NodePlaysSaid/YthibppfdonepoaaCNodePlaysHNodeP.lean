/- Of a node one unit more would not fit: plain facts. -/
import Derived.Test.YthibppfdonepoaaCNodePlaysHNodeI
import Derived.Test.YthibppfdonepoaaCNodePlaysHNodeO
set_option linter.unusedVariables false
namespace Go.Proofs.Ythibppfdonepoaa.NodeT
open Go.RowKit Go.Proofs.Ythibppfdonepoaa.PNodePlays Go.Proofs.YthibppfdonepoaaW.PrintWords Go.Proofs.YthibppfdonepoaaW.PrintLast
theorem mul_more {u x n : Int} (hu : 1 ≤ u) (h : n + 1 > x / u) : ¬ u * (n + 1) ≤ x := by
  intro h2
  have : n + 1 ≤ x / u := (Int.le_ediv_iff_mul_le (by omega)).2 (by rw [Int.mul_comm]; exact h2)
  omega
theorem scale_more {u0 u1 : Int} {x : S39} (hu : okV 1 ⟨u0, u1⟩) (hx : okV 0 x.f1) : ∃ (k : Nat) (s0 s1 s2 : Int), PNodeLib.liveryref01_Scale.f k u0 u1 (uns u0 u1 x + 1) = some (s0, s1, s2) ∧ (s2 = 10 ∨ s2 = 0 ∧ decide (s0 ≤ x.f1.f0 ∧ s1 ≤ x.f1.f1) = false) := by
  have hn := uns_nonneg hu hx
  have hq : uns u0 u1 x + 1 > x.f1.f0 / u0 ∨ uns u0 u1 x + 1 > x.f1.f1 / u1 := by unfold uns mn; split <;> omega
  obtain ⟨n, hN⟩ : ∃ n, uns u0 u1 x = n := ⟨_, rfl⟩
  rw [hN] at hn hq ⊢
  obtain ⟨K, hK⟩ := refScale_ev u0 u1 (n + 1) (by unfold b64; omega)
  have h := hK K (Nat.le_refl _)
  dsimp only at h
  unfold okV at hu
  dsimp only at hu
  by_cases hv : inV u0 u1
  · rw [if_pos hv] at h
    by_cases hb : vec_Scale.bad u0 (n + 1) = true ∨ vec_Scale.bad u1 (n + 1) = true
    · rw [if_pos hb] at h
      exact ⟨K, _, _, _, h, .inl rfl⟩
    · rw [if_neg hb] at h
      refine ⟨K, _, _, _, h, .inr ⟨rfl, decide_eq_false ?_⟩⟩
      have e : ∀ u, 1 ≤ u → ¬ vec_Scale.bad u (n + 1) = true → vec_Scale.v u (n + 1) = u * (n + 1) := by
        intro u h1 h2
        unfold vec_Scale.bad at h2
        unfold vec_Scale.v
        have h0 : ¬ (u = 0 ∨ n + 1 = 0) := by omega
        rw [if_neg h0, if_neg (fun h3 => h2 (decide_eq_true ⟨h0, h3⟩))]
      rw [e u0 (by omega) (fun h => hb (.inl h)), e u1 (by omega) (fun h => hb (.inr h))]
      rintro ⟨h1, h2⟩
      rcases hq with hq | hq
      · exact mul_more (by omega) hq h1
      · exact mul_more (by omega) hq h2
  · rw [if_neg hv] at h
    exact ⟨K, _, _, _, h, .inl rfl⟩
theorem unit_le {u a b : Int} (hu : 1 ≤ u) (hb : b ≤ a / u) : u * b ≤ a := by
  rw [Int.mul_comm]
  exact (Int.le_ediv_iff_mul_le (by omega)).1 hb
theorem sum_le (F G : S39 → Int) (u : Int) (ns : List S39) (h : ∀ x ∈ ns, u * F x ≤ G x) : u * sumU F ns ≤ sumU G ns := by
  unfold sumU
  induction ns with
  | nil => simp
  | cons a l ih =>
    have h1 := ih fun x hx => h x (by simp [hx])
    have h2 := h a (by simp)
    simp only [List.map_cons, List.sum_cons, Int.mul_add]
    omega
theorem sum_bound (F : S39 → Int) (ns : List S39) (h : ∀ x ∈ ns, 0 ≤ F x ∧ F x ≤ 4096) : 0 ≤ sumU F ns ∧ sumU F ns ≤ 4096 * ns.length := by
  unfold sumU
  induction ns with
  | nil => simp
  | cons a l ih =>
    have h1 := ih fun x hx => h x (by simp [hx])
    have h2 := h a (by simp)
    simp only [List.map_cons, List.sum_cons, List.length_cons]
    omega
theorem Good.units {u0 u1 : Int} {ns : List S39} (hG : Good u0 u1 ns) : ∀ x ∈ ns, 0 ≤ uns u0 u1 x ∧ uns u0 u1 x ≤ 4096 := fun x hx => ⟨(uns_nonneg hG.unit (hG.all x hx).2.1).1, (hG.all x hx).2.2⟩
theorem Good.total {u0 u1 : Int} {ns : List S39} (hG : Good u0 u1 ns) : 0 ≤ sumU (uns u0 u1) ns ∧ sumU (uns u0 u1) ns ≤ 131072 := by
  have := sum_bound (uns u0 u1) ns hG.units
  have := hG.len
  omega
theorem not_bad {u T : Int} (hu : 1 ≤ u) (hu2 : u ≤ 1073741824) (hT : 0 ≤ T) (hT2 : T ≤ 131072) : vec_Scale.bad u T = false ∧ vec_Scale.v u T = u * T := by
  unfold vec_Scale.bad vec_Scale.v
  by_cases h0 : T = 0
  · subst h0
    simp
  · have h1 : ¬ (u = 0 ∨ T = 0) := by omega
    have m1 : mx u (-u) = u := by unfold mx; split <;> omega
    have m2 : mx T (-T) = T := by unfold mx; split <;> omega
    have h2 : u ≤ 1125899906842624 / T := (Int.le_ediv_iff_mul_le (by omega)).2 (by
      have : u * T ≤ 1073741824 * 131072 := Int.mul_le_mul hu2 hT2 hT (by omega)
      omega)
    have h3 : ¬ (T < -1125899906842624 ∨ T > 1125899906842624 ∨ u > 1125899906842624 / T) := by omega
    rw [m1, m2, if_neg h1, if_neg h3]
    exact ⟨decide_eq_false (fun h => h3 h.2), rfl⟩
theorem scale_cap {u0 u1 : Int} {ns : List S39} (hG : Good u0 u1 ns) : vec_Scale.f u0 u1 (sumU (uns u0 u1) ns) = some (u0 * sumU (uns u0 u1) ns, u1 * sumU (uns u0 u1) ns, 0) := by
  have hT := hG.total
  have hu := hG.unit
  unfold okV at hu
  dsimp only at hu
  rw [Scale_f _ _ _ (by unfold b64; omega), if_pos (show inV u0 u1 by unfold inV; omega)]
  obtain ⟨h1, h2⟩ := not_bad (u := u0) (by omega) (by omega) hT.1 hT.2
  obtain ⟨h3, h4⟩ := not_bad (u := u1) (by omega) (by omega) hT.1 hT.2
  rw [h1, h2, h3, h4]
  simp
theorem cap_le {u0 u1 : Int} {ns : List S39} (hG : Good u0 u1 ns) : decide (u0 * sumU (uns u0 u1) ns ≤ sumU (fun x => x.f1.f0) ns ∧ u1 * sumU (uns u0 u1) ns ≤ sumU (fun x => x.f1.f1) ns) = true := by
  have hu := hG.unit
  unfold okV at hu
  dsimp only at hu
  refine decide_eq_true ⟨sum_le _ _ _ _ fun x hx => unit_le (by omega) ?_, sum_le _ _ _ _ fun x hx => unit_le (by omega) ?_⟩
  · unfold uns mn; split <;> omega
  · unfold uns mn; split <;> omega
end Go.Proofs.Ythibppfdonepoaa.NodeT
