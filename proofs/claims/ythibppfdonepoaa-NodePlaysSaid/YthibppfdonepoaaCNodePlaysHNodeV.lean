/- The document's table: Lose, Total, Cap. -/
import Derived.Test.YthibppfdonepoaaCNodePlaysHNodeU
set_option linter.unusedVariables false
namespace Go.Proofs.Ythibppfdonepoaa.NodeT
open Go.RowKit Go.MapKept Go.Maps Go.ChangeMaps Go.Proofs.Ythibppfdonepoaa.XBut Go.Proofs.Ythibppfdonepoaa.XMap Go.Proofs.Ythibppfdonepoaa.PNodePlays Go.Proofs.YthibppfdonepoaaW.PrintWords Go.Proofs.YthibppfdonepoaaW.PrintLast
theorem rlose_f (u0 u1 i : Int) (ns : List S39) (hl : ns.length ≤ 32) (hr : ns.Pairwise fun x y => x.f0 < y.f0) (k : Nat) (hk : ns.length < k) :
    liveryref22_Lose.f k u0 u1 ns i = some (u0, u1, less ns i, (lost ns i).1.f0, (lost ns i).1.f1.f0, (lost ns i).1.f1.f1, (lost ns i).2) := by
  unfold liveryref22_Lose.f
  rw [rat_f u0 u1 i ns (by omega) k hk, Option.bind_some]
  have hg := place_ge ns i
  by_cases h : place ns i < 0
  · have hw := (place_who ns i).1 h
    rw [if_pos h, less_none hw]
    unfold lost
    rw [hw]
  · obtain ⟨hj, hw⟩ := place_at (ns := ns) (i := i) (by omega)
    have hp := place_less hr (i := i) (by omega)
    have e2 : (wrap64 (place ns i + 1)).toNat = (place ns i).toNat + 1 := by unfold wrap64; omega
    have e1 : wrap64 (place ns i + 1) = place ns i + 1 := by unfold wrap64; omega
    have er : rd_T39 ns (place ns i) = ns[(place ns i).toNat] := by unfold rd_T39; rw [List.getD_eq_getElem?_getD, List.getElem?_eq_getElem hj]; rfl
    rw [if_neg h, if_pos (by omega), if_pos (by omega), Option.bind_some, if_pos (by omega), Option.bind_some, if_pos (by simp; omega), Option.bind_some, e1, if_pos (by omega), if_pos (by omega), Option.bind_some, if_pos (by simp; omega), er]
    rw [show (place ns i + 1).toNat = (place ns i).toNat + 1 by omega, List.nil_append, hp]
    unfold lost
    rw [hw]
theorem rtotal_l0 {u0 u1 : Int} {ns : List S39} (hG : Good u0 u1 ns) : ∃ K, ∀ (d k j : Nat), j + d = ns.length → K + d < k → liveryref22_Total.l0 k (sumU (uns u0 u1) (ns.take j)) j u0 u1 ns = some (sumU (uns u0 u1) ns) := by
  have : ∃ K, ∀ k, K ≤ k → ∀ x ∈ ns, liveryref22_Units.f k u0 u1 ns x.f0 x.f1.f0 x.f1.f1 = some (uns u0 u1 x) := by
    have hall : ∀ x ∈ ns, okV 0 x.f1 := fun x hx => (hG.all x hx).2.1
    have main : ∀ l : List S39, (∀ x ∈ l, okV 0 x.f1) → ∃ K, ∀ k, K ≤ k → ∀ x ∈ l, liveryref22_Units.f k u0 u1 ns x.f0 x.f1.f0 x.f1.f1 = some (uns u0 u1 x) := by
      intro l hx
      induction l with
      | nil => exact ⟨0, fun _ _ _ h => by cases h⟩
      | cons a l ih =>
        obtain ⟨K1, h1⟩ := ih fun x h => hx x (by simp [h])
        obtain ⟨K2, h2⟩ := runits_ev ns hG.unit (hx a (by simp))
        refine ⟨K1 + K2, fun k hk x h => ?_⟩
        rcases List.mem_cons.1 h with rfl | h
        · exact h2 k (by omega)
        · exact h1 k (by omega) x h
    exact main ns hall
  obtain ⟨K, hK⟩ := this
  refine ⟨K, fun d => ?_⟩
  induction d with
  | zero =>
    intro k j h hk
    obtain ⟨k, rfl⟩ : ∃ m, k = m + 1 := ⟨k - 1, by omega⟩
    simp only [liveryref22_Total.l0]
    rw [if_neg (by omega), List.take_of_length_le (by omega)]
  | succ d ih =>
    intro k j h hk
    obtain ⟨k, rfl⟩ : ∃ m, k = m + 1 := ⟨k - 1, by omega⟩
    simp only [liveryref22_Total.l0]
    have hj : j < ns.length := by omega
    have hl := hG.len
    have er : rd_T39 ns (j : Int) = ns[j] := by unfold rd_T39; rw [Int.toNat_natCast, List.getD_eq_getElem?_getD, List.getElem?_eq_getElem hj]; rfl
    have hs := sumU_step (uns u0 u1) ns j hj
    have hb := sum_bound (uns u0 u1) (ns.take j) (fun x hx => hG.units x (List.mem_of_mem_take hx))
    have hu := hG.units _ (List.getElem_mem hj)
    have hlt : (ns.take j).length ≤ 32 := by rw [List.length_take]; omega
    rw [if_pos (by omega), if_pos (by omega), er, hK k (by omega) _ (List.getElem_mem hj), Option.bind_some, w64 (by unfold b64; omega), ← hs, show wrap64 ((j : Int) + 1) = ((j + 1 : Nat) : Int) by unfold wrap64; omega]
    exact ih k (j + 1) (by omega) (by omega)
theorem rtotal_ev {u0 u1 : Int} {ns : List S39} (hG : Good u0 u1 ns) : Ev (fun k => liveryref22_Total.f k u0 u1 ns) (sumU (uns u0 u1) ns) := by
  obtain ⟨K, h⟩ := rtotal_l0 hG
  refine ⟨K + ns.length + 1, fun k hk => ?_⟩
  have := h ns.length k 0 (by omega) (by omega)
  rw [List.take_zero] at this
  exact this
theorem rcap_ev {u0 u1 : Int} {ns : List S39} (hG : Good u0 u1 ns) : Ev (fun k => liveryref22_Cap.f k u0 u1 ns) (u0 * sumU (uns u0 u1) ns, u1 * sumU (uns u0 u1) ns) := by
  obtain ⟨K, h⟩ := rtotal_ev hG
  refine ⟨K, fun k hk => ?_⟩
  have := h k hk
  dsimp only at this
  simp only [liveryref22_Cap.f]
  have hT := hG.total
  have hu := hG.unit
  unfold okV at hu
  dsimp only at hu
  have m1 : u0 * sumU (uns u0 u1) ns ≤ 1073741824 * 131072 := Int.mul_le_mul (by omega) hT.2 hT.1 (by omega)
  have m2 : u1 * sumU (uns u0 u1) ns ≤ 1073741824 * 131072 := Int.mul_le_mul (by omega) hT.2 hT.1 (by omega)
  have p1 : 0 ≤ u0 * sumU (uns u0 u1) ns := Int.mul_nonneg (by omega) hT.1
  have p2 : 0 ≤ u1 * sumU (uns u0 u1) ns := Int.mul_nonneg (by omega) hT.1
  rw [this, Option.bind_some, Option.bind_some, w64 (by unfold b64; omega), w64 (by unfold b64; omega)]
end Go.Proofs.Ythibppfdonepoaa.NodeT
