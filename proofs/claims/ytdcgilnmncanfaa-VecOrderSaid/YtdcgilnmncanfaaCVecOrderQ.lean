/- The statement VecOrder over numbers and lists alone: of every input. No condition but that numbers are of their kind. -/
import Derived.Test.YtdcgilnmncanfaaCVecOrder0
import Derived.Test.YtdcgilnmncanfaaCVecOrder1
import Derived.Test.YtdcgilnmncanfaaCVecOrder2
import Derived.Test.YtdcgilnmncanfaaCVecOrder3
import Derived.Test.YtdcgilnmncanfaaCVecOrder4
import Derived.Test.YtdcgilnmncanfaaCVecOrder5
import Derived.Test.YtdcgilnmncanfaaCVecOrder6
import Derived.Test.YtdcgilnmncanfaaCVecOrder7
import Derived.Test.YtdcgilnmncanfaaCVecOrder8
import Derived.Test.YtdcgilnmncanfaaCVecOrder9
import Derived.Test.YtdcgilnmncanfaaCVecOrderW
set_option linter.unusedVariables false
namespace Go.Proofs.Ytdcgilnmncanfaa.PVecOrder
open Go.RowKit Go.Proofs.YtdcgilnmncanfaaW.PrintWords Go.Proofs.YtdcgilnmncanfaaW.PrintLast Go.Proofs.YtdcgilnmncanfaaW.PrintMore
def inV (x y : Int) : Prop := (-1125899906842624 ≤ x ∧ x ≤ 1125899906842624) ∧ (-1125899906842624 ≤ y ∧ y ≤ 1125899906842624)
instance (x y : Int) : Decidable (inV x y) := inferInstanceAs (Decidable (_ ∧ _))
def b64 (x : Int) : Prop := -9223372036854775808 ≤ x ∧ x ≤ 9223372036854775807
theorem w64 {x : Int} (h : b64 x) : wrap64 x = x := by
  unfold b64 at h
  unfold wrap64
  omega
theorem May_ev (x y : Int) : Ev (fun k => vec_May.f k x y) (decide (inV x y)) := by
  refine Ev.of (vec_May.mono x y) (k := 3) ?_
  have e : wrap64 (0 + 1) = 1 := by unfold wrap64; omega
  have e2 : wrap64 (1 + 1) = 2 := by unfold wrap64; omega
  simp only [vec_May.f, vec_fits_int64.f, vec_fits_int64.l0, rd, e, e2]
  by_cases h1 : x < -1125899906842624
  · rw [decide_eq_false (show ¬ inV x y by unfold inV; omega)]; simp [h1]
  · by_cases h2 : x > 1125899906842624
    · rw [decide_eq_false (show ¬ inV x y by unfold inV; omega)]; simp [h1, h2]
    · by_cases h3 : y < -1125899906842624
      · rw [decide_eq_false (show ¬ inV x y by unfold inV; omega)]; simp [h1, h2, h3]
      · by_cases h4 : y > 1125899906842624
        · rw [decide_eq_false (show ¬ inV x y by unfold inV; omega)]; simp [h1, h2, h3, h4]
        · rw [decide_eq_true (show inV x y by unfold inV; omega)]; simp [h1, h2, h3, h4]
theorem told_nil (k : Nat) (l0 l : List S23) (n : Int) (i : Int) (h : ¬ i < n) (h0 : 0 < l0.length) : vec_told.l0 (k + 1) l0 l n i = some ((rd_T23 l0 0).f0, (rd_T23 l0 0).f1, 0) := by
  simp only [vec_told.l0]
  rw [if_neg h, if_pos (by omega)]
theorem told_cons (k : Nat) (l0 l : List S23) (n : Int) (i : Int) (b : Bool) (h : i < n) (hi : 0 ≤ i) (hl : i < l.length) (hb : vec_May.f k (rd_T23 l i).f0 (rd_T23 l i).f1 = some b) :
    vec_told.l0 (k + 1) l0 l n i = if b = true then vec_told.l0 k l0 l n (wrap64 (i + 1)) else some (0, 0, 10) := by
  simp only [vec_told.l0]
  rw [if_pos h, if_pos hi, if_pos hl, hb]
  rfl
theorem told2_ev (a b : S23) : Ev (fun k => vec_told.f k [a, b]) (if inV a.f0 a.f1 ∧ inV b.f0 b.f1 then (a.f0, a.f1, 0) else (0, 0, 10)) := by
  obtain ⟨K1, h1⟩ := May_ev a.f0 a.f1
  dsimp only at h1
  obtain ⟨K2, h2⟩ := May_ev b.f0 b.f1
  dsimp only at h2
  have e : wrap64 (0 + 1) = 1 := by unfold wrap64; omega
  have e2 : wrap64 (1 + 1) = 2 := by unfold wrap64; omega
  refine Ev.of (vec_told.mono _) (k := K1 + K2 + 2 + 1) ?_
  unfold vec_told.f
  rw [told_cons (K1 + K2 + 2) _ _ _ _ _ (by simp) (by omega) (by simp) (h1 _ (by omega)), e]
  by_cases ha : inV a.f0 a.f1
  · rw [decide_eq_true ha, if_pos rfl, told_cons (K1 + K2 + 1) _ _ _ _ _ (by simp) (by omega) (by simp) (h2 _ (by omega)), e2]
    by_cases hb : inV b.f0 b.f1
    · rw [decide_eq_true hb, if_pos rfl, told_nil _ _ _ _ _ (by simp) (by simp), if_pos ⟨ha, hb⟩]
      rfl
    · rw [decide_eq_false hb, if_neg (by simp), if_neg (fun h => hb h.2)]
  · rw [decide_eq_false ha, if_neg (by simp), if_neg (fun h => ha h.1)]
theorem LE_f (a b c d : Int) : vec_LE.f a b c d = some (decide (a ≤ c ∧ b ≤ d)) := by
  simp only [vec_LE.f, vec_both_bool_at_vec_LE_1.f, vec_LE_1.f, Option.bind_some]
  by_cases h : a ≤ c <;> simp [h]
theorem Min_f (a b c d : Int) : vec_Min.f a b c d = some (mn a c, mn b d) := rfl
theorem Max_f (a b c d : Int) : vec_Max.f a b c d = some (mx a c, mx b d) := rfl
theorem head_ev : Ev (fun k => liverylaw01_head.f k) true := Ev.of liverylaw01_head.mono (k := 12) (by kernel_rfl)
theorem mn_l (a b : Int) : mn a b ≤ a := by unfold mn; split <;> omega
theorem mn_r (a b : Int) : mn a b ≤ b := by unfold mn; split <;> omega
theorem mx_l (a b : Int) : a ≤ mx a b := by unfold mx; split <;> omega
theorem mx_r (a b : Int) : b ≤ mx a b := by unfold mx; split <;> omega
theorem le_mn (a b c : Int) : c ≤ mn a b ↔ c ≤ a ∧ c ≤ b := by unfold mn; split <;> omega
theorem mx_le (a b c : Int) : mx a b ≤ c ↔ a ≤ c ∧ b ≤ c := by unfold mx; split <;> omega
theorem mn_comm (a b : Int) : mn b a = mn a b := by unfold mn; split <;> split <;> omega
theorem mx_comm (a b : Int) : mx b a = mx a b := by unfold mx; split <;> split <;> omega
theorem j1_true (k : Nat) (hk : liverylaw01_head.f k = some true) (a b c d e f : Int) : liverylaw01_VecOrder.j1 (k + 1) false a b c d e f (mn a c) (mn b d) (mx a c) (mx b d) = some true := by
  unfold liverylaw01_VecOrder.j1
  simp only [LE_f, Option.bind_some, hk, le_mn, mx_le]
  have q1 : decide ((e ≤ a ∧ e ≤ c) ∧ f ≤ b ∧ f ≤ d) = (decide (e ≤ a ∧ f ≤ b) && decide (e ≤ c ∧ f ≤ d)) := by rw [← Bool.decide_and]; exact decide_eq_decide.2 (by omega)
  have q2 : decide ((a ≤ e ∧ c ≤ e) ∧ b ≤ f ∧ d ≤ f) = (decide (a ≤ e ∧ b ≤ f) && decide (c ≤ e ∧ d ≤ f)) := by rw [← Bool.decide_and]; exact decide_eq_decide.2 (by omega)
  rw [q1, q2]
  generalize decide (e ≤ a ∧ f ≤ b) = x1
  generalize decide (e ≤ c ∧ f ≤ d) = x2
  generalize decide (a ≤ e ∧ b ≤ f) = x3
  generalize decide (c ≤ e ∧ d ≤ f) = x4
  cases x1 <;> cases x2 <;> cases x3 <;> cases x4 <;> rfl
theorem j0_true (k : Nat) (hk : liverylaw01_head.f k = some true) (a b c d e f : Int) : liverylaw01_VecOrder.j0 (k + 2) false a b c d e f (mn a c) (mn b d) (mx a c) (mx b d) = some true := by
  unfold liverylaw01_VecOrder.j0
  simp only [LE_f, Min_f, Max_f, Option.bind_some]
  rw [decide_eq_true ⟨mn_l a c, mn_l b d⟩, decide_eq_true ⟨mn_r a c, mn_r b d⟩, decide_eq_true ⟨mx_l a c, mx_l b d⟩, decide_eq_true ⟨mx_r a c, mx_r b d⟩, mn_comm a c, mn_comm b d, mx_comm a c, mx_comm b d]
  have h := j1_true k hk a b c d e f
  simpa using h
theorem VecOrder (a0_0 a0_1 a1_0 a1_1 a2_0 a2_1 : Int) (w0 : (Lit.int .i64 a0_0).wf = true ∧ (Lit.int .i64 a0_1).wf = true) (w1 : (Lit.int .i64 a1_0).wf = true ∧ (Lit.int .i64 a1_1).wf = true) (w2 : (Lit.int .i64 a2_0).wf = true ∧ (Lit.int .i64 a2_1).wf = true) : ∃ k, liverylaw01_VecOrder.f k a0_0 a0_1 a1_0 a1_1 a2_0 a2_1 = some true := by
  obtain ⟨K, hK⟩ := head_ev
  have hk := hK K (Nat.le_refl _)
  dsimp only at hk
  have J := j0_true K hk a0_0 a0_1 a1_0 a1_1 a2_0 a2_1
  refine ⟨K + 2, ?_⟩
  unfold liverylaw01_VecOrder.f
  simp only [Min_f, Max_f, LE_f, Option.bind_some]
  rw [decide_eq_true (p := a0_0 ≤ a0_0 ∧ a0_1 ≤ a0_1) (by omega), if_pos rfl]
  by_cases h1 : a0_0 ≤ a1_0 ∧ a0_1 ≤ a1_1
  · rw [decide_eq_true h1, if_pos rfl, if_pos rfl]
    have key : (if decide (a1_0 ≤ a2_0 ∧ a1_1 ≤ a2_1) = true then liverylaw01_VecOrder.j0 (K + 2) (!decide (a0_0 ≤ a2_0 ∧ a0_1 ≤ a2_1)) a0_0 a0_1 a1_0 a1_1 a2_0 a2_1 (mn a0_0 a1_0) (mn a0_1 a1_1) (mx a0_0 a1_0) (mx a0_1 a1_1) else liverylaw01_VecOrder.j0 (K + 2) false a0_0 a0_1 a1_0 a1_1 a2_0 a2_1 (mn a0_0 a1_0) (mn a0_1 a1_1) (mx a0_0 a1_0) (mx a0_1 a1_1)) = some true := by
      by_cases h3 : a1_0 ≤ a2_0 ∧ a1_1 ≤ a2_1
      · rw [decide_eq_true h3, if_pos rfl, decide_eq_true (p := a0_0 ≤ a2_0 ∧ a0_1 ≤ a2_1) (by omega)]
        exact J
      · rw [decide_eq_false h3, if_neg (by simp)]
        exact J
    by_cases h2 : a1_0 ≤ a0_0 ∧ a1_1 ≤ a0_1
    · have e1 : a0_0 = a1_0 := by omega
      have e2 : a0_1 = a1_1 := by omega
      rw [decide_eq_true h2, if_pos rfl, if_neg (by simp [e1, e2])]
      exact key
    · rw [decide_eq_false h2, if_neg (by simp)]
      exact key
  · rw [decide_eq_false h1, if_neg (by simp)]
    exact J
end Go.Proofs.Ytdcgilnmncanfaa.PVecOrder
