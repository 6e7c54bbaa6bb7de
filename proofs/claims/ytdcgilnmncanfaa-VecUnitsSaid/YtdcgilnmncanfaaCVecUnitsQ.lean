/- The statement VecUnits over numbers and lists alone: of every input. No condition but that numbers are of their kind. -/
import Derived.Test.YtdcgilnmncanfaaCVecUnits0
import Derived.Test.YtdcgilnmncanfaaCVecUnits1
import Derived.Test.YtdcgilnmncanfaaCVecUnits2
import Derived.Test.YtdcgilnmncanfaaCVecUnits3
import Derived.Test.YtdcgilnmncanfaaCVecUnits4
import Derived.Test.YtdcgilnmncanfaaCVecUnits5
import Derived.Test.YtdcgilnmncanfaaCVecUnits6
import Derived.Test.YtdcgilnmncanfaaCVecUnits7
import Derived.Test.YtdcgilnmncanfaaCVecUnits8
import Derived.Test.YtdcgilnmncanfaaCVecUnits9
import Derived.Test.YtdcgilnmncanfaaCVecUnitsW
set_option linter.unusedVariables false
namespace Go.Proofs.Ytdcgilnmncanfaa.PVecUnits
open Go.RowKit Go.Proofs.YtdcgilnmncanfaaW.PrintWords Go.Proofs.YtdcgilnmncanfaaW.PrintLast Go.Proofs.YtdcgilnmncanfaaW.PrintMore
def inV (x y : Int) : Prop := (-1125899906842624 ≤ x ∧ x ≤ 1125899906842624) ∧ (-1125899906842624 ≤ y ∧ y ≤ 1125899906842624)
instance (x y : Int) : Decidable (inV x y) := inferInstanceAs (Decidable (_ ∧ _))
def b64 (x : Int) : Prop := -9223372036854775808 ≤ x ∧ x ≤ 9223372036854775807
theorem w64 {x : Int} (h : b64 x) : wrap64 x = x := by
  unfold b64 at h
  unfold wrap64
  omega
theorem May_ev (x y : Int) : Ev (fun k => vec_May.f k x y) (decide (inV x y)) := by
  refine Ev.of (vec_May.mono x y) (k := 3) ?_
  have e : wrap64 (0 + 1) = 1 := by unfold wrap64; omega
  have e2 : wrap64 (1 + 1) = 2 := by unfold wrap64; omega
  simp only [vec_May.f, vec_fits_int64.f, vec_fits_int64.l0, rd, e, e2]
  by_cases h1 : x < -1125899906842624
  · rw [decide_eq_false (show ¬ inV x y by unfold inV; omega)]; simp [h1]
  · by_cases h2 : x > 1125899906842624
    · rw [decide_eq_false (show ¬ inV x y by unfold inV; omega)]; simp [h1, h2]
    · by_cases h3 : y < -1125899906842624
      · rw [decide_eq_false (show ¬ inV x y by unfold inV; omega)]; simp [h1, h2, h3]
      · by_cases h4 : y > 1125899906842624
        · rw [decide_eq_false (show ¬ inV x y by unfold inV; omega)]; simp [h1, h2, h3, h4]
        · rw [decide_eq_true (show inV x y by unfold inV; omega)]; simp [h1, h2, h3, h4]
theorem told_nil (k : Nat) (l0 l : List S23) (n : Int) (i : Int) (h : ¬ i < n) (h0 : 0 < l0.length) : vec_told.l0 (k + 1) l0 l n i = some ((rd_T23 l0 0).f0, (rd_T23 l0 0).f1, 0) := by
  simp only [vec_told.l0]
  rw [if_neg h, if_pos (by omega)]
theorem told_cons (k : Nat) (l0 l : List S23) (n : Int) (i : Int) (b : Bool) (h : i < n) (hi : 0 ≤ i) (hl : i < l.length) (hb : vec_May.f k (rd_T23 l i).f0 (rd_T23 l i).f1 = some b) :
    vec_told.l0 (k + 1) l0 l n i = if b = true then vec_told.l0 k l0 l n (wrap64 (i + 1)) else some (0, 0, 10) := by
  simp only [vec_told.l0]
  rw [if_pos h, if_pos hi, if_pos hl, hb]
  rfl
theorem told2_ev (a b : S23) : Ev (fun k => vec_told.f k [a, b]) (if inV a.f0 a.f1 ∧ inV b.f0 b.f1 then (a.f0, a.f1, 0) else (0, 0, 10)) := by
  obtain ⟨K1, h1⟩ := May_ev a.f0 a.f1
  dsimp only at h1
  obtain ⟨K2, h2⟩ := May_ev b.f0 b.f1
  dsimp only at h2
  have e : wrap64 (0 + 1) = 1 := by unfold wrap64; omega
  have e2 : wrap64 (1 + 1) = 2 := by unfold wrap64; omega
  refine Ev.of (vec_told.mono _) (k := K1 + K2 + 2 + 1) ?_
  unfold vec_told.f
  rw [told_cons (K1 + K2 + 2) _ _ _ _ _ (by simp) (by omega) (by simp) (h1 _ (by omega)), e]
  by_cases ha : inV a.f0 a.f1
  · rw [decide_eq_true ha, if_pos rfl, told_cons (K1 + K2 + 1) _ _ _ _ _ (by simp) (by omega) (by simp) (h2 _ (by omega)), e2]
    by_cases hb : inV b.f0 b.f1
    · rw [decide_eq_true hb, if_pos rfl, told_nil _ _ _ _ _ (by simp) (by simp), if_pos ⟨ha, hb⟩]
      rfl
    · rw [decide_eq_false hb, if_neg (by simp), if_neg (fun h => hb h.2)]
  · rw [decide_eq_false ha, if_neg (by simp), if_neg (fun h => ha h.1)]
theorem told3_ev (a b c : S23) : Ev (fun k => vec_told.f k [a, b, c]) (if inV a.f0 a.f1 ∧ inV b.f0 b.f1 ∧ inV c.f0 c.f1 then (a.f0, a.f1, 0) else (0, 0, 10)) := by
  obtain ⟨K1, h1⟩ := May_ev a.f0 a.f1
  dsimp only at h1
  obtain ⟨K2, h2⟩ := May_ev b.f0 b.f1
  dsimp only at h2
  obtain ⟨K3, h3⟩ := May_ev c.f0 c.f1
  dsimp only at h3
  have e : wrap64 (0 + 1) = 1 := by unfold wrap64; omega
  have e2 : wrap64 (1 + 1) = 2 := by unfold wrap64; omega
  have e3 : wrap64 (2 + 1) = 3 := by unfold wrap64; omega
  refine Ev.of (vec_told.mono _) (k := K1 + K2 + K3 + 3 + 1) ?_
  unfold vec_told.f
  rw [told_cons (K1 + K2 + K3 + 3) _ _ _ _ _ (by simp) (by omega) (by simp) (h1 _ (by omega)), e]
  by_cases ha : inV a.f0 a.f1
  · rw [decide_eq_true ha, if_pos rfl, told_cons (K1 + K2 + K3 + 2) _ _ _ _ _ (by simp) (by omega) (by simp) (h2 _ (by omega)), e2]
    by_cases hb : inV b.f0 b.f1
    · rw [decide_eq_true hb, if_pos rfl, told_cons (K1 + K2 + K3 + 1) _ _ _ _ _ (by simp) (by omega) (by simp) (h3 _ (by omega)), e3]
      by_cases hc : inV c.f0 c.f1
      · rw [decide_eq_true hc, if_pos rfl, told_nil _ _ _ _ _ (by simp) (by simp), if_pos ⟨ha, hb, hc⟩]
        rfl
      · rw [decide_eq_false hc, if_neg (by simp), if_neg (fun h => hc h.2.2)]
    · rw [decide_eq_false hb, if_neg (by simp), if_neg (fun h => hb h.2.1)]
  · rw [decide_eq_false ha, if_neg (by simp), if_neg (fun h => ha h.1)]
theorem Sub_ev (a b c d : Int) : Ev (fun k => vec_Sub.f k a b c d) (if inV (wrap64 (a - c)) (wrap64 (b - d)) ∧ inV a b ∧ inV c d then (wrap64 (a - c), wrap64 (b - d), 0) else (0, 0, 10)) := by
  obtain ⟨K, h⟩ := told3_ev ⟨wrap64 (a - c), wrap64 (b - d)⟩ ⟨a, b⟩ ⟨c, d⟩
  dsimp only at h
  refine ⟨K, fun k hk => ?_⟩
  simp only [vec_Sub.f, vec_made_at_vec_Sub_1.f, vec_both_int64_at_vec_Sub_1.f, vec_Sub_1.f, Option.bind_some]
  rw [h k hk]
  rfl
theorem Scale_f (a b n : Int) (hn : b64 n) : vec_Scale.f a b n = some (if inV a b then (if vec_Scale.bad a n = true ∨ vec_Scale.bad b n = true then (0, 0, 10) else (vec_Scale.v a n, vec_Scale.v b n, 0)) else (0, 0, 10)) := by
  unfold vec_Scale.f
  rw [if_neg (fun h => h hn)]
  by_cases h : inV a b
  · rw [if_pos (show vec_Scale.may a b from h), if_pos h]
    by_cases h2 : vec_Scale.bad a n = true ∨ vec_Scale.bad b n = true
    · rw [if_pos h2, if_pos h2]
    · rw [if_neg h2, if_neg h2]
  · rw [if_neg (show ¬ vec_Scale.may a b from h), if_neg h]
theorem LE_f (a b c d : Int) : vec_LE.f a b c d = some (decide (a ≤ c ∧ b ≤ d)) := by
  simp only [vec_LE.f, vec_both_bool_at_vec_LE_1.f, vec_LE_1.f, Option.bind_some]
  by_cases h : a ≤ c <;> simp [h]
/-- How many units fit. -/
def units (a b c d : Int) : Int × Int :=
  if ¬ (1 ≤ c ∧ 1 ≤ d) then (0, 2) else if ¬ (inV a b ∧ inV c d) then (0, 10) else if a < 0 ∨ b < 0 then (0, 0) else (mn (a / c) (b / d), 0)
theorem Units1_f (a c : Int) (ha : b64 a) (hc : 1 ≤ c) : vec_Units_1.f a c = some (if a < 0 then 0 else a / c) := by
  unfold vec_Units_1.f
  by_cases h : a < 0
  · simp [h]
  · rw [if_neg h, if_neg (by omega), if_neg h, Int.tdiv_eq_ediv_of_nonneg (by omega)]
    have h1 : 0 ≤ a / c := Int.ediv_nonneg (by omega) (by omega)
    have h2 : a / c ≤ a := Int.ediv_le_self _ (by omega)
    unfold b64 at ha
    rw [w64 (by unfold b64; omega)]
theorem Units_ev (a b c d : Int) (ha : b64 a) (hb : b64 b) : Ev (fun k => vec_Units.f k a b c d) (units a b c d) := by
  obtain ⟨K, hK⟩ := told2_ev ⟨a, b⟩ ⟨c, d⟩
  dsimp only at hK
  refine ⟨K, fun k hk => ?_⟩
  simp only [vec_Units.f, LE_f, Option.bind_some, hK k hk]
  unfold units
  by_cases h1 : 1 ≤ c ∧ 1 ≤ d
  · rw [decide_eq_true h1, if_pos rfl, if_neg (show ¬ ¬ (1 ≤ c ∧ 1 ≤ d) from fun h => h h1)]
    by_cases h2 : inV a b ∧ inV c d
    · rw [if_pos h2, if_neg (show ¬ ¬ (inV a b ∧ inV c d) from fun h => h h2)]
      simp only [vec_both_int64_at_vec_Units_1.f, Units1_f a c ha h1.1, Units1_f b d hb h1.2, Option.bind_some, if_true]
      have h3 : 0 ≤ a / c ∨ a < 0 := by
        by_cases h : a < 0
        · exact .inr h
        · exact .inl (Int.ediv_nonneg (by omega) (by omega))
      have h4 : 0 ≤ b / d ∨ b < 0 := by
        by_cases h : b < 0
        · exact .inr h
        · exact .inl (Int.ediv_nonneg (by omega) (by omega))
      by_cases h5 : a < 0
      · by_cases h6 : b < 0 <;> simp [h5, h6, mn]; omega
      · by_cases h6 : b < 0
        · simp [h5, h6, mn]; omega
        · simp [h5, h6]
    · simp [h2]
  · simp [h1]
theorem head_ev : Ev (fun k => liverylaw01_head.f k) true := Ev.of liverylaw01_head.mono (k := 12) (by kernel_rfl)
theorem scale_small (x n : Int) (hx0 : 0 ≤ x) (hx : x ≤ 1048576) (hn0 : 0 ≤ n) (hn : n ≤ 1048576) : vec_Scale.v x n = x * n ∧ vec_Scale.bad x n = false ∧ 0 ≤ x * n ∧ x * n ≤ 1099511627776 := by
  have h0 : 0 ≤ x * n := Int.mul_nonneg hx0 hn0
  have h1 : x * n ≤ 1048576 * 1048576 := Int.le_trans (Int.mul_le_mul_of_nonneg_right hx hn0) (Int.mul_le_mul_of_nonneg_left hn (by omega))
  have h2 : x * n ≤ 1099511627776 := by omega
  by_cases hz : x = 0 ∨ n = 0
  · refine ⟨?_, by simp [vec_Scale.bad, hz], h0, h2⟩
    unfold vec_Scale.v
    rw [if_pos hz]
    rcases hz with hz | hz <;> simp [hz]
  · have e1 : mx x (-x) = x := by unfold mx; rw [if_neg (by omega)]
    have e2 : mx n (-n) = n := by unfold mx; rw [if_neg (by omega)]
    have h3 : ¬ x > 1125899906842624 / n := by
      have : x ≤ 1125899906842624 / n := (Int.le_ediv_iff_mul_le (by omega)).2 (by omega)
      omega
    unfold vec_Scale.v vec_Scale.bad
    rw [e1, e2, if_neg hz, if_neg (by omega), decide_eq_false (by omega)]
    exact ⟨rfl, rfl, h0, h2⟩
theorem Scale_small (x y n : Int) (hx0 : 0 ≤ x) (hx : x ≤ 1048576) (hy0 : 0 ≤ y) (hy : y ≤ 1048576) (hn0 : 0 ≤ n) (hn : n ≤ 1048576) : vec_Scale.f x y n = some (x * n, y * n, 0) := by
  obtain ⟨a1, a2, _, _⟩ := scale_small x n hx0 hx hn0 hn
  obtain ⟨b1, b2, _, _⟩ := scale_small y n hy0 hy hn0 hn
  rw [Scale_f x y n (by unfold b64; omega), if_pos (by unfold inV; omega), a2, b2, a1, b1]
  simp
theorem Add1_ev (a b : S23) (ha : inV a.f0 a.f1) (hb : inV b.f0 b.f1) (h : inV (a.f0 + b.f0) (a.f1 + b.f1)) : Ev (fun k => vec_Add.f k [a, b]) (a.f0 + b.f0, a.f1 + b.f1, 0) := by
  obtain ⟨K1, h1⟩ := told2_ev a a
  dsimp only at h1
  obtain ⟨K2, h2⟩ := told2_ev ⟨a.f0 + b.f0, a.f1 + b.f1⟩ b
  dsimp only at h2
  have e : wrap64 (0 + 1) = 1 := by unfold wrap64; omega
  have e2 : wrap64 (1 + 1) = 2 := by unfold wrap64; omega
  have ha' := ha
  have h' := h
  unfold inV at ha' h'
  refine Ev.of (vec_Add.mono _) (k := K1 + K2 + 2 + 1) ?_
  unfold vec_Add.f
  simp only [vec_Add.l0, vec_made_at_vec_Add_1.f, vec_both_int64_at_vec_Add_1.f, vec_Add_1.f, Option.bind_some, e, e2]
  have r0 : rd_T23 [a, b] 0 = a := rfl
  have r1 : rd_T23 [a, b] 1 = b := rfl
  rw [if_pos (by simp), if_pos (by omega), if_pos (by simp), r0, w64 (x := 0 + a.f0) (by unfold b64; omega), w64 (x := 0 + a.f1) (by unfold b64; omega)]
  have z0 : 0 + a.f0 = a.f0 := by omega
  have z1 : 0 + a.f1 = a.f1 := by omega
  rw [z0, z1, h1 _ (by omega), if_pos ⟨ha, ha⟩]
  simp only [Option.bind_some]
  rw [if_pos trivial, if_pos (by simp), if_pos (by omega), if_pos (by simp), r1, w64 (x := a.f0 + b.f0) (by unfold b64; omega), w64 (x := a.f1 + b.f1) (by unfold b64; omega), h2 _ (by omega), if_pos ⟨h, hb⟩]
  simp only [Option.bind_some]
  rw [if_pos trivial, if_neg (by simp)]
theorem VecUnits (a0_0 a0_1 a1 a2_0 a2_1 : Int) (w0 : (Lit.int .i64 a0_0).wf = true ∧ (Lit.int .i64 a0_1).wf = true) (w1 : (Lit.int .u32 a1).wf = true) (w2 : (Lit.int .i64 a2_0).wf = true ∧ (Lit.int .i64 a2_1).wf = true) : ∃ k, liverylaw01_VecUnits.f k a0_0 a0_1 a1 a2_0 a2_1 = some true := by
  have h1 := XOpen.u32_of w1
  obtain ⟨u, hu⟩ : ∃ u, 1 + mx a0_0 0 % 1048576 = u := ⟨_, rfl⟩
  obtain ⟨v, hv⟩ : ∃ v, 1 + mx a0_1 0 % 1048576 = v := ⟨_, rfl⟩
  have u1 : 1 ≤ u ∧ u ≤ 1048576 := by omega
  have v1 : 1 ≤ v ∧ v ≤ 1048576 := by omega
  obtain ⟨n, hn⟩ : ∃ n, wrap64 (Int.tmod a1 1048576) = n := ⟨_, rfl⟩
  have n1 : 0 ≤ n ∧ n ≤ 1048575 := by
    rw [← hn, Int.tmod_eq_emod_of_nonneg (by omega), w64 (by unfold b64; omega)]
    omega
  obtain ⟨p, hp⟩ : ∃ p, mx a2_0 0 % u = p := ⟨_, rfl⟩
  obtain ⟨q, hq⟩ : ∃ q, mx a2_1 0 % 1048576 = q := ⟨_, rfl⟩
  have p1 : 0 ≤ p ∧ p < u := by rw [← hp]; exact ⟨Int.emod_nonneg _ (by omega), Int.emod_lt_of_pos _ (by omega)⟩
  have q1 : 0 ≤ q ∧ q < 1048576 := by omega
  obtain ⟨_, _, s1, s2⟩ := scale_small u n (by omega) (by omega) (by omega) (by omega)
  obtain ⟨_, _, t1, t2⟩ := scale_small v n (by omega) (by omega) (by omega) (by omega)
  obtain ⟨K1, k1⟩ := Add1_ev ⟨u * n, v * n⟩ ⟨p, q⟩ (by unfold inV; dsimp only; omega) (by unfold inV; dsimp only; omega) (by unfold inV; dsimp only; omega)
  dsimp only at k1
  have hun : units (u * n + p) (v * n + q) u v = (n, 0) := by
    have d1 : (u * n + p) / u = n := by rw [Int.add_comm, Int.add_mul_ediv_left _ _ (by omega), Int.ediv_eq_zero_of_lt p1.1 p1.2]; omega
    have d2 : n ≤ (v * n + q) / v := by rw [Int.add_comm, Int.add_mul_ediv_left _ _ (by omega)]; have := Int.ediv_nonneg q1.1 (show 0 ≤ v by omega); omega
    unfold units
    rw [if_neg (by omega), if_neg (by unfold inV; omega), if_neg (by omega), d1]
    unfold mn
    rw [if_neg (by omega)]
  obtain ⟨K2, k2⟩ := Units_ev (u * n + p) (v * n + q) u v (by unfold b64; omega) (by unfold b64; omega)
  dsimp only at k2
  obtain ⟨K3, k3⟩ := head_ev
  dsimp only at k3
  refine ⟨K1 + K2 + K3, ?_⟩
  unfold liverylaw01_VecUnits.f liverylaw01_of.f
  rw [hu, hv, hn]
  simp only [Option.bind_some]
  rw [hp, hq, Scale_small u v n (by omega) (by omega) (by omega) (by omega) (by omega) (by omega)]
  simp only [Option.bind_some]
  rw [if_neg (by omega), k1 _ (by omega)]
  simp only [Option.bind_some]
  rw [k2 _ (by omega), hun]
  simp only [Option.bind_some]
  rw [w64 (x := n + 1) (by unfold b64; omega), Scale_small u v (n + 1) (by omega) (by omega) (by omega) (by omega) (by omega) (by omega)]
  have e1 : u * (n + 1) = u * n + u := by rw [Int.mul_add, Int.mul_one]
  simp only [Option.bind_some]
  rw [Scale_small u v n (by omega) (by omega) (by omega) (by omega) (by omega) (by omega)]
  simp only [Option.bind_some, LE_f, if_true]
  rw [decide_eq_true (by omega), if_pos rfl, decide_eq_false (by omega), if_neg (by simp), k3 _ (by omega)]
  rfl
end Go.Proofs.Ytdcgilnmncanfaa.PVecUnits
