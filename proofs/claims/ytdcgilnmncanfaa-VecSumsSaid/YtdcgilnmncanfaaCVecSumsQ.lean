/- The statement VecSums over numbers and lists alone: of every input. No condition but that numbers are of their kind. -/
import Derived.Test.YtdcgilnmncanfaaCVecSums0
import Derived.Test.YtdcgilnmncanfaaCVecSums1
import Derived.Test.YtdcgilnmncanfaaCVecSums2
import Derived.Test.YtdcgilnmncanfaaCVecSums3
import Derived.Test.YtdcgilnmncanfaaCVecSums4
import Derived.Test.YtdcgilnmncanfaaCVecSums5
import Derived.Test.YtdcgilnmncanfaaCVecSums6
import Derived.Test.YtdcgilnmncanfaaCVecSums7
import Derived.Test.YtdcgilnmncanfaaCVecSums8
import Derived.Test.YtdcgilnmncanfaaCVecSums9
import Derived.Test.YtdcgilnmncanfaaCVecSumsW
set_option linter.unusedVariables false
namespace Go.Proofs.Ytdcgilnmncanfaa.PVecSums
open Go.RowKit Go.Proofs.YtdcgilnmncanfaaW.PrintWords Go.Proofs.YtdcgilnmncanfaaW.PrintLast Go.Proofs.YtdcgilnmncanfaaW.PrintMore
def inV (x y : Int) : Prop := (-1125899906842624 ≤ x ∧ x ≤ 1125899906842624) ∧ (-1125899906842624 ≤ y ∧ y ≤ 1125899906842624)
instance (x y : Int) : Decidable (inV x y) := inferInstanceAs (Decidable (_ ∧ _))
def b64 (x : Int) : Prop := -9223372036854775808 ≤ x ∧ x ≤ 9223372036854775807
theorem w64 {x : Int} (h : b64 x) : wrap64 x = x := by
  unfold b64 at h
  unfold wrap64
  omega
theorem May_ev (x y : Int) : Ev (fun k => vec_May.f k x y) (decide (inV x y)) := by
  refine Ev.of (vec_May.mono x y) (k := 3) ?_
  have e : wrap64 (0 + 1) = 1 := by unfold wrap64; omega
  have e2 : wrap64 (1 + 1) = 2 := by unfold wrap64; omega
  simp only [vec_May.f, vec_fits_int64.f, vec_fits_int64.l0, rd, e, e2]
  by_cases h1 : x < -1125899906842624
  · rw [decide_eq_false (show ¬ inV x y by unfold inV; omega)]; simp [h1]
  · by_cases h2 : x > 1125899906842624
    · rw [decide_eq_false (show ¬ inV x y by unfold inV; omega)]; simp [h1, h2]
    · by_cases h3 : y < -1125899906842624
      · rw [decide_eq_false (show ¬ inV x y by unfold inV; omega)]; simp [h1, h2, h3]
      · by_cases h4 : y > 1125899906842624
        · rw [decide_eq_false (show ¬ inV x y by unfold inV; omega)]; simp [h1, h2, h3, h4]
        · rw [decide_eq_true (show inV x y by unfold inV; omega)]; simp [h1, h2, h3, h4]
theorem told_nil (k : Nat) (l0 l : List S23) (n : Int) (i : Int) (h : ¬ i < n) (h0 : 0 < l0.length) : vec_told.l0 (k + 1) l0 l n i = some ((rd_T23 l0 0).f0, (rd_T23 l0 0).f1, 0) := by
  simp only [vec_told.l0]
  rw [if_neg h, if_pos (by omega)]
theorem told_cons (k : Nat) (l0 l : List S23) (n : Int) (i : Int) (b : Bool) (h : i < n) (hi : 0 ≤ i) (hl : i < l.length) (hb : vec_May.f k (rd_T23 l i).f0 (rd_T23 l i).f1 = some b) :
    vec_told.l0 (k + 1) l0 l n i = if b = true then vec_told.l0 k l0 l n (wrap64 (i + 1)) else some (0, 0, 10) := by
  simp only [vec_told.l0]
  rw [if_pos h, if_pos hi, if_pos hl, hb]
  rfl
theorem told2_ev (a b : S23) : Ev (fun k => vec_told.f k [a, b]) (if inV a.f0 a.f1 ∧ inV b.f0 b.f1 then (a.f0, a.f1, 0) else (0, 0, 10)) := by
  obtain ⟨K1, h1⟩ := May_ev a.f0 a.f1
  dsimp only at h1
  obtain ⟨K2, h2⟩ := May_ev b.f0 b.f1
  dsimp only at h2
  have e : wrap64 (0 + 1) = 1 := by unfold wrap64; omega
  have e2 : wrap64 (1 + 1) = 2 := by unfold wrap64; omega
  refine Ev.of (vec_told.mono _) (k := K1 + K2 + 2 + 1) ?_
  unfold vec_told.f
  rw [told_cons (K1 + K2 + 2) _ _ _ _ _ (by simp) (by omega) (by simp) (h1 _ (by omega)), e]
  by_cases ha : inV a.f0 a.f1
  · rw [decide_eq_true ha, if_pos rfl, told_cons (K1 + K2 + 1) _ _ _ _ _ (by simp) (by omega) (by simp) (h2 _ (by omega)), e2]
    by_cases hb : inV b.f0 b.f1
    · rw [decide_eq_true hb, if_pos rfl, told_nil _ _ _ _ _ (by simp) (by simp), if_pos ⟨ha, hb⟩]
      rfl
    · rw [decide_eq_false hb, if_neg (by simp), if_neg (fun h => hb h.2)]
  · rw [decide_eq_false ha, if_neg (by simp), if_neg (fun h => ha h.1)]
theorem told3_ev (a b c : S23) : Ev (fun k => vec_told.f k [a, b, c]) (if inV a.f0 a.f1 ∧ inV b.f0 b.f1 ∧ inV c.f0 c.f1 then (a.f0, a.f1, 0) else (0, 0, 10)) := by
  obtain ⟨K1, h1⟩ := May_ev a.f0 a.f1
  dsimp only at h1
  obtain ⟨K2, h2⟩ := May_ev b.f0 b.f1
  dsimp only at h2
  obtain ⟨K3, h3⟩ := May_ev c.f0 c.f1
  dsimp only at h3
  have e : wrap64 (0 + 1) = 1 := by unfold wrap64; omega
  have e2 : wrap64 (1 + 1) = 2 := by unfold wrap64; omega
  have e3 : wrap64 (2 + 1) = 3 := by unfold wrap64; omega
  refine Ev.of (vec_told.mono _) (k := K1 + K2 + K3 + 3 + 1) ?_
  unfold vec_told.f
  rw [told_cons (K1 + K2 + K3 + 3) _ _ _ _ _ (by simp) (by omega) (by simp) (h1 _ (by omega)), e]
  by_cases ha : inV a.f0 a.f1
  · rw [decide_eq_true ha, if_pos rfl, told_cons (K1 + K2 + K3 + 2) _ _ _ _ _ (by simp) (by omega) (by simp) (h2 _ (by omega)), e2]
    by_cases hb : inV b.f0 b.f1
    · rw [decide_eq_true hb, if_pos rfl, told_cons (K1 + K2 + K3 + 1) _ _ _ _ _ (by simp) (by omega) (by simp) (h3 _ (by omega)), e3]
      by_cases hc : inV c.f0 c.f1
      · rw [decide_eq_true hc, if_pos rfl, told_nil _ _ _ _ _ (by simp) (by simp), if_pos ⟨ha, hb, hc⟩]
        rfl
      · rw [decide_eq_false hc, if_neg (by simp), if_neg (fun h => hc h.2.2)]
    · rw [decide_eq_false hb, if_neg (by simp), if_neg (fun h => hb h.2.1)]
  · rw [decide_eq_false ha, if_neg (by simp), if_neg (fun h => ha h.1)]
theorem Sub_ev (a b c d : Int) : Ev (fun k => vec_Sub.f k a b c d) (if inV (wrap64 (a - c)) (wrap64 (b - d)) ∧ inV a b ∧ inV c d then (wrap64 (a - c), wrap64 (b - d), 0) else (0, 0, 10)) := by
  obtain ⟨K, h⟩ := told3_ev ⟨wrap64 (a - c), wrap64 (b - d)⟩ ⟨a, b⟩ ⟨c, d⟩
  dsimp only at h
  refine ⟨K, fun k hk => ?_⟩
  simp only [vec_Sub.f, vec_made_at_vec_Sub_1.f, vec_both_int64_at_vec_Sub_1.f, vec_Sub_1.f, Option.bind_some]
  rw [h k hk]
  rfl
theorem refMay (x y : Int) : liveryref01_May.f x y = some (decide (inV x y)) := by
  unfold liveryref01_May.f
  by_cases h1 : x ≥ -1125899906842624
  · by_cases h2 : x ≤ 1125899906842624
    · by_cases h3 : y ≥ -1125899906842624
      · rw [if_pos h1, if_pos h2, if_pos h3]
        by_cases h4 : y ≤ 1125899906842624
        · rw [decide_eq_true h4, decide_eq_true (show inV x y by unfold inV; omega)]
        · rw [decide_eq_false h4, decide_eq_false (show ¬ inV x y by unfold inV; omega)]
      · rw [if_pos h1, if_pos h2, if_neg h3, decide_eq_false (show ¬ inV x y by unfold inV; omega)]
    · rw [if_pos h1, if_neg h2, decide_eq_false (show ¬ inV x y by unfold inV; omega)]
  · rw [if_neg h1, decide_eq_false (show ¬ inV x y by unfold inV; omega)]
theorem refAdd (a b c d : Int) : liveryref01_Add.f a b c d = some (if inV a b ∧ inV c d ∧ inV (wrap64 (a + c)) (wrap64 (b + d)) then (wrap64 (a + c), wrap64 (b + d), 0) else (0, 0, 10)) := by
  unfold liveryref01_Add.f liveryref01_told.f
  simp only [refMay, Option.bind_some]
  by_cases h1 : inV a b
  · by_cases h2 : inV c d
    · by_cases h3 : inV (wrap64 (a + c)) (wrap64 (b + d)) <;> simp [h1, h2, h3]
    · simp [h2]
  · simp [h1]
theorem head_ev : Ev (fun k => liverylaw01_head.f k) true := Ev.of liverylaw01_head.mono (k := 12) (by kernel_rfl)
def sumV : List S23 → Int → Int → Option (Int × Int)
  | [], a, b => some (a, b)
  | x :: t, a, b => if inV (wrap64 (a + x.f0)) (wrap64 (b + x.f1)) ∧ inV x.f0 x.f1 then sumV t (wrap64 (a + x.f0)) (wrap64 (b + x.f1)) else none
def resV : Option (Int × Int) → Int × Int × Int
  | none => (0, 0, 10)
  | some p => (p.1, p.2, 0)
theorem drop_cons (l : List S23) (i : Nat) (h : i < l.length) : l.drop i = l[i] :: l.drop (i + 1) := List.drop_eq_getElem_cons h
theorem rd_at (l : List S23) (i : Nat) (h : i < l.length) : rd_T23 l (i : Int) = l[i] := by
  unfold rd_T23
  rw [Int.toNat_natCast, List.getD_eq_getElem?_getD, List.getElem?_eq_getElem h]
  rfl
theorem addLoop (l : List S23) (hl : l.length ≤ 100) (d : Nat) : ∀ (i : Nat) (a b : Int), i + d = l.length → Ev (fun k => vec_Add.l0 k l (l.length : Int) (i : Int) a b) (resV (sumV (l.drop i) a b)) := by
  induction d with
  | zero =>
    intro i a b hi
    refine ⟨1, fun k hk => ?_⟩
    obtain ⟨k, rfl⟩ : ∃ m, k = m + 1 := ⟨k - 1, by omega⟩
    simp only [vec_Add.l0]
    rw [if_neg (by omega), List.drop_of_length_le (by omega)]
    rfl
  | succ d ih =>
    intro i a b hi
    have hlt : i < l.length := by omega
    obtain ⟨K1, h1⟩ := told2_ev ⟨wrap64 (a + l[i].f0), wrap64 (b + l[i].f1)⟩ ⟨l[i].f0, l[i].f1⟩
    dsimp only at h1
    obtain ⟨K2, h2⟩ := ih (i + 1) (wrap64 (a + l[i].f0)) (wrap64 (b + l[i].f1)) (by omega)
    dsimp only at h2
    refine ⟨K1 + K2 + 1, fun k hk => ?_⟩
    obtain ⟨k, rfl⟩ : ∃ m, k = m + 1 := ⟨k - 1, by omega⟩
    simp only [vec_Add.l0]
    rw [if_pos (by omega), if_pos (by omega), if_pos (by omega), rd_at l i hlt]
    simp only [vec_made_at_vec_Add_1.f, vec_both_int64_at_vec_Add_1.f, vec_Add_1.f, Option.bind_some]
    rw [h1 k (by omega), drop_cons l i hlt]
    simp only [Option.bind_some, sumV]
    by_cases hc : inV (wrap64 (a + l[i].f0)) (wrap64 (b + l[i].f1)) ∧ inV l[i].f0 l[i].f1
    · rw [if_pos hc, if_pos hc]
      have e : wrap64 ((i : Int) + 1) = ((i + 1 : Nat) : Int) := by rw [w64 (by unfold b64; omega)]; omega
      simp only [if_true, e]
      exact h2 k (by omega)
    · rw [if_neg hc, if_neg hc]
      rfl
theorem refLoop (l : List S23) (hl : l.length ≤ 100) (d : Nat) : ∀ (i : Nat) (a b : Int), i + d = l.length → inV a b → Ev (fun k => liveryref01_Sum.l0 k l (i : Int) a b) (resV (sumV (l.drop i) a b)) := by
  induction d with
  | zero =>
    intro i a b hi _
    refine ⟨1, fun k hk => ?_⟩
    obtain ⟨k, rfl⟩ : ∃ m, k = m + 1 := ⟨k - 1, by omega⟩
    simp only [liveryref01_Sum.l0]
    rw [if_neg (by omega), List.drop_of_length_le (by omega)]
    rfl
  | succ d ih =>
    intro i a b hi hab
    have hlt : i < l.length := by omega
    by_cases hc : inV (wrap64 (a + l[i].f0)) (wrap64 (b + l[i].f1)) ∧ inV l[i].f0 l[i].f1
    · obtain ⟨K2, h2⟩ := ih (i + 1) (wrap64 (a + l[i].f0)) (wrap64 (b + l[i].f1)) (by omega) hc.1
      dsimp only at h2
      refine ⟨K2 + 1, fun k hk => ?_⟩
      obtain ⟨k, rfl⟩ : ∃ m, k = m + 1 := ⟨k - 1, by omega⟩
      simp only [liveryref01_Sum.l0]
      rw [if_pos (by omega), if_pos (by omega), rd_at l i hlt, refAdd, if_pos ⟨hab, hc.2, hc.1⟩, drop_cons l i hlt]
      simp only [Option.bind_some, sumV]
      rw [if_pos hc]
      have e : wrap64 ((i : Int) + 1) = ((i + 1 : Nat) : Int) := by rw [w64 (by unfold b64; omega)]; omega
      simp only [if_true, e]
      exact h2 k (by omega)
    · refine ⟨1, fun k hk => ?_⟩
      obtain ⟨k, rfl⟩ : ∃ m, k = m + 1 := ⟨k - 1, by omega⟩
      simp only [liveryref01_Sum.l0]
      rw [if_pos (by omega), if_pos (by omega), rd_at l i hlt, refAdd, if_neg (fun h => hc ⟨h.2.2, h.2.1⟩), drop_cons l i hlt]
      simp only [Option.bind_some, sumV]
      rw [if_neg hc]
      rfl
theorem sumV_snoc (l : List S23) (x : S23) : ∀ a b : Int, sumV (l ++ [x]) a b = (sumV l a b).bind fun p => if inV (wrap64 (p.1 + x.f0)) (wrap64 (p.2 + x.f1)) ∧ inV x.f0 x.f1 then some (wrap64 (p.1 + x.f0), wrap64 (p.2 + x.f1)) else none := by
  induction l with
  | nil => intro a b; simp only [List.nil_append, sumV, Option.bind_some]
  | cons y t ih =>
    intro a b
    simp only [List.cons_append, sumV]
    by_cases hc : inV (wrap64 (a + y.f0)) (wrap64 (b + y.f1)) ∧ inV y.f0 y.f1
    · rw [if_pos hc, if_pos hc, ih]
    · rw [if_neg hc, if_neg hc]; rfl
theorem sumV_in (l : List S23) : ∀ a b p, inV a b → sumV l a b = some p → inV p.1 p.2 := by
  induction l with
  | nil => intro a b p h e; simp only [sumV, Option.some.injEq] at e; rw [← e]; exact h
  | cons y t ih =>
    intro a b p h e
    simp only [sumV] at e
    by_cases hc : inV (wrap64 (a + y.f0)) (wrap64 (b + y.f1)) ∧ inV y.f0 y.f1
    · rw [if_pos hc] at e; exact ih _ _ p hc.1 e
    · rw [if_neg hc] at e; cases e
theorem VecSums (l : List S23) (w0 : l.length ≤ maxLen ∧ ∀ x ∈ l, (Lit.int .i64 x.f0).wf = true ∧ (Lit.int .i64 x.f1).wf = true) : ∃ k, liverylaw01_VecSums.f k l = some true := by
  obtain ⟨K0, k0⟩ := head_ev
  dsimp only at k0
  by_cases hl : (l.length : Int) > 100
  · refine ⟨K0, ?_⟩
    unfold liverylaw01_VecSums.f
    rw [if_pos hl, k0 _ (by omega)]
    rfl
  · have h00 : inV 0 0 := by unfold inV; omega
    have z00 : ((0 : Nat) : Int) = 0 := rfl
    obtain ⟨K1, k1⟩ := addLoop l (by omega) l.length 0 0 0 (by omega)
    obtain ⟨K2, k2⟩ := refLoop l (by omega) l.length 0 0 0 (by omega) h00
    dsimp only at k1 k2
    rw [List.drop_zero, z00] at k1 k2
    by_cases hn : l = []
    · subst hn
      refine ⟨K0 + K1 + K2 + 3, ?_⟩
      unfold liverylaw01_VecSums.f vec_Add.f liveryref01_Sum.f
      rw [if_neg hl, k1 _ (by omega), k2 _ (by omega)]
      simp only [Option.bind_some, sumV, resV, liverylaw01_VecSums.j0, liverylaw01_VecSums.j1, beq_self_eq_true, Bool.not_true, Bool.or_self, bne_self_eq_false]
      rw [if_neg (by simp), if_neg (by simp), if_pos trivial, if_pos (by simp), k0 _ (by omega)]
      rfl
    · obtain ⟨t, x, rfl⟩ : ∃ t x, l = t ++ [x] := ⟨l.dropLast, l.getLast hn, (List.dropLast_concat_getLast hn).symm⟩
      have hlen : (t ++ [x]).length = t.length + 1 := by simp
      obtain ⟨K3, k3⟩ := addLoop t (by rw [hlen] at hl; omega) t.length 0 0 0 (by omega)
      dsimp only at k3
      rw [List.drop_zero, z00] at k3
      cases hs : sumV (t ++ [x]) 0 0 with
      | none =>
        rw [hs] at k1 k2
        refine ⟨K0 + K1 + K2 + 3, ?_⟩
        unfold liverylaw01_VecSums.f vec_Add.f liveryref01_Sum.f
        rw [if_neg hl, k1 _ (by omega), k2 _ (by omega)]
        simp only [Option.bind_some, resV, liverylaw01_VecSums.j0, liverylaw01_VecSums.j1, beq_self_eq_true, Bool.not_true, Bool.or_self, bne_self_eq_false]
        rw [if_neg (by simp), if_neg (by simp), if_neg (by decide), if_pos trivial, k0 _ (by omega)]
        rfl
      | some p =>
        rw [hs] at k1 k2
        rw [sumV_snoc] at hs
        cases ht : sumV t 0 0 with
        | none => rw [ht] at hs; cases hs
        | some q =>
          rw [ht] at hs k3
          simp only [Option.bind_some] at hs
          have hq := sumV_in t 0 0 q h00 ht
          by_cases hc : inV (wrap64 (q.1 + x.f0)) (wrap64 (q.2 + x.f1)) ∧ inV x.f0 x.f1
          · rw [if_pos hc] at hs
            obtain rfl := Option.some.inj hs
            have hq' := hq
            have hx' := hc.2
            unfold inV at hq' hx'
            have e1 : wrap64 (q.1 + x.f0) = q.1 + x.f0 := w64 (by unfold b64; omega)
            have e2 : wrap64 (q.2 + x.f1) = q.2 + x.f1 := w64 (by unfold b64; omega)
            rw [e1, e2] at k1 k2 hc
            obtain ⟨K4, k4⟩ := Sub_ev (q.1 + x.f0) (q.2 + x.f1) x.f0 x.f1
            dsimp only at k4
            have e3 : q.1 + x.f0 - x.f0 = q.1 := by omega
            have e4 : q.2 + x.f1 - x.f1 = q.2 := by omega
            have e5 : wrap64 q.1 = q.1 := w64 (by unfold b64; omega)
            have e6 : wrap64 q.2 = q.2 := w64 (by unfold b64; omega)
            rw [e3, e4, e5, e6, if_pos ⟨hq, hc.1, hc.2⟩] at k4
            have e7 : wrap64 (((t ++ [x]).length : Int) - 1) = (t.length : Int) := by rw [hlen, w64 (by unfold b64; omega)]; omega
            have e8 : (t ++ [x]).take ((t.length : Int)).toNat = t := by rw [Int.toNat_natCast, List.take_left']; rfl
            have e9 : rd_T23 (t ++ [x]) (t.length : Int) = x := by rw [rd_at _ _ (by omega)]; simp
            refine ⟨K0 + K1 + K2 + K3 + K4 + 3, ?_⟩
            unfold liverylaw01_VecSums.f vec_Add.f liveryref01_Sum.f
            rw [if_neg hl, k1 _ (by omega), k2 _ (by omega)]
            simp only [Option.bind_some, resV, liverylaw01_VecSums.j0, liverylaw01_VecSums.j1, beq_self_eq_true, Bool.not_true, Bool.or_self, bne_self_eq_false]
            rw [if_neg (by simp), if_neg (by simp), if_pos trivial, if_neg (by rw [hlen]; simp; omega), e7, if_pos (by omega), if_pos (by omega), e8]
            unfold vec_Add.f
            rw [k3 _ (by omega)]
            simp only [Option.bind_some, resV]
            rw [if_pos (by omega), e9, k4 _ (by omega)]
            simp only [Option.bind_some, beq_self_eq_true, Bool.and_self, if_true]
            rw [k0 _ (by omega)]
            rfl
          · rw [if_neg hc] at hs; cases hs
end Go.Proofs.Ytdcgilnmncanfaa.PVecSums
