/- liverylaw22.NodeCaps: the acts. Facts about a node that came and went. -/
import Derived.Test.YthibppfdonepoaaCLedgerRoomsHNodeI
import Derived.Test.YthibppfdonepoaaCLedgerRoomsHNodeG
import Derived.Test.YthibppfdonepoaaCLedgerRoomsHNodeP
set_option linter.unusedVariables false
namespace Go.Proofs.Ythibppfdonepoaa.NodeT
open Go.RowKit Go.MapKept Go.Maps Go.ChangeMaps Go.Proofs.Ythibppfdonepoaa.XBut Go.Proofs.Ythibppfdonepoaa.XMap Go.Proofs.Ythibppfdonepoaa.PNodePlays Go.Proofs.YthibppfdonepoaaW.PrintWords Go.Proofs.YthibppfdonepoaaW.PrintLast
/-- An act lies at an address: gone, node. -/
structure ActAt (w : World) (ad : Addr) (x : Bool × S39) : Prop where
  c0 : w.cell? ad = some (.bool x.1)
  c1 : w.cell? ⟨ad.block, ad.off + 1, none⟩ = some (.int .u32 x.2.f0)
  c2 : w.cell? ⟨ad.block, ad.off + 2, none⟩ = some (.int .i64 x.2.f1.f0)
  c3 : w.cell? ⟨ad.block, ad.off + 3, none⟩ = some (.int .i64 x.2.f1.f1)
theorem ActAt.below {w w' : World} {ad : Addr} {x : Bool × S39} (h : ActAt w ad x) (hb : Below w.heap.size w w') : ActAt w' ad x :=
  ⟨pw_cell_below hb h.c0, pw_cell_below hb h.c1, pw_cell_below hb h.c2, pw_cell_below hb h.c3⟩
/-- Rows of acts. -/
structure Acts (w : World) (A : Option Addr) (l : List (Bool × S39)) : Prop where
  at_ : ∀ j (h : j < l.length), ∃ ad, A = some ad ∧ ActAt w (ad.add (j * 4)) l[j]
  wf : ∀ x ∈ l, (Lit.int .u32 x.2.f0).wf = true
theorem Good.nil {u0 u1 : Int} (h : okV 1 ⟨u0, u1⟩) : Good u0 u1 [] := ⟨h, (fun _ h => (List.not_mem_nil h).elim), List.Pairwise.nil, Nat.zero_le _⟩
theorem wf32 {n : Int} (h : (Lit.int .u32 n).wf = true) : 0 ≤ n ∧ n ≤ 4294967295 := by
  simp only [Lit.wf, IntKind.min, IntKind.max, IntKind.signed, IntKind.bits, Bool.and_eq_true] at h
  simp at h
  omega
end Go.Proofs.Ythibppfdonepoaa.NodeT
set_option linter.unusedVariables false
namespace Go.Proofs.Ythibppfdonepoaa.NodeT
open Go.RowKit Go.MapKept Go.Maps Go.ChangeMaps Go.Proofs.Ythibppfdonepoaa.XBut Go.Proofs.Ythibppfdonepoaa.XMap Go.Proofs.Ythibppfdonepoaa.PNodePlays Go.Proofs.YthibppfdonepoaaW.PrintWords Go.Proofs.YthibppfdonepoaaW.PrintLast
theorem refMay2 (x y : Int) : PNodePlays.liveryref01_May.f x y = some (decide (inV x y)) := by
  unfold PNodePlays.liveryref01_May.f
  by_cases h1 : x ≥ -1125899906842624
  · by_cases h2 : x ≤ 1125899906842624
    · by_cases h3 : y ≥ -1125899906842624
      · rw [if_pos h1, if_pos h2, if_pos h3]
        congr 1
        exact decide_eq_decide.2 ⟨fun h => ⟨⟨h1, h2⟩, h3, h⟩, fun h => h.2.2⟩
      · rw [if_pos h1, if_pos h2, if_neg h3, decide_eq_false (fun h => h3 h.2.1)]
    · rw [if_pos h1, if_neg h2, decide_eq_false (fun h => h2 h.1.2)]
  · rw [if_neg h1, decide_eq_false (fun h => h1 h.1.1)]
theorem refUnits_ev (a b c d : Int) : Ev (fun k => liveryref01_Units.f k a b c d) (units a b c d) := by
  refine Ev.of (liveryref01_Units.mono _ _ _ _) (k := 2) ?_
  unfold liveryref01_Units.f units
  by_cases h1 : c < 1
  · rw [if_pos h1, if_pos (by omega)]
    rfl
  · by_cases h2 : d < 1
    · rw [if_neg h1, decide_eq_true h2, if_pos (by omega)]
      rfl
    · rw [if_neg h1, decide_eq_false h2, if_neg (by omega)]
      simp only [liveryref01_Units.j0, liveryref01_Units.j1, refMay2, Option.bind_some]
      rw [if_neg (by simp)]
      by_cases h3 : inV a b
      · by_cases h4 : inV c d
        · by_cases h5 : a < 0
          · simp [h3, h4, h5]
          · by_cases h6 : b < 0
            · simp [h3, h4, h5, h6]
            · have h3' := h3
              have h4' := h4
              unfold inV at h3' h4'
              have q1 : 0 ≤ a / c := Int.ediv_nonneg (by omega) (by omega)
              have q2 : a / c ≤ a := Int.ediv_le_self _ (by omega)
              have q3 : 0 ≤ b / d := Int.ediv_nonneg (by omega) (by omega)
              have q4 : b / d ≤ b := Int.ediv_le_self _ (by omega)
              have q5 : ¬ c = 0 := by omega
              have q6 : ¬ d = 0 := by omega
              rw [Int.tdiv_eq_ediv_of_nonneg (by omega), Int.tdiv_eq_ediv_of_nonneg (by omega), w64 (x := a / c) (by unfold b64; omega), w64 (x := b / d) (by unfold b64; omega)]
              simp [h3, h4, h5, h6, q5, q6]
        · simp [h3, h4]
      · simp [h3]
theorem refUnits_at {u0 u1 : Int} {x : S39} (hu : okV 1 ⟨u0, u1⟩) (hx : okV 0 x.f1) : Ev (fun k => liveryref01_Units.f k x.f1.f0 x.f1.f1 u0 u1) (uns u0 u1 x, 0) := by
  have h := refUnits_ev x.f1.f0 x.f1.f1 u0 u1
  rwa [units_uns hu hx] at h
/-- A node that is not there, set in: one more; taken out again: as ever. -/
theorem ins_sum (F : S39 → Int) {ns : List S39} {x : S39} (h : who ns x.f0 = none) : sumU F (ins ns x) = sumU F ns + F x ∧ (ins ns x).length = ns.length + 1 := by
  replace h := List.find?_eq_none.1 h
  induction ns with
  | nil => simp [ins, sumU]
  | cons a l ih =>
    have h1 := h a (by simp)
    obtain ⟨i1, i2⟩ := ih fun y hy => h y (by simp [hy])
    unfold ins
    split
    · refine ⟨?_, rfl⟩
      simp only [sumU, List.map_cons, List.sum_cons]
      omega
    · split
      · rename_i h3
        exact absurd (by simp [h3]) h1
      · simp only [sumU, List.map_cons, List.sum_cons, List.length_cons] at i1 i2 ⊢
        omega
theorem ins_who {ns : List S39} {x : S39} (h : who ns x.f0 = none) : who (ins ns x) x.f0 = some x := by
  replace h := List.find?_eq_none.1 h
  unfold who
  induction ns with
  | nil => simp [ins]
  | cons a l ih =>
    have h1 := h a (by simp)
    have i1 := ih fun y hy => h y (by simp [hy])
    unfold ins
    split
    · simp
    · split
      · simp
      · rw [List.find?_cons, show (a.f0 == x.f0) = false from by simpa using h1]
        exact i1
theorem ins_less {ns : List S39} {x : S39} (h : who ns x.f0 = none) : less (ins ns x) x.f0 = ns := by
  have hn := less_none h
  replace h := List.find?_eq_none.1 h
  unfold less at hn ⊢
  induction ns with
  | nil => simp [ins]
  | cons a l ih =>
    have h1 := h a (by simp)
    have h2 : (a.f0 != x.f0) = true := by simpa using h1
    rw [List.filter_cons, if_pos h2] at hn
    have i1 := ih (by simpa using hn) fun y hy => h y (by simp [hy])
    unfold ins
    split
    · rw [List.filter_cons, if_neg (by simp), List.filter_cons, if_pos h2]
      exact hn
    · split
      · rename_i h3
        exact absurd (by simp [h3]) h1
      · rw [List.filter_cons, if_pos h2, i1]
theorem same_l0 (ns : List S39) (hl : ns.length ≤ 1000000) : ∀ (d k i : Nat), i + d = ns.length → d < k → liveryref22_Same.l0 k ns ns i = some true
  | 0, k, i, h, hk => by
    obtain ⟨k, rfl⟩ : ∃ m, k = m + 1 := ⟨k - 1, by omega⟩
    simp only [liveryref22_Same.l0]
    rw [if_neg (by omega)]
  | d + 1, k, i, h, hk => by
    obtain ⟨k, rfl⟩ : ∃ m, k = m + 1 := ⟨k - 1, by omega⟩
    simp only [liveryref22_Same.l0]
    rw [if_pos (by omega), if_pos (by omega), if_pos (by omega), if_neg (by simp)]
    rw [show wrap64 ((i : Int) + 1) = ((i + 1 : Nat) : Int) by unfold wrap64; omega]
    exact same_l0 ns hl d k (i + 1) (by omega) (by omega)
theorem same_self (ns : List S39) (hl : ns.length ≤ 1000000) : ∀ k, ns.length < k → liveryref22_Same.f k ns ns = some true := by
  intro k hk
  unfold liveryref22_Same.f
  rw [if_pos rfl]
  exact same_l0 ns hl ns.length k 0 (by omega) hk
end Go.Proofs.Ythibppfdonepoaa.NodeT
