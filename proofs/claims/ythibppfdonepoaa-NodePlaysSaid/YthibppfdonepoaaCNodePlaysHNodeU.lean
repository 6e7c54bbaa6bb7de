/- The document's table, in plain words. -/
import Derived.Test.YthibppfdonepoaaCNodePlaysHNodeR
import Derived.Test.YthibppfdonepoaaCNodePlays14
set_option linter.unusedVariables false
namespace Go.Proofs.Ythibppfdonepoaa.NodeT
open Go.RowKit Go.MapKept Go.Maps Go.ChangeMaps Go.Proofs.Ythibppfdonepoaa.XBut Go.Proofs.Ythibppfdonepoaa.XMap Go.Proofs.Ythibppfdonepoaa.PNodePlays Go.Proofs.YthibppfdonepoaaW.PrintWords Go.Proofs.YthibppfdonepoaaW.PrintLast
theorem rin_f (a b c : Int) : liveryref22_in.f a b c = some (decide (okV c ⟨a, b⟩)) := by
  unfold liveryref22_in.f
  by_cases h1 : a ≥ c
  · by_cases h2 : a ≤ 1073741824
    · by_cases h3 : b ≥ c
      · rw [if_pos h1, if_pos h2, if_pos h3]
        congr 1
        exact decide_eq_decide.2 ⟨fun h => ⟨⟨h1, h3⟩, h2, h⟩, fun h => h.2.2⟩
      · rw [if_pos h1, if_pos h2, if_neg h3, decide_eq_false (fun h : okV c ⟨a, b⟩ => h3 h.1.2)]
    · rw [if_pos h1, if_neg h2, decide_eq_false (fun h : okV c ⟨a, b⟩ => h2 h.2.1)]
  · rw [if_neg h1, decide_eq_false (fun h : okV c ⟨a, b⟩ => h1 h.1.1)]
theorem rnew_f (a b : Int) : liveryref22_New.f a b = if okV 1 ⟨a, b⟩ then some (a, b, [], 0) else some (0, 0, [], 2) := by
  unfold liveryref22_New.f
  rw [rin_f, Option.bind_some]
  by_cases h : okV 1 ⟨a, b⟩
  · rw [if_pos (decide_eq_true h), if_pos h]
  · rw [if_neg (by simp [h]), if_neg h]
theorem runits_ev {u0 u1 : Int} {x : S39} (ns : List S39) (hu : okV 1 ⟨u0, u1⟩) (hx : okV 0 x.f1) : Ev (fun k => liveryref22_Units.f k u0 u1 ns x.f0 x.f1.f0 x.f1.f1) (uns u0 u1 x) := by
  obtain ⟨K, h⟩ := refUnits_at hu hx
  refine ⟨K, fun k hk => ?_⟩
  have := h k hk
  dsimp only at this
  simp only [liveryref22_Units.f]
  rw [this]
  rfl
/-- May a node be? -/
def may (u0 u1 : Int) (x : S39) : Bool := decide (0 < x.f0 ∧ okV 0 x.f1 ∧ uns u0 u1 x ≤ 4096)
theorem rmay_ev {u0 u1 : Int} (x : S39) (ns : List S39) (hu : okV 1 ⟨u0, u1⟩) : Ev (fun k => liveryref22_May.f k u0 u1 ns x.f0 x.f1.f0 x.f1.f1) (may u0 u1 x) := by
  by_cases h0 : x.f0 > 0
  · by_cases h1 : okV 0 x.f1
    · obtain ⟨K, h⟩ := runits_ev ns hu h1
      refine ⟨K, fun k hk => ?_⟩
      have := h k hk
      dsimp only at this
      simp only [liveryref22_May.f]
      rw [if_pos h0, rin_f, Option.bind_some, if_pos (decide_eq_true h1), this, Option.bind_some]
      congr 1
      exact decide_eq_decide.2 ⟨fun h => ⟨h0, h1, h⟩, fun h => h.2.2⟩
    · refine ⟨0, fun k _ => ?_⟩
      simp only [liveryref22_May.f]
      rw [if_pos h0, rin_f, Option.bind_some, if_neg (by simp [h1])]
      unfold may
      rw [decide_eq_false (fun h => h1 h.2.1)]
  · refine ⟨0, fun k _ => ?_⟩
    simp only [liveryref22_May.f]
    rw [if_neg h0]
    unfold may
    rw [decide_eq_false (fun h => h0 h.1)]
/-- Where a node stands. -/
def place : List S39 → Int → Int
  | [], _ => -1
  | a :: l, i => if a.f0 = i then 0 else if place l i = -1 then -1 else place l i + 1
theorem place_cons (a : S39) (l : List S39) (i : Int) : place (a :: l) i = if a.f0 = i then 0 else if place l i = -1 then -1 else place l i + 1 := rfl
theorem place_ge (ns : List S39) (i : Int) : -1 ≤ place ns i ∧ place ns i < ns.length := by
  induction ns with
  | nil => simp [place]
  | cons a l ih =>
    unfold place
    simp only [List.length_cons]
    split
    · omega
    · split <;> omega
theorem place_who (ns : List S39) (i : Int) : place ns i < 0 ↔ who ns i = none := by
  unfold who
  induction ns with
  | nil => simp [place]
  | cons a l ih =>
    have h := place_ge l i
    unfold place
    rw [List.find?_cons]
    by_cases h1 : a.f0 = i
    · rw [if_pos h1]
      simp [h1]
    · rw [if_neg h1, show (a.f0 == i) = false from by simpa using h1]
      dsimp only
      split
      · rw [← ih]; omega
      · rw [← ih]; omega
theorem rat_l0 (u0 u1 i : Int) (ns : List S39) (hl : ns.length ≤ 1000000) : ∀ (d k j : Nat), j + d = ns.length → d < k → liveryref22_At.l0 k i j u0 u1 ns = some (if place (ns.drop j) i = -1 then -1 else place (ns.drop j) i + j)
  | 0, k, j, h, hk => by
    obtain ⟨k, rfl⟩ : ∃ m, k = m + 1 := ⟨k - 1, by omega⟩
    simp only [liveryref22_At.l0]
    rw [if_neg (by omega), List.drop_eq_nil_of_le (by omega)]
    simp [place]
  | d + 1, k, j, h, hk => by
    obtain ⟨k, rfl⟩ : ∃ m, k = m + 1 := ⟨k - 1, by omega⟩
    simp only [liveryref22_At.l0]
    have hj : j < ns.length := by omega
    have er : rd_T39 ns (j : Int) = ns[j] := by unfold rd_T39; rw [Int.toNat_natCast, List.getD_eq_getElem?_getD, List.getElem?_eq_getElem hj]; rfl
    rw [if_pos (by omega), if_pos (by omega), er, List.drop_eq_getElem_cons hj]
    unfold place
    by_cases h1 : ns[j].f0 = i
    · rw [if_pos h1, if_pos h1, if_neg (by omega)]
      congr 1
      omega
    · rw [if_neg h1, if_neg h1, show wrap64 ((j : Int) + 1) = ((j + 1 : Nat) : Int) by unfold wrap64; omega, rat_l0 u0 u1 i ns hl d k (j + 1) (by omega) (by omega)]
      congr 1
      have hg := place_ge (ns.drop (j + 1)) i
      by_cases h2 : place (ns.drop (j + 1)) i = -1
      · rw [if_pos h2, if_pos h2, if_pos rfl]
      · rw [if_neg h2, if_neg h2, if_neg (by omega)]
        omega
theorem rat_f (u0 u1 i : Int) (ns : List S39) (hl : ns.length ≤ 1000000) (k : Nat) (hk : ns.length < k) : liveryref22_At.f k u0 u1 ns i = some (place ns i) := by
  unfold liveryref22_At.f
  rw [show (0 : Int) = ((0 : Nat) : Int) from rfl, rat_l0 u0 u1 i ns hl ns.length k 0 (by omega) hk, List.drop_zero]
  congr 1
  split
  · rename_i h; exact h.symm
  · simp
theorem place_at {ns : List S39} {i : Int} (h : 0 ≤ place ns i) : ∃ hj : (place ns i).toNat < ns.length, who ns i = some ns[(place ns i).toNat] := by
  have hg := place_ge ns i
  refine ⟨by omega, ?_⟩
  unfold who
  induction ns with
  | nil => simp [place] at h
  | cons a l ih =>
    rw [List.find?_cons]
    by_cases h1 : a.f0 = i
    · have e : place (a :: l) i = 0 := by rw [place_cons, if_pos h1]
      simp only [e, show (a.f0 == i) = true from by simpa using h1]
      rfl
    · have hl := place_ge l i
      by_cases h2 : place l i = -1
      · have e : place (a :: l) i = -1 := by rw [place_cons, if_neg h1, if_pos h2]
        omega
      · have e : place (a :: l) i = place l i + 1 := by rw [place_cons, if_neg h1, if_neg h2]
        have e2 : (place l i + 1).toNat = (place l i).toNat + 1 := by omega
        simp only [e, show (a.f0 == i) = false from by simpa using h1, e2, List.getElem_cons_succ]
        exact ih (by omega) hl
theorem place_less {ns : List S39} {i : Int} (hr : ns.Pairwise fun x y => x.f0 < y.f0) (h : 0 ≤ place ns i) : ns.take (place ns i).toNat ++ ns.drop ((place ns i).toNat + 1) = less ns i := by
  induction ns with
  | nil => simp [place] at h
  | cons a l ih =>
    obtain ⟨hr1, hr2⟩ := List.pairwise_cons.1 hr
    unfold less
    rw [List.filter_cons]
    by_cases h1 : a.f0 = i
    · have e : place (a :: l) i = 0 := by rw [place_cons, if_pos h1]
      rw [e, if_neg (by simpa using h1)]
      simp only [Int.toNat_zero, List.take_zero, List.nil_append, Nat.zero_add, List.drop_succ_cons, List.drop_zero]
      refine (List.filter_eq_self.2 fun x hx => ?_).symm
      have := hr1 x hx
      simp
      omega
    · have hl := place_ge l i
      by_cases h2 : place l i = -1
      · have e : place (a :: l) i = -1 := by rw [place_cons, if_neg h1, if_pos h2]
        omega
      · have e : place (a :: l) i = place l i + 1 := by rw [place_cons, if_neg h1, if_neg h2]
        have e2 : (place l i + 1).toNat = (place l i).toNat + 1 := by omega
        rw [e, e2, if_pos (by simpa using h1), List.take_succ_cons, List.drop_succ_cons, List.cons_append, ih hr2 (by omega)]
        rfl
end Go.Proofs.Ythibppfdonepoaa.NodeT
