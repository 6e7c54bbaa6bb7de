/- The statement ShapeHangs over numbers and lists alone: of every input. No condition but that numbers are of their kind. -/
import Derived.Test.YtkaokiiooakleaaCShapeHangs0
import Derived.Test.YtkaokiiooakleaaCShapeHangs1
import Derived.Test.YtkaokiiooakleaaCShapeHangs2
import Derived.Test.YtkaokiiooakleaaCShapeHangs3
import Derived.Test.YtkaokiiooakleaaCShapeHangs4
import Derived.Test.YtkaokiiooakleaaCShapeHangs5
import Derived.Test.YtkaokiiooakleaaCShapeHangs6
import Derived.Test.YtkaokiiooakleaaCShapeHangs7
import Derived.Test.YtkaokiiooakleaaCShapeHangs8
import Derived.Test.YtkaokiiooakleaaCShapeHangsW
set_option linter.unusedVariables false
namespace Go.Proofs.Ytkaokiiooakleaa.PShapeHangs
open Go.RowKit Go.Proofs.YtkaokiiooakleaaW.PrintWords Go.Proofs.YtkaokiiooakleaaW.PrintLast Go.Proofs.YtkaokiiooakleaaW.PrintMore
section
open ShapeM
/-! #### the parts of a definition, as the walk sees them -/
abbrev Rw (l : List S65) := Row (Sh.errE l) (Sh.K65 l) (Sh.C65 l)
abbrev Fl (l : List S65) := Fail (Sh.errE l) (Sh.K65 l) (Sh.C65 l)
theorem kindP_nat (l : List S65) (q : Nat) : kindP (Sh.C65 l) (q : Int) = (rd_T65 l q).f0 := by
  unfold kindP
  rw [if_neg (by omega)]
  rfl
theorem K_eq {l : List S65} {a d : Nat} {i : Int} (h : Sh.errE l a d i = 0) : ((Sh.K65 l a : Nat) : Int) = (rd_T65 l a).f4 := by
  have := Sh.errE_ok h
  unfold Sh.K65
  omega
theorem err_of {l : List S65} {a d : Nat} {i : Int} : Sh.errE l a d i = 0 ∨ Sh.errE l a d i = 81 ∨ Sh.errE l a d i = 80 := by
  unfold Sh.errE
  split
  · exact .inr (.inl rfl)
  · split
    · exact .inr (.inr rfl)
    · exact .inl rfl
/-- What may stand deep may stand less deep, and at the top. -/
theorem err_rise {l : List S65} : ∀ a d d' p, d' ≤ d → Sh.errE l a d p = 0 → Sh.errE l a d' p = 0 ∧ Sh.errE l a d' 0 = 0 := by
  intro a d d' p hd h
  unfold Sh.errE at h ⊢
  split at h
  · cases h
  · rename_i h1
    split at h
    · cases h
    · rename_i h2
      have h3 : ¬ (Sh.is1 l a || Sh.is2 l a || ((0 : Int) == 2 && !((rd_T65 l a).f0 == 0))) = true := by
        simp only [Bool.or_eq_true, not_or] at h1 ⊢
        exact ⟨h1.1, by simp⟩
      exact ⟨by rw [if_neg h1, if_neg (by omega)], by rw [if_neg h3, if_neg (by omega)]⟩
theorem row_or_fail (l : List S65) : ∀ (n a : Nat), 64 - a = n → ∀ (k : Nat) (p : Int) (d : Nat), (∃ b L, Rw l a k p d b L) ∨ (∃ wh e, Fl l a k p d wh e) := by
  intro n
  induction n using Nat.strongRecOn with
  | ind n ih =>
    intro a hn k p d
    cases k with
    | zero => exact .inl ⟨_, _, .nil _ _ _⟩
    | succ k =>
      by_cases he : Sh.errE l a d (kindP (Sh.C65 l) p) = 0
      · have ha := (Sh.errE_ok he).2.1
        rcases ih (64 - (a + 1)) (by omega) (a + 1) rfl (Sh.K65 l a) a (d + 1) with ⟨mid, L, h1⟩ | ⟨wh, e, h1⟩
        · have := h1.le
          by_cases hk : k = 0
          · subst hk
            exact .inl ⟨_, _, .cons he h1 (.nil _ _ _)⟩
          · rcases ih (64 - mid) (by omega) mid rfl k p d with ⟨b, M, h2⟩ | ⟨wh, e, h2⟩
            · exact .inl ⟨_, _, .cons he h1 h2⟩
            · exact .inr ⟨_, _, .next he h1 h2⟩
        · exact .inr ⟨_, _, .kid he h1⟩
      · exact .inr ⟨_, _, .here he⟩
theorem row_top {l : List S65} {a k d b : Nat} {p : Int} {L : List (Nat × Int × Nat)} (h : Rw l a k p d b L) : b ≤ max a 64 ∧ (a < b → b ≤ l.length) := by
  induction h with
  | nil => exact ⟨by omega, fun h => by omega⟩
  | @cons a k d mid b p L M he h1 h2 i1 i2 =>
    have := Sh.errE_ok he
    have := h1.le
    have := h2.le
    refine ⟨by omega, fun _ => ?_⟩
    rcases Nat.lt_or_ge mid b with h3 | h3
    · exact i2.2 h3
    · have : b = mid := by omega
      subst this
      rcases Nat.lt_or_ge (a + 1) b with h4 | h4
      · exact i1.2 h4
      · omega
theorem fail_top {l : List S65} {a k d wh : Nat} {p e : Int} (h : Fl l a k p d wh e) : wh ≤ max a 64 ∧ e ≠ 0 := by
  induction h with
  | here he => exact ⟨by omega, he⟩
  | kid he h1 i1 =>
    have := Sh.errE_ok he
    exact ⟨by omega, i1.2⟩
  | next he h0 h1 i1 =>
    have := Sh.errE_ok he
    have := (row_top h0).1
    exact ⟨by omega, i1.2⟩
end
section
open ShapeM
/-! #### the document's reading -/
/-- The parts' numbers are of their kinds. -/
def Wf (l : List S65) : Prop := l.length ≤ 9223372036854775807 ∧ ∀ x ∈ l, 0 ≤ x.f0 ∧ 0 ≤ x.f1 ∧ 0 ≤ x.f2
theorem rd_wf {l : List S65} (h : Wf l) (a : Nat) (ha : a < l.length) : 0 ≤ (rd_T65 l a).f0 ∧ 0 ≤ (rd_T65 l a).f1 ∧ 0 ≤ (rd_T65 l a).f2 := by
  unfold rd_T65
  rw [show ((a : Int)).toNat = a from rfl, List.getD_eq_getElem?_getD, List.getElem?_eq_getElem ha]
  exact h.2 _ (List.getElem_mem ha)
/-- What the walk tells of the whole. -/
theorem treeF_row {l : List S65} {b : Nat} {L : List (Nat × Int × Nat)} (h : Rw l 0 1 (-1) 1 b L) : Sh.treeF l = (if (b : Int) < l.length then ((b : Int), 81) else (0, 0)) ∧ Sh.walk65 l = (L, b, 0) := by
  have hb := (row_top h).1
  have : Sh.walk65 l = (L, b, 0) := walk_row h (by omega)
  refine ⟨?_, this⟩
  unfold Sh.treeF
  rw [this]
  rfl
theorem treeF_fail {l : List S65} {wh : Nat} {e : Int} (h : Fl l 0 1 (-1) 1 wh e) : Sh.treeF l = ((wh : Int), e) := by
  have hb := fail_top h
  have : (Sh.walk65 l).2 = (wh, e) := walk_fail h (by omega)
  unfold Sh.treeF
  rw [this]
  simp [hb.2]
/-- A definition that may be: the whole is one term. -/
theorem tree_ok {l : List S65} (h : (Sh.treeF l).2 = 0) : ∃ L, Rw l 0 1 (-1) 1 l.length L ∧ (Sh.walk65 l).1 = L := by
  rcases row_or_fail l 64 0 rfl 1 (-1) 1 with ⟨b, L, h1⟩ | ⟨wh, e, h1⟩
  · obtain ⟨h2, h3⟩ := treeF_row h1
    rw [h2] at h
    have hle := h1.le
    by_cases hb : (b : Int) < l.length
    · rw [if_pos hb] at h; simp at h
    · have := (row_top h1).2 (by omega)
      have : b = l.length := by omega
      subst this
      exact ⟨L, h1, by rw [h3]⟩
  · rw [treeF_fail h1] at h
    exact absurd h (fail_top h1).2
end
section
open ShapeM
/-! #### of a definition that may be: ends, children, depths -/
/-- Where a term ends. -/
noncomputable def en (l : List S65) (a : Nat) : Nat := open Classical in if h : ∃ b, Span (Sh.K65 l) a 1 b then Classical.choose h else 0
theorem en_eq {l : List S65} {a b : Nat} (h : Span (Sh.K65 l) a 1 b) : en l a = b := by
  have hx : ∃ b, Span (Sh.K65 l) a 1 b := ⟨b, h⟩
  unfold en
  rw [dif_pos hx]
  exact (Classical.choose_spec hx).fix h
/-- A part of a row as a term at the top. -/
theorem row_part {l : List S65} {a k d b : Nat} {p : Int} {L : List (Nat × Int × Nat)} (h : Rw l a k p d b L) {x : Nat × Int × Nat} (hx : x ∈ L) (hd : 1 ≤ d) : ∃ M, Rw l x.1 1 (-1) 1 (en l x.1) M ∧ en l x.1 ≤ b ∧ x.1 < en l x.1 ∧ (∃ M', Rw l (x.1 + 1) (Sh.K65 l x.1) x.1 (x.2.2 + 1) (en l x.1) M') ∧ Sh.errE l x.1 x.2.2 (kindP (Sh.C65 l) x.2.1) = 0 := by
  obtain ⟨he, hd', e, M', h1, h2⟩ := h.sub x hx
  have h3 : Rw l x.1 1 x.2.1 x.2.2 e ((x.1, x.2.1, x.2.2) :: (M' ++ [])) := .cons he h1 (.nil _ _ _)
  have hen := en_eq h3.span
  obtain ⟨M, h4⟩ := (h3.rise err_rise 1 (by omega)).2 rfl
  have := h1.le
  exact ⟨M, by rw [hen]; exact h4, by rw [hen]; exact h2, by rw [hen]; omega, ⟨M', by rw [hen]; exact h1⟩, he⟩
theorem row_place {l : List S65} {b : Nat} {L : List (Nat × Int × Nat)} (h : Rw l 0 1 (-1) 1 b L) {q : Nat} (hq : q < b) : ∃ x ∈ L, x.1 = q := by
  have : q ∈ L.map (·.1) := by
    rw [h.places]
    exact List.mem_range'_1.2 ⟨by omega, by omega⟩
  obtain ⟨x, hx, he⟩ := List.mem_map.1 this
  exact ⟨x, hx, he⟩
/-- The program's way to an end. -/
theorem End_loop {l : List S65} {a k d b : Nat} {p : Int} {L : List (Nat × Int × Nat)} (h : Rw l a k p d b L) : ∀ (f r : Nat), k + r + 16 * (b - a) ≤ 100000 → b ≤ 100000 → shape_End.l0 (f + (b - a)) l a ((k + r : Nat) : Int) = shape_End.l0 f l b (r : Int) := by
  induction h with
  | nil a p d => intro f r _ _; simp
  | @cons a k d mid b p L M he h1 h2 i1 i2 =>
    intro f r hr hb
    have hok := Sh.errE_ok he
    have hK := K_eq he
    have l1 := h1.le
    have l2 := h2.le
    have hK16 : Sh.K65 l a ≤ 16 := by omega
    rw [show f + (b - a) = (f + (b - mid) + (mid - (a + 1))) + 1 by omega, shape_End.l0, if_pos (by omega), if_pos (by omega), if_pos (by omega)]
    rw [show wrap64 ((a : Int) + 1) = ((a + 1 : Nat) : Int) by unfold wrap64; omega]
    rw [show wrap64 (((k + 1 + r : Nat) : Int) + wrap64 ((rd_T65 l a).f4 - 1)) = ((Sh.K65 l a + (k + r) : Nat) : Int) by unfold wrap64; omega]
    rw [i1 (f + (b - mid)) (k + r) (by omega) (by omega)]
    exact i2 f r (by omega) hb
theorem End_ev {l : List S65} {b : Nat} {L : List (Nat × Int × Nat)} (h : Rw l 0 1 (-1) 1 b L) (hb : b ≤ 1000) {q : Nat} (hq : q < b) : Ev (fun k => shape_End.l0 k l q 1) (((en l q : Nat) : Int), 0) := by
  obtain ⟨x, hx, rfl⟩ := row_place h hq
  obtain ⟨M, h1, h2, _⟩ := row_part h hx (by omega)
  refine ⟨1 + (en l x.1 - x.1), fun f hf => ?_⟩
  try dsimp only
  obtain ⟨f, rfl⟩ : ∃ f', f = (f' + 1) + (en l x.1 - x.1) := ⟨f - 1 - (en l x.1 - x.1), by omega⟩
  have := End_loop h1 (f + 1) 0 (by omega) (by omega)
  have e1 : ((1 + 0 : Nat) : Int) = 1 := rfl
  rw [e1] at this
  rw [this, shape_End.l0, if_neg (by omega)]
theorem kidsI_kidsOf (L : List (Nat × Int × Nat)) (q : Int) : Sh.kidsI L q = (kidsOf L q).map fun (i : Nat) => (i : Int) := by
  unfold Sh.kidsI kidsOf
  rw [List.map_map]
  rfl
/-- How many of the parts from a place on, n of them, are open at q. -/
noncomputable def openN (l : List S65) (q : Nat) : Nat → Nat → Nat
  | _, 0 => 0
  | a, n + 1 => (if q < en l a then 1 else 0) + openN l q (a + 1) n
theorem openN_add (l : List S65) (q : Nat) : ∀ (n a m : Nat), openN l q a (n + m) = openN l q a n + openN l q (a + n) m
  | 0, a, m => by simp [openN]
  | n + 1, a, m => by
    rw [show n + 1 + m = (n + m) + 1 by omega]
    simp only [openN]
    rw [openN_add l q n (a + 1) m, show a + 1 + n = a + (n + 1) by omega]
    omega
theorem openN_shut (l : List S65) (q : Nat) : ∀ (n a : Nat), (∀ j, a ≤ j → j < a + n → en l j ≤ q) → openN l q a n = 0
  | 0, a, _ => rfl
  | n + 1, a, h => by
    simp only [openN]
    rw [if_neg (by have := h a (by omega) (by omega); omega), openN_shut l q n (a + 1) (fun j h1 h2 => h j (by omega) (by omega))]
theorem row_place' {l : List S65} {a k d b : Nat} {p : Int} {L : List (Nat × Int × Nat)} (h : Rw l a k p d b L) {q : Nat} (ha : a ≤ q) (hq : q < b) : ∃ x ∈ L, x.1 = q := by
  have : q ∈ L.map (·.1) := by
    rw [h.places]
    exact List.mem_range'_1.2 ⟨by omega, by omega⟩
  obtain ⟨x, hx, he⟩ := List.mem_map.1 this
  exact ⟨x, hx, he⟩
/-- A part's depth is how many parts are open there. -/
theorem row_depth {l : List S65} {a k d b : Nat} {p : Int} {L : List (Nat × Int × Nat)} (h : Rw l a k p d b L) : 1 ≤ d → ∀ x ∈ L, x.2.2 + 1 = d + openN l x.1 a (x.1 - a + 1) := by
  induction h with
  | nil => intro _ x hx; cases hx
  | @cons a k d mid b p L M he h1 h2 i1 i2 =>
    intro hd x hx
    have l1 := h1.le
    have hen : en l a = mid := en_eq (.cons h1.span (.nil _))
    rcases List.mem_cons.1 hx with rfl | hx
    · simp only [Nat.sub_self, openN]
      rw [hen, if_pos (by omega)]
    · rcases List.mem_append.1 hx with hx | hx
      · obtain ⟨m1, m2⟩ := h1.mem hx
        have := i1 (by omega) x hx
        rw [show x.1 - a + 1 = (x.1 - (a + 1) + 1) + 1 by omega, openN, hen, if_pos m2]
        omega
      · obtain ⟨m1, m2⟩ := h2.mem hx
        have := i2 hd x hx
        have hz : openN l x.1 a (mid - a) = 0 := by
          refine openN_shut l x.1 _ a fun j ha hj => ?_
          rcases Nat.eq_or_lt_of_le ha with rfl | ha
          · rw [hen]; exact m1
          · obtain ⟨y, hy, rfl⟩ := row_place' h1 (q := j) (by omega) (by omega)
            have := (row_part h1 hy (by omega)).choose_spec.2.1
            omega
        rw [show x.1 - a + 1 = (mid - a) + (x.1 - mid + 1) by omega, openN_add, hz, show a + (mid - a) = mid by omega]
        omega
/-- The depth that the walk tells. -/
theorem depth_find {l : List S65} {b : Nat} {L : List (Nat × Int × Nat)} (h : Rw l 0 1 (-1) 1 b L) {q : Nat} (hq : q < b) : ∃ x, (L.find? fun x => (x.1 : Int) == (q : Int)) = some x ∧ x.1 = q ∧ x ∈ L := by
  obtain ⟨y, hy, hyq⟩ := row_place h hq
  cases hf : L.find? fun x => (x.1 : Int) == (q : Int) with
  | none =>
    have := List.find?_eq_none.1 hf y hy
    simp [hyq] at this
  | some x =>
    have h1 := List.find?_some hf
    have h2 := List.mem_of_find?_eq_some hf
    have h3 : (x.1 : Int) = q := by simpa using h1
    exact ⟨x, rfl, by omega, h2⟩
end
set_option maxRecDepth 100000 in
theorem head_ev : Ev (fun k => liverylaw08_head.f k) true := Ev.of liverylaw08_head.mono (k := 30) (by kernel_rfl)
section
open ShapeM
theorem may_f (l : List S65) (q : Int) : shape_may.f l q = some (if (Sh.treeF l).2 = 0 then (if q < 0 then 2 else if q ≥ (l.length : Int) then 2 else 0) else 81) := by
  unfold shape_may.f shape_tree.f
  rw [Option.bind_some]
  split
  · split
    · rfl
    · split <;> rfl
  · rfl
theorem may_ok {l : List S65} (ht : (Sh.treeF l).2 = 0) {q : Nat} (hq : q < l.length) : shape_may.f l q = some 0 := by
  rw [may_f, if_pos ht, if_neg (by omega), if_neg (by omega)]
theorem row_sub {l : List S65} {a k d b : Nat} {p : Int} {L : List (Nat × Int × Nat)} (h : Rw l a k p d b L) : ∀ x ∈ L, ∃ e M, Rw l (x.1 + 1) (Sh.K65 l x.1) x.1 (x.2.2 + 1) e M ∧ e ≤ b ∧ (∀ y ∈ M, y ∈ L) ∧ Sh.errE l x.1 x.2.2 (kindP (Sh.C65 l) x.2.1) = 0 := by
  induction h with
  | nil => intro x hx; cases hx
  | @cons a k d mid b p L M he h1 h2 i1 i2 =>
    have l2 := h2.le
    intro x hx
    rcases List.mem_cons.1 hx with rfl | hx
    · exact ⟨mid, L, h1, by omega, fun y hy => List.mem_cons_of_mem _ (List.mem_append_left _ hy), he⟩
    · rcases List.mem_append.1 hx with hx | hx
      · obtain ⟨e, M', h3, h4, h5, h6⟩ := i1 x hx
        exact ⟨e, M', h3, by omega, fun y hy => List.mem_cons_of_mem _ (List.mem_append_left _ (h5 y hy)), h6⟩
      · obtain ⟨e, M', h3, h4, h5, h6⟩ := i2 x hx
        exact ⟨e, M', h3, h4, fun y hy => List.mem_cons_of_mem _ (List.mem_append_right _ (h5 y hy)), h6⟩
theorem row_tops_deep {l : List S65} {a k d b : Nat} {p : Int} {L : List (Nat × Int × Nat)} (h : Rw l a k p d b L) : p < a → ∀ x ∈ L, x.2.1 = p → x.2.2 = d := by
  induction h with
  | nil => intro _ x hx; cases hx
  | @cons a k d mid b p L M he h1 h2 i1 i2 =>
    have l1 := h1.le
    intro hp x hx hxp
    rcases List.mem_cons.1 hx with rfl | hx
    · rfl
    · rcases List.mem_append.1 hx with hx | hx
      · rcases h1.pars x hx with h3 | h3 <;> omega
      · exact i2 (by omega) x hx hxp
theorem tops_len {K : Nat → Nat} {a k : Nat} {T : List Nat} (h : Tops K a k T) : T.length = k := by
  induction h with
  | nil => rfl
  | cons _ _ i => simp [i]
theorem place_at {l : List S65} {b : Nat} {L : List (Nat × Int × Nat)} (h : Rw l 0 1 (-1) 1 b L) : L.length = b ∧ ∀ x ∈ L, L[x.1]? = some x := by
  have hp := h.places
  have hlen : L.length = b := by
    have := congrArg List.length hp
    simpa using this
  refine ⟨hlen, fun x hx => ?_⟩
  obtain ⟨i, hi, rfl⟩ := List.getElem_of_mem hx
  have h1 : (L.map (·.1))[i]? = some i := by
    rw [hp, List.getElem?_range' (by omega)]
    simp
  rw [List.getElem?_map, List.getElem?_eq_getElem hi] at h1
  have h2 : L[i].1 = i := by simpa using h1
  rw [h2, List.getElem?_eq_getElem hi]
/-- The part that a part stands in. -/
def pr (L : List (Nat × Int × Nat)) (j : Nat) : Int := ((L[j]?).map (·.2.1)).getD (-1)
theorem mem_kids {l : List S65} {b : Nat} {L : List (Nat × Int × Nat)} (h : Rw l 0 1 (-1) 1 b L) {j : Nat} (hj : j < b) (q : Int) : j ∈ kidsOf L q ↔ pr L j = q := by
  obtain ⟨hlen, hpl⟩ := place_at h
  unfold kidsOf pr
  rw [List.mem_map]
  constructor
  · rintro ⟨x, hx, rfl⟩
    obtain ⟨h1, h2⟩ := List.mem_filter.1 hx
    rw [hpl x h1]
    simpa using h2
  · intro hq
    have hx : L[j] ∈ L := List.getElem_mem (by omega)
    have h1 := hpl _ hx
    obtain ⟨y, hy, hyj⟩ := row_place h hj
    have h2 := hpl y hy
    rw [hyj] at h2
    rw [h2] at hq
    exact ⟨y, List.mem_filter.2 ⟨hy, by simpa using hq⟩, hyj⟩
theorem kids_nodup {l : List S65} {b : Nat} {L : List (Nat × Int × Nat)} (h : Rw l 0 1 (-1) 1 b L) (q : Int) : (kidsOf L q).Nodup := by
  unfold kidsOf
  refine List.Nodup.sublist (List.Sublist.map _ List.filter_sublist) ?_
  rw [h.places]
  exact List.nodup_range'
/-- How often each part has been met as a child: of the parts before i, and of these. -/
def cnt (L : List (Nat × Int × Nat)) (n : Nat) (i : Nat) (done : List Nat) : List Int := (List.range n).map fun j => if (0 ≤ pr L j ∧ pr L j < i) ∨ j ∈ done then 1 else 0
theorem cnt_len (L : List (Nat × Int × Nat)) (n i : Nat) (done : List Nat) : (cnt L n i done).length = n := by simp [cnt]
theorem cnt_rd (L : List (Nat × Int × Nat)) (n i : Nat) (done : List Nat) (j : Nat) (hj : j < n) : rd (cnt L n i done) j = if (0 ≤ pr L j ∧ pr L j < i) ∨ j ∈ done then 1 else 0 := by
  unfold rd
  rw [show ((j : Nat) : Int).toNat = j from rfl, List.getD_eq_getElem?_getD, List.getElem?_eq_getElem (by rw [cnt_len]; exact hj)]
  simp [cnt]
theorem cnt_zero (L : List (Nat × Int × Nat)) (n : Nat) : cnt L n 0 [] = List.replicate n 0 := by
  apply List.ext_getElem
  · simp [cnt]
  · intro j h1 h2
    simp only [cnt, List.getElem_map, List.getElem_range, List.getElem_replicate]
    rw [if_neg]
    rintro (h | h)
    · omega
    · cases h
theorem cnt_set (L : List (Nat × Int × Nat)) (n i : Nat) (done : List Nat) (a : Nat) : (cnt L n i done).set a 1 = cnt L n i (done ++ [a]) := by
  apply List.ext_getElem
  · simp [cnt]
  · intro j h1 h2
    rw [List.getElem_set]
    simp only [cnt, List.getElem_map, List.getElem_range]
    by_cases hja : a = j
    · subst hja
      rw [if_pos rfl, if_pos (.inr (by simp))]
    · rw [if_neg hja]
      have : (j ∈ done ++ [a]) ↔ j ∈ done := by simp [Ne.symm hja]
      simp only [this]
theorem cnt_next {l : List S65} {b : Nat} {L : List (Nat × Int × Nat)} (h : Rw l 0 1 (-1) 1 b L) (i : Nat) : cnt L b i (kidsOf L i) = cnt L b (i + 1) [] := by
  apply List.ext_getElem
  · simp [cnt]
  · intro j h1 h2
    simp only [cnt, List.getElem_map, List.getElem_range]
    have hj : j < b := by simpa [cnt] using h1
    have := mem_kids h hj i
    by_cases hc : (0 ≤ pr L j ∧ pr L j < i) ∨ j ∈ kidsOf L i
    · rw [if_pos hc, if_pos]
      rw [this] at hc
      left
      omega
    · rw [if_neg hc, if_neg]
      rw [this] at hc
      rintro (h3 | h3)
      · omega
      · cases h3
theorem depth_at {l : List S65} (ht : (Sh.treeF l).2 = 0) {L : List (Nat × Int × Nat)} (h : Rw l 0 1 (-1) 1 l.length L) (hwL : (Sh.walk65 l).1 = L) {x : Nat × Int × Nat} (hx : x ∈ L) : shape_Depth.f l (x.1 : Nat) = some ((x.2.2 : Int), 0) := by
  obtain ⟨m1, m2⟩ := h.mem hx
  obtain ⟨y, hf, hy, hyL⟩ := depth_find h m2
  obtain ⟨_, hpl⟩ := place_at h
  have e1 := hpl x hx
  have e2 := hpl y hyL
  rw [hy, e1] at e2
  have hxy : x = y := by simpa using e2
  subst hxy
  unfold shape_Depth.f Sh.depthF
  rw [may_ok ht m2, Option.bind_some, hwL, hf]
  rfl
theorem end_at {l : List S65} (ht : (Sh.treeF l).2 = 0) {L : List (Nat × Int × Nat)} (h : Rw l 0 1 (-1) 1 l.length L) (hb : l.length ≤ 1000) {q : Nat} (hq : q < l.length) : Ev (fun k => shape_End.f k l q) (((en l q : Nat) : Int), 0) := by
  obtain ⟨n, g⟩ := End_ev h hb hq
  refine ⟨n, fun f hf => ?_⟩
  show shape_End.f f l q = _
  unfold shape_End.f
  rw [may_ok ht hq, Option.bind_some, if_pos rfl]
  exact g f hf
theorem hang_kids {l : List S65} (ht : (Sh.treeF l).2 = 0) {L : List (Nat × Int × Nat)} (h : Rw l 0 1 (-1) 1 l.length L) (hwL : (Sh.walk65 l).1 = L) (hb : l.length ≤ 1000) (i d e : Nat) (hi : i < l.length) (hd : d ≤ 1000) (a0 a1 : Int)
    (next : Ev (fun k => liverylaw08_ShapeHangs.l0 k (cnt L l.length (i + 1) []) ((i + 1 : Nat) : Int) a0 a1 l) true) : ∀ (T' done : List Nat) (a k' : Nat), Tops (Sh.K65 l) a k' T' → Span (Sh.K65 l) a k' e → kidsOf L i = done ++ T' → (∀ c ∈ T', ((c, (i : Int), d + 1) : Nat × Int × Nat) ∈ L) →
    Ev (fun k => liverylaw08_ShapeHangs.l1 k (cnt L l.length i done) i (Sh.kidsI L i) e d a (done.length : Nat) a0 a1 l) true
  | [], done, a, k', hT, hS, hk, hc => by
    cases hT
    cases hS
    obtain ⟨n, g⟩ := next
    refine ⟨n + 1, fun f hf => ?_⟩
    obtain ⟨f, rfl⟩ : ∃ f', f = f' + 1 := ⟨f - 1, by omega⟩
    show liverylaw08_ShapeHangs.l1 (f + 1) _ _ _ _ _ _ _ _ _ _ = _
    have hl : (Sh.kidsI L i).length = done.length := by
      rw [kidsI_kidsOf, hk]
      simp
    rw [liverylaw08_ShapeHangs.l1, if_neg (by omega), if_pos rfl, show wrap64 ((i : Int) + 1) = ((i + 1 : Nat) : Int) by unfold wrap64; omega]
    have hd' : done = kidsOf L i := by simpa using hk.symm
    rw [hd', cnt_next h i]
    exact g f (by omega)
  | c :: T', done, a, k', hT, hS, hk, hc => by
    cases hT with
    | @cons _ k'' mid _ hs1 hT' =>
      cases hS with
      | @cons _ _ mid' _ hs2 hS' =>
        have := hs1.fix hs2
        subst this
        have hcL := hc c List.mem_cons_self
        obtain ⟨m1, m2⟩ := h.mem hcL
        simp only at m1 m2
        obtain ⟨n1, g1⟩ := end_at ht h hb m2
        dsimp only at g1
        have hdep := depth_at ht h hwL hcL
        simp only at hdep
        have hen : en l c = mid := en_eq (.cons hs1 (.nil _))
        obtain ⟨n2, g2⟩ := hang_kids ht h hwL hb i d e hi hd a0 a1 next T' (done ++ [c]) mid k'' hT' hS' (by rw [hk]; simp) (fun c hc' => hc c (List.mem_cons_of_mem _ hc'))
        refine ⟨n1 + n2 + 2, fun f hf => ?_⟩
        obtain ⟨f, rfl⟩ : ∃ f', f = f' + 2 := ⟨f - 2, by omega⟩
        show liverylaw08_ShapeHangs.l1 (f + 1 + 1) _ _ _ _ _ _ _ _ _ _ = _
        have hkl : (Sh.kidsI L i).length = done.length + (T'.length + 1) := by
          rw [kidsI_kidsOf, hk]
          simp
        have hrd : rd (Sh.kidsI L i) (done.length : Nat) = (c : Int) := by
          rw [kidsI_kidsOf, hk]
          unfold rd
          rw [show ((done.length : Nat) : Int).toNat = done.length from rfl, List.getD_eq_getElem?_getD]
          simp
        have hlenk : (Sh.kidsI L i).length ≤ 65 := by
          have h1 := Sh.kidsI_len L i
          have h2 := Sh.walk_len l
          rw [hwL] at h2
          omega
        have hpr : pr L c = i := by
          have := mem_kids h m2 i
          rw [← this, hk]
          simp
        have hnd : c ∉ done := by
          have := kids_nodup h i
          rw [hk] at this
          have := (List.nodup_append.1 this).2.2
          intro hm
          exact this c hm c List.mem_cons_self rfl
        have hz : rd (cnt L l.length i done) (c : Nat) = 0 := by
          rw [cnt_rd _ _ _ _ _ m2, if_neg]
          rintro (h3 | h3)
          · omega
          · exact hnd h3
        rw [liverylaw08_ShapeHangs.l1, if_pos (by omega), if_pos (by omega), hrd, if_pos rfl, liverylaw08_ShapeHangs.j4, decide_eq_false (by omega), if_neg (by decide), if_pos (by omega), if_pos (by omega), hrd, if_pos (by omega), if_pos (by rw [cnt_len]; omega), g1 f (by omega), Option.bind_some, hdep, Option.bind_some, hz, hen]
        simp only [if_true]
        rw [if_pos (by unfold wrap64; omega), show wrap64 (0 + 1) = 1 from by unfold wrap64; omega, show ((c : Nat) : Int).toNat = c from rfl, cnt_set, show wrap64 (((done.length : Nat) : Int) + 1) = (((done ++ [c]).length : Nat) : Int) by rw [List.length_append, List.length_singleton]; unfold wrap64; omega]
        exact g2 f (by omega)
theorem hang_last {l : List S65} {L : List (Nat × Int × Nat)} (h : Rw l 0 1 (-1) 1 l.length L) (hb : l.length ≤ 1000) : ∀ n j, j + n = l.length → Ev (fun k => liverylaw08_ShapeHangs.l2 k (cnt L l.length l.length []) j) true
  | 0, j, hj => by
    obtain ⟨n, g⟩ := head_ev
    refine ⟨n + 1, fun f hf => ?_⟩
    obtain ⟨f, rfl⟩ : ∃ f', f = f' + 1 := ⟨f - 1, by omega⟩
    show liverylaw08_ShapeHangs.l2 (f + 1) _ _ = _
    have := g f (by omega)
    dsimp only at this
    rw [liverylaw08_ShapeHangs.l2, if_neg (by rw [cnt_len]; omega), this]
    rfl
  | m + 1, j, hj => by
    obtain ⟨n, g⟩ := hang_last h hb m (j + 1) (by omega)
    refine ⟨n + 1, fun f hf => ?_⟩
    obtain ⟨f, rfl⟩ : ∃ f', f = f' + 1 := ⟨f - 1, by omega⟩
    show liverylaw08_ShapeHangs.l2 (f + 1) _ _ = _
    have hj' : j < l.length := by omega
    have hmn : rd (cnt L l.length l.length []) (j : Nat) = mn j 1 := by
      rw [cnt_rd _ _ _ _ _ hj']
      obtain ⟨x, hx, rfl⟩ := row_place h hj'
      have hpl := (place_at h).2 x hx
      have hpr : pr L x.1 = x.2.1 := by unfold pr; rw [hpl]; rfl
      by_cases h0 : x.1 = 0
      · have h1 : x.1 ∈ kidsOf L (-1) := by
          have hT := h.tops (by omega)
          rw [h0]
          generalize kidsOf L (-1) = Z at hT
          cases hT with
          | cons hs hT' => exact List.mem_cons_self
        have h2 := (mem_kids h hj' (-1)).1 h1
        rw [h2, h0, if_neg]
        · rfl
        · rintro (h3 | h3)
          · omega
          · cases h3
      · have hne : x.2.1 ≠ -1 := by
          intro he
          have h1 := (mem_kids h hj' (-1)).2 (by rw [hpr]; exact he)
          have hT := h.tops (by omega)
          have hlen := tops_len hT
          have h0' : (0 : Nat) ∈ kidsOf L (-1) := by
            generalize kidsOf L (-1) = Z at hT
            cases hT with
            | cons hs hT' => exact List.mem_cons_self
          match hz : kidsOf L (-1), hlen, h1, h0' with
          | [z], _, h1, h0' =>
            have a1 : x.1 = z := by simpa using h1
            have a2 : 0 = z := by simpa using h0'
            omega
        have := h.pars x hx
        rw [hpr, if_pos (by left; omega)]
        unfold mn
        split <;> omega
    rw [liverylaw08_ShapeHangs.l2, if_pos (by rw [cnt_len]; omega), if_pos (by omega), hmn, if_pos rfl, show wrap64 ((j : Int) + 1) = ((j + 1 : Nat) : Int) by unfold wrap64; omega]
    exact g f (by omega)
theorem hang_parts {l : List S65} (ht : (Sh.treeF l).2 = 0) {L : List (Nat × Int × Nat)} (h : Rw l 0 1 (-1) 1 l.length L) (hwL : (Sh.walk65 l).1 = L) (hb : l.length ≤ 1000) (a0 a1 : Int) : ∀ n i, i + n = l.length → Ev (fun k => liverylaw08_ShapeHangs.l0 k (cnt L l.length i []) i a0 a1 l) true
  | 0, i, hi => by
    obtain ⟨n, g⟩ := hang_last h hb l.length 0 (by omega)
    refine ⟨n + 1, fun f hf => ?_⟩
    obtain ⟨f, rfl⟩ : ∃ f', f = f' + 1 := ⟨f - 1, by omega⟩
    show liverylaw08_ShapeHangs.l0 (f + 1) _ _ _ _ _ = _
    rw [liverylaw08_ShapeHangs.l0, if_neg (by omega), show i = l.length by omega]
    exact g f (by omega)
  | m + 1, i, hi => by
    have hi' : i < l.length := by omega
    have next := hang_parts ht h hwL hb a0 a1 m (i + 1) (by omega)
    obtain ⟨x, hx, rfl⟩ := row_place h hi'
    obtain ⟨e, M, hr, he, hsub, herr⟩ := row_sub h x hx
    have hok := Sh.errE_ok herr
    have hK := K_eq herr
    have hT := h.kids (by omega) x.1 (by omega) hi'
    have hT2 := hr.tops (by omega)
    have hkk : kidsOf L x.1 = kidsOf M x.1 := hT.fix hT2
    have hen : en l x.1 = e := en_eq (.cons hr.span (.nil _))
    have hd1 : 1 ≤ x.2.2 := (h.sub x hx).2.1
    have hle := hr.le
    have hc : ∀ c ∈ kidsOf L x.1, ((c, (x.1 : Int), x.2.2 + 1) : Nat × Int × Nat) ∈ L := by
      intro c hc
      rw [hkk] at hc
      unfold kidsOf at hc
      obtain ⟨y, hy, rfl⟩ := List.mem_map.1 hc
      obtain ⟨hy1, hy2⟩ := List.mem_filter.1 hy
      have hp : y.2.1 = (x.1 : Int) := by simpa using hy2
      have hdd := row_tops_deep hr (by omega) y hy1 hp
      have := hsub y hy1
      have hyy : y = (y.1, (x.1 : Int), x.2.2 + 1) := by rw [← hp, ← hdd]
      rw [hyy] at this
      exact this
    obtain ⟨n1, g1⟩ := hang_kids ht h hwL hb x.1 x.2.2 e hi' (by omega) a0 a1 next (kidsOf L x.1) [] (x.1 + 1) (Sh.K65 l x.1) hT hr.span rfl hc
    obtain ⟨n2, g2⟩ := end_at ht h hb hi'
    dsimp only at g1 g2
    rw [hen] at g2
    have hdep := depth_at ht h hwL hx
    have hkids : shape_Kids.f l (x.1 : Nat) = some (Sh.kidsI L x.1, 0) := by
      unfold shape_Kids.f Sh.kidsF
      rw [may_ok ht hi', Option.bind_some, hwL]
      rfl
    have hlen : ((Sh.kidsI L x.1).length : Int) = (rd_T65 l (x.1 : Nat)).f4 := by
      rw [kidsI_kidsOf, List.length_map, tops_len hT]
      exact hK
    refine ⟨n1 + n2 + 2, fun f hf => ?_⟩
    obtain ⟨f, rfl⟩ : ∃ f', f = f' + 2 := ⟨f - 2, by omega⟩
    show liverylaw08_ShapeHangs.l0 (f + 1 + 1) _ _ _ _ _ = _
    rw [liverylaw08_ShapeHangs.l0, if_pos (by omega), hkids, Option.bind_some, g2 (f + 1) (by omega), Option.bind_some, hdep, Option.bind_some]
    simp only [if_true]
    rw [if_pos (by omega), if_pos hlen, if_neg (by omega), if_neg (by omega), if_neg (by omega), liverylaw08_ShapeHangs.j2, decide_eq_false (by omega), if_neg (by decide), show wrap64 ((x.1 : Int) + 1) = ((x.1 + 1 : Nat) : Int) by unfold wrap64; omega]
    exact g1 f (by omega)
theorem ShapeHangs (a0_0 a0_1 : Int) (l0_2 : List S65) (w0 : ((Lit.int .i64 a0_0).wf = true) ∧ ((Lit.int .i64 a0_1).wf = true) ∧ ((l0_2.length ≤ maxLen ∧ ∀ x ∈ l0_2, ((Lit.int .u8 x.f0).wf = true) ∧ ((Lit.int .u32 x.f1).wf = true) ∧ ((Lit.int .u32 x.f2).wf = true) ∧ ((Lit.int .i64 x.f3).wf = true) ∧ ((Lit.int .i64 x.f4).wf = true)))) : ∃ k, liverylaw08_ShapeHangs.f k a0_0 a0_1 l0_2 = some true := by
  obtain ⟨K0, k0⟩ := head_ev
  dsimp only at k0
  have skip : ∀ k, K0 ≤ k → liverylaw08_ShapeHangs.j0 (k + 1) true a0_0 a0_1 l0_2 = some true := by
    intro k hk
    rw [liverylaw08_ShapeHangs.j0, if_pos rfl, k0 k hk]
    rfl
  have hchk : ∃ r, shape_Check.f a0_0 a0_1 l0_2 = some r ∧ (r.2 = 0 → (Sh.treeF l0_2).2 = 0) := by
    unfold shape_Check.f shape_tree.f
    by_cases h1 : a0_0 < 0
    · exact ⟨_, by rw [if_pos h1], fun h => by simp at h⟩
    · by_cases h2 : a0_1 ≤ a0_0
      · exact ⟨_, by rw [if_neg h1, if_pos h2], fun h => by simp at h⟩
      · by_cases h3 : a0_1 > 1099511627776
        · exact ⟨_, by rw [if_neg h1, if_neg h2, if_pos h3], fun h => by simp at h⟩
        · by_cases h4 : wrap64 (a0_1 - a0_0) > 4096
          · exact ⟨_, by rw [if_neg h1, if_neg h2, if_neg h3, if_pos h4], fun h => by simp at h⟩
          · exact ⟨_, by rw [if_neg h1, if_neg h2, if_neg h3, if_neg h4]; rfl, fun h => h⟩
  obtain ⟨r, hr, hr0⟩ := hchk
  by_cases h0 : r.2 = 0
  · by_cases hl : (l0_2.length : Int) > 200
    · refine ⟨K0 + 1, ?_⟩
      unfold liverylaw08_ShapeHangs.f
      rw [hr, Option.bind_some, if_pos h0, decide_eq_true hl]
      exact skip _ (Nat.le_refl _)
    · have ht := hr0 h0
      obtain ⟨L, hrow, hwL⟩ := tree_ok ht
      obtain ⟨n, g⟩ := hang_parts ht hrow hwL (by omega) a0_0 a0_1 l0_2.length 0 (by omega)
      refine ⟨n + 1, ?_⟩
      unfold liverylaw08_ShapeHangs.f
      have et : (((l0_2.length : Int) : Int).toNat) = l0_2.length := by omega
      rw [hr, Option.bind_some, if_pos h0, decide_eq_false hl, liverylaw08_ShapeHangs.j0, if_neg (by decide), if_pos (by omega), et, if_pos (by omega), ← cnt_zero L]
      exact g n (Nat.le_refl _)
  · refine ⟨K0 + 1, ?_⟩
    unfold liverylaw08_ShapeHangs.f
    rw [hr, Option.bind_some, if_neg h0]
    exact skip _ (Nat.le_refl _)
end
end Go.Proofs.Ytkaokiiooakleaa.PShapeHangs
