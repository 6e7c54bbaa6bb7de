/- The statement ShapeTells over numbers and lists alone: of every input. No condition but that numbers are of their kind. -/
import Derived.Test.YtkaokiiooakleaaCShapeTells0
import Derived.Test.YtkaokiiooakleaaCShapeTells1
import Derived.Test.YtkaokiiooakleaaCShapeTells10
import Derived.Test.YtkaokiiooakleaaCShapeTells2
import Derived.Test.YtkaokiiooakleaaCShapeTells3
import Derived.Test.YtkaokiiooakleaaCShapeTells4
import Derived.Test.YtkaokiiooakleaaCShapeTells5
import Derived.Test.YtkaokiiooakleaaCShapeTells6
import Derived.Test.YtkaokiiooakleaaCShapeTells7
import Derived.Test.YtkaokiiooakleaaCShapeTells8
import Derived.Test.YtkaokiiooakleaaCShapeTells9
import Derived.Test.YtkaokiiooakleaaCShapeTellsW
set_option linter.unusedVariables false
namespace Go.Proofs.Ytkaokiiooakleaa.PShapeTells
open Go.RowKit Go.Proofs.YtkaokiiooakleaaW.PrintWords Go.Proofs.YtkaokiiooakleaaW.PrintLast Go.Proofs.YtkaokiiooakleaaW.PrintMore
section
open ShapeM
/-! #### the parts of a definition, as the walk sees them -/
abbrev Rw (l : List S65) := Row (Sh.errE l) (Sh.K65 l) (Sh.C65 l)
abbrev Fl (l : List S65) := Fail (Sh.errE l) (Sh.K65 l) (Sh.C65 l)
theorem kindP_nat (l : List S65) (q : Nat) : kindP (Sh.C65 l) (q : Int) = (rd_T65 l q).f0 := by
  unfold kindP
  rw [if_neg (by omega)]
  rfl
theorem K_eq {l : List S65} {a d : Nat} {i : Int} (h : Sh.errE l a d i = 0) : ((Sh.K65 l a : Nat) : Int) = (rd_T65 l a).f4 := by
  have := Sh.errE_ok h
  unfold Sh.K65
  omega
theorem err_of {l : List S65} {a d : Nat} {i : Int} : Sh.errE l a d i = 0 ∨ Sh.errE l a d i = 81 ∨ Sh.errE l a d i = 80 := by
  unfold Sh.errE
  split
  · exact .inr (.inl rfl)
  · split
    · exact .inr (.inr rfl)
    · exact .inl rfl
/-- What may stand deep may stand less deep, and at the top. -/
theorem err_rise {l : List S65} : ∀ a d d' p, d' ≤ d → Sh.errE l a d p = 0 → Sh.errE l a d' p = 0 ∧ Sh.errE l a d' 0 = 0 := by
  intro a d d' p hd h
  unfold Sh.errE at h ⊢
  split at h
  · cases h
  · rename_i h1
    split at h
    · cases h
    · rename_i h2
      have h3 : ¬ (Sh.is1 l a || Sh.is2 l a || ((0 : Int) == 2 && !((rd_T65 l a).f0 == 0))) = true := by
        simp only [Bool.or_eq_true, not_or] at h1 ⊢
        exact ⟨h1.1, by simp⟩
      exact ⟨by rw [if_neg h1, if_neg (by omega)], by rw [if_neg h3, if_neg (by omega)]⟩
theorem row_or_fail (l : List S65) : ∀ (n a : Nat), 64 - a = n → ∀ (k : Nat) (p : Int) (d : Nat), (∃ b L, Rw l a k p d b L) ∨ (∃ wh e, Fl l a k p d wh e) := by
  intro n
  induction n using Nat.strongRecOn with
  | ind n ih =>
    intro a hn k p d
    cases k with
    | zero => exact .inl ⟨_, _, .nil _ _ _⟩
    | succ k =>
      by_cases he : Sh.errE l a d (kindP (Sh.C65 l) p) = 0
      · have ha := (Sh.errE_ok he).2.1
        rcases ih (64 - (a + 1)) (by omega) (a + 1) rfl (Sh.K65 l a) a (d + 1) with ⟨mid, L, h1⟩ | ⟨wh, e, h1⟩
        · have := h1.le
          by_cases hk : k = 0
          · subst hk
            exact .inl ⟨_, _, .cons he h1 (.nil _ _ _)⟩
          · rcases ih (64 - mid) (by omega) mid rfl k p d with ⟨b, M, h2⟩ | ⟨wh, e, h2⟩
            · exact .inl ⟨_, _, .cons he h1 h2⟩
            · exact .inr ⟨_, _, .next he h1 h2⟩
        · exact .inr ⟨_, _, .kid he h1⟩
      · exact .inr ⟨_, _, .here he⟩
theorem row_top {l : List S65} {a k d b : Nat} {p : Int} {L : List (Nat × Int × Nat)} (h : Rw l a k p d b L) : b ≤ max a 64 ∧ (a < b → b ≤ l.length) := by
  induction h with
  | nil => exact ⟨by omega, fun h => by omega⟩
  | @cons a k d mid b p L M he h1 h2 i1 i2 =>
    have := Sh.errE_ok he
    have := h1.le
    have := h2.le
    refine ⟨by omega, fun _ => ?_⟩
    rcases Nat.lt_or_ge mid b with h3 | h3
    · exact i2.2 h3
    · have : b = mid := by omega
      subst this
      rcases Nat.lt_or_ge (a + 1) b with h4 | h4
      · exact i1.2 h4
      · omega
theorem fail_top {l : List S65} {a k d wh : Nat} {p e : Int} (h : Fl l a k p d wh e) : wh ≤ max a 64 ∧ e ≠ 0 := by
  induction h with
  | here he => exact ⟨by omega, he⟩
  | kid he h1 i1 =>
    have := Sh.errE_ok he
    exact ⟨by omega, i1.2⟩
  | next he h0 h1 i1 =>
    have := Sh.errE_ok he
    have := (row_top h0).1
    exact ⟨by omega, i1.2⟩
end
section
open ShapeM
/-! #### the document's reading -/
theorem bad_f (x : S65) (h0 : 0 ≤ x.f0) (h1 : 0 ≤ x.f1) (h2 : 0 ≤ x.f2) : liveryref08_bad.f x.f0 x.f1 x.f2 x.f3 x.f4 = some (decide (4 < x.f0) || (if x.f0 = 0 then Sh.atomB x else Sh.otherB x)) := by
  unfold liveryref08_bad.f Sh.atomB Sh.otherB
  by_cases c0 : x.f0 = 0
  · rw [if_pos c0, if_pos c0, decide_eq_false (show ¬ 4 < x.f0 by omega), Bool.false_or]
    by_cases c4 : x.f4 = 0
    · rw [if_pos c4]
      by_cases c1 : x.f1 = 0
      · rw [if_pos c1, decide_eq_true (by omega)]
      · rw [if_neg c1]
        by_cases c5 : x.f1 > 4096
        · rw [if_pos c5, decide_eq_true (by omega)]
        · rw [if_neg c5]
          by_cases c2 : x.f2 = 0
          · rw [if_pos c2, decide_eq_true (by omega)]
          · rw [if_neg c2]
            by_cases c6 : x.f2 > x.f1
            · rw [if_pos c6, decide_eq_true (by omega)]
            · rw [if_neg c6]
              by_cases c7 : Int.tmod x.f1 x.f2 = 0
              · rw [if_pos c7]
                by_cases c8 : x.f3 < 1
                · rw [if_pos c8, decide_eq_true (by omega)]
                · rw [if_neg c8]
                  congr 1
                  apply decide_eq_decide.2
                  constructor
                  · intro h; omega
                  · rintro (h | h | h | h | h | h | h | h)
                    · exact absurd c4 h
                    · omega
                    · omega
                    · omega
                    · omega
                    · exact absurd c7 h
                    · omega
                    · exact h
              · rw [if_neg c7, decide_eq_true (.inr (.inr (.inr (.inr (.inr (.inl c7))))))]
    · rw [if_neg c4, decide_eq_true (.inl c4)]
  · rw [if_neg c0, if_neg c0]
    by_cases c5 : x.f0 > 4
    · rw [if_pos c5, decide_eq_true (show 4 < x.f0 from c5), Bool.true_or]
    · rw [if_neg c5, decide_eq_false (show ¬ 4 < x.f0 from c5), Bool.false_or]
      by_cases c4 : x.f4 < 1
      · rw [if_pos c4, decide_eq_true (by omega)]
      · rw [if_neg c4]
        by_cases c6 : x.f4 > 16
        · rw [if_pos c6, decide_eq_true (by omega)]
        · rw [if_neg c6]
          by_cases c1 : x.f1 = 0
          · rw [if_pos c1]
            by_cases c2 : x.f2 = 0
            · rw [if_pos c2]
              congr 1
              rw [Bool.eq_iff_iff, bne_iff_ne, decide_eq_true_iff]
              omega
            · rw [if_neg c2, decide_eq_true (by omega)]
          · rw [if_neg c1, decide_eq_true (by omega)]
/-- The parts' numbers are of their kinds. -/
def Wf (l : List S65) : Prop := l.length ≤ 9223372036854775807 ∧ ∀ x ∈ l, 0 ≤ x.f0 ∧ 0 ≤ x.f1 ∧ 0 ≤ x.f2
theorem rd_wf {l : List S65} (h : Wf l) (a : Nat) (ha : a < l.length) : 0 ≤ (rd_T65 l a).f0 ∧ 0 ≤ (rd_T65 l a).f1 ∧ 0 ≤ (rd_T65 l a).f2 := by
  unfold rd_T65
  rw [show ((a : Int)).toNat = a from rfl, List.getD_eq_getElem?_getD, List.getElem?_eq_getElem ha]
  exact h.2 _ (List.getElem_mem ha)
/-- One term of the document's reading. -/
theorem read_step {l : List S65} (hw : Wf l) (k a d : Nat) (i : Int) (hd : d ≤ 1000) :
    liveryref08_read.f (k + 2) l a d i = if Sh.errE l a d i = 0 then liveryref08_read.l0 k l a d (a + 1 : Nat) 0 else some (0, (a : Int), Sh.errE l a d i) := by
  unfold liveryref08_read.f
  have e1 : ∀ b, liveryref08_read.j0 (k + 1) l a d b = if b = true then some (0, (a : Int), 81) else if (d : Int) > 8 then some (0, (a : Int), 80) else liveryref08_read.l0 k l a d (wrap64 ((a : Int) + 1)) 0 := by
    intro b
    rw [liveryref08_read.j0]
  by_cases c1 : (a : Int) ≥ l.length
  · have : Sh.errE l a d i = 81 := by
      unfold Sh.errE Sh.is1
      rw [if_pos (by simp; omega)]
    rw [if_pos c1, e1, if_pos rfl, this]
    rfl
  · rw [if_neg c1]
    by_cases c2 : (a : Int) ≥ 64
    · have : Sh.errE l a d i = 81 := by
        unfold Sh.errE Sh.is1
        rw [if_pos (by simp; omega)]
      rw [if_pos c2, e1, if_pos rfl, this]
      rfl
    · rw [if_neg c2, if_pos (by omega), if_pos (by omega)]
      obtain ⟨w0, w1, w2⟩ := rd_wf hw a (by omega)
      rw [bad_f _ w0 w1 w2, Option.bind_some]
      have e2 : Sh.is1 l a = decide (4 < (rd_T65 l a).f0) := by
        unfold Sh.is1
        rw [decide_eq_false (show ¬ (l.length : Int) ≤ (a : Int) by omega), decide_eq_false (show ¬ (64 : Int) ≤ (a : Int) by omega), Bool.false_or, Bool.false_or]
      have e3 : Sh.is2 l a = (if (rd_T65 l a).f0 = 0 then Sh.atomB (rd_T65 l a) else Sh.otherB (rd_T65 l a)) := rfl
      have ew : wrap64 ((a : Int) + 1) = ((a + 1 : Nat) : Int) := by unfold wrap64; omega
      rw [← e2, ← e3]
      by_cases c3 : (Sh.is1 l a || Sh.is2 l a) = true
      · have : Sh.errE l a d i = 81 := by
          unfold Sh.errE
          rw [if_pos (by simp only [Bool.or_eq_true] at c3 ⊢; exact .inl c3)]
        rw [if_pos c3, e1, if_pos rfl, this]
        rfl
      · rw [if_neg c3]
        have c3' : (Sh.is1 l a || Sh.is2 l a) = false := by simpa using c3
        have key : ∀ b : Bool, (Sh.is1 l a || Sh.is2 l a || (i == 2 && !((rd_T65 l a).f0 == 0))) = b → liveryref08_read.j0 (k + 1) l a d b = if Sh.errE l a d i = 0 then liveryref08_read.l0 k l a d (a + 1 : Nat) 0 else some (0, (a : Int), Sh.errE l a d i) := by
          intro b hb
          rw [e1, ew]
          unfold Sh.errE
          rw [hb]
          cases b with
          | true => simp
          | false =>
            simp only [Bool.false_eq_true, if_false]
            by_cases c8 : 8 < d
            · rw [if_pos (by omega), if_pos c8, if_neg (by decide)]
            · rw [if_neg (by omega), if_neg c8, if_pos rfl]
        by_cases ci : i = 2
        · rw [if_pos ci]
          apply key
          rw [c3', Bool.false_or, ci]
          simp [bne]
        · rw [if_neg ci]
          apply key
          rw [c3', Bool.false_or]
          simp [ci]
/-- The loop over a part's children. -/
theorem read_loop {l : List S65} (k q d a j : Nat) (hq : q < l.length) (hj : j ≤ 16) (hd : d ≤ 1000) :
    liveryref08_read.l0 (k + 1) l q d a j = if (j : Int) < (rd_T65 l q).f4 then ((liveryref08_read.f k l a (d + 1 : Nat) ((rd_T65 l q).f0)).bind fun t => if t.2.2 = 0 then liveryref08_read.l0 k l q d t.1 (j + 1 : Nat) else some (0, t.2.1, t.2.2)) else some ((a : Int), 0, 0) := by
  rw [liveryref08_read.l0, if_pos (by omega), if_pos (by omega)]
  have e1 : wrap64 ((d : Int) + 1) = ((d + 1 : Nat) : Int) := by unfold wrap64; omega
  have e2 : wrap64 ((j : Int) + 1) = ((j + 1 : Nat) : Int) := by unfold wrap64; omega
  rw [e1, e2]
theorem read_row {l : List S65} (hw : Wf l) {a k d b : Nat} {p : Int} {L : List (Nat × Int × Nat)} (h : Rw l a k p d b L) : ∀ q : Nat, p = q → q < l.length → 1 ≤ d → d ≤ 1000 → ∀ j : Nat, (rd_T65 l q).f4 = ((j + k : Nat) : Int) → j + k ≤ 16 →
    ∃ n, ∀ f, n ≤ f → liveryref08_read.l0 f l q ((d - 1 : Nat) : Int) a j = some ((b : Int), 0, 0) := by
  induction h with
  | nil a p d =>
    intro q hp hq hd0 hd j hj hj16
    refine ⟨1, fun f hf => ?_⟩
    try dsimp only
    obtain ⟨f, rfl⟩ : ∃ f', f = f' + 1 := ⟨f - 1, by omega⟩
    rw [read_loop f q (d - 1) a j hq (by omega) (by omega), if_neg (by omega)]
  | @cons a k d mid b p L M he h1 h2 i1 i2 =>
    intro q hp hq hd0 hd j hj hj16
    subst hp
    have hok := Sh.errE_ok he
    have hK := K_eq he
    obtain ⟨n1, g1⟩ := i1 a rfl hok.1 (by omega) (by omega) 0 (by omega) (by omega)
    obtain ⟨n2, g2⟩ := i2 q rfl hq hd0 hd (j + 1) (by omega) (by omega)
    rw [kindP_nat] at he
    refine ⟨n1 + n2 + 3, fun f hf => ?_⟩
    try dsimp only
    obtain ⟨f, rfl⟩ : ∃ f', f = f' + 2 + 1 := ⟨f - 3, by omega⟩
    have hd1 : d - 1 + 1 = d := by omega
    rw [read_loop (f + 2) q (d - 1) a j hq (by omega) (by omega), if_pos (by omega), hd1, read_step hw f a d _ hd, if_pos he]
    have := g1 f (by omega)
    rw [show ((d + 1 - 1 : Nat) : Int) = (d : Int) by omega] at this
    have e0 : ((0 : Nat) : Int) = 0 := rfl
    rw [e0] at this
    rw [this, Option.bind_some]
    simp only [if_true]
    exact g2 (f + 2) (by omega)
theorem read_fail {l : List S65} (hw : Wf l) {a k d wh : Nat} {p e : Int} (h : Fl l a k p d wh e) : ∀ q : Nat, p = q → q < l.length → 1 ≤ d → d ≤ 1000 → ∀ j : Nat, (rd_T65 l q).f4 = ((j + k : Nat) : Int) → j + k ≤ 16 →
    ∃ n, ∀ f, n ≤ f → liveryref08_read.l0 f l q ((d - 1 : Nat) : Int) a j = some (0, (wh : Int), e) := by
  induction h with
  | @here a k d p he =>
    intro q hp hq hd0 hd j hj hj16
    subst hp
    have hd1 : d - 1 + 1 = d := by omega
    rw [kindP_nat] at he ⊢
    refine ⟨3, fun f hf => ?_⟩
    try dsimp only
    obtain ⟨f, rfl⟩ : ∃ f', f = f' + 2 + 1 := ⟨f - 3, by omega⟩
    rw [read_loop (f + 2) q (d - 1) a j hq (by omega) (by omega), if_pos (by omega), hd1, read_step hw f a d _ hd, if_neg he, Option.bind_some]
    simp only
    rw [if_neg he]
  | @kid a k d wh p e he h1 i1 =>
    intro q hp hq hd0 hd j hj hj16
    subst hp
    have hok := Sh.errE_ok he
    have hK := K_eq he
    obtain ⟨n1, g1⟩ := i1 a rfl hok.1 (by omega) (by omega) 0 (by omega) (by omega)
    have hne := (fail_top h1).2
    rw [kindP_nat] at he
    refine ⟨n1 + 3, fun f hf => ?_⟩
    try dsimp only
    obtain ⟨f, rfl⟩ : ∃ f', f = f' + 2 + 1 := ⟨f - 3, by omega⟩
    have hd1 : d - 1 + 1 = d := by omega
    rw [read_loop (f + 2) q (d - 1) a j hq (by omega) (by omega), if_pos (by omega), hd1, read_step hw f a d _ hd, if_pos he]
    have := g1 f (by omega)
    rw [show ((d + 1 - 1 : Nat) : Int) = (d : Int) by omega] at this
    have e0 : ((0 : Nat) : Int) = 0 := rfl
    rw [e0] at this
    rw [this, Option.bind_some]
    simp only
    rw [if_neg hne]
  | @next a k d mid wh p e L he h0 h1 i1 =>
    intro q hp hq hd0 hd j hj hj16
    subst hp
    have hok := Sh.errE_ok he
    have hK := K_eq he
    obtain ⟨n1, g1⟩ := read_row hw h0 a rfl hok.1 (by omega) (by omega) 0 (by omega) (by omega)
    obtain ⟨n2, g2⟩ := i1 q rfl hq hd0 hd (j + 1) (by omega) (by omega)
    rw [kindP_nat] at he
    refine ⟨n1 + n2 + 3, fun f hf => ?_⟩
    try dsimp only
    obtain ⟨f, rfl⟩ : ∃ f', f = f' + 2 + 1 := ⟨f - 3, by omega⟩
    have hd1 : d - 1 + 1 = d := by omega
    rw [read_loop (f + 2) q (d - 1) a j hq (by omega) (by omega), if_pos (by omega), hd1, read_step hw f a d _ hd, if_pos he]
    have := g1 f (by omega)
    rw [show ((d + 1 - 1 : Nat) : Int) = (d : Int) by omega] at this
    have e0 : ((0 : Nat) : Int) = 0 := rfl
    rw [e0] at this
    rw [this, Option.bind_some]
    simp only [if_true]
    exact g2 (f + 2) (by omega)
/-- A term at the top. -/
theorem read_term {l : List S65} (hw : Wf l) {a b : Nat} {M : List (Nat × Int × Nat)} (h : Rw l a 1 (-1) 1 b M) : Ev (fun k => liveryref08_read.f k l a 1 0) ((b : Int), 0, 0) := by
  cases h with
  | cons he h1 h2 =>
    cases h2
    have hok := Sh.errE_ok he
    have hK := K_eq he
    obtain ⟨n1, g1⟩ := read_row hw h1 a rfl hok.1 (by omega) (by omega) 0 (by omega) (by omega)
    have he' : Sh.errE l a 1 0 = 0 := he
    refine ⟨n1 + 2, fun f hf => ?_⟩
    try dsimp only
    obtain ⟨f, rfl⟩ : ∃ f', f = f' + 2 := ⟨f - 2, by omega⟩
    have h3 := read_step hw f a 1 0 (by omega)
    rw [if_pos he'] at h3
    exact h3.trans (g1 f (by omega))
theorem tree_read {l : List S65} (hw : Wf l) {wh : Nat} {e : Int} (h : Fl l 0 1 (-1) 1 wh e) : Ev (fun k => liveryref08_read.f k l 0 1 0) (0, (wh : Int), e) := by
  cases h with
  | here he =>
    have he' : Sh.errE l 0 1 0 ≠ 0 := he
    refine ⟨2, fun f hf => ?_⟩
    try dsimp only
    obtain ⟨f, rfl⟩ : ∃ f', f = f' + 2 := ⟨f - 2, by omega⟩
    have h3 := read_step hw f 0 1 0 (by omega)
    rw [if_neg he'] at h3
    exact h3
  | kid he h1 =>
    have hok := Sh.errE_ok he
    have hK := K_eq he
    obtain ⟨n1, g1⟩ := read_fail hw h1 0 rfl hok.1 (by omega) (by omega) 0 (by omega) (by omega)
    have he' : Sh.errE l 0 1 0 = 0 := he
    refine ⟨n1 + 2, fun f hf => ?_⟩
    try dsimp only
    obtain ⟨f, rfl⟩ : ∃ f', f = f' + 2 := ⟨f - 2, by omega⟩
    have h3 := read_step hw f 0 1 0 (by omega)
    rw [if_pos he'] at h3
    exact h3.trans (g1 f (by omega))
  | next he h1 h2 => cases h2
/-- What the walk tells of the whole. -/
theorem treeF_row {l : List S65} {b : Nat} {L : List (Nat × Int × Nat)} (h : Rw l 0 1 (-1) 1 b L) : Sh.treeF l = (if (b : Int) < l.length then ((b : Int), 81) else (0, 0)) ∧ Sh.walk65 l = (L, b, 0) := by
  have hb := (row_top h).1
  have : Sh.walk65 l = (L, b, 0) := walk_row h (by omega)
  refine ⟨?_, this⟩
  unfold Sh.treeF
  rw [this]
  rfl
theorem treeF_fail {l : List S65} {wh : Nat} {e : Int} (h : Fl l 0 1 (-1) 1 wh e) : Sh.treeF l = ((wh : Int), e) := by
  have hb := fail_top h
  have : (Sh.walk65 l).2 = (wh, e) := walk_fail h (by omega)
  unfold Sh.treeF
  rw [this]
  simp [hb.2]
theorem Tree_ev {l : List S65} (hw : Wf l) : Ev (fun k => liveryref08_Tree.f k l) (Sh.treeF l) := by
  rcases row_or_fail l 64 0 rfl 1 (-1) 1 with ⟨b, L, h⟩ | ⟨wh, e, h⟩
  · obtain ⟨n, g⟩ := read_term hw h
    refine ⟨n, fun f hf => ?_⟩
    try dsimp only
    have := g f hf
    dsimp only at this
    have e0 : ((0 : Nat) : Int) = 0 := rfl
    rw [e0] at this
    unfold liveryref08_Tree.f
    rw [this, Option.bind_some, (treeF_row h).1]
    simp only [if_true]
    split <;> rfl
  · obtain ⟨n, g⟩ := tree_read hw h
    refine ⟨n, fun f hf => ?_⟩
    try dsimp only
    have := g f hf
    dsimp only at this
    unfold liveryref08_Tree.f
    rw [this, Option.bind_some, treeF_fail h]
    simp only
    rw [if_neg (fail_top h).2]
/-- A definition that may be: the whole is one term. -/
theorem tree_ok {l : List S65} (h : (Sh.treeF l).2 = 0) : ∃ L, Rw l 0 1 (-1) 1 l.length L ∧ (Sh.walk65 l).1 = L := by
  rcases row_or_fail l 64 0 rfl 1 (-1) 1 with ⟨b, L, h1⟩ | ⟨wh, e, h1⟩
  · obtain ⟨h2, h3⟩ := treeF_row h1
    rw [h2] at h
    have hle := h1.le
    by_cases hb : (b : Int) < l.length
    · rw [if_pos hb] at h; simp at h
    · have := (row_top h1).2 (by omega)
      have : b = l.length := by omega
      subst this
      exact ⟨L, h1, by rw [h3]⟩
  · rw [treeF_fail h1] at h
    exact absurd h (fail_top h1).2
end
section
open ShapeM
/-! #### of a definition that may be: ends, children, depths -/
/-- Where a term ends. -/
noncomputable def en (l : List S65) (a : Nat) : Nat := open Classical in if h : ∃ b, Span (Sh.K65 l) a 1 b then Classical.choose h else 0
theorem en_eq {l : List S65} {a b : Nat} (h : Span (Sh.K65 l) a 1 b) : en l a = b := by
  have hx : ∃ b, Span (Sh.K65 l) a 1 b := ⟨b, h⟩
  unfold en
  rw [dif_pos hx]
  exact (Classical.choose_spec hx).fix h
/-- A part of a row as a term at the top. -/
theorem row_part {l : List S65} {a k d b : Nat} {p : Int} {L : List (Nat × Int × Nat)} (h : Rw l a k p d b L) {x : Nat × Int × Nat} (hx : x ∈ L) (hd : 1 ≤ d) : ∃ M, Rw l x.1 1 (-1) 1 (en l x.1) M ∧ en l x.1 ≤ b ∧ x.1 < en l x.1 ∧ (∃ M', Rw l (x.1 + 1) (Sh.K65 l x.1) x.1 (x.2.2 + 1) (en l x.1) M') ∧ Sh.errE l x.1 x.2.2 (kindP (Sh.C65 l) x.2.1) = 0 := by
  obtain ⟨he, hd', e, M', h1, h2⟩ := h.sub x hx
  have h3 : Rw l x.1 1 x.2.1 x.2.2 e ((x.1, x.2.1, x.2.2) :: (M' ++ [])) := .cons he h1 (.nil _ _ _)
  have hen := en_eq h3.span
  obtain ⟨M, h4⟩ := (h3.rise err_rise 1 (by omega)).2 rfl
  have := h1.le
  exact ⟨M, by rw [hen]; exact h4, by rw [hen]; exact h2, by rw [hen]; omega, ⟨M', by rw [hen]; exact h1⟩, he⟩
theorem row_place {l : List S65} {b : Nat} {L : List (Nat × Int × Nat)} (h : Rw l 0 1 (-1) 1 b L) {q : Nat} (hq : q < b) : ∃ x ∈ L, x.1 = q := by
  have : q ∈ L.map (·.1) := by
    rw [h.places]
    exact List.mem_range'_1.2 ⟨by omega, by omega⟩
  obtain ⟨x, hx, he⟩ := List.mem_map.1 this
  exact ⟨x, hx, he⟩
theorem End_ref {l : List S65} (hw : Wf l) {b : Nat} {L : List (Nat × Int × Nat)} (h : Rw l 0 1 (-1) 1 b L) {q : Nat} (hq : q < b) : Ev (fun k => liveryref08_End.f k l q) ((en l q : Nat) : Int) := by
  obtain ⟨x, hx, rfl⟩ := row_place h hq
  obtain ⟨M, h1, _⟩ := row_part h hx (by omega)
  obtain ⟨n, g⟩ := read_term hw h1
  refine ⟨n, fun f hf => ?_⟩
  try dsimp only
  have := g f hf
  dsimp only at this
  unfold liveryref08_End.f
  rw [this]
  rfl
/-- The program's way to an end. -/
theorem End_loop {l : List S65} {a k d b : Nat} {p : Int} {L : List (Nat × Int × Nat)} (h : Rw l a k p d b L) : ∀ (f r : Nat), k + r + 16 * (b - a) ≤ 100000 → b ≤ 100000 → shape_End.l0 (f + (b - a)) l a ((k + r : Nat) : Int) = shape_End.l0 f l b (r : Int) := by
  induction h with
  | nil a p d => intro f r _ _; simp
  | @cons a k d mid b p L M he h1 h2 i1 i2 =>
    intro f r hr hb
    have hok := Sh.errE_ok he
    have hK := K_eq he
    have l1 := h1.le
    have l2 := h2.le
    have hK16 : Sh.K65 l a ≤ 16 := by omega
    rw [show f + (b - a) = (f + (b - mid) + (mid - (a + 1))) + 1 by omega, shape_End.l0, if_pos (by omega), if_pos (by omega), if_pos (by omega)]
    rw [show wrap64 ((a : Int) + 1) = ((a + 1 : Nat) : Int) by unfold wrap64; omega]
    rw [show wrap64 (((k + 1 + r : Nat) : Int) + wrap64 ((rd_T65 l a).f4 - 1)) = ((Sh.K65 l a + (k + r) : Nat) : Int) by unfold wrap64; omega]
    rw [i1 (f + (b - mid)) (k + r) (by omega) (by omega)]
    exact i2 f r (by omega) hb
theorem End_ev {l : List S65} {b : Nat} {L : List (Nat × Int × Nat)} (h : Rw l 0 1 (-1) 1 b L) (hb : b ≤ 1000) {q : Nat} (hq : q < b) : Ev (fun k => shape_End.l0 k l q 1) (((en l q : Nat) : Int), 0) := by
  obtain ⟨x, hx, rfl⟩ := row_place h hq
  obtain ⟨M, h1, h2, _⟩ := row_part h hx (by omega)
  refine ⟨1 + (en l x.1 - x.1), fun f hf => ?_⟩
  try dsimp only
  obtain ⟨f, rfl⟩ : ∃ f', f = (f' + 1) + (en l x.1 - x.1) := ⟨f - 1 - (en l x.1 - x.1), by omega⟩
  have := End_loop h1 (f + 1) 0 (by omega) (by omega)
  have e1 : ((1 + 0 : Nat) : Int) = 1 := rfl
  rw [e1] at this
  rw [this, shape_End.l0, if_neg (by omega)]
/-- The children, as the document tells them. -/
theorem RefKids_loop {l : List S65} (hw : Wf l) {a k d b : Nat} {p : Int} {L : List (Nat × Int × Nat)} (h : Rw l a k p d b L) : ∀ (q : Nat) (acc : List Int) (T : List Nat), q < l.length → 1 ≤ d → Tops (Sh.K65 l) a k T → ∀ j : Nat, (rd_T65 l q).f4 = ((j + k : Nat) : Int) → j + k ≤ 16 → acc.length + k ≤ 1000 →
    Ev (fun f => liveryref08_Kids.l0 f l q acc a j) (acc ++ T.map fun (i : Nat) => (i : Int)) := by
  induction h with
  | nil a p d =>
    intro q acc T hq hd hT j hj hj16 hacc
    cases hT
    refine ⟨1, fun f hf => ?_⟩
    try dsimp only
    obtain ⟨f, rfl⟩ : ∃ f', f = f' + 1 := ⟨f - 1, by omega⟩
    rw [liveryref08_Kids.l0, if_pos (by omega), if_pos (by omega), if_neg (by omega)]
    simp
  | @cons a k d mid b p L M he h1 h2 i1 i2 =>
    intro q acc T hq hd hT j hj hj16 hacc
    have h3 : Rw l a 1 p d mid ((a, p, d) :: (L ++ [])) := .cons he h1 (.nil _ _ _)
    obtain ⟨M', h4⟩ := (h3.rise err_rise 1 (by omega)).2 rfl
    obtain ⟨n1, g1⟩ := read_term hw h4
    cases hT with
    | @cons _ _ mid' T' hs hT' =>
      have := h1.span.fix hs
      subst this
      obtain ⟨n2, g2⟩ := i2 q (acc ++ [(a : Int)]) T' hq hd hT' (j + 1) (by omega) (by omega) (by simp; omega)
      refine ⟨n1 + n2 + 1, fun f hf => ?_⟩
      try dsimp only
      obtain ⟨f, rfl⟩ : ∃ f', f = f' + 1 := ⟨f - 1, by omega⟩
      have a1 := g1 f (by omega)
      have a2 := g2 f (by omega)
      dsimp only at a1 a2
      rw [liveryref08_Kids.l0, if_pos (by omega), if_pos (by omega), if_pos (by omega), if_pos (by omega)]
      unfold liveryref08_End.f
      rw [a1, Option.bind_some, Option.bind_some, show wrap64 ((j : Int) + 1) = ((j + 1 : Nat) : Int) by unfold wrap64; omega]
      simp only
      rw [a2]
      simp
theorem kidsI_kidsOf (L : List (Nat × Int × Nat)) (q : Int) : Sh.kidsI L q = (kidsOf L q).map fun (i : Nat) => (i : Int) := by
  unfold Sh.kidsI kidsOf
  rw [List.map_map]
  rfl
theorem Kids_ref {l : List S65} (hw : Wf l) {b : Nat} {L : List (Nat × Int × Nat)} (h : Rw l 0 1 (-1) 1 b L) {q : Nat} (hq : q < b) : Ev (fun k => liveryref08_Kids.f k l q) (Sh.kidsI L q) := by
  obtain ⟨x, hx, hxq⟩ := row_place h hq
  obtain ⟨M, _, _, _, ⟨M', h1⟩, he⟩ := row_part h hx (by omega)
  rw [hxq] at h1 he
  have hT := h.kids (by omega) q (by omega) hq
  have hok := Sh.errE_ok he
  have hK := K_eq he
  have := RefKids_loop hw h1 q [] _ hok.1 (by omega) hT 0 (by omega) (by omega) (by simp; omega)
  rw [kidsI_kidsOf]
  obtain ⟨n, g⟩ := this
  refine ⟨n, fun f hf => ?_⟩
  try dsimp only
  have := g f hf
  dsimp only at this
  unfold liveryref08_Kids.f
  rw [show wrap64 ((q : Int) + 1) = ((q + 1 : Nat) : Int) by unfold wrap64; omega]
  simpa using this
/-- How many of the parts from a place on, n of them, are open at q. -/
noncomputable def openN (l : List S65) (q : Nat) : Nat → Nat → Nat
  | _, 0 => 0
  | a, n + 1 => (if q < en l a then 1 else 0) + openN l q (a + 1) n
theorem openN_add (l : List S65) (q : Nat) : ∀ (n a m : Nat), openN l q a (n + m) = openN l q a n + openN l q (a + n) m
  | 0, a, m => by simp [openN]
  | n + 1, a, m => by
    rw [show n + 1 + m = (n + m) + 1 by omega]
    simp only [openN]
    rw [openN_add l q n (a + 1) m, show a + 1 + n = a + (n + 1) by omega]
    omega
theorem openN_shut (l : List S65) (q : Nat) : ∀ (n a : Nat), (∀ j, a ≤ j → j < a + n → en l j ≤ q) → openN l q a n = 0
  | 0, a, _ => rfl
  | n + 1, a, h => by
    simp only [openN]
    rw [if_neg (by have := h a (by omega) (by omega); omega), openN_shut l q n (a + 1) (fun j h1 h2 => h j (by omega) (by omega))]
theorem row_place' {l : List S65} {a k d b : Nat} {p : Int} {L : List (Nat × Int × Nat)} (h : Rw l a k p d b L) {q : Nat} (ha : a ≤ q) (hq : q < b) : ∃ x ∈ L, x.1 = q := by
  have : q ∈ L.map (·.1) := by
    rw [h.places]
    exact List.mem_range'_1.2 ⟨by omega, by omega⟩
  obtain ⟨x, hx, he⟩ := List.mem_map.1 this
  exact ⟨x, hx, he⟩
/-- A part's depth is how many parts are open there. -/
theorem row_depth {l : List S65} {a k d b : Nat} {p : Int} {L : List (Nat × Int × Nat)} (h : Rw l a k p d b L) : 1 ≤ d → ∀ x ∈ L, x.2.2 + 1 = d + openN l x.1 a (x.1 - a + 1) := by
  induction h with
  | nil => intro _ x hx; cases hx
  | @cons a k d mid b p L M he h1 h2 i1 i2 =>
    intro hd x hx
    have l1 := h1.le
    have hen : en l a = mid := en_eq (.cons h1.span (.nil _))
    rcases List.mem_cons.1 hx with rfl | hx
    · simp only [Nat.sub_self, openN]
      rw [hen, if_pos (by omega)]
    · rcases List.mem_append.1 hx with hx | hx
      · obtain ⟨m1, m2⟩ := h1.mem hx
        have := i1 (by omega) x hx
        rw [show x.1 - a + 1 = (x.1 - (a + 1) + 1) + 1 by omega, openN, hen, if_pos m2]
        omega
      · obtain ⟨m1, m2⟩ := h2.mem hx
        have := i2 hd x hx
        have hz : openN l x.1 a (mid - a) = 0 := by
          refine openN_shut l x.1 _ a fun j ha hj => ?_
          rcases Nat.eq_or_lt_of_le ha with rfl | ha
          · rw [hen]; exact m1
          · obtain ⟨y, hy, rfl⟩ := row_place' h1 (q := j) (by omega) (by omega)
            have := (row_part h1 hy (by omega)).choose_spec.2.1
            omega
        rw [show x.1 - a + 1 = (mid - a) + (x.1 - mid + 1) by omega, openN_add, hz, show a + (mid - a) = mid by omega]
        omega
theorem RefDepth_loop {l : List S65} (hw : Wf l) {b : Nat} {L : List (Nat × Int × Nat)} (h : Rw l 0 1 (-1) 1 b L) (hb : b ≤ 1000) {q : Nat} (hq : q < b) : ∀ (n a c : Nat), a + n = q + 1 → c + n ≤ 2000 → Ev (fun f => liveryref08_Depth.l0 f l q c a) ((c + openN l q a n : Nat) : Int)
  | 0, a, c, ha, hc => by
    refine ⟨1, fun f hf => ?_⟩
    try dsimp only
    obtain ⟨f, rfl⟩ : ∃ f', f = f' + 1 := ⟨f - 1, by omega⟩
    rw [liveryref08_Depth.l0, if_neg (by omega)]
    rfl
  | n + 1, a, c, ha, hc => by
    obtain ⟨n1, g1⟩ := End_ref hw h (q := a) (by omega)
    by_cases ho : q < en l a
    · obtain ⟨n2, g2⟩ := RefDepth_loop hw h hb hq n (a + 1) (c + 1) (by omega) (by omega)
      refine ⟨n1 + n2 + 1, fun f hf => ?_⟩
      try dsimp only
      obtain ⟨f, rfl⟩ : ∃ f', f = f' + 1 := ⟨f - 1, by omega⟩
      have a1 := g1 f (by omega)
      have a2 := g2 f (by omega)
      dsimp only at a1 a2
      rw [liveryref08_Depth.l0, if_pos (by omega), a1, Option.bind_some, if_pos (by omega), show wrap64 ((c : Int) + 1) = ((c + 1 : Nat) : Int) by unfold wrap64; omega, show wrap64 ((a : Int) + 1) = ((a + 1 : Nat) : Int) by unfold wrap64; omega, a2]
      simp only [openN]
      rw [if_pos ho, Nat.add_assoc]
    · obtain ⟨n2, g2⟩ := RefDepth_loop hw h hb hq n (a + 1) c (by omega) (by omega)
      refine ⟨n1 + n2 + 1, fun f hf => ?_⟩
      try dsimp only
      obtain ⟨f, rfl⟩ : ∃ f', f = f' + 1 := ⟨f - 1, by omega⟩
      have a1 := g1 f (by omega)
      have a2 := g2 f (by omega)
      dsimp only at a1 a2
      rw [liveryref08_Depth.l0, if_pos (by omega), a1, Option.bind_some, if_neg (by omega), show wrap64 ((a : Int) + 1) = ((a + 1 : Nat) : Int) by unfold wrap64; omega, a2]
      simp only [openN]
      rw [if_neg ho, Nat.zero_add]
/-- The depth that the walk tells. -/
theorem depth_find {l : List S65} {b : Nat} {L : List (Nat × Int × Nat)} (h : Rw l 0 1 (-1) 1 b L) {q : Nat} (hq : q < b) : ∃ x, (L.find? fun x => (x.1 : Int) == (q : Int)) = some x ∧ x.1 = q ∧ x ∈ L := by
  obtain ⟨y, hy, hyq⟩ := row_place h hq
  cases hf : L.find? fun x => (x.1 : Int) == (q : Int) with
  | none =>
    have := List.find?_eq_none.1 hf y hy
    simp [hyq] at this
  | some x =>
    have h1 := List.find?_some hf
    have h2 := List.mem_of_find?_eq_some hf
    have h3 : (x.1 : Int) = q := by simpa using h1
    exact ⟨x, rfl, by omega, h2⟩
theorem Depth_ref {l : List S65} (hw : Wf l) {b : Nat} {L : List (Nat × Int × Nat)} (h : Rw l 0 1 (-1) 1 b L) (hb : b ≤ 1000) {x : Nat × Int × Nat} (hx : x ∈ L) : Ev (fun k => liveryref08_Depth.f k l (x.1 : Nat)) ((x.2.2 : Nat) : Int) := by
  obtain ⟨m1, m2⟩ := h.mem hx
  have h1 := RefDepth_loop hw h hb m2 (x.1 + 1) 0 0 (by omega) (by omega)
  have h2 := row_depth h (by omega) x hx
  rw [Nat.sub_zero] at h2
  have h3 : 0 + openN l x.1 0 (x.1 + 1) = x.2.2 := by omega
  rw [h3] at h1
  exact h1
end
section
theorem Same_loop (a b : List Int) (hl : a.length = b.length) (hm : a.length ≤ 4611686018427387904) : ∀ (n i : Nat), i + n = a.length → Ev (fun k => liveryref08_Same.l0 k a b i) (decide (a.drop i = b.drop i))
  | 0, i, h => by
    refine ⟨1, fun f hf => ?_⟩
    try dsimp only
    obtain ⟨f, rfl⟩ : ∃ f', f = f' + 1 := ⟨f - 1, by omega⟩
    rw [liveryref08_Same.l0, if_neg (by omega), List.drop_eq_nil_of_le (by omega), List.drop_eq_nil_of_le (by omega)]
    simp
  | n + 1, i, h => by
    obtain ⟨K, g⟩ := Same_loop a b hl hm n (i + 1) (by omega)
    refine ⟨K + 1, fun f hf => ?_⟩
    try dsimp only
    obtain ⟨f, rfl⟩ : ∃ f', f = f' + 1 := ⟨f - 1, by omega⟩
    have hg := g f (by omega)
    dsimp only at hg
    have ha : i < a.length := by omega
    have hb : i < b.length := by omega
    have e1 : rd a (i : Int) = a[i] := by unfold rd; simp [List.getD_eq_getElem?_getD, List.getElem?_eq_getElem ha]
    have e2 : rd b (i : Int) = b[i] := by unfold rd; simp [List.getD_eq_getElem?_getD, List.getElem?_eq_getElem hb]
    rw [liveryref08_Same.l0, if_pos (by omega), if_pos (by omega), if_pos (by omega), e1, e2, show wrap64 ((i : Int) + 1) = ((i + 1 : Nat) : Int) by unfold wrap64; omega, hg, List.drop_eq_getElem_cons ha, List.drop_eq_getElem_cons hb]
    by_cases he : a[i] = b[i]
    · rw [if_pos he, he]
      congr 1
      apply decide_eq_decide.2
      exact ⟨fun h => by rw [h], fun h => (List.cons.inj h).2⟩
    · rw [if_neg he, decide_eq_false (fun h => he (List.cons.inj h).1)]
theorem Same_ev (a b : List Int) (hm : a.length ≤ 4611686018427387904) : Ev (fun k => liveryref08_Same.f k a b) (decide (a = b)) := by
  by_cases hl : a.length = b.length
  · obtain ⟨K, g⟩ := Same_loop a b hl hm a.length 0 (by omega)
    refine ⟨K, fun f hf => ?_⟩
    try dsimp only
    have := g f hf
    dsimp only at this
    unfold liveryref08_Same.f
    rw [if_pos (by omega)]
    simpa using this
  · refine ⟨0, fun f _ => ?_⟩
    show liveryref08_Same.f f a b = _
    unfold liveryref08_Same.f
    rw [if_neg (by omega), decide_eq_false (fun h => hl (by rw [h]))]
theorem Same_self (a : List Int) (hm : a.length ≤ 4611686018427387904) : Ev (fun k => liveryref08_Same.f k a a) true := by
  have := Same_ev a a hm
  simpa using this
/-- The places of atoms, from a place on. -/
def atomsFrom (l : List S65) : Nat → Nat → List Int
  | _, 0 => []
  | i, n + 1 => if (rd_T65 l i).f0 = 0 then (i : Int) :: atomsFrom l (i + 1) n else atomsFrom l (i + 1) n
theorem atomsFrom_len (l : List S65) : ∀ n i, (atomsFrom l i n).length ≤ n
  | 0, _ => by simp [atomsFrom]
  | n + 1, i => by
    unfold atomsFrom
    have := atomsFrom_len l n (i + 1)
    split
    · simp; omega
    · omega
theorem Atoms_loop (l : List S65) : ∀ (n i : Nat) (acc : List Int), i + n = l.length → l.length ≤ 1000 → acc.length + n ≤ 2000 → Ev (fun k => shape_Atoms.l0 k acc l (l.length : Int) i) (acc ++ atomsFrom l i n) ∧ Ev (fun k => liveryref08_Atoms.l0 k l acc i) (acc ++ atomsFrom l i n)
  | 0, i, acc, h, hl, ha => by
    refine ⟨⟨1, fun f hf => ?_⟩, ⟨1, fun f hf => ?_⟩⟩
    · obtain ⟨f, rfl⟩ : ∃ f', f = f' + 1 := ⟨f - 1, by omega⟩
      try dsimp only
      rw [shape_Atoms.l0, if_neg (by omega)]
      simp [atomsFrom]
    · obtain ⟨f, rfl⟩ : ∃ f', f = f' + 1 := ⟨f - 1, by omega⟩
      try dsimp only
      rw [liveryref08_Atoms.l0, if_neg (by omega)]
      simp [atomsFrom]
  | n + 1, i, acc, h, hl, ha => by
    have ew : wrap64 ((i : Int) + 1) = ((i + 1 : Nat) : Int) := by unfold wrap64; omega
    by_cases hc : (rd_T65 l i).f0 = 0
    · obtain ⟨⟨K1, g1⟩, ⟨K2, g2⟩⟩ := Atoms_loop l n (i + 1) (acc ++ [(i : Int)]) (by omega) hl (by simp; omega)
      have e : acc ++ atomsFrom l i (n + 1) = acc ++ [(i : Int)] ++ atomsFrom l (i + 1) n := by
        simp only [atomsFrom]
        rw [if_pos hc]
        simp
      rw [e]
      refine ⟨⟨K1 + 1, fun f hf => ?_⟩, ⟨K2 + 1, fun f hf => ?_⟩⟩
      · obtain ⟨f, rfl⟩ : ∃ f', f = f' + 1 := ⟨f - 1, by omega⟩
        try dsimp only
        rw [shape_Atoms.l0, if_pos (by omega), if_pos (by omega), if_pos (by omega), if_pos hc, if_pos (by omega), ew]
        exact g1 f (by omega)
      · obtain ⟨f, rfl⟩ : ∃ f', f = f' + 1 := ⟨f - 1, by omega⟩
        try dsimp only
        rw [liveryref08_Atoms.l0, if_pos (by omega), if_pos (by omega), if_pos hc, if_pos (by omega), ew]
        exact g2 f (by omega)
    · obtain ⟨⟨K1, g1⟩, ⟨K2, g2⟩⟩ := Atoms_loop l n (i + 1) acc (by omega) hl (by omega)
      have e : acc ++ atomsFrom l i (n + 1) = acc ++ atomsFrom l (i + 1) n := by
        simp only [atomsFrom]
        rw [if_neg hc]
      rw [e]
      refine ⟨⟨K1 + 1, fun f hf => ?_⟩, ⟨K2 + 1, fun f hf => ?_⟩⟩
      · obtain ⟨f, rfl⟩ : ∃ f', f = f' + 1 := ⟨f - 1, by omega⟩
        try dsimp only
        rw [shape_Atoms.l0, if_pos (by omega), if_pos (by omega), if_pos (by omega), if_neg hc, ew]
        exact g1 f (by omega)
      · obtain ⟨f, rfl⟩ : ∃ f', f = f' + 1 := ⟨f - 1, by omega⟩
        try dsimp only
        rw [liveryref08_Atoms.l0, if_pos (by omega), if_pos (by omega), if_neg hc, ew]
        exact g2 f (by omega)
end
set_option maxRecDepth 100000 in
theorem head_ev : Ev (fun k => liverylaw08_head.f k) true := Ev.of liverylaw08_head.mono (k := 30) (by kernel_rfl)
theorem may_f (l : List S65) (q : Int) : shape_may.f l q = some (if (Sh.treeF l).2 = 0 then (if q < 0 then 2 else if q ≥ (l.length : Int) then 2 else 0) else 81) := by
  unfold shape_may.f shape_tree.f
  rw [Option.bind_some]
  split
  · split
    · rfl
    · split <;> rfl
  · rfl
theorem May_ev {l : List S65} (hw : Wf l) (q : Int) : Ev (fun k => liveryref08_May.f k l q) (if (Sh.treeF l).2 = 0 then (if q < 0 then 2 else if q ≥ (l.length : Int) then 2 else 0) else 81) := by
  obtain ⟨n, g⟩ := Tree_ev hw
  refine ⟨n, fun f hf => ?_⟩
  try dsimp only
  have := g f hf
  dsimp only at this
  unfold liveryref08_May.f
  rw [this, Option.bind_some]
  split
  · split
    · rfl
    · split <;> rfl
  · rfl
theorem Check_ev {l : List S65} (hw : Wf l) (a b : Int) : ∃ r, shape_Check.f a b l = some r ∧ Ev (fun k => liveryref08_Check.f k a b l) r := by
  obtain ⟨n, g⟩ := Tree_ev hw
  unfold shape_Check.f
  by_cases h1 : a < 0
  · exact ⟨_, by rw [if_pos h1], 0, fun k _ => by show liveryref08_Check.f k a b l = _; unfold liveryref08_Check.f; rw [if_pos h1]⟩
  · by_cases h2 : b ≤ a
    · exact ⟨_, by rw [if_neg h1, if_pos h2], 0, fun k _ => by show liveryref08_Check.f k a b l = _; unfold liveryref08_Check.f; rw [if_neg h1, if_pos h2]⟩
    · by_cases h3 : b > 1099511627776
      · exact ⟨_, by rw [if_neg h1, if_neg h2, if_pos h3], 0, fun k _ => by show liveryref08_Check.f k a b l = _; unfold liveryref08_Check.f; rw [if_neg h1, if_neg h2, if_pos h3]⟩
      · by_cases h4 : wrap64 (b - a) > 4096
        · exact ⟨_, by rw [if_neg h1, if_neg h2, if_neg h3, if_pos h4], 0, fun k _ => by show liveryref08_Check.f k a b l = _; unfold liveryref08_Check.f; rw [if_neg h1, if_neg h2, if_neg h3, if_pos h4]⟩
        · refine ⟨Sh.treeF l, by rw [if_neg h1, if_neg h2, if_neg h3, if_neg h4]; rfl, n, fun k hk => ?_⟩
          have := g k hk
          dsimp only at this
          show liveryref08_Check.f k a b l = _
          unfold liveryref08_Check.f
          rw [if_neg h1, if_neg h2, if_neg h3, if_neg h4, this]
          rfl
theorem ShapeTells (a0_0 a0_1 : Int) (l0_2 : List S65) (a1 : Int) (w0 : ((Lit.int .i64 a0_0).wf = true) ∧ ((Lit.int .i64 a0_1).wf = true) ∧ ((l0_2.length ≤ maxLen ∧ ∀ x ∈ l0_2, ((Lit.int .u8 x.f0).wf = true) ∧ ((Lit.int .u32 x.f1).wf = true) ∧ ((Lit.int .u32 x.f2).wf = true) ∧ ((Lit.int .i64 x.f3).wf = true) ∧ ((Lit.int .i64 x.f4).wf = true)))) (w1 : (Lit.int .i64 a1).wf = true) : ∃ k, liverylaw08_ShapeTells.f k a0_0 a0_1 l0_2 a1 = some true := by
  obtain ⟨K0, k0⟩ := head_ev
  dsimp only at k0
  by_cases hl : (l0_2.length : Int) > 200
  · refine ⟨K0, ?_⟩
    unfold liverylaw08_ShapeTells.f
    rw [if_pos hl, k0 _ (Nat.le_refl _)]
    rfl
  have hw : Wf l0_2 := ⟨by omega, fun x hx => by
    obtain ⟨h1, h2, h3, _, _⟩ := w0.2.2.2 x hx
    exact ⟨(XOpen.u8_of h1).1, (XOpen.u32_of h2).1, (XOpen.u32_of h3).1⟩⟩
  obtain ⟨r, c1, K1, k1⟩ := Check_ev hw a0_0 a0_1
  dsimp only at k1
  obtain ⟨⟨K2, k2⟩, ⟨K3, k3⟩⟩ := Atoms_loop l0_2 l0_2.length 0 [] (by omega) (by omega) (by simp; omega)
  dsimp only at k2 k3
  obtain ⟨K4, k4⟩ := Same_self (atomsFrom l0_2 0 l0_2.length) (by have := atomsFrom_len l0_2 l0_2.length 0; omega)
  dsimp only at k4
  obtain ⟨K5, k5⟩ := May_ev hw a1
  dsimp only at k5
  have hm := may_f l0_2 a1
  generalize hM : (if (Sh.treeF l0_2).2 = 0 then (if a1 < 0 then (2 : Int) else if a1 ≥ (l0_2.length : Int) then 2 else 0) else 81) = M at hm k5
  have main : ∀ K, (∀ k, K ≤ k → liverylaw08_ShapeTells.j0 k a1 false a0_0 a0_1 l0_2 = some true) → ∃ k, liverylaw08_ShapeTells.f k a0_0 a0_1 l0_2 a1 = some true := by
    intro K hK
    refine ⟨K + K1 + K2 + K3 + K4, ?_⟩
    unfold liverylaw08_ShapeTells.f
    rw [if_neg hl, c1, Option.bind_some, k1 _ (by omega), Option.bind_some, if_pos rfl, if_pos rfl]
    unfold shape_Atoms.f liveryref08_Atoms.f
    have e0 : ((0 : Nat) : Int) = 0 := rfl
    rw [← e0, k2 _ (by omega), Option.bind_some, k3 _ (by omega), Option.bind_some, List.nil_append, k4 _ (by omega), Option.bind_some]
    exact hK _ (by omega)
  have hkids : shape_Kids.f l0_2 a1 = some (if M ≠ 0 then ([], M) else (Sh.kidsI (Sh.walk65 l0_2).1 a1, 0)) := by
    unfold shape_Kids.f Sh.kidsF
    rw [hm, Option.bind_some]
    split <;> rfl
  have hdepth : shape_Depth.f l0_2 a1 = some (if M ≠ 0 then (0, M) else (match (Sh.walk65 l0_2).1.find? fun x => (x.1 : Int) == a1 with | some x => ((x.2.2 : Int), 0) | none => (0, 2))) := by
    unfold shape_Depth.f Sh.depthF
    rw [hm, Option.bind_some]
    split <;> rfl
  by_cases h0 : M = 0
  · -- a part of a definition that may be
    subst h0
    have ht : (Sh.treeF l0_2).2 = 0 := by
      by_cases ht : (Sh.treeF l0_2).2 = 0
      · exact ht
      · rw [if_neg ht] at hM; simp at hM
    rw [if_pos ht] at hM
    have hq0 : ¬ a1 < 0 := fun h => by rw [if_pos h] at hM; simp at hM
    rw [if_neg hq0] at hM
    have hq1 : ¬ a1 ≥ (l0_2.length : Int) := fun h => by rw [if_pos h] at hM; simp at hM
    obtain ⟨q, rfl⟩ : ∃ q : Nat, a1 = q := ⟨a1.toNat, by omega⟩
    obtain ⟨L, hrow, hwL⟩ := tree_ok ht
    rw [hwL] at hkids hdepth
    obtain ⟨x, hf, hxq, hx⟩ := depth_find hrow (q := q) (by omega)
    rw [hf] at hdepth
    simp only [ne_eq, not_true_eq_false, if_false] at hkids hdepth
    obtain ⟨K6, k6⟩ := End_ev hrow (by omega) (q := q) (by omega)
    dsimp only at k6
    obtain ⟨K7, k7⟩ := Kids_ref hw hrow (q := q) (by omega)
    dsimp only at k7
    obtain ⟨K8, k8⟩ := Same_self (Sh.kidsI L q) (by
      have h1 := Sh.kidsI_len L q
      have h2 := Sh.walk_len l0_2
      rw [hwL] at h2
      omega)
    dsimp only at k8
    obtain ⟨K9, k9⟩ := End_ref hw hrow (q := q) (by omega)
    dsimp only at k9
    obtain ⟨K10, k10⟩ := Depth_ref hw hrow (by omega) hx
    dsimp only at k10
    rw [hxq] at k10
    refine main (K0 + K5 + K6 + K7 + K8 + K9 + K10 + 2) fun k hk => ?_
    obtain ⟨k, rfl⟩ : ∃ k', k = k' + 2 := ⟨k - 2, by omega⟩
    have hE : shape_End.f (k + 1) l0_2 q = some (((en l0_2 q : Nat) : Int), 0) := by
      unfold shape_End.f
      rw [hm, Option.bind_some, if_pos rfl]
      exact k6 _ (by omega)
    rw [liverylaw08_ShapeTells.j0, if_neg (by decide), hkids, Option.bind_some, hE, Option.bind_some, hdepth, Option.bind_some, k5 _ (by omega), Option.bind_some]
    simp only [if_true]
    rw [liverylaw08_ShapeTells.j1]
    simp only [bne_self_eq_false, Bool.false_eq_true, if_false, if_true]
    rw [k7 _ (by omega), Option.bind_some, k8 _ (by omega), Option.bind_some, if_pos rfl, k9 _ (by omega), Option.bind_some, if_pos rfl, k10 _ (by omega), Option.bind_some, if_pos rfl, k0 _ (by omega)]
    rfl
  · -- refused
    refine main (K0 + K5 + 2) fun k hk => ?_
    obtain ⟨k, rfl⟩ : ∃ k', k = k' + 2 := ⟨k - 2, by omega⟩
    rw [if_pos h0] at hkids hdepth
    have hE : shape_End.f (k + 1) l0_2 a1 = some (0, M) := by
      unfold shape_End.f
      rw [hm, Option.bind_some, if_neg h0]
    rw [liverylaw08_ShapeTells.j0, if_neg (by decide), hkids, Option.bind_some, hE, Option.bind_some, hdepth, Option.bind_some, k5 _ (by omega), Option.bind_some]
    simp only [if_true]
    rw [liverylaw08_ShapeTells.j1]
    simp only [bne_self_eq_false, Bool.false_eq_true, if_false, if_neg h0, List.length_nil]
    rw [k0 _ (by omega)]
    simp
end Go.Proofs.Ytkaokiiooakleaa.PShapeTells
