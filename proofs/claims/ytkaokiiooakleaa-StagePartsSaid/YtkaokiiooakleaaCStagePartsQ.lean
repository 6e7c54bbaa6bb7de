/- The statement StageParts over numbers and lists alone: of every input. No condition but that numbers are of their kind. -/
import Derived.Test.YtkaokiiooakleaaCStageParts0
import Derived.Test.YtkaokiiooakleaaCStageParts1
import Derived.Test.YtkaokiiooakleaaCStageParts10
import Derived.Test.YtkaokiiooakleaaCStageParts11
import Derived.Test.YtkaokiiooakleaaCStageParts12
import Derived.Test.YtkaokiiooakleaaCStageParts13
import Derived.Test.YtkaokiiooakleaaCStageParts2
import Derived.Test.YtkaokiiooakleaaCStageParts3
import Derived.Test.YtkaokiiooakleaaCStageParts4
import Derived.Test.YtkaokiiooakleaaCStageParts5
import Derived.Test.YtkaokiiooakleaaCStageParts6
import Derived.Test.YtkaokiiooakleaaCStageParts7
import Derived.Test.YtkaokiiooakleaaCStageParts8
import Derived.Test.YtkaokiiooakleaaCStageParts9
import Derived.Test.YtkaokiiooakleaaCStagePartsW
set_option linter.unusedVariables false
namespace Go.Proofs.Ytkaokiiooakleaa.PStageParts
open Go.RowKit Go.Proofs.YtkaokiiooakleaaW.PrintWords Go.Proofs.YtkaokiiooakleaaW.PrintLast Go.Proofs.YtkaokiiooakleaaW.PrintMore
section
open ShapeM
/-! #### the parts of a definition, as the walk sees them -/
abbrev Rw (l : List S65) := Row (Sh.errE l) (Sh.K65 l) (Sh.C65 l)
abbrev Fl (l : List S65) := Fail (Sh.errE l) (Sh.K65 l) (Sh.C65 l)
theorem kindP_nat (l : List S65) (q : Nat) : kindP (Sh.C65 l) (q : Int) = (rd_T65 l q).f0 := by
  unfold kindP
  rw [if_neg (by omega)]
  rfl
theorem K_eq {l : List S65} {a d : Nat} {i : Int} (h : Sh.errE l a d i = 0) : ((Sh.K65 l a : Nat) : Int) = (rd_T65 l a).f4 := by
  have := Sh.errE_ok h
  unfold Sh.K65
  omega
theorem err_of {l : List S65} {a d : Nat} {i : Int} : Sh.errE l a d i = 0 ∨ Sh.errE l a d i = 81 ∨ Sh.errE l a d i = 80 := by
  unfold Sh.errE
  split
  · exact .inr (.inl rfl)
  · split
    · exact .inr (.inr rfl)
    · exact .inl rfl
/-- What may stand deep may stand less deep, and at the top. -/
theorem err_rise {l : List S65} : ∀ a d d' p, d' ≤ d → Sh.errE l a d p = 0 → Sh.errE l a d' p = 0 ∧ Sh.errE l a d' 0 = 0 := by
  intro a d d' p hd h
  unfold Sh.errE at h ⊢
  split at h
  · cases h
  · rename_i h1
    split at h
    · cases h
    · rename_i h2
      have h3 : ¬ (Sh.is1 l a || Sh.is2 l a || ((0 : Int) == 2 && !((rd_T65 l a).f0 == 0))) = true := by
        simp only [Bool.or_eq_true, not_or] at h1 ⊢
        exact ⟨h1.1, by simp⟩
      exact ⟨by rw [if_neg h1, if_neg (by omega)], by rw [if_neg h3, if_neg (by omega)]⟩
theorem row_or_fail (l : List S65) : ∀ (n a : Nat), 64 - a = n → ∀ (k : Nat) (p : Int) (d : Nat), (∃ b L, Rw l a k p d b L) ∨ (∃ wh e, Fl l a k p d wh e) := by
  intro n
  induction n using Nat.strongRecOn with
  | ind n ih =>
    intro a hn k p d
    cases k with
    | zero => exact .inl ⟨_, _, .nil _ _ _⟩
    | succ k =>
      by_cases he : Sh.errE l a d (kindP (Sh.C65 l) p) = 0
      · have ha := (Sh.errE_ok he).2.1
        rcases ih (64 - (a + 1)) (by omega) (a + 1) rfl (Sh.K65 l a) a (d + 1) with ⟨mid, L, h1⟩ | ⟨wh, e, h1⟩
        · have := h1.le
          by_cases hk : k = 0
          · subst hk
            exact .inl ⟨_, _, .cons he h1 (.nil _ _ _)⟩
          · rcases ih (64 - mid) (by omega) mid rfl k p d with ⟨b, M, h2⟩ | ⟨wh, e, h2⟩
            · exact .inl ⟨_, _, .cons he h1 h2⟩
            · exact .inr ⟨_, _, .next he h1 h2⟩
        · exact .inr ⟨_, _, .kid he h1⟩
      · exact .inr ⟨_, _, .here he⟩
theorem row_top {l : List S65} {a k d b : Nat} {p : Int} {L : List (Nat × Int × Nat)} (h : Rw l a k p d b L) : b ≤ max a 64 ∧ (a < b → b ≤ l.length) := by
  induction h with
  | nil => exact ⟨by omega, fun h => by omega⟩
  | @cons a k d mid b p L M he h1 h2 i1 i2 =>
    have := Sh.errE_ok he
    have := h1.le
    have := h2.le
    refine ⟨by omega, fun _ => ?_⟩
    rcases Nat.lt_or_ge mid b with h3 | h3
    · exact i2.2 h3
    · have : b = mid := by omega
      subst this
      rcases Nat.lt_or_ge (a + 1) b with h4 | h4
      · exact i1.2 h4
      · omega
theorem fail_top {l : List S65} {a k d wh : Nat} {p e : Int} (h : Fl l a k p d wh e) : wh ≤ max a 64 ∧ e ≠ 0 := by
  induction h with
  | here he => exact ⟨by omega, he⟩
  | kid he h1 i1 =>
    have := Sh.errE_ok he
    exact ⟨by omega, i1.2⟩
  | next he h0 h1 i1 =>
    have := Sh.errE_ok he
    have := (row_top h0).1
    exact ⟨by omega, i1.2⟩
end
section
open ShapeM
/-! #### the document's reading -/
theorem bad_f (x : S65) (h0 : 0 ≤ x.f0) (h1 : 0 ≤ x.f1) (h2 : 0 ≤ x.f2) : liveryref08_bad.f x.f0 x.f1 x.f2 x.f3 x.f4 = some (decide (4 < x.f0) || (if x.f0 = 0 then Sh.atomB x else Sh.otherB x)) := by
  unfold liveryref08_bad.f Sh.atomB Sh.otherB
  by_cases c0 : x.f0 = 0
  · rw [if_pos c0, if_pos c0, decide_eq_false (show ¬ 4 < x.f0 by omega), Bool.false_or]
    by_cases c4 : x.f4 = 0
    · rw [if_pos c4]
      by_cases c1 : x.f1 = 0
      · rw [if_pos c1, decide_eq_true (by omega)]
      · rw [if_neg c1]
        by_cases c5 : x.f1 > 4096
        · rw [if_pos c5, decide_eq_true (by omega)]
        · rw [if_neg c5]
          by_cases c2 : x.f2 = 0
          · rw [if_pos c2, decide_eq_true (by omega)]
          · rw [if_neg c2]
            by_cases c6 : x.f2 > x.f1
            · rw [if_pos c6, decide_eq_true (by omega)]
            · rw [if_neg c6]
              by_cases c7 : Int.tmod x.f1 x.f2 = 0
              · rw [if_pos c7]
                by_cases c8 : x.f3 < 1
                · rw [if_pos c8, decide_eq_true (by omega)]
                · rw [if_neg c8]
                  congr 1
                  apply decide_eq_decide.2
                  constructor
                  · intro h; omega
                  · rintro (h | h | h | h | h | h | h | h)
                    · exact absurd c4 h
                    · omega
                    · omega
                    · omega
                    · omega
                    · exact absurd c7 h
                    · omega
                    · exact h
              · rw [if_neg c7, decide_eq_true (.inr (.inr (.inr (.inr (.inr (.inl c7))))))]
    · rw [if_neg c4, decide_eq_true (.inl c4)]
  · rw [if_neg c0, if_neg c0]
    by_cases c5 : x.f0 > 4
    · rw [if_pos c5, decide_eq_true (show 4 < x.f0 from c5), Bool.true_or]
    · rw [if_neg c5, decide_eq_false (show ¬ 4 < x.f0 from c5), Bool.false_or]
      by_cases c4 : x.f4 < 1
      · rw [if_pos c4, decide_eq_true (by omega)]
      · rw [if_neg c4]
        by_cases c6 : x.f4 > 16
        · rw [if_pos c6, decide_eq_true (by omega)]
        · rw [if_neg c6]
          by_cases c1 : x.f1 = 0
          · rw [if_pos c1]
            by_cases c2 : x.f2 = 0
            · rw [if_pos c2]
              congr 1
              rw [Bool.eq_iff_iff, bne_iff_ne, decide_eq_true_iff]
              omega
            · rw [if_neg c2, decide_eq_true (by omega)]
          · rw [if_neg c1, decide_eq_true (by omega)]
/-- The parts' numbers are of their kinds. -/
def Wf (l : List S65) : Prop := l.length ≤ 9223372036854775807 ∧ ∀ x ∈ l, 0 ≤ x.f0 ∧ 0 ≤ x.f1 ∧ 0 ≤ x.f2
theorem rd_wf {l : List S65} (h : Wf l) (a : Nat) (ha : a < l.length) : 0 ≤ (rd_T65 l a).f0 ∧ 0 ≤ (rd_T65 l a).f1 ∧ 0 ≤ (rd_T65 l a).f2 := by
  unfold rd_T65
  rw [show ((a : Int)).toNat = a from rfl, List.getD_eq_getElem?_getD, List.getElem?_eq_getElem ha]
  exact h.2 _ (List.getElem_mem ha)
/-- One term of the document's reading. -/
theorem read_step {l : List S65} (hw : Wf l) (k a d : Nat) (i : Int) (hd : d ≤ 1000) :
    liveryref08_read.f (k + 2) l a d i = if Sh.errE l a d i = 0 then liveryref08_read.l0 k l a d (a + 1 : Nat) 0 else some (0, (a : Int), Sh.errE l a d i) := by
  unfold liveryref08_read.f
  have e1 : ∀ b, liveryref08_read.j0 (k + 1) l a d b = if b = true then some (0, (a : Int), 81) else if (d : Int) > 8 then some (0, (a : Int), 80) else liveryref08_read.l0 k l a d (wrap64 ((a : Int) + 1)) 0 := by
    intro b
    rw [liveryref08_read.j0]
  by_cases c1 : (a : Int) ≥ l.length
  · have : Sh.errE l a d i = 81 := by
      unfold Sh.errE Sh.is1
      rw [if_pos (by simp; omega)]
    rw [if_pos c1, e1, if_pos rfl, this]
    rfl
  · rw [if_neg c1]
    by_cases c2 : (a : Int) ≥ 64
    · have : Sh.errE l a d i = 81 := by
        unfold Sh.errE Sh.is1
        rw [if_pos (by simp; omega)]
      rw [if_pos c2, e1, if_pos rfl, this]
      rfl
    · rw [if_neg c2, if_pos (by omega), if_pos (by omega)]
      obtain ⟨w0, w1, w2⟩ := rd_wf hw a (by omega)
      rw [bad_f _ w0 w1 w2, Option.bind_some]
      have e2 : Sh.is1 l a = decide (4 < (rd_T65 l a).f0) := by
        unfold Sh.is1
        rw [decide_eq_false (show ¬ (l.length : Int) ≤ (a : Int) by omega), decide_eq_false (show ¬ (64 : Int) ≤ (a : Int) by omega), Bool.false_or, Bool.false_or]
      have e3 : Sh.is2 l a = (if (rd_T65 l a).f0 = 0 then Sh.atomB (rd_T65 l a) else Sh.otherB (rd_T65 l a)) := rfl
      have ew : wrap64 ((a : Int) + 1) = ((a + 1 : Nat) : Int) := by unfold wrap64; omega
      rw [← e2, ← e3]
      by_cases c3 : (Sh.is1 l a || Sh.is2 l a) = true
      · have : Sh.errE l a d i = 81 := by
          unfold Sh.errE
          rw [if_pos (by simp only [Bool.or_eq_true] at c3 ⊢; exact .inl c3)]
        rw [if_pos c3, e1, if_pos rfl, this]
        rfl
      · rw [if_neg c3]
        have c3' : (Sh.is1 l a || Sh.is2 l a) = false := by simpa using c3
        have key : ∀ b : Bool, (Sh.is1 l a || Sh.is2 l a || (i == 2 && !((rd_T65 l a).f0 == 0))) = b → liveryref08_read.j0 (k + 1) l a d b = if Sh.errE l a d i = 0 then liveryref08_read.l0 k l a d (a + 1 : Nat) 0 else some (0, (a : Int), Sh.errE l a d i) := by
          intro b hb
          rw [e1, ew]
          unfold Sh.errE
          rw [hb]
          cases b with
          | true => simp
          | false =>
            simp only [Bool.false_eq_true, if_false]
            by_cases c8 : 8 < d
            · rw [if_pos (by omega), if_pos c8, if_neg (by decide)]
            · rw [if_neg (by omega), if_neg c8, if_pos rfl]
        by_cases ci : i = 2
        · rw [if_pos ci]
          apply key
          rw [c3', Bool.false_or, ci]
          simp [bne]
        · rw [if_neg ci]
          apply key
          rw [c3', Bool.false_or]
          simp [ci]
/-- The loop over a part's children. -/
theorem read_loop {l : List S65} (k q d a j : Nat) (hq : q < l.length) (hj : j ≤ 16) (hd : d ≤ 1000) :
    liveryref08_read.l0 (k + 1) l q d a j = if (j : Int) < (rd_T65 l q).f4 then ((liveryref08_read.f k l a (d + 1 : Nat) ((rd_T65 l q).f0)).bind fun t => if t.2.2 = 0 then liveryref08_read.l0 k l q d t.1 (j + 1 : Nat) else some (0, t.2.1, t.2.2)) else some ((a : Int), 0, 0) := by
  rw [liveryref08_read.l0, if_pos (by omega), if_pos (by omega)]
  have e1 : wrap64 ((d : Int) + 1) = ((d + 1 : Nat) : Int) := by unfold wrap64; omega
  have e2 : wrap64 ((j : Int) + 1) = ((j + 1 : Nat) : Int) := by unfold wrap64; omega
  rw [e1, e2]
theorem read_row {l : List S65} (hw : Wf l) {a k d b : Nat} {p : Int} {L : List (Nat × Int × Nat)} (h : Rw l a k p d b L) : ∀ q : Nat, p = q → q < l.length → 1 ≤ d → d ≤ 1000 → ∀ j : Nat, (rd_T65 l q).f4 = ((j + k : Nat) : Int) → j + k ≤ 16 →
    ∃ n, ∀ f, n ≤ f → liveryref08_read.l0 f l q ((d - 1 : Nat) : Int) a j = some ((b : Int), 0, 0) := by
  induction h with
  | nil a p d =>
    intro q hp hq hd0 hd j hj hj16
    refine ⟨1, fun f hf => ?_⟩
    try dsimp only
    obtain ⟨f, rfl⟩ : ∃ f', f = f' + 1 := ⟨f - 1, by omega⟩
    rw [read_loop f q (d - 1) a j hq (by omega) (by omega), if_neg (by omega)]
  | @cons a k d mid b p L M he h1 h2 i1 i2 =>
    intro q hp hq hd0 hd j hj hj16
    subst hp
    have hok := Sh.errE_ok he
    have hK := K_eq he
    obtain ⟨n1, g1⟩ := i1 a rfl hok.1 (by omega) (by omega) 0 (by omega) (by omega)
    obtain ⟨n2, g2⟩ := i2 q rfl hq hd0 hd (j + 1) (by omega) (by omega)
    rw [kindP_nat] at he
    refine ⟨n1 + n2 + 3, fun f hf => ?_⟩
    try dsimp only
    obtain ⟨f, rfl⟩ : ∃ f', f = f' + 2 + 1 := ⟨f - 3, by omega⟩
    have hd1 : d - 1 + 1 = d := by omega
    rw [read_loop (f + 2) q (d - 1) a j hq (by omega) (by omega), if_pos (by omega), hd1, read_step hw f a d _ hd, if_pos he]
    have := g1 f (by omega)
    rw [show ((d + 1 - 1 : Nat) : Int) = (d : Int) by omega] at this
    have e0 : ((0 : Nat) : Int) = 0 := rfl
    rw [e0] at this
    rw [this, Option.bind_some]
    simp only [if_true]
    exact g2 (f + 2) (by omega)
theorem read_fail {l : List S65} (hw : Wf l) {a k d wh : Nat} {p e : Int} (h : Fl l a k p d wh e) : ∀ q : Nat, p = q → q < l.length → 1 ≤ d → d ≤ 1000 → ∀ j : Nat, (rd_T65 l q).f4 = ((j + k : Nat) : Int) → j + k ≤ 16 →
    ∃ n, ∀ f, n ≤ f → liveryref08_read.l0 f l q ((d - 1 : Nat) : Int) a j = some (0, (wh : Int), e) := by
  induction h with
  | @here a k d p he =>
    intro q hp hq hd0 hd j hj hj16
    subst hp
    have hd1 : d - 1 + 1 = d := by omega
    rw [kindP_nat] at he ⊢
    refine ⟨3, fun f hf => ?_⟩
    try dsimp only
    obtain ⟨f, rfl⟩ : ∃ f', f = f' + 2 + 1 := ⟨f - 3, by omega⟩
    rw [read_loop (f + 2) q (d - 1) a j hq (by omega) (by omega), if_pos (by omega), hd1, read_step hw f a d _ hd, if_neg he, Option.bind_some]
    simp only
    rw [if_neg he]
  | @kid a k d wh p e he h1 i1 =>
    intro q hp hq hd0 hd j hj hj16
    subst hp
    have hok := Sh.errE_ok he
    have hK := K_eq he
    obtain ⟨n1, g1⟩ := i1 a rfl hok.1 (by omega) (by omega) 0 (by omega) (by omega)
    have hne := (fail_top h1).2
    rw [kindP_nat] at he
    refine ⟨n1 + 3, fun f hf => ?_⟩
    try dsimp only
    obtain ⟨f, rfl⟩ : ∃ f', f = f' + 2 + 1 := ⟨f - 3, by omega⟩
    have hd1 : d - 1 + 1 = d := by omega
    rw [read_loop (f + 2) q (d - 1) a j hq (by omega) (by omega), if_pos (by omega), hd1, read_step hw f a d _ hd, if_pos he]
    have := g1 f (by omega)
    rw [show ((d + 1 - 1 : Nat) : Int) = (d : Int) by omega] at this
    have e0 : ((0 : Nat) : Int) = 0 := rfl
    rw [e0] at this
    rw [this, Option.bind_some]
    simp only
    rw [if_neg hne]
  | @next a k d mid wh p e L he h0 h1 i1 =>
    intro q hp hq hd0 hd j hj hj16
    subst hp
    have hok := Sh.errE_ok he
    have hK := K_eq he
    obtain ⟨n1, g1⟩ := read_row hw h0 a rfl hok.1 (by omega) (by omega) 0 (by omega) (by omega)
    obtain ⟨n2, g2⟩ := i1 q rfl hq hd0 hd (j + 1) (by omega) (by omega)
    rw [kindP_nat] at he
    refine ⟨n1 + n2 + 3, fun f hf => ?_⟩
    try dsimp only
    obtain ⟨f, rfl⟩ : ∃ f', f = f' + 2 + 1 := ⟨f - 3, by omega⟩
    have hd1 : d - 1 + 1 = d := by omega
    rw [read_loop (f + 2) q (d - 1) a j hq (by omega) (by omega), if_pos (by omega), hd1, read_step hw f a d _ hd, if_pos he]
    have := g1 f (by omega)
    rw [show ((d + 1 - 1 : Nat) : Int) = (d : Int) by omega] at this
    have e0 : ((0 : Nat) : Int) = 0 := rfl
    rw [e0] at this
    rw [this, Option.bind_some]
    simp only [if_true]
    exact g2 (f + 2) (by omega)
/-- A term at the top. -/
theorem read_term {l : List S65} (hw : Wf l) {a b : Nat} {M : List (Nat × Int × Nat)} (h : Rw l a 1 (-1) 1 b M) : Ev (fun k => liveryref08_read.f k l a 1 0) ((b : Int), 0, 0) := by
  cases h with
  | cons he h1 h2 =>
    cases h2
    have hok := Sh.errE_ok he
    have hK := K_eq he
    obtain ⟨n1, g1⟩ := read_row hw h1 a rfl hok.1 (by omega) (by omega) 0 (by omega) (by omega)
    have he' : Sh.errE l a 1 0 = 0 := he
    refine ⟨n1 + 2, fun f hf => ?_⟩
    try dsimp only
    obtain ⟨f, rfl⟩ : ∃ f', f = f' + 2 := ⟨f - 2, by omega⟩
    have h3 := read_step hw f a 1 0 (by omega)
    rw [if_pos he'] at h3
    exact h3.trans (g1 f (by omega))
/-- What the walk tells of the whole. -/
theorem treeF_row {l : List S65} {b : Nat} {L : List (Nat × Int × Nat)} (h : Rw l 0 1 (-1) 1 b L) : Sh.treeF l = (if (b : Int) < l.length then ((b : Int), 81) else (0, 0)) ∧ Sh.walk65 l = (L, b, 0) := by
  have hb := (row_top h).1
  have : Sh.walk65 l = (L, b, 0) := walk_row h (by omega)
  refine ⟨?_, this⟩
  unfold Sh.treeF
  rw [this]
  rfl
theorem treeF_fail {l : List S65} {wh : Nat} {e : Int} (h : Fl l 0 1 (-1) 1 wh e) : Sh.treeF l = ((wh : Int), e) := by
  have hb := fail_top h
  have : (Sh.walk65 l).2 = (wh, e) := walk_fail h (by omega)
  unfold Sh.treeF
  rw [this]
  simp [hb.2]
/-- A definition that may be: the whole is one term. -/
theorem tree_ok {l : List S65} (h : (Sh.treeF l).2 = 0) : ∃ L, Rw l 0 1 (-1) 1 l.length L ∧ (Sh.walk65 l).1 = L := by
  rcases row_or_fail l 64 0 rfl 1 (-1) 1 with ⟨b, L, h1⟩ | ⟨wh, e, h1⟩
  · obtain ⟨h2, h3⟩ := treeF_row h1
    rw [h2] at h
    have hle := h1.le
    by_cases hb : (b : Int) < l.length
    · rw [if_pos hb] at h; simp at h
    · have := (row_top h1).2 (by omega)
      have : b = l.length := by omega
      subst this
      exact ⟨L, h1, by rw [h3]⟩
  · rw [treeF_fail h1] at h
    exact absurd h (fail_top h1).2
end
section
open ShapeM
/-! #### of a definition that may be: ends, children, depths -/
/-- Where a term ends. -/
noncomputable def en (l : List S65) (a : Nat) : Nat := open Classical in if h : ∃ b, Span (Sh.K65 l) a 1 b then Classical.choose h else 0
theorem en_eq {l : List S65} {a b : Nat} (h : Span (Sh.K65 l) a 1 b) : en l a = b := by
  have hx : ∃ b, Span (Sh.K65 l) a 1 b := ⟨b, h⟩
  unfold en
  rw [dif_pos hx]
  exact (Classical.choose_spec hx).fix h
/-- A part of a row as a term at the top. -/
theorem row_part {l : List S65} {a k d b : Nat} {p : Int} {L : List (Nat × Int × Nat)} (h : Rw l a k p d b L) {x : Nat × Int × Nat} (hx : x ∈ L) (hd : 1 ≤ d) : ∃ M, Rw l x.1 1 (-1) 1 (en l x.1) M ∧ en l x.1 ≤ b ∧ x.1 < en l x.1 ∧ (∃ M', Rw l (x.1 + 1) (Sh.K65 l x.1) x.1 (x.2.2 + 1) (en l x.1) M') ∧ Sh.errE l x.1 x.2.2 (kindP (Sh.C65 l) x.2.1) = 0 := by
  obtain ⟨he, hd', e, M', h1, h2⟩ := h.sub x hx
  have h3 : Rw l x.1 1 x.2.1 x.2.2 e ((x.1, x.2.1, x.2.2) :: (M' ++ [])) := .cons he h1 (.nil _ _ _)
  have hen := en_eq h3.span
  obtain ⟨M, h4⟩ := (h3.rise err_rise 1 (by omega)).2 rfl
  have := h1.le
  exact ⟨M, by rw [hen]; exact h4, by rw [hen]; exact h2, by rw [hen]; omega, ⟨M', by rw [hen]; exact h1⟩, he⟩
theorem row_place {l : List S65} {b : Nat} {L : List (Nat × Int × Nat)} (h : Rw l 0 1 (-1) 1 b L) {q : Nat} (hq : q < b) : ∃ x ∈ L, x.1 = q := by
  have : q ∈ L.map (·.1) := by
    rw [h.places]
    exact List.mem_range'_1.2 ⟨by omega, by omega⟩
  obtain ⟨x, hx, he⟩ := List.mem_map.1 this
  exact ⟨x, hx, he⟩
theorem End_ref {l : List S65} (hw : Wf l) {b : Nat} {L : List (Nat × Int × Nat)} (h : Rw l 0 1 (-1) 1 b L) {q : Nat} (hq : q < b) : Ev (fun k => liveryref08_End.f k l q) ((en l q : Nat) : Int) := by
  obtain ⟨x, hx, rfl⟩ := row_place h hq
  obtain ⟨M, h1, _⟩ := row_part h hx (by omega)
  obtain ⟨n, g⟩ := read_term hw h1
  refine ⟨n, fun f hf => ?_⟩
  try dsimp only
  have := g f hf
  dsimp only at this
  unfold liveryref08_End.f
  rw [this]
  rfl
/-- The children, as the document tells them. -/
theorem RefKids_loop {l : List S65} (hw : Wf l) {a k d b : Nat} {p : Int} {L : List (Nat × Int × Nat)} (h : Rw l a k p d b L) : ∀ (q : Nat) (acc : List Int) (T : List Nat), q < l.length → 1 ≤ d → Tops (Sh.K65 l) a k T → ∀ j : Nat, (rd_T65 l q).f4 = ((j + k : Nat) : Int) → j + k ≤ 16 → acc.length + k ≤ 1000 →
    Ev (fun f => liveryref08_Kids.l0 f l q acc a j) (acc ++ T.map fun (i : Nat) => (i : Int)) := by
  induction h with
  | nil a p d =>
    intro q acc T hq hd hT j hj hj16 hacc
    cases hT
    refine ⟨1, fun f hf => ?_⟩
    try dsimp only
    obtain ⟨f, rfl⟩ : ∃ f', f = f' + 1 := ⟨f - 1, by omega⟩
    rw [liveryref08_Kids.l0, if_pos (by omega), if_pos (by omega), if_neg (by omega)]
    simp
  | @cons a k d mid b p L M he h1 h2 i1 i2 =>
    intro q acc T hq hd hT j hj hj16 hacc
    have h3 : Rw l a 1 p d mid ((a, p, d) :: (L ++ [])) := .cons he h1 (.nil _ _ _)
    obtain ⟨M', h4⟩ := (h3.rise err_rise 1 (by omega)).2 rfl
    obtain ⟨n1, g1⟩ := read_term hw h4
    cases hT with
    | @cons _ _ mid' T' hs hT' =>
      have := h1.span.fix hs
      subst this
      obtain ⟨n2, g2⟩ := i2 q (acc ++ [(a : Int)]) T' hq hd hT' (j + 1) (by omega) (by omega) (by simp; omega)
      refine ⟨n1 + n2 + 1, fun f hf => ?_⟩
      try dsimp only
      obtain ⟨f, rfl⟩ : ∃ f', f = f' + 1 := ⟨f - 1, by omega⟩
      have a1 := g1 f (by omega)
      have a2 := g2 f (by omega)
      dsimp only at a1 a2
      rw [liveryref08_Kids.l0, if_pos (by omega), if_pos (by omega), if_pos (by omega), if_pos (by omega)]
      unfold liveryref08_End.f
      rw [a1, Option.bind_some, Option.bind_some, show wrap64 ((j : Int) + 1) = ((j + 1 : Nat) : Int) by unfold wrap64; omega]
      simp only
      rw [a2]
      simp
theorem kidsI_kidsOf (L : List (Nat × Int × Nat)) (q : Int) : Sh.kidsI L q = (kidsOf L q).map fun (i : Nat) => (i : Int) := by
  unfold Sh.kidsI kidsOf
  rw [List.map_map]
  rfl
theorem Kids_ref {l : List S65} (hw : Wf l) {b : Nat} {L : List (Nat × Int × Nat)} (h : Rw l 0 1 (-1) 1 b L) {q : Nat} (hq : q < b) : Ev (fun k => liveryref08_Kids.f k l q) (Sh.kidsI L q) := by
  obtain ⟨x, hx, hxq⟩ := row_place h hq
  obtain ⟨M, _, _, _, ⟨M', h1⟩, he⟩ := row_part h hx (by omega)
  rw [hxq] at h1 he
  have hT := h.kids (by omega) q (by omega) hq
  have hok := Sh.errE_ok he
  have hK := K_eq he
  have := RefKids_loop hw h1 q [] _ hok.1 (by omega) hT 0 (by omega) (by omega) (by simp; omega)
  rw [kidsI_kidsOf]
  obtain ⟨n, g⟩ := this
  refine ⟨n, fun f hf => ?_⟩
  try dsimp only
  have := g f hf
  dsimp only at this
  unfold liveryref08_Kids.f
  rw [show wrap64 ((q : Int) + 1) = ((q + 1 : Nat) : Int) by unfold wrap64; omega]
  simpa using this
end
section
/-! #### stages: what check tells, and where windows end -/
def totS : List Int → Int
  | [] => 0
  | n :: r => n + totS r
def sumW : Int → List Int → Int
  | s, [] => s
  | s, n :: r => sumW (wrap64 (s + n)) r
def badL (x : Int) : Bool := decide (x < 1) || decide (x > 4096)
def farB (x : Int) : Bool := decide (x < -1099511627776) || decide (x > 1099511627776)
theorem w64 {x : Int} (h1 : -9223372036854775808 ≤ x) (h2 : x ≤ 9223372036854775807) : wrap64 x = x := by
  unfold wrap64
  omega
theorem far_f (x : Int) : stage_far.f x = some (farB x) := by
  unfold stage_far.f farB
  split
  · rename_i h; rw [decide_eq_true h]; rfl
  · rename_i h; rw [decide_eq_false h]; rfl
def chkFin (F T s : Int) (b : Bool) : Int × Int := if b = true then (0, 2) else if (farB F || farB T) = true then (0, 10) else (s, 0)
def chkB (F T : Int) (l : List Int) : Bool := decide ((l.length : Int) = 0) || (decide ((l.length : Int) > 16) || (decide (F ≥ T) || decide (IntKind.u64.wrap (wrap64 (T - F)) > 4096)))
def checkR (F T : Int) (l : List Int) : Int × Int := chkFin F T (sumW 0 l) (chkB F T l || l.any badL)
theorem rd_nat {l : List Int} {i : Nat} (h : i < l.length) : rd l (i : Int) = l[i] := by
  unfold rd
  rw [show ((i : Nat) : Int).toNat = i from rfl, List.getD_eq_getElem?_getD, List.getElem?_eq_getElem h]
  rfl
theorem check_loop (l : List Int) (F T : Int) (hl : l.length ≤ 9223372036854775807) : ∀ (n i : Nat) (s : Int) (b : Bool), l.length - i = n → i ≤ l.length →
    Ev (fun k => stage_check.l0 k s b l (l.length : Int) (i : Int) F T) (chkFin F T (sumW s (l.drop i)) (b || (l.drop i).any badL)) := by
  intro n
  induction n with
  | zero =>
    intro i s b hn hi
    rw [List.drop_eq_nil_of_le (by omega)]
    refine ⟨1, fun k hk => ?_⟩
    obtain ⟨k, rfl⟩ : ∃ k', k = k' + 1 := ⟨k - 1, by omega⟩
    show stage_check.l0 (k + 1) s b l (l.length : Int) (i : Int) F T = _
    rw [stage_check.l0, if_neg (by omega)]
    cases b with
    | true => rfl
    | false =>
      rw [if_neg (by decide), far_f, far_f, Option.bind_some]
      unfold chkFin
      cases farB F with
      | true => rfl
      | false =>
        cases farB T with
        | true => rfl
        | false => rfl
  | succ n ih =>
    intro i s b hn hi
    have hi' : i < l.length := by omega
    rw [List.drop_eq_getElem_cons hi']
    have hx := rd_nat hi'
    have e1 : wrap64 ((i : Int) + 1) = ((i + 1 : Nat) : Int) := by unfold wrap64; omega
    cases b with
    | true =>
      have := ih (i + 1) (wrap64 (s + l[i])) true (by omega) hi'
      refine Ev.step (fun k => ?_) this
      show stage_check.l0 (k + 1) s true l (l.length : Int) (i : Int) F T = _
      rw [stage_check.l0, if_pos (by omega), if_pos (by omega), if_pos (by omega), if_pos rfl, hx, e1]
    | false =>
      by_cases hb : l[i] < 1
      · have := ih (i + 1) (wrap64 (s + l[i])) true (by omega) hi'
        have e2 : (false || (l[i] :: l.drop (i + 1)).any badL) = (true || (l.drop (i + 1)).any badL) := by
          rw [List.any_cons, show badL l[i] = true by unfold badL; rw [decide_eq_true hb]; rfl]
          rfl
        rw [e2]
        refine Ev.step (fun k => ?_) this
        show stage_check.l0 (k + 1) s false l (l.length : Int) (i : Int) F T = _
        rw [stage_check.l0, if_pos (by omega), if_pos (by omega), if_pos (by omega), if_neg (by decide), hx, if_pos hb, e1]
      · have := ih (i + 1) (wrap64 (s + l[i])) (decide (l[i] > 4096)) (by omega) hi'
        have e2 : (false || (l[i] :: l.drop (i + 1)).any badL) = (decide (l[i] > 4096) || (l.drop (i + 1)).any badL) := by
          rw [List.any_cons, show badL l[i] = decide (l[i] > 4096) by unfold badL; rw [decide_eq_false hb]; rfl]
          rfl
        rw [e2]
        refine Ev.step (fun k => ?_) this
        show stage_check.l0 (k + 1) s false l (l.length : Int) (i : Int) F T = _
        rw [stage_check.l0, if_pos (by omega), if_pos (by omega), if_pos (by omega), if_neg (by decide), hx, if_neg hb, e1]
theorem check_ev (F T : Int) (l : List Int) (hl : l.length ≤ 9223372036854775807) : Ev (fun k => stage_check.f k F T l) (checkR F T l) := by
  have key : ∀ b, Ev (fun k => stage_check.j0 k l 0 b F T) (chkFin F T (sumW 0 l) (b || l.any badL)) := fun b => by
    have := check_loop l F T hl l.length 0 0 b (by omega) (by omega)
    exact Ev.step (fun k => by rw [stage_check.j0]; rfl) this
  unfold checkR chkB
  by_cases h1 : (l.length : Int) = 0
  · rw [decide_eq_true h1, Bool.true_or]
    refine Ev.congr (fun k => ?_) (key true)
    unfold stage_check.f
    rw [if_pos h1]
  · rw [decide_eq_false h1, Bool.false_or]
    by_cases h2 : (l.length : Int) > 16
    · rw [decide_eq_true h2, Bool.true_or]
      refine Ev.congr (fun k => ?_) (key true)
      unfold stage_check.f
      rw [if_neg h1, if_pos h2]
    · rw [decide_eq_false h2, Bool.false_or]
      by_cases h3 : F ≥ T
      · rw [decide_eq_true h3, Bool.true_or]
        refine Ev.congr (fun k => ?_) (key true)
        unfold stage_check.f
        rw [if_neg h1, if_neg h2, if_pos h3]
      · rw [decide_eq_false h3, Bool.false_or]
        refine Ev.congr (fun k => ?_) (key _)
        unfold stage_check.f
        rw [if_neg h1, if_neg h2, if_neg h3]
theorem tot_bound : ∀ (l : List Int), (∀ x ∈ l, 1 ≤ x ∧ x ≤ 4096) → (l.length : Int) ≤ totS l ∧ totS l ≤ 4096 * (l.length : Int)
  | [], _ => by simp [totS]
  | x :: r, h => by
    have h1 := h x (by simp)
    have h2 := tot_bound r (fun y hy => h y (by simp [hy]))
    simp only [totS, List.length_cons]
    omega
theorem sumW_tot : ∀ (l : List Int) (s : Int), (∀ x ∈ l, 1 ≤ x ∧ x ≤ 4096) → 0 ≤ s → s + 4096 * (l.length : Int) ≤ 1000000 → sumW s l = s + totS l
  | [], s, _, _, _ => by simp [sumW, totS]
  | x :: r, s, h, h0, hs => by
    have h1 := h x (by simp)
    simp only [List.length_cons] at hs
    have e1 : wrap64 (s + x) = s + x := by unfold wrap64; omega
    rw [sumW, e1, sumW_tot r (s + x) (fun y hy => h y (by simp [hy])) (by omega) (by omega)]
    simp only [totS]
    omega
/-- What a good window and good stages are. -/
structure GoodS (F T : Int) (l : List Int) : Prop where
  n1 : 1 ≤ l.length
  n2 : l.length ≤ 16
  lt : F < T
  len : T - F ≤ 4096
  f1 : -1099511627776 ≤ F
  f2 : F ≤ 1099511627776
  t1 : -1099511627776 ≤ T
  t2 : T ≤ 1099511627776
  each : ∀ x ∈ l, 1 ≤ x ∧ x ≤ 4096
theorem check_ok {F T : Int} {l : List Int} (hF : -9223372036854775808 ≤ F ∧ F ≤ 9223372036854775807) (hT : -9223372036854775808 ≤ T ∧ T ≤ 9223372036854775807) (h : (checkR F T l).2 = 0) : GoodS F T l ∧ checkR F T l = (totS l, 0) := by
  have h0 : ¬ (chkB F T l || l.any badL) = true := fun hb => by unfold checkR chkFin at h; rw [if_pos hb] at h; cases h
  have h1 : ¬ (farB F || farB T) = true := fun hb => by unfold checkR chkFin at h; rw [if_neg h0, if_pos hb] at h; cases h
  have h2 : checkR F T l = (sumW 0 l, 0) := by unfold checkR chkFin; rw [if_neg h0, if_neg h1]
  simp only [chkB, farB, Bool.or_eq_true, decide_eq_true_eq, not_or, List.any_eq_true, not_exists] at h0 h1
  obtain ⟨⟨a1, a2, a3, a4⟩, a5⟩ := h0
  obtain ⟨⟨b1, b2⟩, b3, b4⟩ := h1
  have a6 : ∀ x ∈ l, 1 ≤ x ∧ x ≤ 4096 := fun x hx => by
    have := a5 x
    simp only [badL, Bool.or_eq_true, decide_eq_true_eq, not_and, not_or] at this
    have := this hx
    omega
  have a7 : IntKind.u64.wrap (wrap64 (T - F)) = T - F := by
    have e : IntKind.u64.wrap (wrap64 (T - F)) = (wrap64 (T - F)) % 18446744073709551616 := rfl
    rw [e]
    unfold wrap64
    omega
  rw [a7] at a4
  refine ⟨⟨by omega, by omega, by omega, by omega, by omega, by omega, by omega, by omega, a6⟩, ?_⟩
  rw [h2, sumW_tot l 0 a6 (by omega) (by omega)]
  simp
theorem chk_snd (F T : Int) (l : List Int) : (checkR F T l).2 = 0 ∨ (checkR F T l).2 = 2 ∨ (checkR F T l).2 = 10 := by
  unfold checkR chkFin
  split
  · exact .inr (.inl rfl)
  · split
    · exact .inr (.inr rfl)
    · exact .inl rfl
theorem slack_ev (F T : Int) (l : List Int) (hl : l.length ≤ 9223372036854775807) : Ev (fun k => stage_Slack.f k F T l) (if (checkR F T l).2 = 0 then (wrap64 (wrap64 (T - F) - (checkR F T l).1), 0) else (0, (checkR F T l).2)) := by
  obtain ⟨n, g⟩ := check_ev F T l hl
  refine ⟨n, fun k hk => ?_⟩
  have := g k hk
  dsimp only at this
  show stage_Slack.f k F T l = _
  unfold stage_Slack.f
  rw [this, Option.bind_some]
  split <;> rfl
theorem split_ev (F T : Int) (l : List Int) (hl : l.length ≤ 9223372036854775807) (q : Int) {r : List S71 × Int} (hr : St.splitR F T l q (checkR F T l).1 (checkR F T l).2 = some r) : Ev (fun k => stage_Split.f k F T l q) r := by
  obtain ⟨n, g⟩ := check_ev F T l hl
  refine ⟨n, fun k hk => ?_⟩
  have := g k hk
  dsimp only at this
  show stage_Split.f k F T l q = _
  unfold stage_Split.f
  rw [this, Option.bind_some]
  exact hr
/-! the windows -/
def slk (q : Nat) (s : Int) (i m : Nat) (p a : Int) : Int := match q with
  | 0 => if i = 0 then 0 else s
  | 1 => if i = m then s else 0
  | _ => s * p / a
def endS (q : Nat) (F s : Int) (l : List Int) (i : Nat) : Int := F + totS (l.take i) + slk q s i l.length (totS (l.take i)) (totS l)
theorem tot_take {l : List Int} {i : Nat} (h : i < l.length) : totS (l.take (i + 1)) = totS (l.take i) + l[i] := by
  induction l generalizing i with
  | nil => simp at h
  | cons x r ih =>
    cases i with
    | zero => simp [totS]
    | succ i =>
      have := ih (i := i) (by simpa using h)
      simp only [List.take_succ_cons, totS, List.getElem_cons_succ, this]
      omega
theorem tot_le {l : List Int} (h : ∀ x ∈ l, 1 ≤ x ∧ x ≤ 4096) (i : Nat) : 0 ≤ totS (l.take i) ∧ totS (l.take i) ≤ totS l := by
  have h1 := (tot_bound (l.take i) (fun x hx => h x (List.mem_of_mem_take hx))).1
  refine ⟨by omega, ?_⟩
  have h2 := (tot_bound (l.drop i) (fun x hx => h x (List.mem_of_mem_drop hx))).1
  have app : ∀ a b : List Int, totS (a ++ b) = totS a + totS b := by
    intro a b
    induction a with
    | nil => simp [totS]
    | cons x r ih => simp only [List.cons_append, totS, ih]; omega
  have := app (l.take i) (l.drop i)
  rw [List.take_append_drop] at this
  omega
structure GoodW (F s : Int) (l : List Int) : Prop where
  n1 : 1 ≤ l.length
  n2 : l.length ≤ 16
  f1 : -1099511627776 ≤ F
  f2 : F ≤ 1099511627776
  s1 : 0 ≤ s
  s2 : s ≤ 4096
  each : ∀ x ∈ l, 1 ≤ x ∧ x ≤ 4096
theorem GoodW.tot {F s : Int} {l : List Int} (g : GoodW F s l) : 1 ≤ totS l ∧ totS l ≤ 65536 := by
  have := tot_bound l g.each
  have := g.n1
  have := g.n2
  omega
theorem share {F s : Int} {l : List Int} (g : GoodW F s l) (i : Nat) : 0 ≤ s * totS (l.take i) ∧ s * totS (l.take i) ≤ 268435456 ∧ 0 ≤ s * totS (l.take i) / totS l ∧ s * totS (l.take i) / totS l ≤ s := by
  have ht := tot_le g.each i
  have hT := g.tot
  have h1 := g.s1
  have h2 := g.s2
  have p1 : 0 ≤ s * totS (l.take i) := Int.mul_nonneg h1 ht.1
  have p2 : s * totS (l.take i) ≤ 4096 * 65536 := Int.mul_le_mul h2 (by omega) ht.1 (by omega)
  refine ⟨p1, by omega, Int.ediv_nonneg p1 (by omega), ?_⟩
  have p3 : s * totS (l.take i) ≤ s * totS l := Int.mul_le_mul_of_nonneg_left ht.2 h1
  have p4 := Int.ediv_le_ediv (show 0 < totS l by omega) p3
  rw [Int.mul_ediv_cancel _ (by omega)] at p4
  exact p4
theorem slk_step {F s : Int} {l : List Int} (g : GoodW F s l) (q : Nat) (hq : q ≤ 2) (i : Nat) (hi : i < l.length) :
    St.slackOf q s ((i + 1 : Nat) : Int) (l.length : Int) (totS (l.take (i + 1))) (totS l) = slk q s (i + 1) l.length (totS (l.take (i + 1))) (totS l) ∧ 0 ≤ slk q s (i + 1) l.length (totS (l.take (i + 1))) (totS l) ∧ slk q s (i + 1) l.length (totS (l.take (i + 1))) (totS l) ≤ s := by
  have h1 := g.s1
  obtain rfl | rfl | rfl : q = 0 ∨ q = 1 ∨ q = 2 := by omega
  · simp [St.slackOf, slk, h1]
  · simp only [St.slackOf, slk]
    by_cases h : i + 1 = l.length
    · rw [if_pos h, if_pos (by omega)]; exact ⟨rfl, h1, Int.le_refl _⟩
    · rw [if_neg h, if_neg (by omega)]; exact ⟨rfl, Int.le_refl _, h1⟩
  · have := share g (i + 1)
    have hT := g.tot
    simp only [St.slackOf, slk]
    have e1 : wrap64 (s * totS (l.take (i + 1))) = s * totS (l.take (i + 1)) := by unfold wrap64; omega
    rw [e1, Int.tdiv_eq_ediv_of_nonneg this.1]
    have := g.s2
    exact ⟨by unfold wrap64; omega, by omega, by omega⟩
theorem wins_list {F s : Int} {l : List Int} (g : GoodW F s l) (q : Nat) (hq : q ≤ 2) : ∀ (n i : Nat), l.length - i = n → i ≤ l.length →
    St.winsS q F s (l.length : Int) (totS l) (l.drop i) (i : Int) (totS (l.take i)) (endS q F s l i) = (List.range' i n).map fun j => (endS q F s l j, endS q F s l (j + 1)) := by
  intro n
  induction n with
  | zero =>
    intro i hn hi
    rw [List.drop_eq_nil_of_le (by omega)]
    rfl
  | succ n ih =>
    intro i hn hi
    have hi' : i < l.length := by omega
    rw [List.drop_eq_getElem_cons hi', St.winsS, List.range'_succ, List.map_cons]
    have h1 := g.f1
    have h2 := g.f2
    have h3 := g.tot
    have h4 := tot_le g.each (i + 1)
    have h5 := tot_take hi'
    have h6 := g.n2
    have h7 := g.s2
    obtain ⟨k1, k2, k3⟩ := slk_step g q hq i hi'
    have e1 : wrap64 ((i : Int) + 1) = ((i + 1 : Nat) : Int) := by unfold wrap64; omega
    have e2 : wrap64 (totS (l.take i) + l[i]) = totS (l.take (i + 1)) := by rw [← h5]; unfold wrap64; omega
    rw [e1, e2, k1]
    have e3 : wrap64 (wrap64 (F + totS (l.take (i + 1))) + slk q s (i + 1) l.length (totS (l.take (i + 1))) (totS l)) = endS q F s l (i + 1) := by
      unfold endS
      generalize slk q s (i + 1) l.length (totS (l.take (i + 1))) (totS l) = z at k2 k3 ⊢
      generalize totS (l.take (i + 1)) = y at h4 ⊢
      clear ih k1 e1 e2 h5
      rw [w64 (x := F + y) (by omega) (by omega), w64 (by omega) (by omega)]
    have hn' : l.length - (i + 1) = n := by clear k1 k2 k3 e1 e2 e3 h1 h2 h3 h4 h5 h6 h7 ih g; omega
    rw [e3, ih (i + 1) hn' hi']
/-- The windows. -/
def winL (q : Nat) (F s : Int) (l : List Int) : List S71 := (List.range' 0 l.length).map fun j => ⟨endS q F s l j, endS q F s l (j + 1)⟩
theorem end0 {F s : Int} {l : List Int} (g : GoodW F s l) (q : Nat) (hq : q ≤ 2) : endS q F s l 0 = F := by
  have := g.n1
  obtain rfl | rfl | rfl : q = 0 ∨ q = 1 ∨ q = 2 := by omega
  · simp [endS, slk, totS]
  · simp only [endS, slk, List.take_zero, totS]
    rw [if_neg (by omega)]
    omega
  · simp [endS, slk, totS]
theorem endm {F s : Int} {l : List Int} (g : GoodW F s l) (q : Nat) (hq : q ≤ 2) : endS q F s l l.length = F + totS l + s := by
  have h1 := g.n1
  have h2 := g.tot
  unfold endS
  rw [List.take_length]
  obtain rfl | rfl | rfl : q = 0 ∨ q = 1 ∨ q = 2 := by omega
  · simp only [slk]
    rw [if_neg (by omega)]
  · simp [slk]
  · simp only [slk]
    rw [Int.mul_ediv_cancel _ (by omega)]
theorem split_good {F T : Int} {l : List Int} (hF : -9223372036854775808 ≤ F ∧ F ≤ 9223372036854775807) (hT : -9223372036854775808 ≤ T ∧ T ≤ 9223372036854775807) (h : (checkR F T l).2 = 0) (q : Nat) (hq : q ≤ 2) :
    St.splitR F T l (q : Int) (checkR F T l).1 (checkR F T l).2 = some (if T - F < totS l then ([], 210) else (winL q F (T - F - totS l) l, 0)) := by
  obtain ⟨g, hc⟩ := check_ok hF hT h
  rw [hc]
  have h1 := g.n1; have h2 := g.n2; have h3 := g.lt; have h4 := g.len
  have h5 := tot_bound l g.each
  have e1 : wrap64 (T - F) = T - F := by unfold wrap64; omega
  unfold St.splitR
  dsimp only
  rw [if_neg (by decide), if_neg (by omega), if_neg (by decide), e1]
  by_cases hs : T - F < totS l
  · rw [if_pos (by omega), if_pos hs]
  · have g2 : GoodW F (T - F - totS l) l := ⟨h1, h2, g.f1, g.f2, by omega, by omega, g.each⟩
    have e2 : wrap64 (T - F - totS l) = T - F - totS l := by unfold wrap64; omega
    rw [if_neg (by omega), if_neg hs, if_pos ⟨by omega, by omega, by omega⟩, e2]
    have hw := wins_list g2 q hq l.length 0 (by omega) (by omega)
    rw [end0 g2 q hq] at hw
    have e3 : ((q : Nat) : Int).toNat = q := rfl
    rw [e3]
    have hw' : St.winsS q F (T - F - totS l) (l.length : Int) (totS l) l 0 0 F = (List.range' 0 l.length).map fun j => (endS q F (T - F - totS l) l j, endS q F (T - F - totS l) l (j + 1)) := hw
    rw [hw', List.map_map]
    rfl
theorem winL_len (q : Nat) (F s : Int) (l : List Int) : (winL q F s l).length = l.length := by simp [winL]
theorem winL_at {q : Nat} {F s : Int} {l : List Int} {i : Nat} (h : i < l.length) : rd_T71 (winL q F s l) (i : Int) = ⟨endS q F s l i, endS q F s l (i + 1)⟩ := by
  unfold rd_T71
  rw [show ((i : Nat) : Int).toNat = i from rfl, List.getD_eq_getElem?_getD, List.getElem?_eq_getElem (by simpa [winL] using h)]
  simp [winL]
end
set_option maxRecDepth 100000 in
theorem head_ev : Ev (fun k => liverylaw18_head.f k) true := Ev.of liverylaw18_head.mono (k := 40) (by kernel_rfl)
section
open ShapeM
/-! #### least lengths of a definition's parts -/
theorem row_up {l : List S65} {a k d b : Nat} {p : Int} {L : List (Nat × Int × Nat)} (h : Rw l a k p d b L) : ∀ y ∈ L, (y.2.1 = p ∧ y.2.2 = d) ∨ ∃ x ∈ L, y.2.1 = (x.1 : Int) ∧ y.2.2 = x.2.2 + 1 ∧ x.1 < y.1 := by
  induction h with
  | nil => intro y hy; cases hy
  | @cons a k d mid b p L M he h1 h2 i1 i2 =>
    intro y hy
    rcases List.mem_cons.1 hy with rfl | hy
    · exact .inl ⟨rfl, rfl⟩
    · rcases List.mem_append.1 hy with hy | hy
      · rcases i1 y hy with ⟨e1, e2⟩ | ⟨x, hx, e⟩
        · exact .inr ⟨(a, p, d), List.mem_cons_self .., e1, e2, by have := (h1.mem hy).1; simp only; omega⟩
        · exact .inr ⟨x, by simp [hx], e⟩
      · rcases i2 y hy with e | ⟨x, hx, e⟩
        · exact .inl e
        · exact .inr ⟨x, by simp [hx], e⟩
theorem row_one {l : List S65} {a k d b : Nat} {p : Int} {L : List (Nat × Int × Nat)} (h : Rw l a k p d b L) : ∀ x ∈ L, ∀ y ∈ L, x.1 = y.1 → x = y := by
  induction h with
  | nil => intro y hy; cases hy
  | @cons a k d mid b p L M he h1 h2 i1 i2 =>
    intro x hx y hy hxy
    rcases List.mem_cons.1 hx with rfl | hx
    · rcases List.mem_cons.1 hy with rfl | hy
      · rfl
      · rcases List.mem_append.1 hy with hy | hy
        · have := (h1.mem hy).1; simp only at hxy; omega
        · have := (h2.mem hy).1; have := h1.le; simp only at hxy; omega
    · rcases List.mem_cons.1 hy with rfl | hy
      · rcases List.mem_append.1 hx with hx | hx
        · have := (h1.mem hx).1; simp only at hxy; omega
        · have := (h2.mem hx).1; have := h1.le; simp only at hxy; omega
      · rcases List.mem_append.1 hx with hx | hx <;> rcases List.mem_append.1 hy with hy | hy
        · exact i1 x hx y hy hxy
        · have := (h1.mem hx).2; have := (h2.mem hy).1; omega
        · have := (h1.mem hy).2; have := (h2.mem hx).1; omega
        · exact i2 x hx y hy hxy
/-- The most that a part at a depth may need. -/
def most (d : Nat) : Int := 4096 * 16 ^ (8 - d)
theorem most_next {d : Nat} (h : d + 1 ≤ 8) : most d = 16 * most (d + 1) := by
  unfold most
  rw [show 8 - d = (8 - (d + 1)) + 1 by omega, Int.pow_succ]
  omega
theorem most_in (d : Nat) (h1 : 1 ≤ d) (h8 : d ≤ 8) : 4096 ≤ most d ∧ most d ≤ 1099511627776 := by
  obtain rfl | rfl | rfl | rfl | rfl | rfl | rfl | rfl : d = 1 ∨ d = 2 ∨ d = 3 ∨ d = 4 ∨ d = 5 ∨ d = 6 ∨ d = 7 ∨ d = 8 := by omega
  all_goals (unfold most; decide)
theorem Ev_one {α : Type} {g : Nat → Option α} {r s : α} (h : Ev g r) (k : Ev g s) : r = s := by
  obtain ⟨K, h⟩ := h
  obtain ⟨K', k⟩ := k
  have h1 := h (max K K') (by omega)
  have h2 := k (max K K') (by omega)
  rw [h1] at h2
  exact Option.some.inj h2
/-- A part's least length. -/
noncomputable def shV (l : List S65) (q : Int) : Int := open Classical in if h : ∃ v, Ev (fun k => St.shortF k l q) v then Classical.choose h else 0
theorem shV_ev {l : List S65} {q v : Int} (h : Ev (fun k => St.shortF k l q) v) : shV l q = v := by
  have hx : ∃ v, Ev (fun k => St.shortF k l q) v := ⟨v, h⟩
  unfold shV
  rw [dif_pos hx]
  exact Ev_one (Classical.choose_spec hx) h
theorem short_fold {l : List S65} {kd B : Int} (hB : 1 ≤ B ∧ B ≤ 1099511627776) : ∀ (ks : List Int) (n : Int) (c : Nat), (∀ k ∈ ks, Ev (fun f => St.shortF f l k) (shV l k) ∧ 1 ≤ shV l k ∧ shV l k ≤ B) → 1 ≤ n → n ≤ c * B → c + ks.length ≤ 16 → 1 ≤ c →
    ∃ r, Ev (fun f => St.shortL (St.shortF f l) kd ks n false) r ∧ 1 ≤ r ∧ r ≤ ((c + ks.length : Nat) : Int) * B ∧ (kd = 1 ∨ kd = 2 → r = n + (ks.map (shV l)).sum)
  | [], n, c, _, h1, h2, _, _ => ⟨n, Ev.now _, h1, by simpa using h2, fun _ => by simp⟩
  | k :: ks, n, c, h, h1, h2, h3, h4 => by
    obtain ⟨e, v1, v2⟩ := h k (by simp)
    have hc16 : (c : Int) * B ≤ 16 * B := Int.mul_le_mul_of_nonneg_right (by simp at h3; omega) (by omega)
    have hc1 : 1 * B ≤ (c : Int) * B := Int.mul_le_mul_of_nonneg_right (by omega) (by omega)
    have hcs : ((c + 1 : Nat) : Int) * B = (c : Int) * B + B := by rw [Int.natCast_add, Int.add_mul]; simp
    have hstep : 1 ≤ St.shortN kd n false (shV l k) ∧ St.shortN kd n false (shV l k) ≤ ((c + 1 : Nat) : Int) * B ∧ (kd = 1 ∨ kd = 2 → St.shortN kd n false (shV l k) = n + shV l k) := by
      unfold St.shortN
      rw [if_neg (by decide), hcs]
      split
      · split <;> exact ⟨by omega, by omega, by omega⟩
      · split
        · split <;> exact ⟨by omega, by omega, by omega⟩
        · have : wrap64 (n + shV l k) = n + shV l k := by unfold wrap64; omega
          rw [this]
          exact ⟨by omega, by omega, fun _ => rfl⟩
    obtain ⟨s1, s2, s3⟩ := hstep
    obtain ⟨r, g1, g2, g3, g4⟩ := short_fold (kd := kd) hB ks (St.shortN kd n false (shV l k)) (c + 1) (fun z hz => h z (by simp [hz])) s1 s2 (by simp at h3; omega) (by omega)
    refine ⟨r, Ev.bind (f := fun f v => St.shortL (St.shortF f l) kd ks (St.shortN kd n false v) false) e g1, g2, ?_, fun hk => ?_⟩
    · rw [show c + (k :: ks).length = c + 1 + ks.length by simp; omega]
      exact g3
    · rw [g4 hk, s3 hk]
      simp
      omega
theorem kids_mem {l : List S65} {L : List (Nat × Int × Nat)} (h : Rw l 0 1 (-1) 1 l.length L) {x : Nat × Int × Nat} (hx : x ∈ L) : ∀ k ∈ Sh.kidsI L x.1, ∃ y ∈ L, k = (y.1 : Int) ∧ y.2.2 = x.2.2 + 1 ∧ x.1 < y.1 := by
  intro k hk
  unfold Sh.kidsI at hk
  obtain ⟨y, hy, rfl⟩ := List.mem_map.1 hk
  obtain ⟨hy1, hy2⟩ := List.mem_filter.1 hy
  have hy3 : y.2.1 = (x.1 : Int) := by simpa using hy2
  refine ⟨y, hy1, rfl, ?_⟩
  rcases row_up h y hy1 with ⟨e1, _⟩ | ⟨z, hz, e1, e2, e3⟩
  · omega
  · have : z = x := row_one h z hz x hx (by omega)
    subst this
    exact ⟨e2, e3⟩
theorem kids_f {l : List S65} {L : List (Nat × Int × Nat)} (h : Rw l 0 1 (-1) 1 l.length L) {q : Nat} (hq : q < l.length) : shape_Kids.f l q = some (Sh.kidsI L q, 0) := by
  obtain ⟨h2, h3⟩ := treeF_row h
  have ht : Sh.treeF l = (0, 0) := by rw [h2, if_neg (by omega)]
  unfold shape_Kids.f Sh.kidsF shape_may.f shape_tree.f
  rw [ht, h3]
  rw [Option.bind_some, if_pos rfl, if_neg (by omega), if_neg (by omega)]
  rfl
theorem kids_len {l : List S65} {L : List (Nat × Int × Nat)} (h : Rw l 0 1 (-1) 1 l.length L) {q : Nat} (hq : q < l.length) : (Sh.kidsI L q).length = Sh.K65 l q := by
  have hT := h.kids (by omega) q (by omega) hq
  rw [kidsI_kidsOf, List.length_map]
  have : ∀ {a k : Nat} {T : List Nat}, Tops (Sh.K65 l) a k T → T.length = k := by
    intro a k T hT
    induction hT with
    | nil => rfl
    | cons _ _ i => simp [i]
  exact this hT
theorem not_one {l : List S65} {a d : Nat} {i : Int} (he : Sh.errE l a d i = 0) : ¬ (4 < (rd_T65 l a).f0) ∧ (if (rd_T65 l a).f0 = 0 then Sh.atomB (rd_T65 l a) else Sh.otherB (rd_T65 l a)) = false := by
  unfold Sh.errE at he
  split at he
  · cases he
  · rename_i h
    simp only [Bool.or_eq_true, not_or, Bool.not_eq_true] at h
    obtain ⟨⟨h1, h2⟩, h3⟩ := h
    unfold Sh.is1 at h1
    simp only [Bool.or_eq_false_iff, decide_eq_false_iff_not] at h1
    exact ⟨h1.2.2, h2⟩
/-- What a part's least length is. -/
structure Shorts (l : List S65) (L : List (Nat × Int × Nat)) (x : Nat × Int × Nat) : Prop where
  ev : Ev (fun k => St.shortF k l x.1) (shV l x.1)
  low : 1 ≤ shV l x.1
  high : shV l x.1 ≤ most x.2.2
  sum : (rd_T65 l x.1).f0 = 1 ∨ (rd_T65 l x.1).f0 = 2 → shV l x.1 = ((Sh.kidsI L x.1).map (shV l)).sum ∧ 1 ≤ (Sh.kidsI L x.1).length
theorem shorts {l : List S65} {L : List (Nat × Int × Nat)} (h : Rw l 0 1 (-1) 1 l.length L) : ∀ (n : Nat) (x : Nat × Int × Nat), x ∈ L → l.length - x.1 ≤ n → Shorts l L x := by
  intro n
  induction n with
  | zero => intro x hx hn; have := (h.mem hx).2; omega
  | succ n ih =>
    intro x hx hn
    have hx2 := (h.mem hx).2
    obtain ⟨he, hd, _⟩ := h.sub x hx
    have hok := Sh.errE_ok he
    have hK := K_eq he
    obtain ⟨hk4, hb⟩ := not_one he
    have hkl := kids_len h hx2
    have hk := kids_f h hx2
    have hmem := kids_mem h hx
    have hm := most_in x.2.2 hd hok.2.2.1
    have hkids : ∀ k ∈ Sh.kidsI L x.1, Ev (fun f => St.shortF f l k) (shV l k) ∧ 1 ≤ shV l k ∧ shV l k ≤ most (x.2.2 + 1) ∧ x.2.2 + 1 ≤ 8 := by
      intro k hk
      obtain ⟨y, hy, rfl, e1, e2⟩ := hmem k hk
      have := ih y hy (by omega)
      have h8 := (Sh.errE_ok (h.sub y hy).1).2.2.1
      rw [← e1]
      exact ⟨this.ev, this.low, this.high, by omega⟩
    have key : ∃ v, Ev (fun f => St.shortL (St.shortF f l) (rd_T65 l x.1).f0 (Sh.kidsI L x.1) (rd_T65 l x.1).f3 true) v ∧ 1 ≤ v ∧ v ≤ most x.2.2 ∧ ((rd_T65 l x.1).f0 = 1 ∨ (rd_T65 l x.1).f0 = 2 → v = ((Sh.kidsI L x.1).map (shV l)).sum ∧ 1 ≤ (Sh.kidsI L x.1).length) := by
      by_cases h0 : (rd_T65 l x.1).f0 = 0
      · rw [if_pos h0] at hb
        unfold Sh.atomB at hb
        have hb := of_decide_eq_false hb
        simp only [not_or] at hb
        have : Sh.kidsI L x.1 = [] := List.eq_nil_of_length_eq_zero (by omega)
        rw [this]
        exact ⟨_, Ev.now _, by omega, by omega, by omega⟩
      · rw [if_neg h0] at hb
        unfold Sh.otherB at hb
        have hb := of_decide_eq_false hb
        simp only [not_or] at hb
        cases hks : Sh.kidsI L x.1 with
        | nil => rw [hks] at hkl; simp at hkl; omega
        | cons k ks =>
          rw [hks] at hkl hkids
          obtain ⟨e, v1, v2, h8⟩ := hkids k (by simp)
          have hB := most_in (x.2.2 + 1) (by omega) h8
          have hl16 : 1 + ks.length ≤ 16 := by simp at hkl; omega
          obtain ⟨r, g1, g2, g3, g4⟩ := short_fold (kd := (rd_T65 l x.1).f0) (B := most (x.2.2 + 1)) (by omega) ks (shV l k) 1 (fun z hz => by have := hkids z (by simp [hz]); exact ⟨this.1, this.2.1, this.2.2.1⟩) v1 (by simpa using v2) hl16 (by omega)
          refine ⟨r, ?_, g2, ?_, fun hkd => ⟨?_, by simp⟩⟩
          · refine Ev.bind (f := fun f v => St.shortL (St.shortF f l) (rd_T65 l x.1).f0 ks (St.shortN (rd_T65 l x.1).f0 (rd_T65 l x.1).f3 true v) false) e ?_
            exact g1
          · rw [most_next h8]
            have : ((1 + ks.length : Nat) : Int) * most (x.2.2 + 1) ≤ 16 * most (x.2.2 + 1) := Int.mul_le_mul_of_nonneg_right (by omega) (by omega)
            omega
          · rw [g4 hkd]
            simp
    obtain ⟨v, g1, g2, g3, g4⟩ := key
    have ev : Ev (fun k => St.shortF k l x.1) v := by
      refine Ev.step (f := fun f => St.shortL (St.shortF f l) (rd_T65 l x.1).f0 (Sh.kidsI L x.1) (rd_T65 l x.1).f3 true) (fun f => ?_) g1
      show St.shortF (f + 1) l x.1 = _
      rw [St.shortF, if_pos ⟨by omega, by omega⟩, hk]
      simp only [Option.bind_some]
      rw [if_pos (by omega)]
    have e := shV_ev ev
    exact ⟨by rw [e]; exact ev, by rw [e]; exact g2, by rw [e]; exact g3, by rw [e]; exact g4⟩
theorem satcheck_ev {l : List S65} {L : List (Nat × Int × Nat)} (h : Rw l 0 1 (-1) 1 l.length L) {q : Nat} (hq : q < l.length) : Ev (fun k => sat_check.f k 0 1 l [] q) 0 := by
  have ht : Sh.treeF l = (0, 0) := by rw [(treeF_row h).1, if_neg (by omega)]
  refine ⟨4, fun k hk => ?_⟩
  obtain ⟨k, rfl⟩ : ∃ k', k = k' + 2 := ⟨k - 2, by omega⟩
  have h1 : shape_Check.f 0 1 l = some (0, 0) := by
    unfold shape_Check.f shape_tree.f
    rw [ht, if_neg (by decide), if_neg (by decide), if_neg (by decide), if_neg (by unfold wrap64; omega)]
    rfl
  show sat_check.f (k + 2) 0 1 l [] q = _
  unfold sat_check.f
  rw [h1, Option.bind_some, if_pos rfl, if_neg (by omega), sat_check.j0, sat_check.l0, if_neg (by simp)]
  have h2 : api_Piece_at_sat_check_1_10091.f k [] = some false := by
    obtain ⟨k, rfl⟩ : ∃ k', k = k' + 1 := ⟨k - 1, by omega⟩
    unfold api_Piece_at_sat_check_1_10091.f api_Piece_at_sat_check_1_10095.f
    rw [api_Piece_at_sat_check_1_10095.l0, if_neg (by simp)]
    rfl
  rw [h2]
  simp only [Option.bind_some]
  rw [if_neg (by simp; omega), if_neg (by decide)]
theorem short_ev {l : List S65} {L : List (Nat × Int × Nat)} (h : Rw l 0 1 (-1) 1 l.length L) {q : Nat} (hq : q < l.length) : Ev (fun k => sat_Short.f k 0 1 l q) (shV l q, 0) := by
  obtain ⟨x, hx, rfl⟩ := row_place h hq
  refine Ev.bind (satcheck_ev h hq) ?_
  refine Ev.congr (f := fun k => (sat_term_short.f k l [] (x.1 : Int)).bind fun t => some (t, 0)) (fun k => by rw [if_pos rfl]) ?_
  exact Ev.bind (shorts h _ x hx (Nat.le_refl _)).ev (Ev.now _)
theorem rdn {l : List Int} {i : Nat} (h : i < l.length) : rd l (i : Int) = l[i] := by
  unfold rd
  rw [show ((i : Nat) : Int).toNat = i from rfl, List.getD_eq_getElem?_getD, List.getElem?_eq_getElem h]
  rfl
theorem lengths_loop {l : List S65} {L : List (Nat × Int × Nat)} (h : Rw l 0 1 (-1) 1 l.length L) (ks : List Int) (hks : ∀ k ∈ ks, ∃ q : Nat, k = q ∧ q < l.length) (hk : ks.length ≤ 1000) : ∀ (n i : Nat) (acc : List Int), i + n = ks.length → acc.length ≤ i →
    Ev (fun k => stage_Lengths.l0 k acc ks (ks.length : Int) (i : Int) 0 1 l) (acc ++ (ks.drop i).map (shV l), 0)
  | 0, i, acc, hn, _ => by
    refine ⟨1, fun f hf => ?_⟩
    obtain ⟨f, rfl⟩ : ∃ f', f = f' + 1 := ⟨f - 1, by omega⟩
    show stage_Lengths.l0 (f + 1) acc ks (ks.length : Int) (i : Int) 0 1 l = _
    rw [stage_Lengths.l0, if_neg (by omega), List.drop_eq_nil_of_le (by omega)]
    simp
  | n + 1, i, acc, hn, ha => by
    have hi : i < ks.length := by omega
    obtain ⟨q, hq1, hq2⟩ := hks ks[i] (List.getElem_mem hi)
    have e := short_ev h hq2
    rw [← hq1] at e
    have e1 : wrap64 ((i : Int) + 1) = ((i + 1 : Nat) : Int) := by unfold wrap64; omega
    have := lengths_loop h ks hks hk n (i + 1) (acc ++ [shV l ks[i]]) (by omega) (by simp; omega)
    rw [List.drop_eq_getElem_cons hi, List.map_cons]
    refine Ev.step (f := fun f => (sat_Short.f f 0 1 l ks[i]).bind fun bt => if acc.length < 17592186044416 then stage_Lengths.l0 f (acc ++ [bt.1]) ks (ks.length : Int) ((i + 1 : Nat) : Int) 0 1 l else none) (fun f => ?_) ?_
    · show stage_Lengths.l0 (f + 1) acc ks (ks.length : Int) (i : Int) 0 1 l = _
      rw [stage_Lengths.l0, if_pos (by omega), if_pos (by omega), if_pos (by omega), rdn hi, e1]
    · refine Ev.bind e ?_
      refine Ev.congr (fun f => if_pos (by omega)) ?_
      simpa using this
theorem parts_loop {l : List S65} {L : List (Nat × Int × Nat)} (h : Rw l 0 1 (-1) 1 l.length L) (ks : List Int) (hks : ∀ k ∈ ks, ∃ q : Nat, k = q ∧ q < l.length) (hk : ks.length ≤ 1000) (m whole : Int) (hb : ∀ k ∈ ks, 1 ≤ shV l k ∧ shV l k ≤ 1099511627776) (hend : Ev (fun k => liverylaw18_StageParts.j2 k m (ks.map (shV l)) whole false) true) : ∀ (n i : Nat) (s : Int), i + n = ks.length → s + ((ks.drop i).map (shV l)).sum = whole → 0 ≤ s → s ≤ i * 1099511627776 →
    Ev (fun k => liverylaw18_StageParts.l0 k m (ks.map (shV l)) ks whole 0 s (i : Int) 0 1 l) true := by
  intro n
  induction n with
  | zero =>
    intro i s hn hs _ _
    rw [List.drop_eq_nil_of_le (by omega)] at hs
    have hs' : s = whole := by simpa using hs
    subst hs'
    refine Ev.step (f := fun f => liverylaw18_StageParts.j1 f m (ks.map (shV l)) ks s 0 s (i : Int) false 0 1 l) (fun f => ?_) ?_
    · show liverylaw18_StageParts.l0 (f + 1) m (ks.map (shV l)) ks s 0 s (i : Int) 0 1 l = _
      rw [liverylaw18_StageParts.l0, if_neg (by simp; omega)]
    · refine Ev.step (fun f => ?_) hend
      show liverylaw18_StageParts.j1 (f + 1) m (ks.map (shV l)) ks s 0 s (i : Int) false 0 1 l = _
      rw [liverylaw18_StageParts.j1, if_neg (by decide), if_pos rfl, if_pos rfl, List.length_map, bne_self_eq_false]
  | succ n ih =>
    intro i s hn hs h0 hi9
    have hi : i < ks.length := by omega
    obtain ⟨q, hq1, hq2⟩ := hks ks[i] (List.getElem_mem hi)
    have e := short_ev h hq2
    rw [← hq1] at e
    have hv := hb ks[i] (List.getElem_mem hi)
    rw [List.drop_eq_getElem_cons hi, List.map_cons, List.sum_cons] at hs
    have := ih (i + 1) (s + shV l ks[i]) (by omega) (by omega) (by omega) (by rw [Int.natCast_add, Int.add_mul]; omega)
    have hlen : (i : Int) < ((ks.map (shV l)).length : Int) := by simp; omega
    have hdec : decide ((i : Int) < (ks.length : Int)) = true := decide_eq_true (by omega)
    have g1 : (i : Int) < (ks.length : Int) := by omega
    have g0 : (0 : Int) ≤ (i : Int) := by omega
    have e2 : wrap64 (s + shV l ks[i]) = s + shV l ks[i] := by
      have b1 : -9223372036854775808 ≤ s + shV l ks[i] := by omega
      have b2 : s + shV l ks[i] ≤ 9223372036854775807 := by omega
      exact w64 b1 b2
    have e1 : wrap64 ((i : Int) + 1) = ((i + 1 : Nat) : Int) := by exact w64 (x := (i : Int) + 1) (by clear e2; omega) (by clear e2; omega)
    refine Ev.step (f := fun f => liverylaw18_StageParts.j1 f m (ks.map (shV l)) ks whole 0 s (i : Int) true 0 1 l) (fun f => ?_) ?_
    · show liverylaw18_StageParts.l0 (f + 1) m (ks.map (shV l)) ks whole 0 s (i : Int) 0 1 l = _
      rw [liverylaw18_StageParts.l0, if_pos hlen, hdec]
    · refine Ev.step (f := fun f => (sat_Short.f f 0 1 l ks[i]).bind fun bt => if bt.2 = 0 then if bt.1 = shV l ks[i] then liverylaw18_StageParts.l0 f m (ks.map (shV l)) ks whole 0 (wrap64 (s + bt.1)) ((i + 1 : Nat) : Int) 0 1 l else none else none) (fun f => ?_) ?_
      · show liverylaw18_StageParts.j1 (f + 1) m (ks.map (shV l)) ks whole 0 s (i : Int) true 0 1 l = _
        rw [liverylaw18_StageParts.j1, if_pos rfl, if_pos g0, if_pos g1, rdn hi, e1]
        have hrd : rd (ks.map (shV l)) (i : Int) = shV l ks[i] := by rw [rdn (l := ks.map (shV l)) (by simpa using hi), List.getElem_map]
        simp only [if_pos hlen, hrd]
      · refine Ev.bind e ?_
        refine Ev.congr (fun f => by rw [if_pos rfl, if_pos rfl]) ?_
        dsimp only
        rw [e2]
        exact this
theorem big_loop (l : List Int) (hl : l.length ≤ 1000) (hb : ∃ x ∈ l, x > 4096) : Ev (fun k => liverylaw18_big.f k l) true := by
  have key : ∀ (n i : Nat), i + n = l.length → (∃ x ∈ l.drop i, x > 4096) → Ev (fun k => liverylaw18_big.l0 k l (i : Int)) true := by
    intro n
    induction n with
    | zero => intro i hn ⟨x, hx, _⟩; rw [List.drop_eq_nil_of_le (by omega)] at hx; cases hx
    | succ n ih =>
      intro i hn ⟨x, hx, hx2⟩
      have hi : i < l.length := by omega
      have e1 : wrap64 ((i : Int) + 1) = ((i + 1 : Nat) : Int) := by unfold wrap64; omega
      rw [List.drop_eq_getElem_cons hi] at hx
      by_cases h9 : l[i] > 4096
      · refine Ev.step (f := fun _ => some true) (fun f => ?_) (Ev.now true)
        show liverylaw18_big.l0 (f + 1) l (i : Int) = _
        rw [liverylaw18_big.l0, if_pos (by omega), if_pos (by omega), rdn hi, if_pos h9]
      · refine Ev.step (fun f => ?_) (ih (i + 1) (by omega) ?_)
        · show liverylaw18_big.l0 (f + 1) l (i : Int) = _
          rw [liverylaw18_big.l0, if_pos (by omega), if_pos (by omega), rdn hi, if_neg h9, e1]
        · rcases List.mem_cons.1 hx with rfl | hx
          · exact absurd hx2 h9
          · exact ⟨x, hx, hx2⟩
  exact key l.length 0 (by omega) (by simpa using hb)
theorem parts_split (c : List Int) (m : Int) (hm : 0 ≤ m ∧ m ≤ 255) (h1 : 1 ≤ c.length) (h2 : c.length ≤ 16) (hb : ∀ x ∈ c, 1 ≤ x ∧ x ≤ 1099511627776) (hhead : Ev (fun k => liverylaw18_head.f k) true) :
    Ev (fun k => liverylaw18_StageParts.j2 k m c c.sum false) true := by
  have hsum : ∀ c : List Int, (∀ x ∈ c, 1 ≤ x ∧ x ≤ 1099511627776) → (c.length : Int) ≤ c.sum ∧ c.sum ≤ 1099511627776 * c.length ∧ totS c = c.sum := by
    intro c
    induction c with
    | nil => intro _; simp [totS]
    | cons x c ih =>
      intro h
      have h1 := h x (by simp)
      have h2 := ih (fun y hy => h y (by simp [hy]))
      simp only [List.sum_cons, List.length_cons, totS]
      omega
  obtain ⟨s1, s2, s3⟩ := hsum c hb
  have em : Int.tmod m 100 = m % 100 := Int.tmod_eq_emod_of_nonneg hm.1
  have em3 : Int.tmod m 3 = m % 3 := Int.tmod_eq_emod_of_nonneg hm.1
  have w1 : wrap64 (m % 100) = m % 100 := by unfold wrap64; omega
  have w2 : wrap64 (7 + c.sum) = 7 + c.sum := by unfold wrap64; omega
  have w3 : wrap64 (7 + c.sum + m % 100) = 7 + c.sum + m % 100 := by unfold wrap64; omega
  have w4 : wrap64 (7 + c.sum + m % 100 - 7) = c.sum + m % 100 := by unfold wrap64; omega
  obtain ⟨q, hq⟩ : ∃ q : Nat, (q : Int) = m % 3 := ⟨(m % 3).toNat, by omega⟩
  refine Ev.step (f := fun k => (stage_Split.f k 7 (7 + c.sum + m % 100) c (m % 3)).bind fun bt248 => (if bt248.2 = 2 then (if c.sum + m % 100 > 4096 then ((liverylaw18_head.f k).bind fun t252 => (some t252)) else ((liverylaw18_big.f k c).bind fun t253 => (if t253 = true then ((liverylaw18_head.f k).bind fun t254 => (some t254)) else (none)))) else (if bt248.2 = 0 then (if (bt248.1.length : Int) = (c.length : Int) then ((liverylaw18_head.f k).bind fun t255 => (some t255)) else (none)) else (none)))) (fun k => ?_) ?_
  · show liverylaw18_StageParts.j2 (k + 1) m c c.sum false = _
    rw [liverylaw18_StageParts.j2, if_neg (by decide), em, em3, w1, w2, w3, w4]
  have hH : Ev (fun k => (liverylaw18_head.f k).bind fun t => some t) true := Ev.bind hhead (Ev.now true)
  rcases chk_snd 7 (7 + c.sum + m % 100) c with h0 | h0 | h0
  · have hs := split_good (F := 7) (T := 7 + c.sum + m % 100) (l := c) (by omega) (by omega) h0 q (by omega)
    rw [if_neg (by omega)] at hs
    rw [hq] at hs
    have := split_ev 7 (7 + c.sum + m % 100) c (by omega) (m % 3) hs
    refine Ev.bind this (Ev.congr (fun k => ?_) hH)
    dsimp only
    rw [if_neg (by decide), if_pos rfl, winL_len, if_pos rfl]
  · have hs : St.splitR 7 (7 + c.sum + m % 100) c (m % 3) (checkR 7 (7 + c.sum + m % 100) c).1 (checkR 7 (7 + c.sum + m % 100) c).2 = some ([], 2) := by
      unfold St.splitR
      rw [if_pos h0]
    have := split_ev 7 (7 + c.sum + m % 100) c (by omega) (m % 3) hs
    refine Ev.bind this ?_
    by_cases h9 : c.sum + m % 100 > 4096
    · refine Ev.congr (fun k => ?_) hH
      dsimp only
      rw [if_pos rfl, if_pos h9]
    · have hbig : ∃ x ∈ c, x > 4096 := by
        have hb2 : (chkB 7 (7 + c.sum + m % 100) c || c.any badL) = true := by
          cases hz : (chkB 7 (7 + c.sum + m % 100) c || c.any badL) with
          | true => rfl
          | false =>
            unfold checkR chkFin at h0
            rw [hz, if_neg (by decide)] at h0
            split at h0 <;> cases h0
        have e5 : IntKind.u64.wrap (wrap64 (7 + c.sum + m % 100 - 7)) = c.sum + m % 100 := by
          rw [w4]
          show (c.sum + m % 100) % 18446744073709551616 = _
          omega
        simp only [chkB, Bool.or_eq_true, decide_eq_true_eq, List.any_eq_true, e5] at hb2
        rcases hb2 with (h | h | h | h) | ⟨x, hx, h⟩
        · omega
        · omega
        · omega
        · omega
        · refine ⟨x, hx, ?_⟩
          have := hb x hx
          simp only [badL, Bool.or_eq_true, decide_eq_true_eq] at h
          omega
      refine Ev.congr (f := fun k => (liverylaw18_big.f k c).bind fun t253 => (if t253 = true then ((liverylaw18_head.f k).bind fun t254 => (some t254)) else (none))) (fun k => ?_) (Ev.bind (big_loop c (by omega) hbig) (Ev.congr (fun k => if_pos rfl) hH))
      dsimp only
      rw [if_pos rfl, if_neg h9]
  · exfalso
    unfold checkR chkFin at h0
    split at h0
    · cases h0
    · rename_i h8
      split at h0
      · rename_i h9
        simp only [chkB, Bool.or_eq_true, decide_eq_true_eq, not_or] at h8
        have e5 : IntKind.u64.wrap (wrap64 (7 + c.sum + m % 100 - 7)) = c.sum + m % 100 := by
          rw [w4]
          show (c.sum + m % 100) % 18446744073709551616 = _
          omega
        rw [e5] at h8
        simp only [farB, Bool.or_eq_true, decide_eq_true_eq] at h9
        omega
      · cases h0
end
theorem StageParts (a0_0 a0_1 : Int) (l0_2 : List S65) (a0_3 a1 : Int) (w0 : (((Lit.int .i64 a0_0).wf = true) ∧ ((Lit.int .i64 a0_1).wf = true) ∧ ((l0_2.length ≤ maxLen ∧ ∀ x ∈ l0_2, ((Lit.int .u8 x.f0).wf = true) ∧ ((Lit.int .u32 x.f1).wf = true) ∧ ((Lit.int .u32 x.f2).wf = true) ∧ ((Lit.int .i64 x.f3).wf = true) ∧ ((Lit.int .i64 x.f4).wf = true)))) ∧ ((Lit.int .i64 a0_3).wf = true)) (w1 : (Lit.int .u8 a1).wf = true) : ∃ k, liverylaw18_StageParts.f k a0_0 a0_1 l0_2 a0_3 a1 = some true := by
  refine Ev.rounds (g := fun k => liverylaw18_StageParts.f k a0_0 a0_1 l0_2 a0_3 a1) ?_
  have hm := XOpen.u8_of w1
  have hH : Ev (fun k => (liverylaw18_head.f k).bind fun t => some t) true := Ev.bind head_ev (Ev.now true)
  by_cases hl : (l0_2.length : Int) > 100
  · refine Ev.congr (fun k => ?_) hH
    show liverylaw18_StageParts.f k a0_0 a0_1 l0_2 a0_3 a1 = _
    unfold liverylaw18_StageParts.f
    rw [if_pos hl]
  have hw : Wf l0_2 := ⟨by omega, fun x hx => by
    obtain ⟨h1, h2, h3, _, _⟩ := w0.1.2.2.2 x hx
    exact ⟨(XOpen.u8_of h1).1, (XOpen.u32_of h2).1, (XOpen.u32_of h3).1⟩⟩
  refine Ev.congr (f := fun k => (stage_Lengths.f k a0_0 a0_1 l0_2 a0_3).bind fun bt231 => (if bt231.2 = 0 then ((liveryref08_Kids.f k l0_2 a0_3).bind fun t238 => ((sat_Short.f k 0 1 l0_2 a0_3).bind fun bt241 => (liverylaw18_StageParts.l0 k a1 bt231.1 t238 bt241.1 bt241.2 0 0 0 1 l0_2))) else (if bt231.2 = 81 then (if (bt231.1.length : Int) = 0 then ((liverylaw18_head.f k).bind fun t235 => (some t235)) else (none)) else (if bt231.2 = 2 then (if (bt231.1.length : Int) = 0 then ((liverylaw18_head.f k).bind fun t236 => (some t236)) else (none)) else (none))))) (fun k => ?_) ?_
  · show liverylaw18_StageParts.f k a0_0 a0_1 l0_2 a0_3 a1 = _
    unfold liverylaw18_StageParts.f
    rw [if_neg hl]
  have hmay : shape_may.f l0_2 a0_3 = some (if (Sh.treeF l0_2).2 = 0 then (if a0_3 < 0 then 2 else if a0_3 ≥ (l0_2.length : Int) then 2 else 0) else 81) := by
    unfold shape_may.f shape_tree.f
    rw [Option.bind_some]
    split
    · split
      · rfl
      · split <;> rfl
    · rfl
  have bad : ∀ e : Int, (e = 81 ∨ e = 2) → shape_may.f l0_2 a0_3 = some e → Ev (fun k => stage_Lengths.f k a0_0 a0_1 l0_2 a0_3) ([], e) := fun e he h => by
    refine Ev.congr (f := fun _ => some ([], e)) (fun k => ?_) (Ev.now _)
    show stage_Lengths.f k a0_0 a0_1 l0_2 a0_3 = _
    unfold stage_Lengths.f shape_Kids.f Sh.kidsF
    rw [h, Option.bind_some, if_pos (by omega), Option.bind_some, if_neg (by dsimp only; omega)]
  have done : ∀ e : Int, (e = 81 ∨ e = 2) → Ev (fun k => stage_Lengths.f k a0_0 a0_1 l0_2 a0_3) ([], e) → Ev (fun k => (stage_Lengths.f k a0_0 a0_1 l0_2 a0_3).bind fun bt231 => (if bt231.2 = 0 then ((liveryref08_Kids.f k l0_2 a0_3).bind fun t238 => ((sat_Short.f k 0 1 l0_2 a0_3).bind fun bt241 => (liverylaw18_StageParts.l0 k a1 bt231.1 t238 bt241.1 bt241.2 0 0 0 1 l0_2))) else (if bt231.2 = 81 then (if (bt231.1.length : Int) = 0 then ((liverylaw18_head.f k).bind fun t235 => (some t235)) else (none)) else (if bt231.2 = 2 then (if (bt231.1.length : Int) = 0 then ((liverylaw18_head.f k).bind fun t236 => (some t236)) else (none)) else (none))))) true := fun e he h => by
    refine Ev.bind h (Ev.congr (fun k => ?_) hH)
    dsimp only
    rcases he with rfl | rfl
    · rw [if_neg (by decide), if_pos rfl, if_pos (by simp)]
    · rw [if_neg (by decide), if_neg (by decide), if_pos rfl, if_pos (by simp)]
  by_cases ht : (Sh.treeF l0_2).2 = 0
  · rw [if_pos ht] at hmay
    by_cases h0 : a0_3 < 0
    · rw [if_pos h0] at hmay
      exact done 2 (.inr rfl) (bad 2 (.inr rfl) hmay)
    · by_cases h1 : a0_3 ≥ (l0_2.length : Int)
      · rw [if_neg h0, if_pos h1] at hmay
        exact done 2 (.inr rfl) (bad 2 (.inr rfl) hmay)
      · obtain ⟨L, h, _⟩ := tree_ok ht
        obtain ⟨q, rfl⟩ : ∃ q : Nat, a0_3 = q := ⟨a0_3.toNat, by omega⟩
        have hq : q < l0_2.length := by omega
        have hk := kids_f h hq
        by_cases hkd : (rd_T65 l0_2 q).f0 = 1 ∨ (rd_T65 l0_2 q).f0 = 2
        · obtain ⟨x, hx, rfl⟩ := row_place h hq
          have hS := shorts h _ x hx (Nat.le_refl _)
          obtain ⟨hsum, hne⟩ := hS.sum hkd
          have hmem := kids_mem h hx
          have hlen := kids_len h hq
          have hok := Sh.errE_ok (h.sub x hx).1
          have hK := K_eq (h.sub x hx).1
          have hks : ∀ k ∈ Sh.kidsI L x.1, ∃ q : Nat, k = q ∧ q < l0_2.length := fun k hk => by
            obtain ⟨y, hy, e, _⟩ := hmem k hk
            exact ⟨y.1, e, (h.mem hy).2⟩
          have hb : ∀ k ∈ Sh.kidsI L x.1, 1 ≤ shV l0_2 k ∧ shV l0_2 k ≤ 1099511627776 := fun k hk => by
            obtain ⟨y, hy, rfl, _⟩ := hmem k hk
            have hy1 := shorts h _ y hy (Nat.le_refl _)
            have hy2 := h.sub y hy
            have := most_in y.2.2 hy2.2.1 (Sh.errE_ok hy2.1).2.2.1
            have := hy1.low
            have := hy1.high
            omega
          have hL : Ev (fun k => stage_Lengths.f k a0_0 a0_1 l0_2 x.1) ((Sh.kidsI L x.1).map (shV l0_2), 0) := by
            have := lengths_loop h (Sh.kidsI L x.1) hks (by omega) (Sh.kidsI L x.1).length 0 [] (by omega) (by simp)
            refine Ev.congr (f := fun k => stage_Lengths.j0 k (Sh.kidsI L x.1) false 0 1 l0_2) (fun k => ?_) (Ev.step (fun k => ?_) this)
            · show stage_Lengths.f k a0_0 a0_1 l0_2 x.1 = _
              unfold stage_Lengths.f
              rw [hk, Option.bind_some, if_pos rfl, if_pos (by omega), if_pos (by omega)]
              rcases hkd with h1 | h1
              · rw [if_pos h1]
              · rw [if_neg (by omega), h1]
                rfl
            · show stage_Lengths.j0 (k + 1) (Sh.kidsI L x.1) false 0 1 l0_2 = _
              rw [stage_Lengths.j0, if_neg (by decide)]
              rfl
          refine Ev.bind hL ?_
          refine Ev.congr (f := fun k => (liveryref08_Kids.f k l0_2 x.1).bind fun t238 => ((sat_Short.f k 0 1 l0_2 x.1).bind fun bt241 => (liverylaw18_StageParts.l0 k a1 ((Sh.kidsI L x.1).map (shV l0_2)) t238 bt241.1 bt241.2 0 0 0 1 l0_2))) (fun k => if_pos rfl) ?_
          refine Ev.bind (Kids_ref hw h hq) ?_
          refine Ev.bind (short_ev h hq) ?_
          have hend := parts_split ((Sh.kidsI L x.1).map (shV l0_2)) a1 hm (by simpa using hne) (by simp; omega) (fun z hz => by
            obtain ⟨k, hk, rfl⟩ := List.mem_map.1 hz
            exact hb k hk) head_ev
          rw [← hsum] at hend
          exact parts_loop h (Sh.kidsI L x.1) hks (by omega) a1 (shV l0_2 x.1) hb hend (Sh.kidsI L x.1).length 0 0 (by omega) (by rw [hsum]; simp) (by omega) (by omega)
        · refine done 2 (.inr rfl) (Ev.step (f := fun _ => some ([], 2)) (fun k => ?_) (Ev.now _))
          show stage_Lengths.f (k + 1) a0_0 a0_1 l0_2 q = _
          unfold stage_Lengths.f
          rw [hk, Option.bind_some, if_pos rfl, if_pos (by omega), if_pos (by omega), if_neg (fun h => hkd (.inl h)), stage_Lengths.j0, if_pos (by simpa using fun h => hkd (.inr h))]
  · rw [if_neg ht] at hmay
    exact done 81 (.inl rfl) (bad 81 (.inl rfl) hmay)
end Go.Proofs.Ytkaokiiooakleaa.PStageParts
