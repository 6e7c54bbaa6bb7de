/- The statement ShapeOne over numbers and lists alone: of every input. No condition but that numbers are of their kind. -/
import Derived.Test.YtkaokiiooakleaaCShapeOne0
import Derived.Test.YtkaokiiooakleaaCShapeOne1
import Derived.Test.YtkaokiiooakleaaCShapeOne2
import Derived.Test.YtkaokiiooakleaaCShapeOne3
import Derived.Test.YtkaokiiooakleaaCShapeOne4
import Derived.Test.YtkaokiiooakleaaCShapeOne5
import Derived.Test.YtkaokiiooakleaaCShapeOne6
import Derived.Test.YtkaokiiooakleaaCShapeOne7
import Derived.Test.YtkaokiiooakleaaCShapeOne8
import Derived.Test.YtkaokiiooakleaaCShapeOneW
set_option linter.unusedVariables false
namespace Go.Proofs.Ytkaokiiooakleaa.PShapeOne
open Go.RowKit Go.Proofs.YtkaokiiooakleaaW.PrintWords Go.Proofs.YtkaokiiooakleaaW.PrintLast Go.Proofs.YtkaokiiooakleaaW.PrintMore
section
open ShapeM
/-! #### the parts of a definition, as the walk sees them -/
abbrev Rw (l : List S65) := Row (Sh.errE l) (Sh.K65 l) (Sh.C65 l)
abbrev Fl (l : List S65) := Fail (Sh.errE l) (Sh.K65 l) (Sh.C65 l)
theorem kindP_nat (l : List S65) (q : Nat) : kindP (Sh.C65 l) (q : Int) = (rd_T65 l q).f0 := by
  unfold kindP
  rw [if_neg (by omega)]
  rfl
theorem K_eq {l : List S65} {a d : Nat} {i : Int} (h : Sh.errE l a d i = 0) : ((Sh.K65 l a : Nat) : Int) = (rd_T65 l a).f4 := by
  have := Sh.errE_ok h
  unfold Sh.K65
  omega
theorem err_of {l : List S65} {a d : Nat} {i : Int} : Sh.errE l a d i = 0 ∨ Sh.errE l a d i = 81 ∨ Sh.errE l a d i = 80 := by
  unfold Sh.errE
  split
  · exact .inr (.inl rfl)
  · split
    · exact .inr (.inr rfl)
    · exact .inl rfl
/-- What may stand deep may stand less deep, and at the top. -/
theorem err_rise {l : List S65} : ∀ a d d' p, d' ≤ d → Sh.errE l a d p = 0 → Sh.errE l a d' p = 0 ∧ Sh.errE l a d' 0 = 0 := by
  intro a d d' p hd h
  unfold Sh.errE at h ⊢
  split at h
  · cases h
  · rename_i h1
    split at h
    · cases h
    · rename_i h2
      have h3 : ¬ (Sh.is1 l a || Sh.is2 l a || ((0 : Int) == 2 && !((rd_T65 l a).f0 == 0))) = true := by
        simp only [Bool.or_eq_true, not_or] at h1 ⊢
        exact ⟨h1.1, by simp⟩
      exact ⟨by rw [if_neg h1, if_neg (by omega)], by rw [if_neg h3, if_neg (by omega)]⟩
theorem row_or_fail (l : List S65) : ∀ (n a : Nat), 64 - a = n → ∀ (k : Nat) (p : Int) (d : Nat), (∃ b L, Rw l a k p d b L) ∨ (∃ wh e, Fl l a k p d wh e) := by
  intro n
  induction n using Nat.strongRecOn with
  | ind n ih =>
    intro a hn k p d
    cases k with
    | zero => exact .inl ⟨_, _, .nil _ _ _⟩
    | succ k =>
      by_cases he : Sh.errE l a d (kindP (Sh.C65 l) p) = 0
      · have ha := (Sh.errE_ok he).2.1
        rcases ih (64 - (a + 1)) (by omega) (a + 1) rfl (Sh.K65 l a) a (d + 1) with ⟨mid, L, h1⟩ | ⟨wh, e, h1⟩
        · have := h1.le
          by_cases hk : k = 0
          · subst hk
            exact .inl ⟨_, _, .cons he h1 (.nil _ _ _)⟩
          · rcases ih (64 - mid) (by omega) mid rfl k p d with ⟨b, M, h2⟩ | ⟨wh, e, h2⟩
            · exact .inl ⟨_, _, .cons he h1 h2⟩
            · exact .inr ⟨_, _, .next he h1 h2⟩
        · exact .inr ⟨_, _, .kid he h1⟩
      · exact .inr ⟨_, _, .here he⟩
theorem row_top {l : List S65} {a k d b : Nat} {p : Int} {L : List (Nat × Int × Nat)} (h : Rw l a k p d b L) : b ≤ max a 64 ∧ (a < b → b ≤ l.length) := by
  induction h with
  | nil => exact ⟨by omega, fun h => by omega⟩
  | @cons a k d mid b p L M he h1 h2 i1 i2 =>
    have := Sh.errE_ok he
    have := h1.le
    have := h2.le
    refine ⟨by omega, fun _ => ?_⟩
    rcases Nat.lt_or_ge mid b with h3 | h3
    · exact i2.2 h3
    · have : b = mid := by omega
      subst this
      rcases Nat.lt_or_ge (a + 1) b with h4 | h4
      · exact i1.2 h4
      · omega
theorem fail_top {l : List S65} {a k d wh : Nat} {p e : Int} (h : Fl l a k p d wh e) : wh ≤ max a 64 ∧ e ≠ 0 := by
  induction h with
  | here he => exact ⟨by omega, he⟩
  | kid he h1 i1 =>
    have := Sh.errE_ok he
    exact ⟨by omega, i1.2⟩
  | next he h0 h1 i1 =>
    have := Sh.errE_ok he
    have := (row_top h0).1
    exact ⟨by omega, i1.2⟩
end
section
open ShapeM
/-! #### the document's reading -/
/-- The parts' numbers are of their kinds. -/
def Wf (l : List S65) : Prop := l.length ≤ 9223372036854775807 ∧ ∀ x ∈ l, 0 ≤ x.f0 ∧ 0 ≤ x.f1 ∧ 0 ≤ x.f2
theorem rd_wf {l : List S65} (h : Wf l) (a : Nat) (ha : a < l.length) : 0 ≤ (rd_T65 l a).f0 ∧ 0 ≤ (rd_T65 l a).f1 ∧ 0 ≤ (rd_T65 l a).f2 := by
  unfold rd_T65
  rw [show ((a : Int)).toNat = a from rfl, List.getD_eq_getElem?_getD, List.getElem?_eq_getElem ha]
  exact h.2 _ (List.getElem_mem ha)
/-- What the walk tells of the whole. -/
theorem treeF_row {l : List S65} {b : Nat} {L : List (Nat × Int × Nat)} (h : Rw l 0 1 (-1) 1 b L) : Sh.treeF l = (if (b : Int) < l.length then ((b : Int), 81) else (0, 0)) ∧ Sh.walk65 l = (L, b, 0) := by
  have hb := (row_top h).1
  have : Sh.walk65 l = (L, b, 0) := walk_row h (by omega)
  refine ⟨?_, this⟩
  unfold Sh.treeF
  rw [this]
  rfl
theorem treeF_fail {l : List S65} {wh : Nat} {e : Int} (h : Fl l 0 1 (-1) 1 wh e) : Sh.treeF l = ((wh : Int), e) := by
  have hb := fail_top h
  have : (Sh.walk65 l).2 = (wh, e) := walk_fail h (by omega)
  unfold Sh.treeF
  rw [this]
  simp [hb.2]
/-- A definition that may be: the whole is one term. -/
theorem tree_ok {l : List S65} (h : (Sh.treeF l).2 = 0) : ∃ L, Rw l 0 1 (-1) 1 l.length L ∧ (Sh.walk65 l).1 = L := by
  rcases row_or_fail l 64 0 rfl 1 (-1) 1 with ⟨b, L, h1⟩ | ⟨wh, e, h1⟩
  · obtain ⟨h2, h3⟩ := treeF_row h1
    rw [h2] at h
    have hle := h1.le
    by_cases hb : (b : Int) < l.length
    · rw [if_pos hb] at h; simp at h
    · have := (row_top h1).2 (by omega)
      have : b = l.length := by omega
      subst this
      exact ⟨L, h1, by rw [h3]⟩
  · rw [treeF_fail h1] at h
    exact absurd h (fail_top h1).2
end
set_option maxRecDepth 100000 in
theorem head_ev : Ev (fun k => liverylaw08_head.f k) true := Ev.of liverylaw08_head.mono (k := 30) (by kernel_rfl)
section
open ShapeM
/-- Two rows of parts that are the same up to a place. -/
def Alike (n : Nat) (l m : List S65) : Prop := n ≤ l.length ∧ n ≤ m.length ∧ ∀ j, j < n → rd_T65 m (j : Nat) = rd_T65 l (j : Nat)
theorem alike_err {n : Nat} {l m : List S65} (h : Alike n l m) {a : Nat} (ha : a < n) (d : Nat) (i : Int) : Sh.errE m a d i = Sh.errE l a d i := by
  have h1 := h.1
  have h2 := h.2.1
  unfold Sh.errE Sh.is1 Sh.is2
  rw [h.2.2 a ha, decide_eq_false (show ¬ (m.length : Int) ≤ (a : Int) by omega), decide_eq_false (show ¬ (l.length : Int) ≤ (a : Int) by omega)]
theorem alike_K {n : Nat} {l m : List S65} (h : Alike n l m) {a : Nat} (ha : a < n) : Sh.K65 m a = Sh.K65 l a := by
  unfold Sh.K65
  rw [h.2.2 a ha]
theorem alike_C {n : Nat} {l m : List S65} (h : Alike n l m) {p : Int} (hp : p < n) : kindP (Sh.C65 m) p = kindP (Sh.C65 l) p := by
  unfold kindP
  split
  · rfl
  · unfold Sh.C65
    rw [h.2.2 p.toNat (by omega)]
theorem alike_row {n : Nat} {l m : List S65} (h : Alike n l m) {a k d b : Nat} {p : Int} {L : List (Nat × Int × Nat)} (hr : Rw l a k p d b L) : p < n → b ≤ n → Rw m a k p d b L := by
  induction hr with
  | nil => intro _ _; exact .nil _ _ _
  | @cons a k d mid b p L M he h1 h2 i1 i2 =>
    intro hp hb
    have l1 := h1.le
    have l2 := h2.le
    have ha : a < n := by omega
    refine .cons (mid := mid) (by rw [alike_C h hp, alike_err h ha]; exact he) ?_ (i2 hp hb)
    rw [alike_K h ha]
    exact i1 (by omega) (by omega)
/-- The last part is lacking. -/
theorem alike_less {n : Nat} {l m : List S65} (h : Alike n l m) (hm : m.length = n) {a k d b : Nat} {p : Int} {L : List (Nat × Int × Nat)} (hr : Rw l a k p d b L) : p < n → b = n + 1 → a ≤ n → Fl m a k p d n 81 := by
  have h81 : ∀ d i, Sh.errE m n d i = 81 := by
    intro d i
    unfold Sh.errE Sh.is1
    rw [if_pos (by simp; omega)]
  induction hr with
  | nil => intro _ h1 h2; omega
  | @cons a k d mid b p L M he h1 h2 i1 i2 =>
    intro hp hb ha
    have l1 := h1.le
    have l2 := h2.le
    by_cases han : a = n
    · subst han
      have := Fail.here (E := Sh.errE m) (K := Sh.K65 m) (C := Sh.C65 m) (a := a) (k := k) (d := d) (p := p) (by rw [h81]; decide)
      rw [h81] at this
      exact this
    · have ha : a < n := by omega
      have he' : Sh.errE m a d (kindP (Sh.C65 m) p) = 0 := by rw [alike_C h hp, alike_err h ha]; exact he
      by_cases hmid : mid = n + 1
      · refine .kid he' ?_
        rw [alike_K h ha]
        exact i1 (by omega) hmid (by omega)
      · refine .next (mid := mid) (L := L) he' ?_ (i2 hp hb (by omega))
        rw [alike_K h ha]
        exact alike_row h h1 (by omega) (by omega)
theorem tree_more {l : List S65} (ht : (Sh.treeF l).2 = 0) (x : S65) : Sh.treeF (l ++ [x]) = ((l.length : Int), 81) := by
  obtain ⟨L, hrow, _⟩ := tree_ok ht
  have hA : Alike l.length l (l ++ [x]) := ⟨Nat.le_refl _, by simp, fun j hj => by
    unfold rd_T65
    rw [show ((j : Nat) : Int).toNat = j from rfl, List.getD_eq_getElem?_getD, List.getD_eq_getElem?_getD, List.getElem?_append_left hj]⟩
  have := (treeF_row (alike_row hA hrow (by omega) (Nat.le_refl _))).1
  rw [this, if_pos (by simp; omega)]
theorem tree_less {l : List S65} (ht : (Sh.treeF l).2 = 0) : 1 ≤ l.length ∧ Sh.treeF (l.take (l.length - 1)) = (((l.length - 1 : Nat) : Int), 81) := by
  obtain ⟨L, hrow, _⟩ := tree_ok ht
  have hle := hrow.le
  refine ⟨by omega, ?_⟩
  have hA : Alike (l.length - 1) l (l.take (l.length - 1)) := ⟨by omega, by simp, fun j hj => by
    unfold rd_T65
    rw [show ((j : Nat) : Int).toNat = j from rfl, List.getD_eq_getElem?_getD, List.getD_eq_getElem?_getD, List.getElem?_take_of_lt hj]⟩
  exact treeF_fail (alike_less hA (by simp) hrow (by omega) (by omega) (by omega))
theorem check_in (a b : Int) (l : List S65) (h0 : 0 ≤ a) (h1 : a < b) (h2 : b ≤ 1099511627776) (h3 : b - a ≤ 4096) : shape_Check.f a b l = some (Sh.treeF l) := by
  unfold shape_Check.f shape_tree.f
  rw [if_neg (by omega), if_neg (by omega), if_neg (by omega), if_neg (by unfold wrap64; omega)]
  rfl
theorem check_out (a b : Int) (l : List S65) (h : a < 0 ∨ b ≤ a ∨ b > 1099511627776 ∨ (0 ≤ a ∧ b ≤ 1099511627776 ∧ b - a > 4096)) : shape_Check.f a b l = some (-1, 82) := by
  unfold shape_Check.f
  by_cases h1 : a < 0
  · rw [if_pos h1]
  · rw [if_neg h1]
    by_cases h2 : b ≤ a
    · rw [if_pos h2]
    · rw [if_neg h2]
      by_cases h3 : b > 1099511627776
      · rw [if_pos h3]
      · rw [if_neg h3, if_pos (by unfold wrap64; omega)]
theorem ShapeOne (a0_0 a0_1 : Int) (l0_2 : List S65) (a1_0 a1_1 a1_2 a1_3 a1_4 a2 : Int) (w0 : ((Lit.int .i64 a0_0).wf = true) ∧ ((Lit.int .i64 a0_1).wf = true) ∧ ((l0_2.length ≤ maxLen ∧ ∀ x ∈ l0_2, ((Lit.int .u8 x.f0).wf = true) ∧ ((Lit.int .u32 x.f1).wf = true) ∧ ((Lit.int .u32 x.f2).wf = true) ∧ ((Lit.int .i64 x.f3).wf = true) ∧ ((Lit.int .i64 x.f4).wf = true)))) (w1 : ((Lit.int .u8 a1_0).wf = true) ∧ ((Lit.int .u32 a1_1).wf = true) ∧ ((Lit.int .u32 a1_2).wf = true) ∧ ((Lit.int .i64 a1_3).wf = true) ∧ ((Lit.int .i64 a1_4).wf = true)) (w2 : (Lit.int .u64 a2).wf = true) : ∃ k, liverylaw08_ShapeOne.f k a0_0 a0_1 l0_2 a1_0 a1_1 a1_2 a1_3 a1_4 a2 = some true := by
  obtain ⟨K0, k0⟩ := head_ev
  dsimp only at k0
  have b0 := XOpen.i64_of w0.1
  have b1 := XOpen.i64_of w0.2.1
  have b2 := XOpen.u64_of w2
  have skip : ∀ k, K0 ≤ k → liverylaw08_ShapeOne.j0 (k + 1) a2 true a0_0 a0_1 l0_2 a1_0 a1_1 a1_2 a1_3 a1_4 = some true := by
    intro k hk
    rw [liverylaw08_ShapeOne.j0, if_pos rfl, k0 k hk]
    rfl
  by_cases hwin : 0 ≤ a0_0 ∧ a0_0 < a0_1 ∧ a0_1 ≤ 1099511627776 ∧ a0_1 - a0_0 ≤ 4096
  · obtain ⟨h0, h1, h2, h3⟩ := hwin
    have hchk : ∀ l, shape_Check.f a0_0 a0_1 l = some (Sh.treeF l) := fun l => check_in _ _ l h0 h1 h2 h3
    by_cases ht : (Sh.treeF l0_2).2 = 0
    · by_cases hl : (l0_2.length : Int) > 200
      · refine ⟨K0 + 1, ?_⟩
        unfold liverylaw08_ShapeOne.f
        rw [hchk, Option.bind_some, if_pos ht, decide_eq_true hl]
        exact skip _ (Nat.le_refl _)
      · obtain ⟨hn, hless⟩ := tree_less ht
        have hmore := tree_more ht ⟨a1_0, a1_1, a1_2, a1_3, a1_4⟩
        refine ⟨K0 + 2, ?_⟩
        unfold liverylaw08_ShapeOne.f
        rw [hchk, Option.bind_some, if_pos ht, decide_eq_false hl, liverylaw08_ShapeOne.j0, if_neg (by decide)]
        have ew : wrap64 ((l0_2.length : Int) - 1) = ((l0_2.length - 1 : Nat) : Int) := by unfold wrap64; omega
        have et : (((l0_2.length - 1 : Nat) : Int) : Int).toNat = l0_2.length - 1 := by omega
        simp only [Option.bind_some, List.nil_append, List.length_nil, List.length_cons, List.length_append, ew, et]
        rw [if_pos (by omega), if_pos (by omega), if_pos (by omega), if_pos (by omega), hchk, Option.bind_some, hchk, Option.bind_some, hmore, hless]
        simp only [if_true, bne_self_eq_false]
        obtain ⟨t, htt⟩ : ∃ t, wrap64 (Int.tmod a2 549755813888) = t := ⟨_, rfl⟩
        have ht0 : 0 ≤ t ∧ t < 549755813888 := by
          rw [← htt]
          have : Int.tmod a2 549755813888 = a2 % 549755813888 := Int.tmod_eq_emod_of_nonneg b2.1
          rw [this]
          unfold wrap64
          omega
        rw [liverylaw08_ShapeOne.j1, if_neg (by decide), htt]
        have e1 : wrap64 (t + 4096) = t + 4096 := by unfold wrap64; omega
        have e2 : wrap64 (t + 4096 + 1) = t + 4097 := by unfold wrap64; omega
        rw [e1, e2, check_in t (t + 4096) l0_2 (by omega) (by omega) (by omega) (by omega), check_out t (t + 4097) l0_2 (by omega), check_out t t l0_2 (by omega), check_out (-1) t l0_2 (by omega), check_in 1099511627775 1099511627776 l0_2 (by omega) (by omega) (by omega) (by omega), check_out 1099511627775 (1099511627776 + 1) l0_2 (by omega)]
        simp only [Option.bind_some]
        rw [k0 _ (by omega)]
        simp [ht]
    · refine ⟨K0 + 1, ?_⟩
      unfold liverylaw08_ShapeOne.f
      rw [hchk, Option.bind_some, if_neg ht]
      exact skip _ (Nat.le_refl _)
  · refine ⟨K0 + 1, ?_⟩
    unfold liverylaw08_ShapeOne.f
    rw [check_out _ _ _ (by omega), Option.bind_some, if_neg (by decide)]
    exact skip _ (Nat.le_refl _)
end
end Go.Proofs.Ytkaokiiooakleaa.PShapeOne
