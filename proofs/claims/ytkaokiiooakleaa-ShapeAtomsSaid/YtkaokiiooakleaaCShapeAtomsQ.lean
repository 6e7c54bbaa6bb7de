/- The statement ShapeAtoms over numbers and lists alone: of every input. No condition but that numbers are of their kind. -/
import Derived.Test.YtkaokiiooakleaaCShapeAtoms0
import Derived.Test.YtkaokiiooakleaaCShapeAtoms1
import Derived.Test.YtkaokiiooakleaaCShapeAtoms2
import Derived.Test.YtkaokiiooakleaaCShapeAtoms3
import Derived.Test.YtkaokiiooakleaaCShapeAtoms4
import Derived.Test.YtkaokiiooakleaaCShapeAtoms5
import Derived.Test.YtkaokiiooakleaaCShapeAtoms6
import Derived.Test.YtkaokiiooakleaaCShapeAtoms7
import Derived.Test.YtkaokiiooakleaaCShapeAtomsW
set_option linter.unusedVariables false
namespace Go.Proofs.Ytkaokiiooakleaa.PShapeAtoms
open Go.RowKit Go.Proofs.YtkaokiiooakleaaW.PrintWords Go.Proofs.YtkaokiiooakleaaW.PrintLast Go.Proofs.YtkaokiiooakleaaW.PrintMore
section
open ShapeM
/-! #### the parts of a definition, as the walk sees them -/
abbrev Rw (l : List S65) := Row (Sh.errE l) (Sh.K65 l) (Sh.C65 l)
abbrev Fl (l : List S65) := Fail (Sh.errE l) (Sh.K65 l) (Sh.C65 l)
theorem kindP_nat (l : List S65) (q : Nat) : kindP (Sh.C65 l) (q : Int) = (rd_T65 l q).f0 := by
  unfold kindP
  rw [if_neg (by omega)]
  rfl
theorem K_eq {l : List S65} {a d : Nat} {i : Int} (h : Sh.errE l a d i = 0) : ((Sh.K65 l a : Nat) : Int) = (rd_T65 l a).f4 := by
  have := Sh.errE_ok h
  unfold Sh.K65
  omega
theorem err_of {l : List S65} {a d : Nat} {i : Int} : Sh.errE l a d i = 0 ∨ Sh.errE l a d i = 81 ∨ Sh.errE l a d i = 80 := by
  unfold Sh.errE
  split
  · exact .inr (.inl rfl)
  · split
    · exact .inr (.inr rfl)
    · exact .inl rfl
/-- What may stand deep may stand less deep, and at the top. -/
theorem err_rise {l : List S65} : ∀ a d d' p, d' ≤ d → Sh.errE l a d p = 0 → Sh.errE l a d' p = 0 ∧ Sh.errE l a d' 0 = 0 := by
  intro a d d' p hd h
  unfold Sh.errE at h ⊢
  split at h
  · cases h
  · rename_i h1
    split at h
    · cases h
    · rename_i h2
      have h3 : ¬ (Sh.is1 l a || Sh.is2 l a || ((0 : Int) == 2 && !((rd_T65 l a).f0 == 0))) = true := by
        simp only [Bool.or_eq_true, not_or] at h1 ⊢
        exact ⟨h1.1, by simp⟩
      exact ⟨by rw [if_neg h1, if_neg (by omega)], by rw [if_neg h3, if_neg (by omega)]⟩
theorem row_or_fail (l : List S65) : ∀ (n a : Nat), 64 - a = n → ∀ (k : Nat) (p : Int) (d : Nat), (∃ b L, Rw l a k p d b L) ∨ (∃ wh e, Fl l a k p d wh e) := by
  intro n
  induction n using Nat.strongRecOn with
  | ind n ih =>
    intro a hn k p d
    cases k with
    | zero => exact .inl ⟨_, _, .nil _ _ _⟩
    | succ k =>
      by_cases he : Sh.errE l a d (kindP (Sh.C65 l) p) = 0
      · have ha := (Sh.errE_ok he).2.1
        rcases ih (64 - (a + 1)) (by omega) (a + 1) rfl (Sh.K65 l a) a (d + 1) with ⟨mid, L, h1⟩ | ⟨wh, e, h1⟩
        · have := h1.le
          by_cases hk : k = 0
          · subst hk
            exact .inl ⟨_, _, .cons he h1 (.nil _ _ _)⟩
          · rcases ih (64 - mid) (by omega) mid rfl k p d with ⟨b, M, h2⟩ | ⟨wh, e, h2⟩
            · exact .inl ⟨_, _, .cons he h1 h2⟩
            · exact .inr ⟨_, _, .next he h1 h2⟩
        · exact .inr ⟨_, _, .kid he h1⟩
      · exact .inr ⟨_, _, .here he⟩
theorem row_top {l : List S65} {a k d b : Nat} {p : Int} {L : List (Nat × Int × Nat)} (h : Rw l a k p d b L) : b ≤ max a 64 ∧ (a < b → b ≤ l.length) := by
  induction h with
  | nil => exact ⟨by omega, fun h => by omega⟩
  | @cons a k d mid b p L M he h1 h2 i1 i2 =>
    have := Sh.errE_ok he
    have := h1.le
    have := h2.le
    refine ⟨by omega, fun _ => ?_⟩
    rcases Nat.lt_or_ge mid b with h3 | h3
    · exact i2.2 h3
    · have : b = mid := by omega
      subst this
      rcases Nat.lt_or_ge (a + 1) b with h4 | h4
      · exact i1.2 h4
      · omega
theorem fail_top {l : List S65} {a k d wh : Nat} {p e : Int} (h : Fl l a k p d wh e) : wh ≤ max a 64 ∧ e ≠ 0 := by
  induction h with
  | here he => exact ⟨by omega, he⟩
  | kid he h1 i1 =>
    have := Sh.errE_ok he
    exact ⟨by omega, i1.2⟩
  | next he h0 h1 i1 =>
    have := Sh.errE_ok he
    have := (row_top h0).1
    exact ⟨by omega, i1.2⟩
end
section
open ShapeM
/-! #### the document's reading -/
/-- The parts' numbers are of their kinds. -/
def Wf (l : List S65) : Prop := l.length ≤ 9223372036854775807 ∧ ∀ x ∈ l, 0 ≤ x.f0 ∧ 0 ≤ x.f1 ∧ 0 ≤ x.f2
theorem rd_wf {l : List S65} (h : Wf l) (a : Nat) (ha : a < l.length) : 0 ≤ (rd_T65 l a).f0 ∧ 0 ≤ (rd_T65 l a).f1 ∧ 0 ≤ (rd_T65 l a).f2 := by
  unfold rd_T65
  rw [show ((a : Int)).toNat = a from rfl, List.getD_eq_getElem?_getD, List.getElem?_eq_getElem ha]
  exact h.2 _ (List.getElem_mem ha)
/-- What the walk tells of the whole. -/
theorem treeF_row {l : List S65} {b : Nat} {L : List (Nat × Int × Nat)} (h : Rw l 0 1 (-1) 1 b L) : Sh.treeF l = (if (b : Int) < l.length then ((b : Int), 81) else (0, 0)) ∧ Sh.walk65 l = (L, b, 0) := by
  have hb := (row_top h).1
  have : Sh.walk65 l = (L, b, 0) := walk_row h (by omega)
  refine ⟨?_, this⟩
  unfold Sh.treeF
  rw [this]
  rfl
theorem treeF_fail {l : List S65} {wh : Nat} {e : Int} (h : Fl l 0 1 (-1) 1 wh e) : Sh.treeF l = ((wh : Int), e) := by
  have hb := fail_top h
  have : (Sh.walk65 l).2 = (wh, e) := walk_fail h (by omega)
  unfold Sh.treeF
  rw [this]
  simp [hb.2]
/-- A definition that may be: the whole is one term. -/
theorem tree_ok {l : List S65} (h : (Sh.treeF l).2 = 0) : ∃ L, Rw l 0 1 (-1) 1 l.length L ∧ (Sh.walk65 l).1 = L := by
  rcases row_or_fail l 64 0 rfl 1 (-1) 1 with ⟨b, L, h1⟩ | ⟨wh, e, h1⟩
  · obtain ⟨h2, h3⟩ := treeF_row h1
    rw [h2] at h
    have hle := h1.le
    by_cases hb : (b : Int) < l.length
    · rw [if_pos hb] at h; simp at h
    · have := (row_top h1).2 (by omega)
      have : b = l.length := by omega
      subst this
      exact ⟨L, h1, by rw [h3]⟩
  · rw [treeF_fail h1] at h
    exact absurd h (fail_top h1).2
end
set_option maxRecDepth 100000 in
theorem head_ev : Ev (fun k => liverylaw08_head.f k) true := Ev.of liverylaw08_head.mono (k := 30) (by kernel_rfl)
theorem one_f (a0 a1 a2 : Int) : shape_Check.f 0 4096 [(⟨0, a0, a1, a2, 0⟩ : S65)] = some (if Sh.atomB ⟨0, a0, a1, a2, 0⟩ = true then (0, 81) else (0, 0)) := by
  unfold shape_Check.f
  rw [if_neg (by decide), if_neg (by decide), if_neg (by decide), if_neg (by unfold wrap64; omega)]
  unfold shape_tree.f
  rw [Option.bind_some]
  have hE : Sh.errE [(⟨0, a0, a1, a2, 0⟩ : S65)] 0 1 0 = if Sh.atomB ⟨0, a0, a1, a2, 0⟩ = true then 81 else 0 := by
    have h1 : Sh.is1 [(⟨0, a0, a1, a2, 0⟩ : S65)] (0 : Nat) = false := rfl
    have h2 : Sh.is2 [(⟨0, a0, a1, a2, 0⟩ : S65)] (0 : Nat) = Sh.atomB ⟨0, a0, a1, a2, 0⟩ := rfl
    unfold Sh.errE
    rw [h1, h2]
    cases Sh.atomB ⟨0, a0, a1, a2, 0⟩ <;> rfl
  have hk : Sh.K65 [(⟨0, a0, a1, a2, 0⟩ : S65)] 0 = 0 := rfl
  by_cases hb : Sh.atomB ⟨0, a0, a1, a2, 0⟩ = true
  · rw [if_pos hb] at hE ⊢
    have := treeF_fail (l := [(⟨0, a0, a1, a2, 0⟩ : S65)]) (wh := 0) (e := Sh.errE [(⟨0, a0, a1, a2, 0⟩ : S65)] 0 1 0) (.here (k := 0) (p := -1) (d := 1) (by show Sh.errE _ 0 1 0 ≠ 0; rw [hE]; decide))
    rw [this, hE]
    rfl
  · rw [if_neg hb] at hE ⊢
    have h1 : Rw [(⟨0, a0, a1, a2, 0⟩ : S65)] 0 1 (-1) 1 1 ((0, -1, 1) :: ([] ++ [])) := .cons hE (by rw [hk]; exact .nil _ _ _) (.nil _ _ _)
    rw [(treeF_row h1).1]
    rfl
theorem atoms_loop (N G : Nat) (hG : 1 ≤ G) (hGN : G ≤ N) (hN : N ≤ 4096) (x8 : Int) (h8 : x8 = if N % G = 0 then 0 else 81) : ∀ (n i : Nat), N + G ≤ G * i + G * n → (i = 0 ∨ G * (i - 1) < N) → Ev (fun k => liverylaw08_ShapeAtoms.l0 k N G x8 ((G * i : Nat) : Int)) true
  | 0, i, hn, hi => by
    exfalso
    rcases hi with rfl | hi
    · simp at hn; omega
    · have : G * i = G * (i - 1) + G ∨ i = 0 := by
        cases i with
        | zero => exact .inr rfl
        | succ i => exact .inl (by rw [Nat.add_sub_cancel, Nat.mul_succ])
      rcases this with h | h
      · omega
      · subst h; simp at hn; omega
  | n + 1, i, hn, hi => by
    obtain ⟨K0, k0⟩ := head_ev
    dsimp only at k0
    by_cases hlt : G * i < N
    · obtain ⟨K, g⟩ := atoms_loop N G hG hGN hN x8 h8 n (i + 1) (by rw [Nat.mul_succ]; rw [Nat.mul_succ] at hn; omega) (.inr (by simpa using hlt))
      refine ⟨K + 1, fun f hf => ?_⟩
      obtain ⟨f, rfl⟩ : ∃ f', f = f' + 1 := ⟨f - 1, by omega⟩
      show liverylaw08_ShapeAtoms.l0 (f + 1) _ _ _ _ = _
      rw [liverylaw08_ShapeAtoms.l0, if_pos (by omega), show ((((G * i : Nat) : Int) + (G : Int)) % 4294967296) = ((G * (i + 1) : Nat) : Int) by rw [Nat.mul_succ]; omega]
      exact g f (by omega)
    · refine ⟨K0 + 1, fun f hf => ?_⟩
      obtain ⟨f, rfl⟩ : ∃ f', f = f' + 1 := ⟨f - 1, by omega⟩
      show liverylaw08_ShapeAtoms.l0 (f + 1) _ _ _ _ = _
      rw [liverylaw08_ShapeAtoms.l0, if_neg (by omega), k0 f (by omega)]
      by_cases hd : N % G = 0
      · rw [if_pos hd] at h8
        obtain ⟨q, hq⟩ : ∃ q, N = G * q := ⟨N / G, by have := Nat.div_add_mod N G; omega⟩
        have hiq : i ≤ q := by
          rcases hi with rfl | hi
          · omega
          · rw [hq] at hi
            have := Nat.lt_of_mul_lt_mul_left hi
            omega
        have : G * i ≤ G * q := Nat.mul_le_mul_left _ hiq
        have he : G * i = N := by omega
        rw [he]
        subst h8
        simp
      · rw [if_neg hd] at h8
        have he : ¬ ((G * i : Nat) : Int) = (N : Int) := by
          intro h
          apply hd
          have : N = G * i := by omega
          rw [this]
          exact Nat.mul_mod_right _ _
        have hb : (((G * i : Nat) : Int) == (N : Int)) = false := by simpa using he
        rw [hb]
        subst h8
        simp
theorem ShapeAtoms (a0 a1 a2 : Int) (w0 : (Lit.int .u32 a0).wf = true) (w1 : (Lit.int .u32 a1).wf = true) (w2 : (Lit.int .i64 a2).wf = true) : ∃ k, liverylaw08_ShapeAtoms.f k a0 a1 a2 = some true := by
  have h0 := XOpen.u32_of w0
  have h1 := XOpen.u32_of w1
  obtain ⟨K0, k0⟩ := head_ev
  dsimp only at k0
  obtain ⟨N, rfl⟩ : ∃ N : Nat, a0 = N := ⟨a0.toNat, by omega⟩
  obtain ⟨G, rfl⟩ : ∃ G : Nat, a1 = G := ⟨a1.toNat, by omega⟩
  have no : ∀ k, K0 ≤ k → liverylaw08_ShapeAtoms.j0 (k + 1) N G 81 false = some true := by
    intro k hk
    rw [liverylaw08_ShapeAtoms.j0, k0 k hk]
    rfl
  unfold liverylaw08_ShapeAtoms.f
  simp only [one_f, Option.bind_some]
  by_cases hb : Sh.atomB ⟨0, N, G, a2, 0⟩ = true
  · rw [if_pos hb]
    by_cases c1 : (N : Int) ≥ 1
    · by_cases c2 : (N : Int) ≤ 4096
      · by_cases c3 : (G : Int) ≥ 1
        · by_cases c4 : (G : Int) ≤ N
          · by_cases c5 : a2 ≥ 1
            · by_cases c6 : a2 ≤ 4096
              · -- the gangs are not whole
                have hd : ¬ N % G = 0 := by
                  intro hd
                  unfold Sh.atomB at hb
                  have hb := of_decide_eq_true hb
                  simp only at hb
                  rcases hb with h | h | h | h | h | h | h | h
                  · exact h rfl
                  · omega
                  · omega
                  · omega
                  · omega
                  · apply h
                    rw [Int.tmod_eq_emod_of_nonneg (by omega)]
                    exact_mod_cast hd
                  · omega
                  · omega
                obtain ⟨K, g⟩ := atoms_loop N G (by omega) (by omega) (by omega) 81 (by rw [if_neg hd]) (N + 1) 0 (by simp only [Nat.mul_zero, Nat.zero_add, Nat.mul_succ]; have := Nat.le_mul_of_pos_left N (show 0 < G by omega); omega) (.inl rfl)
                refine ⟨K + 1, ?_⟩
                rw [if_pos c1, if_pos c2, if_pos c3, if_pos c4, if_pos c5, decide_eq_true c6, liverylaw08_ShapeAtoms.j0, if_pos rfl]
                have := g K (Nat.le_refl _)
                simpa using this
              · exact ⟨K0 + 1, by rw [if_pos c1, if_pos c2, if_pos c3, if_pos c4, if_pos c5, decide_eq_false c6]; exact no _ (Nat.le_refl _)⟩
            · exact ⟨K0 + 1, by rw [if_pos c1, if_pos c2, if_pos c3, if_pos c4, if_neg c5]; exact no _ (Nat.le_refl _)⟩
          · exact ⟨K0 + 1, by rw [if_pos c1, if_pos c2, if_pos c3, if_neg c4]; exact no _ (Nat.le_refl _)⟩
        · exact ⟨K0 + 1, by rw [if_pos c1, if_pos c2, if_neg c3]; exact no _ (Nat.le_refl _)⟩
      · exact ⟨K0 + 1, by rw [if_pos c1, if_neg c2]; exact no _ (Nat.le_refl _)⟩
    · exact ⟨K0 + 1, by rw [if_neg c1]; exact no _ (Nat.le_refl _)⟩
  · rw [if_neg hb]
    have hb' : Sh.atomB ⟨0, N, G, a2, 0⟩ = false := by simpa using hb
    unfold Sh.atomB at hb'
    have hn := of_decide_eq_false hb'
    simp only [not_or] at hn
    obtain ⟨n0, n1, n2, n3, n4, n5, n6, n7⟩ := hn
    have hd : N % G = 0 := by
      have h5 : Int.tmod (N : Int) (G : Int) = 0 := by
        by_cases h : Int.tmod (N : Int) (G : Int) = 0
        · exact h
        · exact absurd h n5
      rw [Int.tmod_eq_emod_of_nonneg (by omega)] at h5
      exact_mod_cast h5
    obtain ⟨K, g⟩ := atoms_loop N G (by omega) (by omega) (by omega) 0 (by rw [if_pos hd]) (N + 1) 0 (by simp only [Nat.mul_zero, Nat.zero_add, Nat.mul_succ]; have := Nat.le_mul_of_pos_left N (show 0 < G by omega); omega) (.inl rfl)
    refine ⟨K + 1, ?_⟩
    rw [if_pos (by omega), if_pos (by omega), if_pos (by omega), if_pos (by omega), if_pos (by omega), decide_eq_true (show a2 ≤ 4096 by omega), liverylaw08_ShapeAtoms.j0, if_pos rfl]
    have := g K (Nat.le_refl _)
    simpa using this
end Go.Proofs.Ytkaokiiooakleaa.PShapeAtoms
