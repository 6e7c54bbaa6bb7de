/- Tables that are as the document has them; acts on them. -/
import Derived.Test.YthibppfdonepoaaCLedgerRoomsHNodeH
set_option linter.unusedVariables false
namespace Go.Proofs.Ythibppfdonepoaa.NodeT
open Go.RowKit Go.MapKept Go.Maps Go.ChangeMaps Go.Proofs.Ythibppfdonepoaa.XBut Go.Proofs.Ythibppfdonepoaa.XMap Go.Proofs.Ythibppfdonepoaa.PNodePlays Go.Proofs.YthibppfdonepoaaW.PrintWords Go.Proofs.YthibppfdonepoaaW.PrintLast
/-- Resources that a node may have. -/
def okV (c : Int) (v : S23) : Prop := (c ≤ v.f0 ∧ c ≤ v.f1) ∧ (v.f0 ≤ 1073741824 ∧ v.f1 ≤ 1073741824)
instance (c : Int) (v : S23) : Decidable (okV c v) := inferInstanceAs (Decidable (_ ∧ _))
theorem in_f (a b c : Int) : node_in.f a b c = some (decide (okV c ⟨a, b⟩)) := by
  unfold node_in.f
  rw [LE_f, Option.bind_some, LE_f, Option.bind_some]
  by_cases h : c ≤ a ∧ c ≤ b
  · rw [decide_eq_true h, if_pos rfl]
    congr 1
    exact decide_eq_decide.2 ⟨fun h2 => ⟨h, h2⟩, fun h2 => h2.2⟩
  · rw [decide_eq_false h, if_neg (by decide), decide_eq_false (fun h2 : okV c ⟨a, b⟩ => h h2.1)]
/-- A node's units. -/
def uns (u0 u1 : Int) (x : S39) : Int := mn (x.f1.f0 / u0) (x.f1.f1 / u1)
structure Good (u0 u1 : Int) (ns : List S39) : Prop where
  unit : okV 1 ⟨u0, u1⟩
  all : ∀ x ∈ ns, (1 ≤ x.f0 ∧ x.f0 ≤ 4294967295) ∧ okV 0 x.f1 ∧ uns u0 u1 x ≤ 4096
  rising : ns.Pairwise fun x y => x.f0 < y.f0
  len : ns.length ≤ 32
theorem uns_nonneg {u0 u1 : Int} {x : S39} (hu : okV 1 ⟨u0, u1⟩) (hx : okV 0 x.f1) : 0 ≤ uns u0 u1 x ∧ uns u0 u1 x ≤ 1073741824 := by
  unfold okV at hu hx
  dsimp only at hu
  have h1 : 0 ≤ x.f1.f0 / u0 := Int.ediv_nonneg (by omega) (by omega)
  have h2 : 0 ≤ x.f1.f1 / u1 := Int.ediv_nonneg (by omega) (by omega)
  have h3 : x.f1.f0 / u0 ≤ x.f1.f0 := Int.ediv_le_self _ (by omega)
  unfold uns mn
  split <;> omega
theorem units_uns {u0 u1 : Int} {x : S39} (hu : okV 1 ⟨u0, u1⟩) (hx : okV 0 x.f1) : units x.f1.f0 x.f1.f1 u0 u1 = (uns u0 u1 x, 0) := by
  unfold okV at hu hx
  dsimp only at hu
  unfold units inV
  rw [if_neg (by omega), if_neg (by omega), if_neg (by omega)]
  rfl
theorem units_at {u0 u1 : Int} {x : S39} (hu : okV 1 ⟨u0, u1⟩) (hx : okV 0 x.f1) : Ev (fun k => vec_Units.f k x.f1.f0 x.f1.f1 u0 u1) (uns u0 u1 x, 0) := by
  have h := Units_ev x.f1.f0 x.f1.f1 u0 u1 (by unfold okV at hx; unfold b64; omega) (by unfold okV at hx; unfold b64; omega)
  rwa [units_uns hu hx] at h
theorem units_all {u0 u1 : Int} (hu : okV 1 ⟨u0, u1⟩) : ∀ ns : List S39, (∀ x ∈ ns, okV 0 x.f1) → ∃ k, ∀ x ∈ ns, vec_Units.f k x.f1.f0 x.f1.f1 u0 u1 = some (uns u0 u1 x, 0) := by
  intro ns hx
  have : ∃ K, ∀ k, K ≤ k → ∀ x ∈ ns, vec_Units.f k x.f1.f0 x.f1.f1 u0 u1 = some (uns u0 u1 x, 0) := by
    induction ns with
    | nil => exact ⟨0, fun _ _ _ h => by cases h⟩
    | cons a l ih =>
      obtain ⟨K1, h1⟩ := ih fun x h => hx x (by simp [h])
      obtain ⟨K2, h2⟩ := units_at hu (hx a (by simp))
      refine ⟨K1 + K2, fun k hk x h => ?_⟩
      rcases List.mem_cons.1 h with rfl | h
      · exact h2 k (by omega)
      · exact h1 k (by omega) x h
  obtain ⟨K, h⟩ := this
  exact ⟨K, h K (Nat.le_refl _)⟩
/-- What Join answers at a node. -/
def code (u0 u1 : Int) (ns : List S39) (x : S39) : Int := joins x.f0 (decide (okV 0 x.f1)) (uns u0 u1 x) (who ns x.f0).isSome ns.length
theorem joinC (base b g : Nat) (u0 u1 : Int) (ns : List S39) (x : S39) (w : World) (hT : TabAt w base b g u0 u1 ns) (hG : Good u0 u1 ns) (hi : (Lit.int .u32 x.f0).wf = true) :
    Calls Try.prog 21 #[.pointer (some ⟨b, 0, none⟩), nv x] w fun e w' =>
      e = .returned (.int .i64 (code u0 u1 ns x)) ∧ But (fun k => k = g) w w' ∧ TabAt w' base b g u0 u1 (joined (code u0 u1 ns x) ns x) := by
  have hl := hG.len
  by_cases h : okV 0 x.f1
  · obtain ⟨K, hK⟩ := units_at hG.unit h
    exact join base b g u0 u1 x.f0 x.f1.f0 x.f1.f1 ns w hT hi (by omega) K (decide (okV 0 x.f1)) (uns u0 u1 x) 0 (fun _ => in_f _ _ _) (fun _ _ => hK K (Nat.le_refl _))
  · exact join base b g u0 u1 x.f0 x.f1.f0 x.f1.f1 ns w hT hi (by omega) 0 (decide (okV 0 x.f1)) (uns u0 u1 x) 0 (fun _ => in_f _ _ _) (fun _ h2 => by rw [decide_eq_false h] at h2; cases h2)
theorem ins_mem {ns : List S39} {x y : S39} (h : y ∈ ins ns x) : y = x ∨ y ∈ ns := by
  induction ns with
  | nil => exact .inl (by simpa [ins] using h)
  | cons a l ih =>
    unfold ins at h
    split at h
    · rcases List.mem_cons.1 h with h | h
      · exact .inl h
      · exact .inr h
    · split at h
      · rcases List.mem_cons.1 h with h | h
        · exact .inl h
        · exact .inr (by simp [h])
      · rcases List.mem_cons.1 h with h | h
        · exact .inr (by simp [h])
        · exact (ih h).imp id fun h => by simp [h]
theorem ins_rising {ns : List S39} (x : S39) (hr : ns.Pairwise fun x y => x.f0 < y.f0) : (ins ns x).Pairwise fun x y => x.f0 < y.f0 := by
  induction ns with
  | nil => exact List.pairwise_singleton _ _
  | cons a l ih =>
    obtain ⟨h1, h2⟩ := List.pairwise_cons.1 hr
    unfold ins
    split
    · rename_i h
      refine List.pairwise_cons.2 ⟨fun p hp => ?_, hr⟩
      rcases List.mem_cons.1 hp with rfl | hp
      · exact h
      · have := h1 p hp
        omega
    · split
      · rename_i _ h
        refine List.pairwise_cons.2 ⟨fun p hp => ?_, h2⟩
        have := h1 p hp
        omega
      · rename_i h3 h4
        refine List.pairwise_cons.2 ⟨fun p hp => ?_, ih h2⟩
        rcases ins_mem hp with rfl | hp
        · omega
        · exact h1 p hp
theorem ins_len (ns : List S39) (x : S39) : (ins ns x).length ≤ ns.length + 1 := by
  induction ns with
  | nil => simp [ins]
  | cons a l ih =>
    unfold ins
    split
    · simp
    · split
      · simp
      · simp only [List.length_cons]; omega
theorem code_zero {u0 u1 : Int} {ns : List S39} {x : S39} (h : code u0 u1 ns x = 0) : x.f0 ≠ 0 ∧ okV 0 x.f1 ∧ uns u0 u1 x ≤ 4096 ∧ who ns x.f0 = none ∧ ns.length < 32 := by
  unfold code joins at h
  split at h
  · omega
  · rename_i h1
    split at h
    · omega
    · rename_i h2
      split at h
      · omega
      · rename_i h3
        split at h
        · omega
        · rename_i h4
          split at h
          · omega
          · rename_i h5
            exact ⟨h1, by simpa using h2, by omega, by simpa using h4, by omega⟩
theorem Good.join {u0 u1 : Int} {ns : List S39} (hG : Good u0 u1 ns) (x : S39) (hx : 0 ≤ x.f0 ∧ x.f0 ≤ 4294967295) : Good u0 u1 (joined (code u0 u1 ns x) ns x) := by
  unfold joined
  split
  · rename_i h
    obtain ⟨h1, h2, h3, h4, h5⟩ := code_zero h
    refine ⟨hG.unit, fun y hy => ?_, ins_rising x hG.rising, by have := ins_len ns x; omega⟩
    rcases ins_mem hy with rfl | hy
    · exact ⟨⟨by omega, hx.2⟩, h2, h3⟩
    · exact hG.all y hy
  · exact hG
theorem Good.less {u0 u1 : Int} {ns : List S39} (hG : Good u0 u1 ns) (i : Int) : Good u0 u1 (less ns i) :=
  ⟨hG.unit, fun y hy => hG.all y (List.mem_filter.1 hy).1, List.Pairwise.sublist List.filter_sublist hG.rising, Nat.le_trans (List.length_filter_le _ _) hG.len⟩
theorem less_none {ns : List S39} {i : Int} (h : who ns i = none) : less ns i = ns :=
  List.filter_eq_self.2 fun x hx => by
    have := List.find?_eq_none.1 h x hx
    simpa using this
/-- What Lose gives back. -/
def lost (ns : List S39) (i : Int) : S39 × Int := match who ns i with | some x => (x, 0) | none => (⟨0, ⟨0, 0⟩⟩, 7)
theorem loseC (base b g : Nat) (u0 u1 i : Int) (ns : List S39) (w : World) (hT : TabAt w base b g u0 u1 ns) (hi : (Lit.int .u32 i).wf = true) :
    Calls Try.prog 20 #[.pointer (some ⟨b, 0, none⟩), .int .u32 i] w fun e w' => e = .returned (.tuple #[nv (lost ns i).1, .int .i64 (lost ns i).2]) ∧ But (fun k => k = g) w w' ∧ TabAt w' base b g u0 u1 (less ns i) := by
  unfold lost
  cases h : who ns i with
  | some x => exact lose_yes base b g u0 u1 i ns x w hT hi h
  | none =>
    refine (lose_no base b g u0 u1 i ns w hT hi h).mono ?_
    rintro e w' ⟨rfl, hb⟩
    exact ⟨rfl, But.of_below hb, by rw [less_none h]; exact hT.below hb⟩
end Go.Proofs.Ythibppfdonepoaa.NodeT
