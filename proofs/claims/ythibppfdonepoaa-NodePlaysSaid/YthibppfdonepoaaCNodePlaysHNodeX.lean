/- liveryref22.Join: the world while the new row is put together. -/
import Derived.Test.YthibppfdonepoaaCNodePlaysHNodeU
import Derived.Test.YthibppfdonepoaaCNodePlaysW
set_option linter.unusedVariables false
namespace Go.Proofs.Ythibppfdonepoaa.NodeT
open Go.RowKit Go.Proofs.Ythibppfdonepoaa.XBut Go.Proofs.Ythibppfdonepoaa.PNodePlays Go.Proofs.YthibppfdonepoaaW.PrintWords Go.Proofs.YthibppfdonepoaaW.PrintLast
abbrev RN (w : World) (N : Nat) (ok : Nat → Prop) (v : Value) (xs : List S39) : Prop := Kd.R k39 39 w N ok v xs
abbrev V5 := Value × Value × Value × Value × Value
/-- 0: the empty row; 5: what stands ahead; 7: the node's own row; 8: with it; 13: whole; 15: stored. -/
def JW (N : Nat) (Ws : World) (x : S39) (tk dr : List S39) (p : Addr) (b : V5) (l : Nat → Bool) (w' : World) : Prop :=
  if l 15 = true then ∃ wz, Below N Ws wz ∧ RN wz N (fun _ => True) b.2.2.2.2 ((tk ++ [x]) ++ dr) ∧ w' = wz.setCell p b.2.2.2.2
  else Below N Ws w' ∧
    (if l 13 = true then RN w' N (fun _ => True) b.2.2.2.2 ((tk ++ [x]) ++ dr)
     else if l 8 = true then RN w' N (fun _ => True) b.2.2.2.1 (tk ++ [x])
     else (l 7 = true → RN w' N (fun k => b.2.2.1.ownBlock = some k) b.2.2.1 [x]) ∧
          (if l 5 = true then RN w' N (fun k => l 7 = true → b.2.2.1.ownBlock ≠ some k) b.2.1 tk
           else l 0 = true → RN w' N (fun k => l 7 = true → b.2.2.1.ownBlock ≠ some k) b.1 []))
theorem JW.start {N : Nat} {Ws w' : World} {x : S39} {tk dr : List S39} {p : Addr} {b : V5} (h : Below N Ws w') : JW N Ws x tk dr p b (fun _ => false) w' := by
  unfold JW
  simp [h]
theorem JW.below {N : Nat} {Ws w' : World} {x : S39} {tk dr : List S39} {p : Addr} {b : V5} {l : Nat → Bool} (h : JW N Ws x tk dr p b l w') (h15 : l 15 = false) : Below N Ws w' := by
  unfold JW at h
  rw [if_neg (by rw [h15]; decide)] at h
  exact h.1
theorem JW.up {N : Nat} {Ws w' : World} {x : S39} {tk dr : List S39} {p : Addr} {b : V5} {l : Nat → Bool} (h : JW N Ws x tk dr p b l w') (i : Nat) (hi : i ≠ 0 ∧ i ≠ 5 ∧ i ≠ 7 ∧ i ≠ 8 ∧ i ≠ 13 ∧ i ≠ 15) : JW N Ws x tk dr p b (XInv.up l i) w' := by
  have e : ∀ j, j ≠ i → XInv.up l i j = l j := fun j hj => by unfold XInv.up; rw [if_neg hj]
  unfold JW at *
  rw [e 15 (Ne.symm hi.2.2.2.2.2), e 13 (Ne.symm hi.2.2.2.2.1), e 8 (Ne.symm hi.2.2.2.1), e 7 (Ne.symm hi.2.2.1), e 5 (Ne.symm hi.2.1), e 0 (Ne.symm hi.1)]
  exact h
/-- The empty row is laid. -/
theorem JW.s0 {N : Nat} {Ws w' w1 : World} {x : S39} {tk dr : List S39} {p : Addr} {b : V5} {l : Nat → Bool} (h : JW N Ws x tk dr p b l w') (h15 : l 15 = false) (h13 : l 13 = false) (h8 : l 8 = false) (h5 : l 5 = false)
    (v : Value) (hb : Below w'.heap.size w' w1) (hR : RN w1 w'.heap.size (fun _ => True) v []) (hN : N ≤ w'.heap.size) : JW N Ws x tk dr p (v, b.2) (XInv.up l 0) w1 := by
  have e : ∀ j, j ≠ 0 → XInv.up l 0 j = l j := fun j hj => by unfold XInv.up; rw [if_neg hj]
  unfold JW at *
  rw [e 15 (by decide), e 13 (by decide), e 8 (by decide), e 7 (by decide), e 5 (by decide)]
  rw [if_neg (by rw [h15]; decide), if_neg (by rw [h13]; decide), if_neg (by rw [h8]; decide), if_neg (by rw [h5]; decide)] at h ⊢
  obtain ⟨h1, h2, h3⟩ := h
  refine ⟨h1.trans (hb.mono hN), fun h7 => Kd.R_below (h2 h7) hb, fun _ => ?_⟩
  refine Kd.R_mono (Kd.R_lower (Kd.R_bound hR) hN) (fun k hk h7 he => ?_)
  have := Kd.R_lt (h2 h7) k he
  have := hk.2.1
  omega
theorem JW.row0 {N : Nat} {Ws w' : World} {x : S39} {tk dr : List S39} {p : Addr} {b : V5} {l : Nat → Bool} (h : JW N Ws x tk dr p b l w') (h15 : l 15 = false) (h13 : l 13 = false) (h8 : l 8 = false) (h5 : l 5 = false) (h0 : l 0 = true) : RN w' N (fun k => l 7 = true → b.2.2.1.ownBlock ≠ some k) b.1 [] := by
  unfold JW at h
  rw [if_neg (by rw [h15]; decide), if_neg (by rw [h13]; decide), if_neg (by rw [h8]; decide), if_neg (by rw [h5]; decide)] at h
  exact h.2.2 h0
theorem JW.row5 {N : Nat} {Ws w' : World} {x : S39} {tk dr : List S39} {p : Addr} {b : V5} {l : Nat → Bool} (h : JW N Ws x tk dr p b l w') (h15 : l 15 = false) (h13 : l 13 = false) (h8 : l 8 = false) (h5 : l 5 = true) : RN w' N (fun k => l 7 = true → b.2.2.1.ownBlock ≠ some k) b.2.1 tk := by
  unfold JW at h
  rw [if_neg (by rw [h15]; decide), if_neg (by rw [h13]; decide), if_neg (by rw [h8]; decide), if_pos h5] at h
  exact h.2.2
theorem JW.row7 {N : Nat} {Ws w' : World} {x : S39} {tk dr : List S39} {p : Addr} {b : V5} {l : Nat → Bool} (h : JW N Ws x tk dr p b l w') (h15 : l 15 = false) (h13 : l 13 = false) (h8 : l 8 = false) (h7 : l 7 = true) : RN w' N (fun k => b.2.2.1.ownBlock = some k) b.2.2.1 [x] := by
  unfold JW at h
  rw [if_neg (by rw [h15]; decide), if_neg (by rw [h13]; decide), if_neg (by rw [h8]; decide)] at h
  exact h.2.1 h7
theorem JW.row8 {N : Nat} {Ws w' : World} {x : S39} {tk dr : List S39} {p : Addr} {b : V5} {l : Nat → Bool} (h : JW N Ws x tk dr p b l w') (h15 : l 15 = false) (h13 : l 13 = false) (h8 : l 8 = true) : RN w' N (fun _ => True) b.2.2.2.1 (tk ++ [x]) := by
  unfold JW at h
  rw [if_neg (by rw [h15]; decide), if_neg (by rw [h13]; decide), if_pos h8] at h
  exact h.2
theorem JW.row13 {N : Nat} {Ws w' : World} {x : S39} {tk dr : List S39} {p : Addr} {b : V5} {l : Nat → Bool} (h : JW N Ws x tk dr p b l w') (h15 : l 15 = false) (h13 : l 13 = true) : RN w' N (fun _ => True) b.2.2.2.2 ((tk ++ [x]) ++ dr) := by
  unfold JW at h
  rw [if_neg (by rw [h15]; decide), if_pos h13] at h
  exact h.2
theorem JW.s5 {N : Nat} {Ws w' w1 : World} {x : S39} {tk dr : List S39} {p : Addr} {b : V5} {l : Nat → Bool} (h : JW N Ws x tk dr p b l w') (h15 : l 15 = false) (h13 : l 13 = false) (h8 : l 8 = false) (h5 : l 5 = false) (h0 : l 0 = true)
    (v : Value) (hR : RN w1 N (fun k => l 7 = true → b.2.2.1.ownBlock ≠ some k) v tk) (hB : Below N Ws w1) (hg : w'.grownBy w1 b.1.ownBlock) : JW N Ws x tk dr p (b.1, v, b.2.2) (XInv.up l 5) w1 := by
  have e : ∀ j, j ≠ 5 → XInv.up l 5 j = l j := fun j hj => by unfold XInv.up; rw [if_neg hj]
  have e5 : XInv.up l 5 5 = true := by unfold XInv.up; rw [if_pos rfl]
  have r0 := h.row0 h15 h13 h8 h5 h0
  unfold JW at *
  rw [e 15 (by decide), e 13 (by decide), e 8 (by decide), e 7 (by decide), e5, e 0 (by decide)]
  rw [if_neg (by rw [h15]; decide), if_neg (by rw [h13]; decide), if_neg (by rw [h8]; decide)] at h ⊢
  rw [if_pos rfl]
  refine ⟨hB, fun h7 => Kd.R_grown (h.2.1 h7) hg (fun k hk he => ?_), hR⟩
  exact r0.1 k he.symm h7 hk
theorem JW.s7 {N : Nat} {Ws w' w1 : World} {x : S39} {tk dr : List S39} {p : Addr} {b : V5} {l : Nat → Bool} (h : JW N Ws x tk dr p b l w') (h15 : l 15 = false) (h13 : l 13 = false) (h8 : l 8 = false) (h7 : l 7 = false)
    (v : Value) (hb : Below w'.heap.size w' w1) (hR : RN w1 w'.heap.size (fun _ => True) v [x]) (hN : N ≤ w'.heap.size) : JW N Ws x tk dr p (b.1, b.2.1, v, b.2.2.2) (XInv.up l 7) w1 := by
  have e : ∀ j, j ≠ 7 → XInv.up l 7 j = l j := fun j hj => by unfold XInv.up; rw [if_neg hj]
  have e7 : XInv.up l 7 7 = true := by unfold XInv.up; rw [if_pos rfl]
  have old : ∀ u (xs : List S39), RN w' N (fun k => l 7 = true → b.2.2.1.ownBlock ≠ some k) u xs → RN w1 N (fun k => True → v.ownBlock ≠ some k) u xs := fun u xs hu =>
    Kd.R_mono (Kd.R_below (Kd.R_bound hu) hb) (fun k hk _ he => by have := Kd.R_base hR k he; have := hk.2.2.1; omega)
  unfold JW at *
  rw [e 15 (by decide), e 13 (by decide), e 8 (by decide), e7, e 5 (by decide), e 0 (by decide)]
  rw [if_neg (by rw [h15]; decide), if_neg (by rw [h13]; decide), if_neg (by rw [h8]; decide)] at h ⊢
  obtain ⟨h1, h2, h3⟩ := h
  refine ⟨h1.trans (hb.mono hN), fun _ => Kd.R_lower (Kd.R_tight (by rfl) (Kd.R_mono hR fun _ _ => trivial) |> fun hz => Kd.R_mono hz fun k hk => hk.symm) hN, ?_⟩
  split at h3
  · rename_i h5
    rw [if_pos h5]
    exact Kd.R_mono (old _ _ h3) (fun k hk _ => hk trivial)
  · rename_i h5
    rw [if_neg h5]
    exact fun h0 => Kd.R_mono (old _ _ (h3 h0)) (fun k hk _ => hk trivial)
theorem JW.s8 {N : Nat} {Ws w' w1 : World} {x : S39} {tk dr : List S39} {p : Addr} {b : V5} {l : Nat → Bool} (h : JW N Ws x tk dr p b l w') (h15 : l 15 = false) (h13 : l 13 = false) (v : Value) (hR : RN w1 N (fun _ => True) v (tk ++ [x])) (hB : Below N Ws w1) : JW N Ws x tk dr p (b.1, b.2.1, b.2.2.1, v, b.2.2.2.2) (XInv.up l 8) w1 := by
  have e : ∀ j, j ≠ 8 → XInv.up l 8 j = l j := fun j hj => by unfold XInv.up; rw [if_neg hj]
  have e8 : XInv.up l 8 8 = true := by unfold XInv.up; rw [if_pos rfl]
  unfold JW
  rw [e 15 (by decide), e 13 (by decide), e8, if_neg (by rw [h15]; decide), if_neg (by rw [h13]; decide), if_pos rfl]
  exact ⟨hB, hR⟩
theorem JW.s13 {N : Nat} {Ws w' w1 : World} {x : S39} {tk dr : List S39} {p : Addr} {b : V5} {l : Nat → Bool} (h : JW N Ws x tk dr p b l w') (h15 : l 15 = false) (v : Value) (hR : RN w1 N (fun _ => True) v ((tk ++ [x]) ++ dr)) (hB : Below N Ws w1) : JW N Ws x tk dr p (b.1, b.2.1, b.2.2.1, b.2.2.2.1, v) (XInv.up l 13) w1 := by
  have e : ∀ j, j ≠ 13 → XInv.up l 13 j = l j := fun j hj => by unfold XInv.up; rw [if_neg hj]
  have e13 : XInv.up l 13 13 = true := by unfold XInv.up; rw [if_pos rfl]
  unfold JW
  rw [e 15 (by decide), e13, if_neg (by rw [h15]; decide), if_pos rfl]
  exact ⟨hB, hR⟩
theorem JW.s15 {N : Nat} {Ws w' w1 : World} {x : S39} {tk dr : List S39} {p : Addr} {b : V5} {l : Nat → Bool} (h : JW N Ws x tk dr p b l w') (h15 : l 15 = false) (h13 : l 13 = true) (hw : w1 = w'.setCell p b.2.2.2.2) : JW N Ws x tk dr p b (XInv.up l 15) w1 := by
  have e15 : XInv.up l 15 15 = true := by unfold XInv.up; rw [if_pos rfl]
  have r := h.row13 h15 h13
  have hb := h.below h15
  unfold JW
  rw [e15, if_pos rfl]
  exact ⟨w', hb, r, hw⟩
end Go.Proofs.Ythibppfdonepoaa.NodeT
