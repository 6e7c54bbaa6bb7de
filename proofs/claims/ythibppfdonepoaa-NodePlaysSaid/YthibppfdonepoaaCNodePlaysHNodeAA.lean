/- liverylaw22.NodePlays: what holds between acts. -/
import Derived.Test.YthibppfdonepoaaCNodePlaysHNodeZ
set_option linter.unusedVariables false
namespace Go.Proofs.Ythibppfdonepoaa.NodeT
open Go.RowKit Go.MapKept Go.Maps Go.ChangeMaps Go.Proofs.Ythibppfdonepoaa.XBut Go.Proofs.Ythibppfdonepoaa.XMap Go.Proofs.Ythibppfdonepoaa.PNodePlays Go.Proofs.YthibppfdonepoaaW.PrintWords Go.Proofs.YthibppfdonepoaaW.PrintLast
/-- A table, and the document's: its row v; in block t7 the value u. -/
structure PL (W0 w : World) (b g t7 : Nat) (u0 u1 : Int) (ns : List S39) (v u : Value) : Prop where
  at_ : At W0 w b g u0 u1 ns
  row : Kd.R k39 39 w W0.heap.size (fun k => v.ownBlock = some k) v ns
  own : ∀ k, v.ownBlock = some k → k ≠ b ∧ k ≠ g ∧ k ≠ t7
  tab : w.heap[t7]? = some (.cells #[.int .i64 u0, .int .i64 u1, u] 31 (0, 0))
  ne : t7 ≠ b ∧ t7 ≠ g ∧ W0.heap.size ≤ t7
theorem PL.same {W0 w w' : World} {b g t7 : Nat} {u0 u1 : Int} {ns : List S39} {v u : Value} (h : PL W0 w b g t7 u0 u1 ns v u) (hb : Below w.heap.size w w') : PL W0 w' b g t7 u0 u1 ns v u :=
  ⟨h.at_.same hb, Kd.R_below h.row hb, h.own, blk_below h.tab hb, h.ne⟩
/-- An act, on both. -/
theorem PL.does {W0 w : World} {b g t7 : Nat} {u0 u1 : Int} {ns : List S39} {v u : Value} (h : PL W0 w b g t7 u0 u1 ns v u) (hG : Good u0 u1 ns) (a : Bool × S39) (hx : (Lit.int .u32 a.2.f0).wf = true) :
    Calls Try.prog 18 #[.pointer (some ⟨b, 0, none⟩), .agg #[.int .i64 u0, .int .i64 u1, v], .agg #[.bool a.1, .int .u32 a.2.f0, .int .i64 a.2.f1.f0, .int .i64 a.2.f1.f1]] w fun e w' => ∃ v', e = .returned (.tuple #[.agg #[.int .i64 u0, .int .i64 u1, v'], .bool true]) ∧
      PL W0 w' b g t7 u0 u1 (act u0 u1 ns a) v' u ∧ But (fun k => k = g ∨ v.ownBlock = some k) w w' ∧ (∀ k, v'.ownBlock = some k → v.ownBlock = some k ∨ w.heap.size ≤ k) := by
  have lt := h.at_.tab.lt
  have lt7 := blk_lt h.tab
  have fin : ∀ (v' : Value) (w' : World), Kd.R k39 39 w' W0.heap.size (fun k => v.ownBlock = some k ∨ w.heap.size ≤ k) v' (act u0 u1 ns a) → TabAt w' W0.heap.size b g u0 u1 (act u0 u1 ns a) → But (fun k => k = g ∨ v.ownBlock = some k) w w' →
      PL W0 w' b g t7 u0 u1 (act u0 u1 ns a) v' u ∧ But (fun k => k = g ∨ v.ownBlock = some k) w w' ∧ (∀ k, v'.ownBlock = some k → v.ownBlock = some k ∨ w.heap.size ≤ k) := by
    intro v' w' hR hT hb
    refine ⟨⟨⟨But.below h.at_.below (Nat.le_refl _) hb (fun k hk => ?_), hT⟩, Kd.R_mono (Kd.R_tight (by rfl) hR) (fun k hk => hk.symm), fun k hk => ?_, hb.heap h.tab (fun hk => ?_), h.ne⟩, hb, fun k hk => hR.1 k hk⟩
    · rcases hk with rfl | hk
      · exact h.at_.tab.base2
      · exact Kd.R_base h.row k hk
    · rcases hR.1 k hk with h1 | h1
      · exact h.own k h1
      · omega
    · rcases hk with hk | hk
      · exact h.ne.2.1 hk
      · exact (h.own _ hk).2.2 rfl
  obtain ⟨gone, x0, x1, x2⟩ := a
  cases gone
  · refine (does_join W0.heap.size b g u0 u1 x0 x1 x2 ns v W0.heap.size (fun k => v.ownBlock = some k) w h.at_.tab hG h.row h.at_.below.size (fun k hk => (h.own k hk).2.1) hx).mono ?_
    rintro e w' ⟨v', rfl, hR, hT, hb⟩
    exact ⟨v', rfl, fin v' w' hR hT (hb.mono fun k hk => .inl hk)⟩
  · refine (does_lose W0.heap.size b g u0 u1 x0 x1 x2 ns v (fun k => v.ownBlock = some k) W0 w h.at_.tab hG h.row h.at_.below (fun k hk => ⟨(h.own k hk).1, (h.own k hk).2.1⟩) hx).mono ?_
    rintro e w' ⟨v', rfl, hR, hT, hb⟩
    exact ⟨v', rfl, fin v' w' hR hT hb⟩
theorem Good.act {u0 u1 : Int} {ns : List S39} (hG : Good u0 u1 ns) (a : Bool × S39) (hx : (Lit.int .u32 a.2.f0).wf = true) : Good u0 u1 (NodeT.act u0 u1 ns a) := by
  unfold NodeT.act
  split
  · exact hG.less _
  · exact hG.join _ (wf32 hx)
/-- The empty box of what comes next: block t. -/
def BX (w : World) (b g t7 t : Nat) (W0 : World) (v : Value) : Prop := w.heap[t]? = some (.cells #[.int .i64 0, .int .i64 0, .slice none 0 0] 31 (0, 0)) ∧ (t ≠ b ∧ t ≠ g ∧ t ≠ t7 ∧ W0.heap.size ≤ t) ∧ v.ownBlock ≠ some t
/-- The world within the region that calls does. 6: the call; 10: the box; 11: the store. -/
def PW (W0 : World) (b g t7 : Nat) (u0 u1 : Int) (ns ns2 : List S39) (v : Value) (bq : Value × Nat) (l : Nat → Bool) (w' : World) : Prop :=
  if l 11 = true then PL W0 w' b g t7 u0 u1 ns2 bq.1 v ∧ w'.heap[bq.2]? = some (.cells #[.int .i64 u0, .int .i64 u1, bq.1] 31 (0, 0)) ∧ (bq.2 ≠ b ∧ bq.2 ≠ g ∧ bq.2 ≠ t7 ∧ W0.heap.size ≤ bq.2) ∧ bq.1.ownBlock ≠ some bq.2
  else if l 6 = true then PL W0 w' b g t7 u0 u1 ns2 bq.1 v ∧ (l 10 = true → BX w' b g t7 bq.2 W0 bq.1)
  else PL W0 w' b g t7 u0 u1 ns v v ∧ (l 10 = true → BX w' b g t7 bq.2 W0 v)
section
variable {W0 w' w1 : World} {b g t7 : Nat} {u0 u1 : Int} {ns ns2 : List S39} {v : Value} {bq : Value × Nat} {l : Nat → Bool}
theorem PW.start (h : PL W0 w' b g t7 u0 u1 ns v v) : PW W0 b g t7 u0 u1 ns ns2 v bq (fun _ => false) w' := by
  unfold PW
  simp [h]
theorem PW.up (h : PW W0 b g t7 u0 u1 ns ns2 v bq l w') (i : Nat) (hi : i ≠ 6 ∧ i ≠ 10 ∧ i ≠ 11) : PW W0 b g t7 u0 u1 ns ns2 v bq (XInv.up l i) w' := by
  have e : ∀ j, j ≠ i → XInv.up l i j = l j := fun j hj => by unfold XInv.up; rw [if_neg hj]
  unfold PW at *
  rw [e 11 (Ne.symm hi.2.2), e 10 (Ne.symm hi.2.1), e 6 (Ne.symm hi.1)]
  exact h
theorem PW.pre (h : PW W0 b g t7 u0 u1 ns ns2 v bq l w') (h11 : l 11 = false) (h6 : l 6 = false) : PL W0 w' b g t7 u0 u1 ns v v ∧ (l 10 = true → BX w' b g t7 bq.2 W0 v) := by
  unfold PW at h
  rwa [if_neg (by rw [h11]; decide), if_neg (by rw [h6]; decide)] at h
theorem PW.mid (h : PW W0 b g t7 u0 u1 ns ns2 v bq l w') (h11 : l 11 = false) (h6 : l 6 = true) : PL W0 w' b g t7 u0 u1 ns2 bq.1 v ∧ (l 10 = true → BX w' b g t7 bq.2 W0 bq.1) := by
  unfold PW at h
  rwa [if_neg (by rw [h11]; decide), if_pos h6] at h
theorem PW.tab (h : PW W0 b g t7 u0 u1 ns ns2 v bq l w') (h11 : l 11 = false) : w'.heap[t7]? = some (.cells #[.int .i64 u0, .int .i64 u1, v] 31 (0, 0)) ∧ Below W0.heap.size W0 w' := by
  cases h6 : l 6 with
  | false => exact ⟨(h.pre h11 h6).1.tab, (h.pre h11 h6).1.at_.below⟩
  | true => exact ⟨(h.mid h11 h6).1.tab, (h.mid h11 h6).1.at_.below⟩
theorem PW.s6 (h : PW W0 b g t7 u0 u1 ns ns2 v bq l w') (h11 : l 11 = false) (h6 : l 6 = false) (v' : Value) (hP : PL W0 w1 b g t7 u0 u1 ns2 v' v) (hb : But (fun k => k = g ∨ v.ownBlock = some k) w' w1) (ho : ∀ k, v'.ownBlock = some k → v.ownBlock = some k ∨ w'.heap.size ≤ k) : PW W0 b g t7 u0 u1 ns ns2 v (v', bq.2) (XInv.up l 6) w1 := by
  have e : ∀ j, j ≠ 6 → XInv.up l 6 j = l j := fun j hj => by unfold XInv.up; rw [if_neg hj]
  have e6 : XInv.up l 6 6 = true := by unfold XInv.up; rw [if_pos rfl]
  obtain ⟨hp, hB⟩ := h.pre h11 h6
  unfold PW
  rw [e 11 (by decide), e6, e 10 (by decide), if_neg (by rw [h11]; decide), if_pos rfl]
  refine ⟨hP, fun h10 => ?_⟩
  obtain ⟨c1, c2, c3⟩ := hB h10
  refine ⟨hb.heap c1 (fun hk => hk.elim c2.2.1 c3), c2, fun hk => ?_⟩
  rcases ho _ hk with h1 | h1
  · exact c3 h1
  · have := blk_lt c1
    omega
theorem PW.s10 (h : PW W0 b g t7 u0 u1 ns ns2 v bq l w') (h11 : l 11 = false) (hw : w1 = w'.alloc (.cells #[.int .i64 0, .int .i64 0, .slice none 0 0] 31)) : PW W0 b g t7 u0 u1 ns ns2 v (bq.1, w'.heap.size) (XInv.up l 10) w1 := by
  have e : ∀ j, j ≠ 10 → XInv.up l 10 j = l j := fun j hj => by unfold XInv.up; rw [if_neg hj]
  subst hw
  have hb : Below w'.heap.size w' (w'.alloc (.cells #[.int .i64 0, .int .i64 0, .slice none 0 0] 31)) := below_alloc (Below.refl _ _) _
  have nb : ∀ (ms : List S39) (x : Value), PL W0 w' b g t7 u0 u1 ms x v → BX (w'.alloc (.cells #[.int .i64 0, .int .i64 0, .slice none 0 0] 31)) b g t7 w'.heap.size W0 x := fun ms x hp => by
    have lt := hp.at_.tab.lt
    have lt7 := blk_lt hp.tab
    exact ⟨blk_new _ _, ⟨by omega, by omega, by omega, hp.at_.below.size⟩, fun hk => by have := Kd.R_lt hp.row _ hk; omega⟩
  unfold PW
  rw [e 11 (by decide), e 6 (by decide), if_neg (by rw [h11]; decide)]
  cases h6 : l 6 with
  | false =>
    rw [if_neg (by decide)]
    exact ⟨(h.pre h11 h6).1.same hb, fun _ => nb _ _ (h.pre h11 h6).1⟩
  | true =>
    rw [if_pos rfl]
    exact ⟨(h.mid h11 h6).1.same hb, fun _ => nb _ _ (h.mid h11 h6).1⟩
theorem PW.s11 (h : PW W0 b g t7 u0 u1 ns ns2 v bq l w') (h11 : l 11 = false) (h6 : l 6 = true) (h10 : l 10 = true) (hw : w1 = ((w'.setCell ⟨bq.2, 0, none⟩ (.int .i64 u0)).setCell ⟨bq.2, 1, none⟩ (.int .i64 u1)).setCell ⟨bq.2, 2, none⟩ bq.1) : PW W0 b g t7 u0 u1 ns ns2 v bq (XInv.up l 11) w1 := by
  have e11 : XInv.up l 11 11 = true := by unfold XInv.up; rw [if_pos rfl]
  obtain ⟨hp, hB⟩ := h.mid h11 h6
  obtain ⟨c1, c2, c3⟩ := hB h10
  have hb : But (fun k => k = bq.2) w' w1 := by
    rw [hw]
    exact (((But.refl (fun k => k = bq.2) w').setCell (b := bq.2) rfl _ _).setCell (b := bq.2) rfl _ _).setCell (b := bq.2) rfl _ _
  have d1 : (w'.setCell ⟨bq.2, 0, none⟩ (.int .i64 u0)).heap[bq.2]? = some (.cells #[.int .i64 u0, .int .i64 0, .slice none 0 0] 31 (0, 0)) := by simpa using blk_set c1 0 (.int .i64 u0)
  have d2 : ((w'.setCell ⟨bq.2, 0, none⟩ (.int .i64 u0)).setCell ⟨bq.2, 1, none⟩ (.int .i64 u1)).heap[bq.2]? = some (.cells #[.int .i64 u0, .int .i64 u1, .slice none 0 0] 31 (0, 0)) := by simpa using blk_set d1 1 (.int .i64 u1)
  have d3 : w1.heap[bq.2]? = some (.cells #[.int .i64 u0, .int .i64 u1, bq.1] 31 (0, 0)) := by rw [hw]; simpa using blk_set d2 2 bq.1
  unfold PW
  rw [e11, if_pos rfl]
  refine ⟨⟨⟨But.below hp.at_.below (Nat.le_refl _) hb (fun k hk => by rw [hk]; exact c2.2.2.2), hp.at_.tab.but hb (fun hk => c2.1 hk.symm) (fun hk => c2.2.1 hk.symm)⟩, Kd.R_step hp.row (fun k hk hlt => hb.block k hlt (fun e => c3 (by rw [← e]; exact hk))), hp.own, hb.heap hp.tab (fun hk => c2.2.2.1 hk.symm), hp.ne⟩, d3, c2, c3⟩
end
end Go.Proofs.Ythibppfdonepoaa.NodeT
