-- printed by this session's own driver over the kit's printer: Lean checks it
import Derived.Test.YtkaokiiooakleaaCStageParts0
import Derived.Test.YtkaokiiooakleaaCStageParts3
import Derived.Test.YtkaokiiooakleaaCStageParts6
namespace Go.Proofs.Ytkaokiiooakleaa.PStageParts
open Go.RowKit Go.Proofs.YtkaokiiooakleaaW.PrintWords Go.Proofs.YtkaokiiooakleaaW.PrintLast Go.Proofs.YtkaokiiooakleaaW.PrintMore
attribute [local go_sem] max2_int min2_int max_two min_two max_three min_three max_four min_four   -- for this text's walks alone
set_option linter.unusedVariables false
set_option linter.unusedSimpArgs false

/-! GIVEN -/
/-! ### stage_Split: function 47 -/
namespace St
section
/-- Only blocks of T may have changed (and new ones are there). -/
structure ButS (T : Nat → Prop) (w w' : World) : Prop where
  os : w'.os = w.os
  tape : w'.tape = w.tape
  output : w'.output = w.output
  size : w.heap.size ≤ w'.heap.size
  block : ∀ k, k < w.heap.size → ¬ T k → w'.heap[k]? = w.heap[k]?
theorem ButS.refl (T : Nat → Prop) (w : World) : ButS T w w := ⟨rfl, rfl, rfl, Nat.le_refl _, fun _ _ _ => rfl⟩
theorem ButS.trans {T : Nat → Prop} {a b c : World} (h : ButS T a b) (k : ButS T b c) : ButS T a c :=
  ⟨k.os.trans h.os, k.tape.trans h.tape, k.output.trans h.output, Nat.le_trans h.size k.size, fun i hi hn => (k.block i (Nat.lt_of_lt_of_le hi h.size) hn).trans (h.block i hi hn)⟩
theorem ButS.mono {T T' : Nat → Prop} {a b : World} (h : ButS T a b) (hT : ∀ k, T k → T' k) : ButS T' a b := ⟨h.os, h.tape, h.output, h.size, fun i hi hn => h.block i hi fun hk => hn (hT i hk)⟩
theorem ButS.of_below {T : Nat → Prop} {w w' : World} (h : Below w.heap.size w w') : ButS T w w' := ⟨h.os, h.tape, h.output, h.size, fun k hk _ => h.block k hk⟩
theorem ButS.of_one {T : Nat → Prop} {b : Nat} {w w' : World} (h : XPrint.ButB b w w') (hb : T b) : ButS T w w' := ⟨h.os, h.tape, h.output, h.size, fun k hk hn => h.block k hk fun e => hn (e ▸ hb)⟩
theorem ButS.setCell {T : Nat → Prop} {w w' : World} (h : ButS T w w') {b : Nat} (hb : T b) (j : Nat) (v : Value) : ButS T w (w'.setCell ⟨b, j, none⟩ v) :=
  h.trans (ButS.of_one ((XPrint.ButB.refl b w').setCell j v) hb)
theorem ButS.drew {T : Nat → Prop} {w w' : World} (h : ButS T w w') : ButS T w w'.drew := ⟨h.os, h.tape, h.output, h.size, h.block⟩
theorem ButS.alloc {T : Nat → Prop} {w w' : World} (h : ButS T w w') (o : Obj) : ButS T w (w'.alloc o) := h.trans (ButS.of_below (below_alloc (Below.refl _ _) o))
theorem ButS.putObj {T : Nat → Prop} {w w' : World} (h : ButS T w w') {b : Nat} (hb : T b) (o : Obj) : ButS T w (w'.putObj b o) :=
  h.trans ⟨rfl, rfl, rfl, by simp, fun k hk hn => World.putObj_heap_other fun e => hn (e ▸ hb)⟩
theorem ButS.put1 (b : Nat) (W : World) (o : Obj) : ButS (fun k => k = b) W (W.putObj b o) := (ButS.refl (fun k => k = b) W).putObj (b := b) rfl o
theorem ButS.heap {T : Nat → Prop} {w w' : World} (h : ButS T w w') {b : Nat} {o : Obj} (hc : w.heap[b]? = some o) (hn : ¬ T b) : w'.heap[b]? = some o := (h.block b (Array.getElem?_eq_some_iff.1 hc).1 hn).trans hc
theorem ButS.below {T : Nat → Prop} {B : Nat} {w0 w w' : World} (h0 : Below B w0 w) (hB : B ≤ w0.heap.size) (h : ButS T w w') (hT : ∀ k, T k → B ≤ k) : Below B w0 w' :=
  h0.trans ⟨h.os, h.tape, h.output, h.size, fun k hk => h.block k (Nat.lt_of_lt_of_le hk (Nat.le_trans hB h0.size)) fun hk' => by have := hT k hk'; omega⟩
theorem ButS.grown {T : Nat → Prop} {W W' : World} {row : Option Nat} (hg : W.grownBy W' row) (hr : ∀ k, row = some k → T k) : ButS T W W' :=
  ⟨hg.os, hg.tape, hg.output, hg.size, fun k hk hn => hg.block k hk fun e => hn (hr k e.symm)⟩
theorem R_butS {α : Type} {d : Kd α} {e : Nat} {W W' : World} {base : Nat} {v : Value} {xs : List α} {T : Nat → Prop} (h : Kd.R d e W base (fun _ => True) v xs) (hb : ButS T W W') (hT : ∀ k, T k → k < base) : Kd.R d e W' base (fun _ => True) v xs :=
  Kd.R_mono (Kd.R_step (Kd.R_bound h) (fun k hk hlt => hb.block k hlt (fun hk' => by have := hT k hk'; have := hk.2.1; omega))) (fun _ _ => trivial)
/-- How a round's body may be left. -/
def bodyS {α : Type} (own : Nat → Prop) (I : List α → World → Prop) (Ix : Code → List α → World → Prop) (pre : List α) (W : World) : Exit → Act → World → Prop
  | .normal, _, W' => ButS own W W' ∧ I pre W'
  | .ret, _, W' => ButS own W W' ∧ Ix .ret pre W'
  | .exit id, _, W' => ButS own W W' ∧ Ix (.exit id) pre W'
  | .goto _, _, _ => False
  | .panic _, _, _ => False
  | .outgrown, _, _ => False
/-- What an iterator is to achieve, called with yield of loop lr: xs are handed over one by one; it writes blocks of wrs alone; the rounds write blocks of own and the loop's record. -/
def HandsS {α : Type} (n : Nat) (gf : Nat) (lb : Array Value) (lr : Nat) (encs : α → Array Value) (xs : List α) (wrs own : Nat → Prop) (endW : World → Prop) (W1 : World) : Prop :=
  ∀ (J Jx : List α → World → Prop), (∀ s A B, J s A → ButS wrs A B → J s B) →
    (∀ pre x post A, xs = pre ++ x :: post → J pre A → W1.heap.size ≤ A.heap.size → YieldAt Fence.wide (n - 1) Try.prog lr (encs x) A fun e A' => (e = .returned (.bool true) ∧ J (pre ++ [x]) A' ∧ ButS (fun k => own k ∨ k = lr) A A') ∨ (e = .returned (.bool false) ∧ Jx (pre ++ [x]) A')) →
    J [] W1 → CallsIn Fence.wide n Try.prog gf (#[.func (.yield lr) #[] #[]] ++ lb) W1 fun e W' => (∃ v, e = .returned v) ∧ ((J xs W' ∧ endW W') ∨ ∃ pre x post, xs = pre ++ x :: post ∧ Jx (pre ++ [x]) W')
/-- 'for .. := range seq { .. }', the iterator told by HandsS. -/
theorem range_lawS {α : Type} {n : Nat} {g : Operand} {ps : Array Tmp} {assign body : Code} {Q : Exit → Act → World → Prop} {a : Act} {w : World} (w0 : World) {gf : Nat} {lb : Array Value} {encs : α → Array Value} {xs : List α} {wrs own : Nat → Prop} {endW : World → Prop}
    (hg : a.eval g = .func (.func gf) #[] lb) (hent : ∀ args w, (callFunc gf args).run Try.prog w = .ok (.enter gf args) w) (hps : ∀ x, (encs x).size = ps.size)
    (hw : Below w0.heap.size w0 w)
    (hmut : ∀ k, wrs k → w0.heap.size ≤ k ∧ k ≠ w.heap.size ∧ k ≠ w.heap.size + 1)
    (hown : ∀ k, own k → w0.heap.size ≤ k ∧ k ≠ w.heap.size ∧ k ≠ w.heap.size + 1)
    (hend : ∀ W W', endW W → ButS (fun k => k = w.heap.size + 1) W W' → endW W')
    (hseq : ∀ W1, Below w.heap.size w W1 → W1.heap.size = w.heap.size + 2 → HandsS (n - 1) gf lb (w.heap.size + 1) encs xs wrs own endW W1)
    (I : List α → World → Prop) (Ix : Code → List α → World → Prop)
    (hI : ∀ s W W', I s W → ButS (fun k => wrs k ∨ k = w.heap.size ∨ k = w.heap.size + 1) W W' → I s W')
    (hIx : ∀ x s W W', Ix x s W → ButS (fun k => k = w.heap.size ∨ k = w.heap.size + 1) W W' → Ix x s W')
    (h0 : I [] w)
    (hbody : ∀ (pre : List α) (x : α) (post : List α) (W : World), xs = pre ++ x :: post → I pre W → Below w0.heap.size w0 W → w.heap.size + 2 ≤ W.heap.size →
      assign.wpIn (Fence.wide.inRound (w.heap.size + 1)) (n - 1 - 1) Try.prog (Exit.then (fun a₁ W1 => ButS own W W1 ∧ ∀ W2, ButS (fun k => k = w.heap.size + 1) W1 W2 →
          body.wpIn (Fence.wide.inRound (w.heap.size + 1)) (n - 1 - 1) Try.prog (bodyS own I Ix (pre ++ [x]) W2) a₁ W2) (fun _ _ _ => False))
        { tmps := (ps.zip (encs x)).foldl (fun t (p, v) => t.setIfInBounds p v) a.tmps, defers := [] } W)
    (hdone : ∀ W, I xs W → endW W → Below w0.heap.size w0 W → W.heap[w.heap.size]? = some (.deferred (some [])) →
      Q .normal { a with defers := { target := .collected w.heap.size, args := #[] } :: a.defers } W)
    (hstop : ∀ x pre W, Ix x pre W → Below w0.heap.size w0 W → W.heap[w.heap.size]? = some (.deferred (some [])) → x.wpIn Fence.wide n Try.prog Q { a with defers := { target := .collected w.heap.size, args := #[] } :: a.defers } W) :
    (Code.rangeFunc g ps assign body).wpIn Fence.wide n Try.prog Q a w := by
  refine wpIn_rangeFunc ?_
  intro fn hfn
  obtain ⟨rec, hrec⟩ : ∃ rec : LoopState → Option Code → Loop, rec = fun st pe => { state := st, pending := pe, fn, tmps := a.tmps, params := ps, assign, body, defers := w.heap.size } := ⟨_, rfl⟩
  obtain ⟨W1, hW1⟩ : ∃ W1, (w.alloc (.deferred (some []))).alloc (.loop (rec .ready none)) = W1 := ⟨_, rfl⟩
  have hs1 : W1.heap.size = w.heap.size + 2 := by rw [← hW1]; simp
  have hB1 : Below w.heap.size w W1 := by rw [← hW1]; exact below_alloc (below_alloc (Below.refl _ _) _) _
  have hL1 : W1.heap[w.heap.size + 1]? = some (.loop (rec .ready none)) := by
    rw [← hW1]; have := World.alloc_heap_new (w.alloc (.deferred (some []))) (.loop (rec .ready none)); rwa [World.size_alloc] at this
  have hK1 : W1.heap[w.heap.size]? = some (.deferred (some [])) := by
    rw [← hW1]; exact (Below.heap_alloc _ _ _ (by simp)).trans (World.alloc_heap_new w _)
  have lw := hw.size
  have no1 : ¬ own (w.heap.size + 1) := fun h => (hown _ h).2.2 rfl
  have no2 : ¬ own w.heap.size := fun h => (hown _ h).2.1 rfl
  have nm1 : ¬ wrs (w.heap.size + 1) := fun h => (hmut _ h).2.2 rfl
  have nm2 : ¬ wrs w.heap.size := fun h => (hmut _ h).2.1 rfl
  refine ⟨w.heap.size + 1, [{ target := .collected w.heap.size, args := #[] }], W1, { target := .fn (.func gf) lb, args := #[.func (.yield (w.heap.size + 1)) #[] #[]] }, W1, gf,
    #[.func (.yield (w.heap.size + 1)) #[] #[]] ++ lb, W1, ?_, ?_, ?_, ?_, fun h => (by cases h), ?_⟩
  · rw [← hW1, hrec]; exact run_enterLoop_outer _ _ _ _ _
  · simp only [resolve, hg]
    simp [go_sem]
  · intro f' hf'; trivial
  · simp [invoke, go_sem, hent]
  · refine (hseq W1 hB1 hs1
      (fun pre W => I pre W ∧ Below w0.heap.size w0 W ∧ W.heap[w.heap.size + 1]? = some (.loop (rec .ready none)) ∧ W.heap[w.heap.size]? = some (.deferred (some [])))
      (fun pre W => ∃ x, Ix x pre W ∧ Below w0.heap.size w0 W ∧ W.heap[w.heap.size + 1]? = some (.loop (rec .done (some x))) ∧ W.heap[w.heap.size]? = some (.deferred (some [])))
      ?_ ?_ ?_).mono ?_
    · rintro s Wa Wb ⟨h1, h2, h3, h4⟩ hb
      exact ⟨hI s Wa Wb h1 (hb.mono fun k h => .inl h), ButS.below h2 (Nat.le_refl _) hb (fun k h => (hmut k h).1), hb.heap h3 nm1, hb.heap h4 nm2⟩
    · rintro pre x post W hwk ⟨hi, hbw, hl, hk⟩ hlt
      have hy : (Instr.yield (w.heap.size + 1) (encs x)).run Try.prog W = .ok (.round (w.heap.size + 1) fn ((ps.zip (encs x)).foldl (fun t (p, v) => t.setIfInBounds p v) a.tmps) assign body) W := by
        have hy := run_yield (P := Try.prog) (args := encs x) hl (by rw [hrec]; exact hps x)
        rw [hrec] at hy
        exact hy
      refine ⟨fn, _, assign, body, hy, roundIn_of_wpIn trivial (wpIn_mono (hbody pre x post W hwk hi hbw (by omega)) ?_)⟩
      rintro e a1 Wa hq
      cases e with
      | normal =>
        obtain ⟨hba, hq⟩ := hq
        have hla := hba.heap hl no1
        have hka := hba.heap hk no2
        refine ⟨_, run_beginRound hla (by rw [hrec]), ?_⟩
        have hput : ButS (fun k => k = w.heap.size + 1) Wa (Wa.putObj (w.heap.size + 1) (.loop { rec .ready none with state := .busy })) := ButS.put1 _ _ _
        have hlb : (Wa.putObj (w.heap.size + 1) (.loop { rec .ready none with state := .busy })).heap[w.heap.size + 1]? = some (.loop { rec .ready none with state := .busy }) := World.putObj_heap_same (blk_lt hla)
        have hkb : (Wa.putObj (w.heap.size + 1) (.loop { rec .ready none with state := .busy })).heap[w.heap.size]? = some (.deferred (some [])) := hput.heap hka (by omega)
        have hall : ButS (fun k => own k ∨ k = w.heap.size + 1) W (Wa.putObj (w.heap.size + 1) (.loop { rec .ready none with state := .busy })) := (hba.mono fun _ => .inl).trans (hput.mono fun _ => .inr)
        refine wpIn_mono (hq _ hput) ?_
        generalize Wa.putObj (w.heap.size + 1) (.loop { rec .ready none with state := .busy }) = Wb at hput hlb hkb hall
        have fin : ∀ (jump : Option Code) (W3 : World), ButS own Wb W3 →
            (Instr.endRound (w.heap.size + 1) jump).run Try.prog W3 = .ok (.bool jump.isNone) (W3.putObj (w.heap.size + 1) (.loop (rec (if jump.isNone then .ready else .done) jump))) ∧
            (W3.putObj (w.heap.size + 1) (.loop (rec (if jump.isNone then .ready else .done) jump))).heap[w.heap.size + 1]? = some (.loop (rec (if jump.isNone then .ready else .done) jump)) ∧
            (W3.putObj (w.heap.size + 1) (.loop (rec (if jump.isNone then .ready else .done) jump))).heap[w.heap.size]? = some (.deferred (some [])) ∧
            ButS (fun k => own k ∨ k = w.heap.size + 1) W (W3.putObj (w.heap.size + 1) (.loop (rec (if jump.isNone then .ready else .done) jump))) ∧
            ButS (fun k => k = w.heap.size ∨ k = w.heap.size + 1) W3 (W3.putObj (w.heap.size + 1) (.loop (rec (if jump.isNone then .ready else .done) jump))) ∧
            Below w0.heap.size w0 (W3.putObj (w.heap.size + 1) (.loop (rec (if jump.isNone then .ready else .done) jump))) := fun jump W3 h3 => by
          have hl3 := h3.heap hlb no1
          have hk3 := h3.heap hkb no2
          have := run_endRound (P := Try.prog) jump hl3
          have hp3 : ButS (fun k => k = w.heap.size + 1) W3 (W3.putObj (w.heap.size + 1) (.loop (rec (if jump.isNone then .ready else .done) jump))) := ButS.put1 _ _ _
          have hA := (hall.trans (h3.mono fun _ => .inl)).trans (hp3.mono fun _ => .inr)
          rw [hrec] at this ⊢
          rw [hrec] at hl3 hp3 hA
          exact ⟨this, World.putObj_heap_same (blk_lt hl3), hp3.heap hk3 (by omega), hA, hp3.mono fun k h => .inr h, ButS.below hbw (Nat.le_refl _) hA fun k h => h.elim (fun h => (hown k h).1) (fun h => by omega)⟩
        rintro e a3 W3 hp
        cases e with
        | normal =>
          obtain ⟨h3, hi3⟩ := hp
          obtain ⟨q1, q2, q3, q4, q5, q6⟩ := fin none W3 h3
          exact ⟨_, _, q1, .inl ⟨rfl, ⟨hI _ _ _ hi3 (q5.mono fun k h => .inr h), q6, q2, q3⟩, q4⟩⟩
        | ret =>
          obtain ⟨h3, hi3⟩ := hp
          obtain ⟨q1, q2, q3, q4, q5, q6⟩ := fin (some .ret) W3 h3
          exact ⟨_, _, q1, .inr ⟨rfl, .ret, hIx _ _ _ _ hi3 q5, q6, q2, q3⟩⟩
        | exit id =>
          obtain ⟨h3, hi3⟩ := hp
          obtain ⟨q1, q2, q3, q4, q5, q6⟩ := fin (some (.exit id)) W3 h3
          exact ⟨_, _, q1, .inr ⟨rfl, .exit id, hIx _ _ _ _ hi3 q5, q6, q2, q3⟩⟩
        | goto t => exact hp.elim
        | panic ch => exact hp.elim
        | outgrown => exact hp.elim
      | exit id => exact hq.elim
      | goto t => exact hq.elim
      | ret => exact hq.elim
      | panic ch => exact hq.elim
      | outgrown => exact hq.elim
    · exact ⟨hI _ _ _ h0 (ButS.of_below hB1), hw.trans (hB1.mono hw.size), hL1, hK1⟩
    · rintro e W2 ⟨⟨v, rfl⟩, (⟨⟨hi, hb, hl, hk⟩, hen⟩ | ⟨pre, x, post, _, y, hi, hb, hl, hk⟩)⟩
      · have hp3 : ButS (fun k => k = w.heap.size + 1) W2 (W2.putObj (w.heap.size + 1) (.loop { rec .ready none with state := .exhausted })) := ButS.put1 _ _ _
        exact ⟨none, _, by have := run_endLoop (P := Try.prog) hl (by rw [hrec]; simp); rw [hrec] at this ⊢; exact this,
          hdone _ (hI _ _ _ hi (hp3.mono fun k h => .inr (.inr h))) (hend _ _ hen hp3) (ButS.below hb (Nat.le_refl _) hp3 fun k h => by omega) (hp3.heap hk (by omega))⟩
      · have hp3 : ButS (fun k => k = w.heap.size + 1) W2 (W2.putObj (w.heap.size + 1) (.loop { rec .done (some y) with state := .exhausted })) := ButS.put1 _ _ _
        exact ⟨some y, _, by have := run_endLoop (P := Try.prog) hl (by rw [hrec]; simp); rw [hrec] at this ⊢; exact this,
          hstop _ _ _ (hIx _ _ _ _ hi (hp3.mono fun k h => .inr h)) (ButS.below hb (Nat.le_refl _) hp3 fun k h => by omega) (hp3.heap hk (by omega))⟩
/-- A function that held such a loop returns. -/
theorem leave_markS {n : Nat} {fn : Func} {tmps : Array Value} {d : Nat} {R : Ending → World → Prop} {W : World} (v : Value) (hK : W.heap[d]? = some (.deferred (some [])))
    (hv : (results fn tmps).run Try.prog (W.putObj d (.deferred none)) = .ok v (W.putObj d (.deferred none))) (hR : R (.returned v) (W.putObj d (.deferred none))) :
    bodyPostM Fence.wide n Try.prog fn R .ret { tmps := tmps, defers := [{ target := .collected d, args := #[] }] } W :=
  ⟨by simp, .inl ⟨d, _, rfl, run_takeDeferred hK, v, hv, hR⟩⟩
end
section
/-- A share, as a value. -/
def shareV (s k m n a : Int) : Value := .agg #[.int .i64 s, .int .i64 k, .int .i64 m, .int .i64 n, .int .i64 a]
set_option maxHeartbeats 4000000 in
theorem first0 (s k m n a : Int) (w : World) : Calls Try.prog 88 #[shareV s k m n a] w fun e w' => e = .returned (.int .i64 s) ∧ Below w.heap.size w w' := by
  unfold shareV
  go_enter Try.func88, Try.ntmps88
  go_wp2
  go_ret
  exact ⟨rfl, below_alloc (Below.refl _ _) _⟩
set_option maxHeartbeats 4000000 in
theorem first1 (s k m n a : Int) (w : World) : Calls Try.prog 89 #[shareV s k m n a] w fun e w' => e = .returned (.int .i64 (if k = m then s else 0)) ∧ Below w.heap.size w w' := by
  unfold shareV
  obtain ⟨r, hr⟩ : ∃ r, (if k = m then s else 0) = r := ⟨_, rfl⟩
  rw [hr]
  by_cases h : k = m
  · rw [if_pos h] at hr
    have hb : (k == m) = true := by simp [h]
    subst hr
    clear h
    go_enter Try.func89, Try.ntmps89
    go_wp2
    go_ret
    exact ⟨rfl, below_alloc (Below.refl _ _) _⟩
  · rw [if_neg h] at hr
    have hb : (k == m) = false := by simp [h]
    subst hr
    clear h
    go_enter Try.func89, Try.ntmps89
    go_wp2
    go_ret
    exact ⟨rfl, below_alloc (Below.refl _ _) _⟩
set_option maxHeartbeats 4000000 in
theorem first2 (s k m n a : Int) (ha : a ≠ 0) (w : World) : Calls Try.prog 90 #[shareV s k m n a] w fun e w' => e = .returned (.int .i64 (wrap64 (Int.tdiv (wrap64 (s * n)) a))) ∧ Below w.heap.size w w' := by
  unfold shareV
  have hb : (a == 0) = false := by simp [ha]
  go_enter Try.func90, Try.ntmps90
  go_wp2
  go_ret
  exact ⟨rfl, below_alloc (Below.refl _ _) _⟩
/-- The ways, by their number. -/
def wayFn : Nat → Nat
  | 0 => 88
  | 1 => 89
  | _ => 90
def slackOf : Nat → Int → Int → Int → Int → Int → Int
  | 0, s, k, m, n, a => s
  | 1, s, k, m, n, a => if k = m then s else 0
  | _, s, k, m, n, a => wrap64 (Int.tdiv (wrap64 (s * n)) a)
set_option maxHeartbeats 4000000 in
theorem waysS (w : World) : Calls Try.prog 77 #[] w fun e w' => e = .returned (.agg #[.func (.func 88) #[] #[], .func (.func 89) #[] #[], .func (.func 90) #[] #[]]) ∧ Below w.heap.size w w' := by
  have hu1 := Try.underlying118
  have hu2 := Try.underlying119
  go_enter Try.func77, Try.ntmps77
  go_wp2
  refine bodyPost_ret (v := .agg #[.func (.func 88) #[] #[], .func (.func 89) #[] #[], .func (.func 90) #[] #[]]) (by simp [results, Try.f77, go_sem]) rfl ⟨rfl, ?_⟩
  exact below_alloc (Below.refl _ _) _
end
section
/-- The windows, one behind the other. -/
def winsS (which : Nat) (F s m all : Int) : List Int → Int → Int → Int → List (Int × Int)
  | [], _, _, _ => []
  | n :: r, k, len, fr => (fr, wrap64 (wrap64 (F + wrap64 (len + n)) + slackOf which s (wrap64 (k + 1)) m (wrap64 (len + n)) all)) :: winsS which F s m all r (wrap64 (k + 1)) (wrap64 (len + n)) (wrap64 (wrap64 (F + wrap64 (len + n)) + slackOf which s (wrap64 (k + 1)) m (wrap64 (len + n)) all))
theorem int_at {w : World} {A : Option Addr} {n : Nat} {xs : List Int} (h : Kd.C (Kd.int .i64) w A n xs) (i : Nat) (h1 : i < n) : ∃ ad x, A = some ad ∧ xs[i]? = some x ∧ w.cell? (ad.add i) = some (.int .i64 x) := by
  have hlen : xs.length = n := h.1
  obtain ⟨ad, c, e, _, hK, hc⟩ := Kd.C_get h 0 (i : Int) (by omega) (by omega)
  obtain rfl : c = [.int .i64 (xs.getD ((i : Nat) : Int).toNat 0)] := hK
  refine ⟨ad, xs[i], e, List.getElem?_eq_getElem (by omega), ?_⟩
  have := hc 0 _ rfl
  rw [show ((i : Nat) : Int).toNat = i from rfl, List.getD_eq_getElem?_getD, List.getElem?_eq_getElem (show i < xs.length by omega)] at this
  have e1 : i * (Kd.int .i64).sz + 0 = i := by
    show i * 1 + 0 = i
    omega
  rw [e1] at this
  exact this
/-- Between two rounds. -/
structure MidW (w0 : World) (bw bl bx bf : Nat) (A : Option Addr) (c : Nat) (l : List Int) (which : Nat) (F T s m all : Int) (xs : List (Int × Int)) (J : List (Int × Int) → World → Prop) (i : Nat) (k len fr : Int) (pre : List (Int × Int)) (W : World) : Prop where
  below : Below w0.heap.size w0 W
  b1 : W.heap[bw]? = some (.cells #[.int .i64 F, .int .i64 T] 71 (0, 0))
  b2 : W.heap[bl]? = some (.cells #[.slice A l.length c] 72 (0, 0))
  b3 : W.heap[bx]? = some (.cells #[.int .i64 s, .int .i64 k, .int .i64 m, .int .i64 len, .int .i64 all] 111 (0, 0))
  b4 : W.heap[bf]? = some (.cells #[.func (.func (wayFn which)) #[] #[]] 118 (0, 0))
  j : J pre W
  left : pre ++ winsS which F s m all (l.drop i) k len fr = xs
  low : i ≤ l.length
set_option maxHeartbeats 8000000 in
set_option maxRecDepth 100000 in
theorem windowsS1 (n : Nat) (w0 : World) (lr bw bl bx bf : Nat) (A : Option Addr) (c : Nat) (l : List Int) (which : Nat) (hwh : which = 0 ∨ which = 1 ∨ which = 2) (F T s m all : Int) (hall : all ≠ 0) (own : Nat → Prop) (W : World)
    (hw : Below w0.heap.size w0 W) (hC : Kd.C (Kd.int .i64) w0 A l.length l) (hl9 : l.length ≤ 4611686018427387904)
    (b1 : W.heap[bw]? = some (.cells #[.int .i64 F, .int .i64 T] 71 (0, 0))) (b2 : W.heap[bl]? = some (.cells #[.slice A l.length c] 72 (0, 0)))
    (b3 : W.heap[bx]? = some (.cells #[.int .i64 s, .int .i64 0, .int .i64 m, .int .i64 0, .int .i64 all] 111 (0, 0))) (b4 : W.heap[bf]? = some (.cells #[.func (.func (wayFn which)) #[] #[]] 118 (0, 0)))
    (hbx : w0.heap.size ≤ bx) (hown : ∀ k, own k ∨ k = lr → w0.heap.size ≤ k ∧ k ≠ bw ∧ k ≠ bl ∧ k ≠ bx ∧ k ≠ bf) :
    HandsS n 87 #[.pointer (some ⟨bw, 0, none⟩), .pointer (some ⟨bl, 0, none⟩), .pointer (some ⟨bx, 0, none⟩), .pointer (some ⟨bf, 0, none⟩)] lr (fun x : Int × Int => #[.agg #[.int .i64 x.1, .int .i64 x.2]]) (winsS which F s m all l 0 0 F) (fun k => k = bx) own (fun _ => True) W := by
  intro J Jx hJ hY h0
  refine callsIn_wide.2 ?_
  obtain ⟨xs, hxs⟩ : ∃ xs, winsS which F s m all l 0 0 F = xs := ⟨_, rfl⟩
  have M0 := Aside0.mk (And.intro hxs (And.intro b3 (And.intro b4 (And.intro h0 hbx))))
  rw [hxs] at hY ⊢
  have c1 := (blk_cell b1 0).trans rfl
  have c2 := (blk_cell b2 0).trans rfl
  have n1 : bw ≠ bx := blk_ne b1 b3 (by decide)
  have n2 : bl ≠ bx := blk_ne b2 b3 (by decide)
  have n3 : bf ≠ bx := blk_ne b4 b3 (by decide)
  have NN := Aside0.mk (And.intro n1 (And.intro n2 n3))
  clear hxs b3 b4 h0 hbx n1 n2 n3
  go_enter Try.func87, Try.ntmps87
  go_wp2
  go_loopg [6, 14] (l.length + 1) (fun kk v6 v14 wr => ∃ (i : Nat) (k len fr : Int) (pre : List (Int × Int)), v6 = .int .i64 fr ∧ v14 = .int .i64 i ∧ kk = l.length + 1 - i ∧ W.heap.size ≤ wr.heap.size ∧ MidW w0 bw bl bx bf A c l which F T s m all xs J i k len fr pre wr)
  case atStart =>
    exact ⟨0, 0, 0, F, [], rfl, rfl, by omega, Nat.le_refl _, { below := hw, b1 := b1, b2 := b2, b3 := M0.out.2.1, b4 := M0.out.2.2.1, j := M0.out.2.2.2.1, left := M0.out.1, low := Nat.zero_le _ }⟩
  obtain ⟨i, k, len, fr, pre, rfl, rfl, rfl, hsz, M⟩ := hrel
  by_cases hi : i < l.length
  · have hlt : decide ((i : Int) < (l.length : Int)) = true := decide_eq_true (by omega)
    obtain ⟨ad, x, hA, hx, hcell⟩ := int_at hC i hi
    subst hA
    have hcell2 : wr.cell? (ad.add i) = some (.int .i64 x) := (M.below.cell (p := ad.add i) (World.block_lt_of_cell? w0 _ hcell)).trans hcell
    have q1 := (blk_cell M.b3 1).trans rfl
    have q3 := (blk_cell M.b3 3).trans rfl
    have p1 := blk_frozen M.b3 1
    have p3 := blk_frozen M.b3 3
    obtain ⟨k', hk'⟩ : ∃ k', wrap64 (k + 1) = k' := ⟨_, rfl⟩
    obtain ⟨len', hl'⟩ : ∃ len', wrap64 (len + x) = len' := ⟨_, rfl⟩
    obtain ⟨z, hz⟩ : ∃ z : Int, (i : Int) = z := ⟨_, rfl⟩
    have h0z : (0 : Int) ≤ z := by omega
    have hzl : z < (l.length : Int) := by omega
    have hzn : z.toNat = i := by omega
    rw [← hzn] at hcell2
    rw [hz] at hlt ⊢
    have YY := Aside0.mk (And.intro hx (And.intro hz (And.intro hi (And.intro hsz (And.intro hzn M)))))
    have ZZ := Aside0.mk (And.intro hw (And.intro hall (And.intro hown (And.intro hJ hY))))
    clear hx hz hi hsz M hw hall hown hJ hY hC b1 b2 hcell hzn
    go_wp2_with fail
    rw [hk', hl']
    obtain ⟨hx, hz, hi, hsz, hzn, M⟩ := YY.out
    obtain ⟨hw, hall, hown, hJ, hY⟩ := ZZ.out
    have a3 : ((wr.setCell ⟨bx, 1, none⟩ (.int .i64 k')).setCell ⟨bx, 3, none⟩ (.int .i64 len')).heap[bx]? = some (.cells #[.int .i64 s, .int .i64 k', .int .i64 m, .int .i64 len', .int .i64 all] 111 (0, 0)) := by
      have := blk_set (blk_set M.b3 1 (.int .i64 k')) 3 (.int .i64 len')
      simpa using this
    have hB : ButS (fun k => k = bx) wr ((wr.setCell ⟨bx, 1, none⟩ (.int .i64 k')).setCell ⟨bx, 3, none⟩ (.int .i64 len')) := ((ButS.refl (fun k => k = bx) wr).setCell (b := bx) rfl 1 (.int .i64 k')).setCell (b := bx) rfl 3 (.int .i64 len')
    have a1 := hB.heap M.b1 NN.out.1
    have a2 := hB.heap M.b2 NN.out.2.1
    have a4 := hB.heap M.b4 NN.out.2.2
    have j5 := hJ _ _ _ M.j hB
    generalize (wr.setCell ⟨bx, 1, none⟩ (.int .i64 k')).setCell ⟨bx, 3, none⟩ (.int .i64 len') = W5 at a1 a2 a3 a4 hB j5 ⊢
    obtain ⟨fv, hfv⟩ : ∃ fv, slackOf which s k' m len' all = fv := ⟨_, rfl⟩
    have ST : ∀ w', Calls Try.prog (wayFn which) #[.agg #[.int .i64 s, .int .i64 k', .int .i64 m, .int .i64 len', .int .i64 all]] w' fun e w'' => e = .returned (.int .i64 fv) ∧ Below w'.heap.size w' w'' := by
      intro w'
      rcases hwh with rfl | rfl | rfl
      · rw [← hfv]; exact first0 s k' m len' all w'
      · rw [← hfv]; exact first1 s k' m len' all w'
      · rw [← hfv]; exact first2 s k' m len' all hall w'
    obtain ⟨gg, hg⟩ : ∃ gg, wrap64 (F + len') = gg := ⟨_, rfl⟩
    obtain ⟨tt, hto⟩ : ∃ tt, wrap64 (gg + fv) = tt := ⟨_, rfl⟩
    have hg2 : IntKind.i64.wrap (F + len') = gg := by rw [← hg, IntKind.wrap_i64]; unfold wrap64; omega
    have hto2 : IntKind.i64.wrap (gg + fv) = tt := by rw [← hto, IntKind.wrap_i64]; unfold wrap64; omega
    have Y2 := Aside0.mk (And.intro hfv (And.intro hto (And.intro hg (And.intro j5 hB))))
    have ST := Aside0.mk ST
    clear hx hz hi hsz hzn M hw hall hown hJ hY q1 q3 p1 p3 j5 hB hfv hcell2
    rcases hwh with rfl | rfl | rfl
    · simp only [wayFn] at a4 ST
      refine XInv.region_inv [10] (fun b j => match j with
        | 0 => .pointer (some ⟨bw, 0, none⟩)
        | 1 => .int .i64 F
        | 2 => .pointer (some ⟨bx, 3, none⟩)
        | 3 => .int .i64 len'
        | 4 => .int .i64 gg
        | 5 => .pointer (some ⟨bf, 0, none⟩)
        | 6 => .func (.func 88) #[] #[]
        | 7 => .agg #[.int .i64 s, .int .i64 k', .int .i64 m, .int .i64 len', .int .i64 all]
        | 8 => .int .i64 fv
        | 9 => .int .i64 tt
        | _ => undef)
        (fun b l w' => Below W5.heap.size W5 w')
        (by kernel_rfl) rfl (by kernel_rfl) (by kernel_rfl) ⟨fun _ => 0, below_drew (Below.refl _ _)⟩ ?_ ?_
      · intro i1 hi1 hds oi hoi b lb w' hW hlb hneed hcl
        have hi1 : i1 < 11 := hi1
        have hcs : i1 = 0 ∨ i1 = 1 ∨ i1 = 2 ∨ i1 = 3 ∨ i1 = 4 ∨ i1 = 5 ∨ i1 = 6 ∨ i1 = 7 ∨ i1 = 8 ∨ i1 = 9 ∨ i1 = 10 := by omega
        clear hi1 hneed hcl
        have r1 := (blk_cell (blk_below a1 hW) 0).trans rfl
        have r30 := (blk_cell (blk_below a3 hW) 0).trans rfl
        have r31 := (blk_cell (blk_below a3 hW) 1).trans rfl
        have r32 := (blk_cell (blk_below a3 hW) 2).trans rfl
        have r33 := (blk_cell (blk_below a3 hW) 3).trans rfl
        have r34 := (blk_cell (blk_below a3 hW) 4).trans rfl
        have r4 := (blk_cell (blk_below a4 hW) 0).trans rfl
        rcases hcs with rfl | rfl | rfl | rfl | rfl | rfl | rfl | rfl | rfl | rfl | rfl
        all_goals simp only [List.getElem?_toArray, List.getElem?_cons_succ, List.getElem?_cons_zero, Option.some.injEq] at hoi
        all_goals subst hoi
        · refine XInv.yes_of [] (by kernel_rfl) ?_
          intro Q2 K2 hK2
          simp only [XInv.puts, XPrint.pw]
          go_simp
          exact hK2.out (.pointer (some ⟨bw, 0, none⟩)) w' ⟨b, rfl, fun _ _ _ => rfl, hW⟩
        · refine XInv.yes_of [(27, 0)] (by kernel_rfl) ?_
          intro Q2 K2 hK2
          simp only [XInv.puts, XPrint.pw]
          go_simp
          exact hK2.out (.int .i64 F) w' ⟨b, rfl, fun _ _ _ => rfl, hW⟩
        · refine XInv.yes_of [] (by kernel_rfl) ?_
          intro Q2 K2 hK2
          simp only [XInv.puts, XPrint.pw]
          go_simp
          exact hK2.out (.pointer (some ⟨bx, 3, none⟩)) w' ⟨b, rfl, fun _ _ _ => rfl, hW⟩
        · refine XInv.yes_of [(29, 2)] (by kernel_rfl) ?_
          intro Q2 K2 hK2
          simp only [XInv.puts, XPrint.pw]
          go_simp
          exact hK2.out (.int .i64 len') w' ⟨b, rfl, fun _ _ _ => rfl, hW⟩
        · refine XInv.yes_of [(30, 3), (28, 1)] (by kernel_rfl) ?_
          intro Q2 K2 hK2
          simp only [XInv.puts, XPrint.pw]
          go_simp
          exact hK2.out (.int .i64 gg) w' ⟨b, rfl, fun _ _ _ => rfl, hW⟩
        · refine XInv.yes_of [] (by kernel_rfl) ?_
          intro Q2 K2 hK2
          simp only [XInv.puts, XPrint.pw]
          go_simp
          exact hK2.out (.pointer (some ⟨bf, 0, none⟩)) w' ⟨b, rfl, fun _ _ _ => rfl, hW⟩
        · refine XInv.yes_of [(32, 5)] (by kernel_rfl) ?_
          intro Q2 K2 hK2
          simp only [XInv.puts, XPrint.pw]
          go_simp
          exact hK2.out (.func (.func 88) #[] #[]) w' ⟨b, rfl, fun _ _ _ => rfl, hW⟩
        · refine XInv.yes_of [] (by kernel_rfl) ?_
          intro Q2 K2 hK2
          simp only [XInv.puts, XPrint.pw]
          go_simp
          exact hK2.out (.agg #[.int .i64 s, .int .i64 k', .int .i64 m, .int .i64 len', .int .i64 all]) w' ⟨b, rfl, fun _ _ _ => rfl, hW⟩
        · refine XInv.yes_of [(34, 7), (33, 6)] (by kernel_rfl) ?_
          intro Q2 K2 hK2
          simp only [XInv.puts, XPrint.pw]
          go_simp
          refine (ST.out w').mono ?_
          rintro e w2 ⟨rfl, hb2⟩
          exact hK2.out (.int .i64 fv) w2 ⟨b, rfl, fun _ _ _ => rfl, below_step hW hb2⟩
        · refine XInv.yes_of [(35, 8), (31, 4)] (by kernel_rfl) ?_
          intro Q2 K2 hK2
          simp only [XInv.puts, XPrint.pw]
          go_simp
          exact hK2.out (.int .i64 tt) w' ⟨b, rfl, fun _ _ _ => rfl, hW⟩
        · cases hds
      · intro b w' hW
        refine XInv.end_of [(36, 9), (35, 8), (34, 7), (33, 6), (32, 5), (31, 4), (30, 3), (29, 2), (28, 1), (27, 0)] (by kernel_rfl) ?_
        refine XInv.end_seq _ 10 rfl rfl (by kernel_rfl) ?_
        simp only [XInv.puts, XPrint.pw]
        repeat ((fail_if_success (refine wp_region_lit (id := 7) ?_)); (first | go_values | go_skip | go_guarded | go_step | go_upon))
        obtain ⟨hx, hz, hi, hsz, hzn, M⟩ := YY.out
        obtain ⟨hw, hall, hown, hJ, hY⟩ := ZZ.out
        obtain ⟨hfv, hto, hg, j5, hB⟩ := Y2.out
        have d1 := blk_below a1 hW
        have d2 := blk_below a2 hW
        have d3 := blk_below a3 hW
        have d4 := blk_below a4 hW
        have hB6 : ButS (fun k => k = bx) wr w' := hB.trans (ButS.of_below hW)
        have j6 := hJ _ _ _ j5 (ButS.of_below hW)
        have hl := M.left
        rw [List.drop_eq_getElem_cons hi] at hl
        have hxi : l[i] = x := by
          have := List.getElem?_eq_getElem hi
          rw [hx] at this
          simpa using this.symm
        have hgo : wrap64 (wrap64 (F + wrap64 (len + x)) + slackOf 0 s (wrap64 (k + 1)) m (wrap64 (len + x)) all) = tt := by rw [hl', hk', hfv, hg, hto]
        rw [hxi] at hl
        simp only [winsS] at hl
        rw [hgo, hl', hk'] at hl
        have hyy := hY pre (fr, tt) _ w' hl.symm j6 (Nat.le_trans hsz (Nat.le_trans hB6.size (Nat.le_refl _)))
        simp only at hyy
        obtain ⟨fn, tmps, assign, body, hy, hR⟩ := hyy
        have D6 : Below w0.heap.size w0 w' := ButS.below M.below (Nat.le_refl _) hB6 (fun q hq => by rw [hq]; exact M0.out.2.2.2.2)
        obtain ⟨z1, hz1⟩ : ∃ z1, wrap64 (z + 1) = z1 := ⟨_, rfl⟩
        have hzz : z1 = ((i + 1 : Nat) : Int) := by rw [← hz1, ← hz]; unfold wrap64; omega
        have hRR := Aside0.mk hR
        have FF := Aside0.mk (And.intro d1 (And.intro d2 (And.intro d3 (And.intro d4 (And.intro D6 (And.intro hl (And.intro hzz (And.intro hi (And.intro hsz (And.intro hB6 (And.intro hown hJ)))))))))))
        clear hx hz hi hsz hzn M hw hall hown hJ hY hfv hto hg j5 hB d1 d2 d3 d4 hB6 j6 hl hxi hgo D6 hzz hR hW hg2 hto2
        refine (wpIn_wide (n := n)).1 (wpIn_region_lit ?_)
        gi_wp2
        refine ⟨fun h => (by cases h), hRR.out.mono ?_⟩
        rintro e W7 (⟨rfl, hJ7, hk7⟩ | ⟨rfl, hJx7⟩)
        · have G := Aside0.mk (And.intro hJ7 hk7)
          clear hJ7 hk7 hRR hy
          gi_wp2
          go_wp2
          go_roundg (l.length + 1 - (i + 1))
          case measure => have := FF.out.2.2.2.2.2.2.2.1; omega
          case rel =>
            obtain ⟨d1, d2, d3, d4, D6, hl, hzz, hi, hsz, hB6, hown, hJ⟩ := FF.out
            obtain ⟨hJ7, hk7⟩ := G.out
            have hno : ∀ q, own q ∨ q = lr → w0.heap.size ≤ q := fun q hq => (hown q hq).1
            refine ⟨i + 1, k', len', tt, pre ++ [(fr, tt)], rfl, (by congr 1; have := YY.out.2.1; omega), rfl, Nat.le_trans hsz (Nat.le_trans hB6.size hk7.size),
              { below := ButS.below D6 (Nat.le_refl _) hk7 hno
                b1 := hk7.heap d1 (fun h => (hown _ h).2.1 rfl)
                b2 := hk7.heap d2 (fun h => (hown _ h).2.2.1 rfl)
                b3 := hk7.heap d3 (fun h => (hown _ h).2.2.2.1 rfl)
                b4 := hk7.heap d4 (fun h => (hown _ h).2.2.2.2 rfl)
                j := hJ7
                left := by rw [← hl]; simp
                low := hi }⟩
        · have G := Aside0.mk hJx7
          clear hJx7 hRR hy
          gi_wp2
          go_wp2
          refine bodyPost_ret (results_none rfl _ _ _) rfl ?_
          exact ⟨⟨_, rfl⟩, .inr ⟨pre, _, _, FF.out.2.2.2.2.2.1.symm, G.out⟩⟩
    · simp only [wayFn] at a4 ST
      refine XInv.region_inv [10] (fun b j => match j with
        | 0 => .pointer (some ⟨bw, 0, none⟩)
        | 1 => .int .i64 F
        | 2 => .pointer (some ⟨bx, 3, none⟩)
        | 3 => .int .i64 len'
        | 4 => .int .i64 gg
        | 5 => .pointer (some ⟨bf, 0, none⟩)
        | 6 => .func (.func 89) #[] #[]
        | 7 => .agg #[.int .i64 s, .int .i64 k', .int .i64 m, .int .i64 len', .int .i64 all]
        | 8 => .int .i64 fv
        | 9 => .int .i64 tt
        | _ => undef)
        (fun b l w' => Below W5.heap.size W5 w')
        (by kernel_rfl) rfl (by kernel_rfl) (by kernel_rfl) ⟨fun _ => 0, below_drew (Below.refl _ _)⟩ ?_ ?_
      · intro i1 hi1 hds oi hoi b lb w' hW hlb hneed hcl
        have hi1 : i1 < 11 := hi1
        have hcs : i1 = 0 ∨ i1 = 1 ∨ i1 = 2 ∨ i1 = 3 ∨ i1 = 4 ∨ i1 = 5 ∨ i1 = 6 ∨ i1 = 7 ∨ i1 = 8 ∨ i1 = 9 ∨ i1 = 10 := by omega
        clear hi1 hneed hcl
        have r1 := (blk_cell (blk_below a1 hW) 0).trans rfl
        have r30 := (blk_cell (blk_below a3 hW) 0).trans rfl
        have r31 := (blk_cell (blk_below a3 hW) 1).trans rfl
        have r32 := (blk_cell (blk_below a3 hW) 2).trans rfl
        have r33 := (blk_cell (blk_below a3 hW) 3).trans rfl
        have r34 := (blk_cell (blk_below a3 hW) 4).trans rfl
        have r4 := (blk_cell (blk_below a4 hW) 0).trans rfl
        rcases hcs with rfl | rfl | rfl | rfl | rfl | rfl | rfl | rfl | rfl | rfl | rfl
        all_goals simp only [List.getElem?_toArray, List.getElem?_cons_succ, List.getElem?_cons_zero, Option.some.injEq] at hoi
        all_goals subst hoi
        · refine XInv.yes_of [] (by kernel_rfl) ?_
          intro Q2 K2 hK2
          simp only [XInv.puts, XPrint.pw]
          go_simp
          exact hK2.out (.pointer (some ⟨bw, 0, none⟩)) w' ⟨b, rfl, fun _ _ _ => rfl, hW⟩
        · refine XInv.yes_of [(27, 0)] (by kernel_rfl) ?_
          intro Q2 K2 hK2
          simp only [XInv.puts, XPrint.pw]
          go_simp
          exact hK2.out (.int .i64 F) w' ⟨b, rfl, fun _ _ _ => rfl, hW⟩
        · refine XInv.yes_of [] (by kernel_rfl) ?_
          intro Q2 K2 hK2
          simp only [XInv.puts, XPrint.pw]
          go_simp
          exact hK2.out (.pointer (some ⟨bx, 3, none⟩)) w' ⟨b, rfl, fun _ _ _ => rfl, hW⟩
        · refine XInv.yes_of [(29, 2)] (by kernel_rfl) ?_
          intro Q2 K2 hK2
          simp only [XInv.puts, XPrint.pw]
          go_simp
          exact hK2.out (.int .i64 len') w' ⟨b, rfl, fun _ _ _ => rfl, hW⟩
        · refine XInv.yes_of [(30, 3), (28, 1)] (by kernel_rfl) ?_
          intro Q2 K2 hK2
          simp only [XInv.puts, XPrint.pw]
          go_simp
          exact hK2.out (.int .i64 gg) w' ⟨b, rfl, fun _ _ _ => rfl, hW⟩
        · refine XInv.yes_of [] (by kernel_rfl) ?_
          intro Q2 K2 hK2
          simp only [XInv.puts, XPrint.pw]
          go_simp
          exact hK2.out (.pointer (some ⟨bf, 0, none⟩)) w' ⟨b, rfl, fun _ _ _ => rfl, hW⟩
        · refine XInv.yes_of [(32, 5)] (by kernel_rfl) ?_
          intro Q2 K2 hK2
          simp only [XInv.puts, XPrint.pw]
          go_simp
          exact hK2.out (.func (.func 89) #[] #[]) w' ⟨b, rfl, fun _ _ _ => rfl, hW⟩
        · refine XInv.yes_of [] (by kernel_rfl) ?_
          intro Q2 K2 hK2
          simp only [XInv.puts, XPrint.pw]
          go_simp
          exact hK2.out (.agg #[.int .i64 s, .int .i64 k', .int .i64 m, .int .i64 len', .int .i64 all]) w' ⟨b, rfl, fun _ _ _ => rfl, hW⟩
        · refine XInv.yes_of [(34, 7), (33, 6)] (by kernel_rfl) ?_
          intro Q2 K2 hK2
          simp only [XInv.puts, XPrint.pw]
          go_simp
          refine (ST.out w').mono ?_
          rintro e w2 ⟨rfl, hb2⟩
          exact hK2.out (.int .i64 fv) w2 ⟨b, rfl, fun _ _ _ => rfl, below_step hW hb2⟩
        · refine XInv.yes_of [(35, 8), (31, 4)] (by kernel_rfl) ?_
          intro Q2 K2 hK2
          simp only [XInv.puts, XPrint.pw]
          go_simp
          exact hK2.out (.int .i64 tt) w' ⟨b, rfl, fun _ _ _ => rfl, hW⟩
        · cases hds
      · intro b w' hW
        refine XInv.end_of [(36, 9), (35, 8), (34, 7), (33, 6), (32, 5), (31, 4), (30, 3), (29, 2), (28, 1), (27, 0)] (by kernel_rfl) ?_
        refine XInv.end_seq _ 10 rfl rfl (by kernel_rfl) ?_
        simp only [XInv.puts, XPrint.pw]
        repeat ((fail_if_success (refine wp_region_lit (id := 7) ?_)); (first | go_values | go_skip | go_guarded | go_step | go_upon))
        obtain ⟨hx, hz, hi, hsz, hzn, M⟩ := YY.out
        obtain ⟨hw, hall, hown, hJ, hY⟩ := ZZ.out
        obtain ⟨hfv, hto, hg, j5, hB⟩ := Y2.out
        have d1 := blk_below a1 hW
        have d2 := blk_below a2 hW
        have d3 := blk_below a3 hW
        have d4 := blk_below a4 hW
        have hB6 : ButS (fun k => k = bx) wr w' := hB.trans (ButS.of_below hW)
        have j6 := hJ _ _ _ j5 (ButS.of_below hW)
        have hl := M.left
        rw [List.drop_eq_getElem_cons hi] at hl
        have hxi : l[i] = x := by
          have := List.getElem?_eq_getElem hi
          rw [hx] at this
          simpa using this.symm
        have hgo : wrap64 (wrap64 (F + wrap64 (len + x)) + slackOf 1 s (wrap64 (k + 1)) m (wrap64 (len + x)) all) = tt := by rw [hl', hk', hfv, hg, hto]
        rw [hxi] at hl
        simp only [winsS] at hl
        rw [hgo, hl', hk'] at hl
        have hyy := hY pre (fr, tt) _ w' hl.symm j6 (Nat.le_trans hsz (Nat.le_trans hB6.size (Nat.le_refl _)))
        simp only at hyy
        obtain ⟨fn, tmps, assign, body, hy, hR⟩ := hyy
        have D6 : Below w0.heap.size w0 w' := ButS.below M.below (Nat.le_refl _) hB6 (fun q hq => by rw [hq]; exact M0.out.2.2.2.2)
        obtain ⟨z1, hz1⟩ : ∃ z1, wrap64 (z + 1) = z1 := ⟨_, rfl⟩
        have hzz : z1 = ((i + 1 : Nat) : Int) := by rw [← hz1, ← hz]; unfold wrap64; omega
        have hRR := Aside0.mk hR
        have FF := Aside0.mk (And.intro d1 (And.intro d2 (And.intro d3 (And.intro d4 (And.intro D6 (And.intro hl (And.intro hzz (And.intro hi (And.intro hsz (And.intro hB6 (And.intro hown hJ)))))))))))
        clear hx hz hi hsz hzn M hw hall hown hJ hY hfv hto hg j5 hB d1 d2 d3 d4 hB6 j6 hl hxi hgo D6 hzz hR hW hg2 hto2
        refine (wpIn_wide (n := n)).1 (wpIn_region_lit ?_)
        gi_wp2
        refine ⟨fun h => (by cases h), hRR.out.mono ?_⟩
        rintro e W7 (⟨rfl, hJ7, hk7⟩ | ⟨rfl, hJx7⟩)
        · have G := Aside0.mk (And.intro hJ7 hk7)
          clear hJ7 hk7 hRR hy
          gi_wp2
          go_wp2
          go_roundg (l.length + 1 - (i + 1))
          case measure => have := FF.out.2.2.2.2.2.2.2.1; omega
          case rel =>
            obtain ⟨d1, d2, d3, d4, D6, hl, hzz, hi, hsz, hB6, hown, hJ⟩ := FF.out
            obtain ⟨hJ7, hk7⟩ := G.out
            have hno : ∀ q, own q ∨ q = lr → w0.heap.size ≤ q := fun q hq => (hown q hq).1
            refine ⟨i + 1, k', len', tt, pre ++ [(fr, tt)], rfl, (by congr 1; have := YY.out.2.1; omega), rfl, Nat.le_trans hsz (Nat.le_trans hB6.size hk7.size),
              { below := ButS.below D6 (Nat.le_refl _) hk7 hno
                b1 := hk7.heap d1 (fun h => (hown _ h).2.1 rfl)
                b2 := hk7.heap d2 (fun h => (hown _ h).2.2.1 rfl)
                b3 := hk7.heap d3 (fun h => (hown _ h).2.2.2.1 rfl)
                b4 := hk7.heap d4 (fun h => (hown _ h).2.2.2.2 rfl)
                j := hJ7
                left := by rw [← hl]; simp
                low := hi }⟩
        · have G := Aside0.mk hJx7
          clear hJx7 hRR hy
          gi_wp2
          go_wp2
          refine bodyPost_ret (results_none rfl _ _ _) rfl ?_
          exact ⟨⟨_, rfl⟩, .inr ⟨pre, _, _, FF.out.2.2.2.2.2.1.symm, G.out⟩⟩
    · simp only [wayFn] at a4 ST
      refine XInv.region_inv [10] (fun b j => match j with
        | 0 => .pointer (some ⟨bw, 0, none⟩)
        | 1 => .int .i64 F
        | 2 => .pointer (some ⟨bx, 3, none⟩)
        | 3 => .int .i64 len'
        | 4 => .int .i64 gg
        | 5 => .pointer (some ⟨bf, 0, none⟩)
        | 6 => .func (.func 90) #[] #[]
        | 7 => .agg #[.int .i64 s, .int .i64 k', .int .i64 m, .int .i64 len', .int .i64 all]
        | 8 => .int .i64 fv
        | 9 => .int .i64 tt
        | _ => undef)
        (fun b l w' => Below W5.heap.size W5 w')
        (by kernel_rfl) rfl (by kernel_rfl) (by kernel_rfl) ⟨fun _ => 0, below_drew (Below.refl _ _)⟩ ?_ ?_
      · intro i1 hi1 hds oi hoi b lb w' hW hlb hneed hcl
        have hi1 : i1 < 11 := hi1
        have hcs : i1 = 0 ∨ i1 = 1 ∨ i1 = 2 ∨ i1 = 3 ∨ i1 = 4 ∨ i1 = 5 ∨ i1 = 6 ∨ i1 = 7 ∨ i1 = 8 ∨ i1 = 9 ∨ i1 = 10 := by omega
        clear hi1 hneed hcl
        have r1 := (blk_cell (blk_below a1 hW) 0).trans rfl
        have r30 := (blk_cell (blk_below a3 hW) 0).trans rfl
        have r31 := (blk_cell (blk_below a3 hW) 1).trans rfl
        have r32 := (blk_cell (blk_below a3 hW) 2).trans rfl
        have r33 := (blk_cell (blk_below a3 hW) 3).trans rfl
        have r34 := (blk_cell (blk_below a3 hW) 4).trans rfl
        have r4 := (blk_cell (blk_below a4 hW) 0).trans rfl
        rcases hcs with rfl | rfl | rfl | rfl | rfl | rfl | rfl | rfl | rfl | rfl | rfl
        all_goals simp only [List.getElem?_toArray, List.getElem?_cons_succ, List.getElem?_cons_zero, Option.some.injEq] at hoi
        all_goals subst hoi
        · refine XInv.yes_of [] (by kernel_rfl) ?_
          intro Q2 K2 hK2
          simp only [XInv.puts, XPrint.pw]
          go_simp
          exact hK2.out (.pointer (some ⟨bw, 0, none⟩)) w' ⟨b, rfl, fun _ _ _ => rfl, hW⟩
        · refine XInv.yes_of [(27, 0)] (by kernel_rfl) ?_
          intro Q2 K2 hK2
          simp only [XInv.puts, XPrint.pw]
          go_simp
          exact hK2.out (.int .i64 F) w' ⟨b, rfl, fun _ _ _ => rfl, hW⟩
        · refine XInv.yes_of [] (by kernel_rfl) ?_
          intro Q2 K2 hK2
          simp only [XInv.puts, XPrint.pw]
          go_simp
          exact hK2.out (.pointer (some ⟨bx, 3, none⟩)) w' ⟨b, rfl, fun _ _ _ => rfl, hW⟩
        · refine XInv.yes_of [(29, 2)] (by kernel_rfl) ?_
          intro Q2 K2 hK2
          simp only [XInv.puts, XPrint.pw]
          go_simp
          exact hK2.out (.int .i64 len') w' ⟨b, rfl, fun _ _ _ => rfl, hW⟩
        · refine XInv.yes_of [(30, 3), (28, 1)] (by kernel_rfl) ?_
          intro Q2 K2 hK2
          simp only [XInv.puts, XPrint.pw]
          go_simp
          exact hK2.out (.int .i64 gg) w' ⟨b, rfl, fun _ _ _ => rfl, hW⟩
        · refine XInv.yes_of [] (by kernel_rfl) ?_
          intro Q2 K2 hK2
          simp only [XInv.puts, XPrint.pw]
          go_simp
          exact hK2.out (.pointer (some ⟨bf, 0, none⟩)) w' ⟨b, rfl, fun _ _ _ => rfl, hW⟩
        · refine XInv.yes_of [(32, 5)] (by kernel_rfl) ?_
          intro Q2 K2 hK2
          simp only [XInv.puts, XPrint.pw]
          go_simp
          exact hK2.out (.func (.func 90) #[] #[]) w' ⟨b, rfl, fun _ _ _ => rfl, hW⟩
        · refine XInv.yes_of [] (by kernel_rfl) ?_
          intro Q2 K2 hK2
          simp only [XInv.puts, XPrint.pw]
          go_simp
          exact hK2.out (.agg #[.int .i64 s, .int .i64 k', .int .i64 m, .int .i64 len', .int .i64 all]) w' ⟨b, rfl, fun _ _ _ => rfl, hW⟩
        · refine XInv.yes_of [(34, 7), (33, 6)] (by kernel_rfl) ?_
          intro Q2 K2 hK2
          simp only [XInv.puts, XPrint.pw]
          go_simp
          refine (ST.out w').mono ?_
          rintro e w2 ⟨rfl, hb2⟩
          exact hK2.out (.int .i64 fv) w2 ⟨b, rfl, fun _ _ _ => rfl, below_step hW hb2⟩
        · refine XInv.yes_of [(35, 8), (31, 4)] (by kernel_rfl) ?_
          intro Q2 K2 hK2
          simp only [XInv.puts, XPrint.pw]
          go_simp
          exact hK2.out (.int .i64 tt) w' ⟨b, rfl, fun _ _ _ => rfl, hW⟩
        · cases hds
      · intro b w' hW
        refine XInv.end_of [(36, 9), (35, 8), (34, 7), (33, 6), (32, 5), (31, 4), (30, 3), (29, 2), (28, 1), (27, 0)] (by kernel_rfl) ?_
        refine XInv.end_seq _ 10 rfl rfl (by kernel_rfl) ?_
        simp only [XInv.puts, XPrint.pw]
        repeat ((fail_if_success (refine wp_region_lit (id := 7) ?_)); (first | go_values | go_skip | go_guarded | go_step | go_upon))
        obtain ⟨hx, hz, hi, hsz, hzn, M⟩ := YY.out
        obtain ⟨hw, hall, hown, hJ, hY⟩ := ZZ.out
        obtain ⟨hfv, hto, hg, j5, hB⟩ := Y2.out
        have d1 := blk_below a1 hW
        have d2 := blk_below a2 hW
        have d3 := blk_below a3 hW
        have d4 := blk_below a4 hW
        have hB6 : ButS (fun k => k = bx) wr w' := hB.trans (ButS.of_below hW)
        have j6 := hJ _ _ _ j5 (ButS.of_below hW)
        have hl := M.left
        rw [List.drop_eq_getElem_cons hi] at hl
        have hxi : l[i] = x := by
          have := List.getElem?_eq_getElem hi
          rw [hx] at this
          simpa using this.symm
        have hgo : wrap64 (wrap64 (F + wrap64 (len + x)) + slackOf 2 s (wrap64 (k + 1)) m (wrap64 (len + x)) all) = tt := by rw [hl', hk', hfv, hg, hto]
        rw [hxi] at hl
        simp only [winsS] at hl
        rw [hgo, hl', hk'] at hl
        have hyy := hY pre (fr, tt) _ w' hl.symm j6 (Nat.le_trans hsz (Nat.le_trans hB6.size (Nat.le_refl _)))
        simp only at hyy
        obtain ⟨fn, tmps, assign, body, hy, hR⟩ := hyy
        have D6 : Below w0.heap.size w0 w' := ButS.below M.below (Nat.le_refl _) hB6 (fun q hq => by rw [hq]; exact M0.out.2.2.2.2)
        obtain ⟨z1, hz1⟩ : ∃ z1, wrap64 (z + 1) = z1 := ⟨_, rfl⟩
        have hzz : z1 = ((i + 1 : Nat) : Int) := by rw [← hz1, ← hz]; unfold wrap64; omega
        have hRR := Aside0.mk hR
        have FF := Aside0.mk (And.intro d1 (And.intro d2 (And.intro d3 (And.intro d4 (And.intro D6 (And.intro hl (And.intro hzz (And.intro hi (And.intro hsz (And.intro hB6 (And.intro hown hJ)))))))))))
        clear hx hz hi hsz hzn M hw hall hown hJ hY hfv hto hg j5 hB d1 d2 d3 d4 hB6 j6 hl hxi hgo D6 hzz hR hW hg2 hto2
        refine (wpIn_wide (n := n)).1 (wpIn_region_lit ?_)
        gi_wp2
        refine ⟨fun h => (by cases h), hRR.out.mono ?_⟩
        rintro e W7 (⟨rfl, hJ7, hk7⟩ | ⟨rfl, hJx7⟩)
        · have G := Aside0.mk (And.intro hJ7 hk7)
          clear hJ7 hk7 hRR hy
          gi_wp2
          go_wp2
          go_roundg (l.length + 1 - (i + 1))
          case measure => have := FF.out.2.2.2.2.2.2.2.1; omega
          case rel =>
            obtain ⟨d1, d2, d3, d4, D6, hl, hzz, hi, hsz, hB6, hown, hJ⟩ := FF.out
            obtain ⟨hJ7, hk7⟩ := G.out
            have hno : ∀ q, own q ∨ q = lr → w0.heap.size ≤ q := fun q hq => (hown q hq).1
            refine ⟨i + 1, k', len', tt, pre ++ [(fr, tt)], rfl, (by congr 1; have := YY.out.2.1; omega), rfl, Nat.le_trans hsz (Nat.le_trans hB6.size hk7.size),
              { below := ButS.below D6 (Nat.le_refl _) hk7 hno
                b1 := hk7.heap d1 (fun h => (hown _ h).2.1 rfl)
                b2 := hk7.heap d2 (fun h => (hown _ h).2.2.1 rfl)
                b3 := hk7.heap d3 (fun h => (hown _ h).2.2.2.1 rfl)
                b4 := hk7.heap d4 (fun h => (hown _ h).2.2.2.2 rfl)
                j := hJ7
                left := by rw [← hl]; simp
                low := hi }⟩
        · have G := Aside0.mk hJx7
          clear hJx7 hRR hy
          gi_wp2
          go_wp2
          refine bodyPost_ret (results_none rfl _ _ _) rfl ?_
          exact ⟨⟨_, rfl⟩, .inr ⟨pre, _, _, FF.out.2.2.2.2.2.1.symm, G.out⟩⟩
  · have hlt : decide ((i : Int) < (l.length : Int)) = false := decide_eq_false (by omega)
    have M := Aside0.mk M
    clear hw hC hl9 b1 b2 hall hown hJ hY
    go_wp2_with fail
    go_end0
    refine ⟨⟨_, rfl⟩, .inl ⟨?_, trivial⟩⟩
    have := M.out.left
    rw [List.drop_eq_nil_of_le (by omega)] at this
    simp only [winsS, List.append_nil] at this
    rw [← this]
    exact M.out.j
end
section
set_option maxHeartbeats 4000000 in
theorem windowsS (F T s k m n a : Int) (A : Option Addr) (ln c fn : Nat) (w : World) :
    Calls Try.prog 76 #[.agg #[.int .i64 F, .int .i64 T], .slice A ln c, shareV s k m n a, .agg #[.func (.func fn) #[] #[]]] w fun e w' => e = .returned (.func (.func 87) #[] #[.pointer (some ⟨w.heap.size, 0, none⟩), .pointer (some ⟨w.heap.size + 1, 0, none⟩), .pointer (some ⟨w.heap.size + 2, 0, none⟩), .pointer (some ⟨w.heap.size + 3, 0, none⟩)]) ∧ Below w.heap.size w w' ∧ w'.heap.size = w.heap.size + 4 ∧
      w'.heap[w.heap.size]? = some (.cells #[.int .i64 F, .int .i64 T] 71 (0, 0)) ∧ w'.heap[w.heap.size + 1]? = some (.cells #[.slice A ln c] 72 (0, 0)) ∧ w'.heap[w.heap.size + 2]? = some (.cells #[.int .i64 s, .int .i64 k, .int .i64 m, .int .i64 n, .int .i64 a] 111 (0, 0)) ∧ w'.heap[w.heap.size + 3]? = some (.cells #[.func (.func fn) #[] #[]] 118 (0, 0)) := by
  unfold shareV
  go_enter Try.func76, Try.ntmps76
  go_wp2
  go_ret
  refine ⟨rfl, below_alloc (below_alloc (below_alloc (below_alloc (Below.refl _ _) _) _) _) _, by simp, blk_alloc (blk_alloc (blk_alloc (blk_new _ _) _) _) _, ?_, ?_, ?_⟩
  · exact blk_alloc (blk_alloc (by simpa using blk_new (w.alloc _) _) _) _
  · exact blk_alloc (by simpa using blk_new ((w.alloc _).alloc _) _) _
  · simpa using blk_new (((w.alloc _).alloc _).alloc _) _
end
section
attribute [local go_sem] Oper.semAt_some
theorem info71w : (Try.prog.info? 71).map (fun i => (i.zero, i.size, i.bytes)) = some (some (.agg #[(.int .i64 0), (.int .i64 0)]), 2, 16) := by kernel_rfl
def winOf (x : Int × Int) : S71 := ⟨x.1, x.2⟩
theorem wins_len (which : Nat) (F s m all : Int) : ∀ (l : List Int) (k len fr : Int), (winsS which F s m all l k len fr).length = l.length
  | [], _, _, _ => rfl
  | n :: r, k, len, fr => by simp [winsS, wins_len which F s m all r]
theorem foldS1 (p : Tmp) (v : Value) (t : Array Value) : ((#[p] : Array Tmp).zip #[v]).foldl (fun t (p, v) => t.setIfInBounds p v) t = t.setIfInBounds p v := by simp
set_option maxHeartbeats 8000000 in
set_option maxRecDepth 100000 in
theorem appendSeqS (w0 : World) (bw bl bx bf : Nat) (A : Option Addr) (c : Nat) (l : List Int) (which : Nat) (hwh : which = 0 ∨ which = 1 ∨ which = 2) (F T s m all : Int) (hall : all ≠ 0) (w : World)
    (hw : Below w0.heap.size w0 w) (hC : Kd.C (Kd.int .i64) w0 A l.length l) (hl : l.length ≤ 4096)
    (b1 : w.heap[bw]? = some (.cells #[.int .i64 F, .int .i64 T] 71 (0, 0))) (b2 : w.heap[bl]? = some (.cells #[.slice A l.length c] 72 (0, 0)))
    (b3 : w.heap[bx]? = some (.cells #[.int .i64 s, .int .i64 0, .int .i64 m, .int .i64 0, .int .i64 all] 111 (0, 0))) (b4 : w.heap[bf]? = some (.cells #[.func (.func (wayFn which)) #[] #[]] 118 (0, 0)))
    (hbx : w0.heap.size ≤ bx) :
    Calls Try.prog 86 #[.slice none 0 0, .func (.func 87) #[] #[.pointer (some ⟨bw, 0, none⟩), .pointer (some ⟨bl, 0, none⟩), .pointer (some ⟨bx, 0, none⟩), .pointer (some ⟨bf, 0, none⟩)]] w fun e w' => ∃ v, e = .returned v ∧ Kd.R k71 71 w' w0.heap.size (fun _ => True) v ((winsS which F s m all l 0 0 F).map winOf) ∧ Below w0.heap.size w0 w' := by
  have HH := Aside0.mk (And.intro hw (And.intro hC (And.intro hl (And.intro b1 (And.intro b2 (And.intro b3 (And.intro b4 (And.intro hbx (And.intro hall hwh)))))))))
  clear hw hC hl b1 b2 b3 b4 hbx hall hwh
  refine callsIn_wide.1 (callsIn_of_wp_marks (F := Fence.wide) (n := 5) Try.func86 rfl trivial ?_)
  simp only [Try.ntmps86, List.size_toArray, List.length_cons, List.length_nil, Nat.reduceAdd, Nat.reduceSub, Array.replicate_succ, Array.replicate_zero, List.push_toArray, List.append_toArray, List.nil_append, List.cons_append]
  refine wpIn_wide.2 ?_
  go_wp2_with fail
  obtain ⟨hw, hC, hl, b1, b2, b3, b4, hbx, hall, hwh⟩ := HH.out
  have l1 := blk_lt b1
  have l2 := blk_lt b2
  have l3 := blk_lt b3
  have l4 := blk_lt b4
  have lw := hw.size
  refine (wpIn_wide (n := 5)).1 (range_lawS w0 (xs := winsS which F s m all l 0 0 F) (encs := fun x : Int × Int => #[.agg #[.int .i64 x.1, .int .i64 x.2]]) (wrs := fun k => k = bx) (own := fun k => k = w.heap.size ∨ w.heap.size + 3 ≤ k) (endW := fun _ => True) rfl (enters_ Try.func87 (by kernel_rfl) rfl) (fun _ => rfl) (hw.alloc lw _)
    (fun k hk => by simp only [World.size_alloc]; omega) (fun k hk => by simp only [World.size_alloc]; omega) (fun _ _ _ _ => trivial)
    (fun W1 hB1 hs1 => windowsS1 4 w0 _ bw bl bx bf A c l which hwh F T s m all hall _ W1 (hw.trans (Below.mono ((below_alloc (Below.refl _ _) _).trans (hB1.mono (by simp))) lw)) hC (by omega) (blk_below (blk_alloc b1 _) hB1) (blk_below (blk_alloc b2 _) hB1) (blk_below (blk_alloc b3 _) hB1) (blk_below (blk_alloc b4 _) hB1) hbx (fun k hk => by simp only [World.size_alloc] at hk; omega))
    (fun pre W => ∃ v, W.heap[w.heap.size]? = some (.cells #[v] 74 (0, 0)) ∧ Kd.R k71 71 W (w.heap.size + 3) (fun _ => True) v (pre.map winOf)) (fun _ _ _ => False) ?_ (fun _ _ _ _ h _ => h) ?_ ?_ ?_ (fun _ _ _ h => h.elim))
  · rintro s W W' ⟨v, h1, h2⟩ hb
    exact ⟨v, hb.heap h1 (by simp only [World.size_alloc]; omega), R_butS h2 hb (fun k hk => by simp only [World.size_alloc] at hk; omega)⟩
  · exact ⟨_, blk_new w _, Kd.R_nil _ _ _ _ _⟩
  · rintro pre x post W hwk ⟨v, hv, hR⟩ hBw hsz
    obtain ⟨f, t⟩ := x
    have hlen : pre.length + 1 ≤ 4096 := by
      have h1 := wins_len which F s m all l 0 0 F
      rw [hwk] at h1
      simp at h1
      omega
    simp only [World.size_alloc] at hsz
    have X := Aside0.mk (And.intro hwk (And.intro hv (And.intro hR (And.intro hBw hsz))))
    clear hwk hv hR hBw hsz hw hC hl b1 b2 b3 b4 hbx hall hwh HH
    rw [foldS1]
    simp only [XPrint.pw]
    gi_wp2
    refine ⟨(ButS.refl _ _).alloc _, fun W2 hb2 => ?_⟩
    obtain ⟨hwk, hv, hR, hBw, hsz⟩ := X.out
    simp only [World.size_alloc] at hb2
    have f0 : W2.heap[W.heap.size]? = some (.cells #[.int .i64 f, .int .i64 t] 71 (0, 0)) := hb2.heap (blk_new W _) (by omega)
    have f2 : W2.heap[w.heap.size]? = some (.cells #[v] 74 (0, 0)) := hb2.heap (blk_alloc hv _) (by omega)
    have hR2 : Kd.R k71 71 W2 (w.heap.size + 3) (fun _ => True) v (pre.map winOf) := R_butS hR (((ButS.refl (fun k => k = w.heap.size + 1 + 1) W).alloc _).trans hb2) (fun k hk => by omega)
    have s3 : W.heap.size + 1 ≤ W2.heap.size := by have := hb2.size; simpa using this
    have c0_ := (blk_cell f0 0).trans rfl
    have c1_ := (blk_cell f0 1).trans rfl
    have c2_ := (blk_cell f2 0).trans rfl
    have g2_ := blk_frozen f2 0
    obtain ⟨h0, inner, hown, hreps⟩ := hR2
    obtain ⟨i3, hi3, hzz⟩ := Option.map_eq_some_iff.1 info71w
    simp only [Prod.mk.injEq] at hzz
    obtain ⟨hz0, hz1, hz2⟩ := hzz
    have Z := Aside0.mk (And.intro f2 (And.intro hown hreps))
    have hml : (pre.map winOf).length = pre.length := by simp
    clear f0 f2 hown hreps X hR hv hb2 hBw hwk
    gi_wp2_with (refine wpListIn_append_own (W2.alloc (.cells #[.int .i64 f, .int .i64 t] 71)) rfl (.tmp 8) (.tmp 10) 74 rfl (w.heap.size + 3) 71 i3 (.agg #[(.int .i64 0), (.int .i64 0)]) 2 16 Try.underlying74 hi3 hz0 hz1 hz2 rfl (by decide) v _ inner rfl (Z.out.2.1.alloc _) ⟨W2.heap.size, 0, none⟩ 1 1 [.int .i64 f, .int .i64 t] rfl rfl ?hnews ?hone ?hb1 ?hb2 ?hb3 ?_)
    any_goals first | rfl | exact ⟨rfl, rfl⟩ | (simp only [maxLen]; omega) | (simp only [World.size_alloc]; omega) | omega
    intro v1 W5 hown5 hg5 hnn
    have hR5 : Kd.R k71 71 W5 (w.heap.size + 3) (fun _ => True) v1 ((pre ++ [(f, t)]).map winOf) := by
      refine ⟨fun _ _ => trivial, inner ++ [.int .i64 f, .int .i64 t], ?_, ?_⟩
      · rw [List.length_map, List.length_append, List.length_singleton]
        exact hown5
      · rw [List.map_append]
        exact Reps.snoc (R := k71.M W5 (w.heap.size + 3) (fun k => True ∧ some k ≠ v1.ownBlock)) (Z.out.2.2.imp_ (fun _ _ hq => hq)) (k71_mkM W5 _ _ (winOf (f, t))) rfl
    obtain ⟨A5, q5', e5⟩ := Kd.R_slice hR5
    subst e5
    have hR5 := Aside0.mk hR5
    have hne : some w.heap.size ≠ v.ownBlock := fun h => by
      have := own_base Z.out.2.1 _ h.symm
      omega
    have f5 := blk_grown (blk_alloc Z.out.1 (.cells #[.int .i64 f, .int .i64 t] 71)) hg5 hne
    have c5 := (blk_cell f5 0).trans rfl
    have q5 := blk_frozen f5 0
    have Z5 := Aside0.mk (And.intro hg5 f5)
    clear hown5 hg5 f5 hne hnn c2_ g2_
    gi_wp2
    obtain ⟨f2, hown, hreps⟩ := Z.out
    obtain ⟨hg5, f5⟩ := Z5.out
    have hrow : ∀ k, v.ownBlock = some k → w.heap.size + 3 ≤ k := fun k hk => own_base hown _ hk
    have hlen2 : ((pre ++ [(f, t)]).map winOf).length = pre.length + 1 := by simp
    rw [hlen2] at hR5
    have hB5 : ButS (fun k => k = w.heap.size ∨ w.heap.size + 3 ≤ k) W2 (W5.setCell ⟨w.heap.size, 0, none⟩ (.slice A5 (pre.length + 1) q5')) :=
      (((ButS.refl _ _).alloc _).trans (ButS.grown hg5 (fun k hk => .inr (hrow k hk)))).setCell (.inl rfl) 0 _
    refine ⟨hB5, _, by simpa using blk_set f5 0 (.slice A5 (pre.length + 1) q5'), ?_⟩
    exact R_butS hR5.out ((ButS.refl (fun k => k = w.heap.size) W5).setCell rfl 0 (.slice A5 (pre.length + 1) q5')) (fun k hk => by omega)
  · rintro W ⟨v, hv, hR⟩ _ hB h3
    have c1 := (blk_cell hv 0).trans rfl
    dsimp only
    go_wp2
    refine leave_markS v h3 (by simp [results, Try.f86, go_sem]) ⟨v, rfl, ?_, ?_⟩
    · exact Kd.R_lower (R_butS hR (ButS.put1 _ _ _) (fun k hk => by simp only [World.size_alloc] at hk; omega)) (by omega)
    · exact ButS.below hB (Nat.le_refl _) (ButS.put1 _ _ _) fun k h => by simp only [World.size_alloc] at h; omega
set_option maxHeartbeats 4000000 in
theorem collectS (w0 : World) (bw bl bx bf : Nat) (A : Option Addr) (c : Nat) (l : List Int) (which : Nat) (hwh : which = 0 ∨ which = 1 ∨ which = 2) (F T s m all : Int) (hall : all ≠ 0) (w : World)
    (hw : Below w0.heap.size w0 w) (hC : Kd.C (Kd.int .i64) w0 A l.length l) (hl : l.length ≤ 4096)
    (b1 : w.heap[bw]? = some (.cells #[.int .i64 F, .int .i64 T] 71 (0, 0))) (b2 : w.heap[bl]? = some (.cells #[.slice A l.length c] 72 (0, 0)))
    (b3 : w.heap[bx]? = some (.cells #[.int .i64 s, .int .i64 0, .int .i64 m, .int .i64 0, .int .i64 all] 111 (0, 0))) (b4 : w.heap[bf]? = some (.cells #[.func (.func (wayFn which)) #[] #[]] 118 (0, 0)))
    (hbx : w0.heap.size ≤ bx) :
    Calls Try.prog 75 #[.func (.func 87) #[] #[.pointer (some ⟨bw, 0, none⟩), .pointer (some ⟨bl, 0, none⟩), .pointer (some ⟨bx, 0, none⟩), .pointer (some ⟨bf, 0, none⟩)]] w fun e w' => ∃ v, e = .returned v ∧ Kd.R k71 71 w' w0.heap.size (fun _ => True) v ((winsS which F s m all l 0 0 F).map winOf) ∧ Below w0.heap.size w0 w' := by
  have H := Aside0.mk (appendSeqS w0 bw bl bx bf A c l which hwh F T s m all hall w hw hC hl b1 b2 b3 b4 hbx)
  clear hw hC hl b1 b2 b3 b4 hbx hall hwh
  go_enter Try.func75, Try.ntmps75
  go_wp2_with (go_at_call 86; refine H.out.mono ?_; rintro e w1 ⟨v, rfl, hR, hb⟩)
  go_ret
  exact ⟨v, rfl, hR, hb⟩
end
section
def waysV : Array Value := #[.func (.func 88) #[] #[], .func (.func 89) #[] #[], .func (.func 90) #[] #[]]
theorem idxw0 (w : World) : (Instr.index 119 (.agg #[.func (.func 88) #[] #[], .func (.func 89) #[] #[], .func (.func 90) #[] #[]]) (.int .u8 0)).run Try.prog w = .ok (.agg #[.func (.func 88) #[] #[]]) w := by
  simp [Instr.index, run_underlying Try.underlying119, asIntOf, part, go_sem]
theorem idxw1 (w : World) : (Instr.index 119 (.agg #[.func (.func 88) #[] #[], .func (.func 89) #[] #[], .func (.func 90) #[] #[]]) (.int .u8 1)).run Try.prog w = .ok (.agg #[.func (.func 89) #[] #[]]) w := by
  simp [Instr.index, run_underlying Try.underlying119, asIntOf, part, go_sem]
theorem idxw2 (w : World) : (Instr.index 119 (.agg #[.func (.func 88) #[] #[], .func (.func 89) #[] #[], .func (.func 90) #[] #[]]) (.int .u8 2)).run Try.prog w = .ok (.agg #[.func (.func 90) #[] #[]]) w := by
  simp [Instr.index, run_underlying Try.underlying119, asIntOf, part, go_sem]
attribute [local go_sem] idxw0 idxw1 idxw2
/-- What Split makes of what check tells. -/
def splitR (F T : Int) (l : List Int) (q all e : Int) : Option (List S71 × Int) :=
  if e = 2 then some ([], 2) else if q > 2 then some ([], 2) else if e ≠ 0 then some ([], e) else if all > wrap64 (T - F) then some ([], 210) else
  if 0 ≤ q ∧ all ≠ 0 ∧ l.length ≤ 4096 then some ((winsS q.toNat F (wrap64 (wrap64 (T - F) - all)) l.length all l 0 0 F).map winOf, 0) else none
set_option maxHeartbeats 8000000 in
set_option maxRecDepth 100000 in
theorem splitS (F T : Int) (A : Option Addr) (c : Nat) (l : List Int) (q all e : Int) (r1 : List S71) (r2 : Int) (w : World) (hr : Kd.C (Kd.int .i64) w A l.length l) (hc : l.length ≤ c)
    (hchk : ∀ w', Below w.heap.size w w' → Calls Try.prog 71 #[.agg #[.int .i64 F, .int .i64 T], .slice A l.length c] w' fun e' w2 => e' = .returned (.tuple #[.int .i64 all, .int .i64 e]) ∧ Below w'.heap.size w' w2)
    (h : splitR F T l q all e = some (r1, r2)) :
    Calls Try.prog 47 #[.agg #[.int .i64 F, .int .i64 T], .slice A l.length c, .int .u8 q] w fun e w' => ∃ v0_ : Value, e = .returned (.tuple #[v0_, .int .i64 r2]) ∧ Kd.R k71 71 w' w.heap.size (fun _ => True) v0_ r1 ∧ Below w.heap.size w w' := by
  have HC := Aside0.mk hchk
  have HR := Aside0.mk (And.intro hr hc)
  clear hchk hr hc
  unfold splitR at h
  by_cases e2 : e = 2
  · rw [if_pos e2] at h
    have e2b : (e == 2) = true := by simp [e2]
    obtain ⟨h4, h5⟩ : [] = r1 ∧ 2 = r2 := by injection h with h; injection h with h4 h5; exact ⟨h4, h5⟩
    subst h4 h5
    clear h e2
    go_enter Try.func47, Try.ntmps47
    go_wp2_with (go_at_call 71; refine (HC.out _ (below_alloc (Below.refl _ _) _)).mono ?_; rintro e' w1 ⟨rfl, hb⟩)
    go_ret2
    exact ⟨_, rfl, Kd.R_nil _ _ _ _ _, below_step (below_alloc (Below.refl _ _) _) hb⟩
  · rw [if_neg e2] at h
    have e2b : (e == 2) = false := by simp [e2]
    clear e2
    by_cases hq : q > 2
    · rw [if_pos hq] at h
      have hqb : decide (2 < q) = true := decide_eq_true hq
      obtain ⟨h4, h5⟩ : [] = r1 ∧ 2 = r2 := by injection h with h; injection h with h4 h5; exact ⟨h4, h5⟩
      subst h4 h5
      clear h hq
      go_enter Try.func47, Try.ntmps47
      go_wp2_with (go_at_call 71; refine (HC.out _ (below_alloc (Below.refl _ _) _)).mono ?_; rintro e' w1 ⟨rfl, hb⟩)
      go_ret2
      exact ⟨_, rfl, Kd.R_nil _ _ _ _ _, below_step (below_alloc (Below.refl _ _) _) hb⟩
    · rw [if_neg hq] at h
      have hqb : decide (2 < q) = false := decide_eq_false hq
      by_cases e0 : e ≠ 0
      · rw [if_pos e0] at h
        have e0b : (e != 0) = true := by simpa using e0
        obtain ⟨h4, h5⟩ : [] = r1 ∧ e = r2 := by injection h with h; injection h with h4 h5; exact ⟨h4, h5⟩
        subst h4 h5
        clear h hq e0
        go_enter Try.func47, Try.ntmps47
        go_wp2_with (go_at_call 71; refine (HC.out _ (below_alloc (Below.refl _ _) _)).mono ?_; rintro e' w1 ⟨rfl, hb⟩)
        go_ret2
        exact ⟨_, rfl, Kd.R_nil _ _ _ _ _, below_step (below_alloc (Below.refl _ _) _) hb⟩
      · rw [if_neg e0] at h
        have e0b : (e != 0) = false := by simpa using e0
        clear e0
        obtain ⟨x, hx⟩ : ∃ x, wrap64 (T - F) = x := ⟨_, rfl⟩
        rw [hx] at h
        by_cases hp : all > x
        · rw [if_pos hp] at h
          have hpb : decide (x < all) = true := decide_eq_true hp
          obtain ⟨h4, h5⟩ : [] = r1 ∧ 210 = r2 := by injection h with h; injection h with h4 h5; exact ⟨h4, h5⟩
          subst h4 h5
          clear h hq hp
          go_enter Try.func47, Try.ntmps47
          go_wp2_with (go_at_call 71; refine (HC.out _ (below_alloc (Below.refl _ _) _)).mono ?_; rintro e' w1 ⟨rfl, hb⟩; have bx1 := blk_below (blk_new w (Obj.cells #[Value.int IntKind.i64 F, Value.int IntKind.i64 T] 71)) hb; have q0 := (blk_cell bx1 0).trans rfl; have q1 := (blk_cell bx1 1).trans rfl)
          go_ret2
          exact ⟨_, rfl, Kd.R_nil _ _ _ _ _, below_step (below_alloc (Below.refl _ _) _) hb⟩
        · rw [if_neg hp] at h
          have hpb : decide (x < all) = false := decide_eq_false hp
          by_cases hz : 0 ≤ q ∧ all ≠ 0 ∧ l.length ≤ 4096
          · rw [if_pos hz] at h
            obtain ⟨hq0, hall, hl⟩ := hz
            have hwh : q = 0 ∨ q = 1 ∨ q = 2 := by omega
            obtain ⟨sl, hsl⟩ : ∃ sl, wrap64 (x - all) = sl := ⟨_, rfl⟩
            rw [hsl] at h
            injection h with h
            injection h with h4 h5
            subst h5
            have HX := Aside0.mk (And.intro h4 (And.intro hall hl))
            clear h4 hall hl hq0 hq hp
            go_enter Try.func47, Try.ntmps47
            go_wp2_with (go_at_call 71; refine (HC.out _ (below_alloc (Below.refl _ _) _)).mono ?_; rintro e' w1 ⟨rfl, hb⟩; have bx1 := blk_below (blk_new w (Obj.cells #[Value.int IntKind.i64 F, Value.int IntKind.i64 T] 71)) hb; have q0 := (blk_cell bx1 0).trans rfl; have q1 := (blk_cell bx1 1).trans rfl)
            rw [hx, hsl]
            have d1 := blk_alloc bx1 (Obj.cells #[Value.int IntKind.i64 sl, Value.int IntKind.i64 0, Value.int IntKind.i64 (l.length : Int), Value.int IntKind.i64 0, Value.int IntKind.i64 all] 111)
            have d2 := blk_new w1 (Obj.cells #[Value.int IntKind.i64 sl, Value.int IntKind.i64 0, Value.int IntKind.i64 (l.length : Int), Value.int IntKind.i64 0, Value.int IntKind.i64 all] 111)
            have D8 : Below w.heap.size w (w1.alloc (Obj.cells #[Value.int IntKind.i64 sl, Value.int IntKind.i64 0, Value.int IntKind.i64 (l.length : Int), Value.int IntKind.i64 0, Value.int IntKind.i64 all] 111)) := below_alloc (below_step (below_alloc (Below.refl _ _) _) hb) _
            clear q0 q1 bx1 hb
            generalize hB8 : w1.heap.size = B8 at *
            generalize w1.alloc (Obj.cells #[Value.int IntKind.i64 sl, Value.int IntKind.i64 0, Value.int IntKind.i64 (l.length : Int), Value.int IntKind.i64 0, Value.int IntKind.i64 all] 111) = W8 at *
            rcases hwh with rfl | rfl | rfl
            · refine XInv.region_inv [7, 8, 9] (fun b j => match j with
                | 0 => .agg #[.int .i64 F, .int .i64 T]
                | 1 => .slice A l.length c
                | 2 => .agg #[.int .i64 sl, .int .i64 0, .int .i64 (l.length : Int), .int .i64 0, .int .i64 all]
                | 3 => .agg #[.func (.func 88) #[] #[], .func (.func 89) #[] #[], .func (.func 90) #[] #[]]
                | 4 => .int .u8 0
                | 5 => .agg #[.func (.func 88) #[] #[]]
                | 6 => .func (.func 87) #[] #[.pointer (some ⟨b 6, 0, none⟩), .pointer (some ⟨b 6 + 1, 0, none⟩), .pointer (some ⟨b 6 + 2, 0, none⟩), .pointer (some ⟨b 6 + 3, 0, none⟩)]
                | _ => undef)
                (fun b l1 w' => Below W8.heap.size W8 w' ∧ (l1 6 = true → W8.heap.size ≤ b 6 ∧ w'.heap[b 6]? = some (.cells #[.int .i64 F, .int .i64 T] 71 (0, 0)) ∧ w'.heap[b 6 + 1]? = some (.cells #[.slice A l.length c] 72 (0, 0)) ∧ w'.heap[b 6 + 2]? = some (.cells #[.int .i64 sl, .int .i64 0, .int .i64 (l.length : Int), .int .i64 0, .int .i64 all] 111 (0, 0)) ∧ w'.heap[b 6 + 3]? = some (.cells #[.func (.func 88) #[] #[]] 118 (0, 0))))
                (by kernel_rfl) rfl (by kernel_rfl) (by kernel_rfl) ⟨fun _ => 0, below_drew (Below.refl _ _), fun hh => (by cases hh)⟩ ?_ ?_
              · intro i1 hi1 hds oi hoi b lb w' hW hlb hneed hcl
                have hi1 : i1 < 10 := hi1
                have hcs : i1 = 0 ∨ i1 = 1 ∨ i1 = 2 ∨ i1 = 3 ∨ i1 = 4 ∨ i1 = 5 ∨ i1 = 6 ∨ i1 = 7 ∨ i1 = 8 ∨ i1 = 9 := by omega
                clear hi1 hneed hcl
                have r0 := (blk_cell (blk_below d1 hW.1) 0).trans rfl
                have r1 := (blk_cell (blk_below d1 hW.1) 1).trans rfl
                have r30 := (blk_cell (blk_below d2 hW.1) 0).trans rfl
                have r31 := (blk_cell (blk_below d2 hW.1) 1).trans rfl
                have r32 := (blk_cell (blk_below d2 hW.1) 2).trans rfl
                have r33 := (blk_cell (blk_below d2 hW.1) 3).trans rfl
                have r34 := (blk_cell (blk_below d2 hW.1) 4).trans rfl
                rcases hcs with rfl | rfl | rfl | rfl | rfl | rfl | rfl | rfl | rfl | rfl
                all_goals simp only [List.getElem?_toArray, List.getElem?_cons_succ, List.getElem?_cons_zero, Option.some.injEq] at hoi
                all_goals subst hoi
                · refine XInv.yes_of [] (by kernel_rfl) ?_
                  intro Q2 K2 hK2
                  simp only [XInv.puts, XPrint.pw]
                  go_simp
                  exact hK2.out (.agg #[.int .i64 F, .int .i64 T]) w' ⟨b, rfl, fun _ _ _ => rfl, hW.1, fun hh => hW.2 (by simpa [XInv.up] using hh)⟩
                · refine XInv.yes_of [] (by kernel_rfl) ?_
                  intro Q2 K2 hK2
                  simp only [XInv.puts, XPrint.pw]
                  go_simp
                  exact hK2.out (.slice A l.length c) w' ⟨b, rfl, fun _ _ _ => rfl, hW.1, fun hh => hW.2 (by simpa [XInv.up] using hh)⟩
                · refine XInv.yes_of [] (by kernel_rfl) ?_
                  intro Q2 K2 hK2
                  simp only [XInv.puts, XPrint.pw]
                  go_simp
                  exact hK2.out (.agg #[.int .i64 sl, .int .i64 0, .int .i64 (l.length : Int), .int .i64 0, .int .i64 all]) w' ⟨b, rfl, fun _ _ _ => rfl, hW.1, fun hh => hW.2 (by simpa [XInv.up] using hh)⟩
                · refine XInv.yes_of [] (by kernel_rfl) ?_
                  intro Q2 K2 hK2
                  simp only [XInv.puts, XPrint.pw]
                  go_simp
                  refine (waysS w').mono ?_
                  rintro e' w2 ⟨rfl, hb2⟩
                  exact hK2.out (.agg #[.func (.func 88) #[] #[], .func (.func 89) #[] #[], .func (.func 90) #[] #[]]) w2 ⟨b, rfl, fun _ _ _ => rfl, below_step hW.1 hb2, fun hh => by
                    obtain ⟨z0, z1, z2, z3, z4⟩ := hW.2 (by simpa [XInv.up] using hh)
                    exact ⟨z0, blk_below z1 hb2, blk_below z2 hb2, blk_below z3 hb2, blk_below z4 hb2⟩⟩
                · refine XInv.yes_of [] (by kernel_rfl) ?_
                  intro Q2 K2 hK2
                  simp only [XInv.puts, XPrint.pw]
                  go_simp
                  exact hK2.out (.int .u8 0) w' ⟨b, rfl, fun _ _ _ => rfl, hW.1, fun hh => hW.2 (by simpa [XInv.up] using hh)⟩
                · refine XInv.yes_of [(51, 4), (50, 3)] (by kernel_rfl) ?_
                  intro Q2 K2 hK2
                  simp only [XInv.puts, XPrint.pw]
                  go_simp
                  exact hK2.out (.agg #[.func (.func 88) #[] #[]]) w' ⟨b, rfl, fun _ _ _ => rfl, hW.1, fun hh => hW.2 (by simpa [XInv.up] using hh)⟩
                · refine XInv.yes_of [(52, 5), (50, 3), (49, 2), (48, 1), (47, 0)] (by kernel_rfl) ?_
                  intro Q2 K2 hK2
                  simp only [XInv.puts, XPrint.pw]
                  go_simp
                  refine (windowsS F T sl 0 (l.length : Int) 0 all A l.length c 88 w').mono ?_
                  rintro e' w2 ⟨rfl, hb2, hs2, z1, z2, z3, z4⟩
                  exact hK2.out (.func (.func 87) #[] #[.pointer (some ⟨w'.heap.size, 0, none⟩), .pointer (some ⟨w'.heap.size + 1, 0, none⟩), .pointer (some ⟨w'.heap.size + 2, 0, none⟩), .pointer (some ⟨w'.heap.size + 3, 0, none⟩)]) w2 ⟨fun _ => w'.heap.size, rfl, fun j hj hh => by
                    have : j ≠ 6 := fun e => by subst e; rw [hlb] at hh; cases hh
                    have hcs : j = 0 ∨ j = 1 ∨ j = 2 ∨ j = 3 ∨ j = 4 ∨ j = 5 ∨ j = 7 ∨ j = 8 ∨ j = 9 := by
                      have : j < 10 := hj
                      omega
                    rcases hcs with rfl | rfl | rfl | rfl | rfl | rfl | rfl | rfl | rfl <;> rfl, below_step hW.1 hb2, fun _ => ⟨hW.1.size, z1, z2, z3, z4⟩⟩
                · cases hds
                · cases hds
                · cases hds
              · intro b w' hW
                refine XInv.end_of [(53, 6), (52, 5), (51, 4), (50, 3), (49, 2), (48, 1), (47, 0)] (by kernel_rfl) ?_
                refine XInv.end_seq _ 7 rfl rfl (by kernel_rfl) ?_
                simp only [XInv.puts, XPrint.pw]
                obtain ⟨hb, h6⟩ := hW
                obtain ⟨z0, z1, z2, z3, z4⟩ := h6 rfl
                have hD : Below w.heap.size w w' := below_step D8 hb
                have hCC := Aside0.mk (collectS w (b 6) (b 6 + 1) (b 6 + 2) (b 6 + 3) A c l 0 (by omega) F T sl (l.length : Int) all HX.out.2.1 w' hD HR.out.1 HX.out.2.2 z1 z2 z3 z4 (by have := D8.size; omega))
                clear z0 z1 z2 z3 z4 h6 hb
                generalize b 6 = fb at *
                go_wp2_with (go_at_call 75; refine hCC.out.mono ?_; rintro e' w9 ⟨v, rfl, hR9, hB9⟩)
                go_ret2
                refine ⟨v, rfl, ?_, hB9⟩
                rw [← HX.out.1]
                exact hR9
            · refine XInv.region_inv [7, 8, 9] (fun b j => match j with
                | 0 => .agg #[.int .i64 F, .int .i64 T]
                | 1 => .slice A l.length c
                | 2 => .agg #[.int .i64 sl, .int .i64 0, .int .i64 (l.length : Int), .int .i64 0, .int .i64 all]
                | 3 => .agg #[.func (.func 88) #[] #[], .func (.func 89) #[] #[], .func (.func 90) #[] #[]]
                | 4 => .int .u8 1
                | 5 => .agg #[.func (.func 89) #[] #[]]
                | 6 => .func (.func 87) #[] #[.pointer (some ⟨b 6, 0, none⟩), .pointer (some ⟨b 6 + 1, 0, none⟩), .pointer (some ⟨b 6 + 2, 0, none⟩), .pointer (some ⟨b 6 + 3, 0, none⟩)]
                | _ => undef)
                (fun b l1 w' => Below W8.heap.size W8 w' ∧ (l1 6 = true → W8.heap.size ≤ b 6 ∧ w'.heap[b 6]? = some (.cells #[.int .i64 F, .int .i64 T] 71 (0, 0)) ∧ w'.heap[b 6 + 1]? = some (.cells #[.slice A l.length c] 72 (0, 0)) ∧ w'.heap[b 6 + 2]? = some (.cells #[.int .i64 sl, .int .i64 0, .int .i64 (l.length : Int), .int .i64 0, .int .i64 all] 111 (0, 0)) ∧ w'.heap[b 6 + 3]? = some (.cells #[.func (.func 89) #[] #[]] 118 (0, 0))))
                (by kernel_rfl) rfl (by kernel_rfl) (by kernel_rfl) ⟨fun _ => 0, below_drew (Below.refl _ _), fun hh => (by cases hh)⟩ ?_ ?_
              · intro i1 hi1 hds oi hoi b lb w' hW hlb hneed hcl
                have hi1 : i1 < 10 := hi1
                have hcs : i1 = 0 ∨ i1 = 1 ∨ i1 = 2 ∨ i1 = 3 ∨ i1 = 4 ∨ i1 = 5 ∨ i1 = 6 ∨ i1 = 7 ∨ i1 = 8 ∨ i1 = 9 := by omega
                clear hi1 hneed hcl
                have r0 := (blk_cell (blk_below d1 hW.1) 0).trans rfl
                have r1 := (blk_cell (blk_below d1 hW.1) 1).trans rfl
                have r30 := (blk_cell (blk_below d2 hW.1) 0).trans rfl
                have r31 := (blk_cell (blk_below d2 hW.1) 1).trans rfl
                have r32 := (blk_cell (blk_below d2 hW.1) 2).trans rfl
                have r33 := (blk_cell (blk_below d2 hW.1) 3).trans rfl
                have r34 := (blk_cell (blk_below d2 hW.1) 4).trans rfl
                rcases hcs with rfl | rfl | rfl | rfl | rfl | rfl | rfl | rfl | rfl | rfl
                all_goals simp only [List.getElem?_toArray, List.getElem?_cons_succ, List.getElem?_cons_zero, Option.some.injEq] at hoi
                all_goals subst hoi
                · refine XInv.yes_of [] (by kernel_rfl) ?_
                  intro Q2 K2 hK2
                  simp only [XInv.puts, XPrint.pw]
                  go_simp
                  exact hK2.out (.agg #[.int .i64 F, .int .i64 T]) w' ⟨b, rfl, fun _ _ _ => rfl, hW.1, fun hh => hW.2 (by simpa [XInv.up] using hh)⟩
                · refine XInv.yes_of [] (by kernel_rfl) ?_
                  intro Q2 K2 hK2
                  simp only [XInv.puts, XPrint.pw]
                  go_simp
                  exact hK2.out (.slice A l.length c) w' ⟨b, rfl, fun _ _ _ => rfl, hW.1, fun hh => hW.2 (by simpa [XInv.up] using hh)⟩
                · refine XInv.yes_of [] (by kernel_rfl) ?_
                  intro Q2 K2 hK2
                  simp only [XInv.puts, XPrint.pw]
                  go_simp
                  exact hK2.out (.agg #[.int .i64 sl, .int .i64 0, .int .i64 (l.length : Int), .int .i64 0, .int .i64 all]) w' ⟨b, rfl, fun _ _ _ => rfl, hW.1, fun hh => hW.2 (by simpa [XInv.up] using hh)⟩
                · refine XInv.yes_of [] (by kernel_rfl) ?_
                  intro Q2 K2 hK2
                  simp only [XInv.puts, XPrint.pw]
                  go_simp
                  refine (waysS w').mono ?_
                  rintro e' w2 ⟨rfl, hb2⟩
                  exact hK2.out (.agg #[.func (.func 88) #[] #[], .func (.func 89) #[] #[], .func (.func 90) #[] #[]]) w2 ⟨b, rfl, fun _ _ _ => rfl, below_step hW.1 hb2, fun hh => by
                    obtain ⟨z0, z1, z2, z3, z4⟩ := hW.2 (by simpa [XInv.up] using hh)
                    exact ⟨z0, blk_below z1 hb2, blk_below z2 hb2, blk_below z3 hb2, blk_below z4 hb2⟩⟩
                · refine XInv.yes_of [] (by kernel_rfl) ?_
                  intro Q2 K2 hK2
                  simp only [XInv.puts, XPrint.pw]
                  go_simp
                  exact hK2.out (.int .u8 1) w' ⟨b, rfl, fun _ _ _ => rfl, hW.1, fun hh => hW.2 (by simpa [XInv.up] using hh)⟩
                · refine XInv.yes_of [(51, 4), (50, 3)] (by kernel_rfl) ?_
                  intro Q2 K2 hK2
                  simp only [XInv.puts, XPrint.pw]
                  go_simp
                  exact hK2.out (.agg #[.func (.func 89) #[] #[]]) w' ⟨b, rfl, fun _ _ _ => rfl, hW.1, fun hh => hW.2 (by simpa [XInv.up] using hh)⟩
                · refine XInv.yes_of [(52, 5), (50, 3), (49, 2), (48, 1), (47, 0)] (by kernel_rfl) ?_
                  intro Q2 K2 hK2
                  simp only [XInv.puts, XPrint.pw]
                  go_simp
                  refine (windowsS F T sl 0 (l.length : Int) 0 all A l.length c 89 w').mono ?_
                  rintro e' w2 ⟨rfl, hb2, hs2, z1, z2, z3, z4⟩
                  exact hK2.out (.func (.func 87) #[] #[.pointer (some ⟨w'.heap.size, 0, none⟩), .pointer (some ⟨w'.heap.size + 1, 0, none⟩), .pointer (some ⟨w'.heap.size + 2, 0, none⟩), .pointer (some ⟨w'.heap.size + 3, 0, none⟩)]) w2 ⟨fun _ => w'.heap.size, rfl, fun j hj hh => by
                    have : j ≠ 6 := fun e => by subst e; rw [hlb] at hh; cases hh
                    have hcs : j = 0 ∨ j = 1 ∨ j = 2 ∨ j = 3 ∨ j = 4 ∨ j = 5 ∨ j = 7 ∨ j = 8 ∨ j = 9 := by
                      have : j < 10 := hj
                      omega
                    rcases hcs with rfl | rfl | rfl | rfl | rfl | rfl | rfl | rfl | rfl <;> rfl, below_step hW.1 hb2, fun _ => ⟨hW.1.size, z1, z2, z3, z4⟩⟩
                · cases hds
                · cases hds
                · cases hds
              · intro b w' hW
                refine XInv.end_of [(53, 6), (52, 5), (51, 4), (50, 3), (49, 2), (48, 1), (47, 0)] (by kernel_rfl) ?_
                refine XInv.end_seq _ 7 rfl rfl (by kernel_rfl) ?_
                simp only [XInv.puts, XPrint.pw]
                obtain ⟨hb, h6⟩ := hW
                obtain ⟨z0, z1, z2, z3, z4⟩ := h6 rfl
                have hD : Below w.heap.size w w' := below_step D8 hb
                have hCC := Aside0.mk (collectS w (b 6) (b 6 + 1) (b 6 + 2) (b 6 + 3) A c l 1 (by omega) F T sl (l.length : Int) all HX.out.2.1 w' hD HR.out.1 HX.out.2.2 z1 z2 z3 z4 (by have := D8.size; omega))
                clear z0 z1 z2 z3 z4 h6 hb
                generalize b 6 = fb at *
                go_wp2_with (go_at_call 75; refine hCC.out.mono ?_; rintro e' w9 ⟨v, rfl, hR9, hB9⟩)
                go_ret2
                refine ⟨v, rfl, ?_, hB9⟩
                rw [← HX.out.1]
                exact hR9
            · refine XInv.region_inv [7, 8, 9] (fun b j => match j with
                | 0 => .agg #[.int .i64 F, .int .i64 T]
                | 1 => .slice A l.length c
                | 2 => .agg #[.int .i64 sl, .int .i64 0, .int .i64 (l.length : Int), .int .i64 0, .int .i64 all]
                | 3 => .agg #[.func (.func 88) #[] #[], .func (.func 89) #[] #[], .func (.func 90) #[] #[]]
                | 4 => .int .u8 2
                | 5 => .agg #[.func (.func 90) #[] #[]]
                | 6 => .func (.func 87) #[] #[.pointer (some ⟨b 6, 0, none⟩), .pointer (some ⟨b 6 + 1, 0, none⟩), .pointer (some ⟨b 6 + 2, 0, none⟩), .pointer (some ⟨b 6 + 3, 0, none⟩)]
                | _ => undef)
                (fun b l1 w' => Below W8.heap.size W8 w' ∧ (l1 6 = true → W8.heap.size ≤ b 6 ∧ w'.heap[b 6]? = some (.cells #[.int .i64 F, .int .i64 T] 71 (0, 0)) ∧ w'.heap[b 6 + 1]? = some (.cells #[.slice A l.length c] 72 (0, 0)) ∧ w'.heap[b 6 + 2]? = some (.cells #[.int .i64 sl, .int .i64 0, .int .i64 (l.length : Int), .int .i64 0, .int .i64 all] 111 (0, 0)) ∧ w'.heap[b 6 + 3]? = some (.cells #[.func (.func 90) #[] #[]] 118 (0, 0))))
                (by kernel_rfl) rfl (by kernel_rfl) (by kernel_rfl) ⟨fun _ => 0, below_drew (Below.refl _ _), fun hh => (by cases hh)⟩ ?_ ?_
              · intro i1 hi1 hds oi hoi b lb w' hW hlb hneed hcl
                have hi1 : i1 < 10 := hi1
                have hcs : i1 = 0 ∨ i1 = 1 ∨ i1 = 2 ∨ i1 = 3 ∨ i1 = 4 ∨ i1 = 5 ∨ i1 = 6 ∨ i1 = 7 ∨ i1 = 8 ∨ i1 = 9 := by omega
                clear hi1 hneed hcl
                have r0 := (blk_cell (blk_below d1 hW.1) 0).trans rfl
                have r1 := (blk_cell (blk_below d1 hW.1) 1).trans rfl
                have r30 := (blk_cell (blk_below d2 hW.1) 0).trans rfl
                have r31 := (blk_cell (blk_below d2 hW.1) 1).trans rfl
                have r32 := (blk_cell (blk_below d2 hW.1) 2).trans rfl
                have r33 := (blk_cell (blk_below d2 hW.1) 3).trans rfl
                have r34 := (blk_cell (blk_below d2 hW.1) 4).trans rfl
                rcases hcs with rfl | rfl | rfl | rfl | rfl | rfl | rfl | rfl | rfl | rfl
                all_goals simp only [List.getElem?_toArray, List.getElem?_cons_succ, List.getElem?_cons_zero, Option.some.injEq] at hoi
                all_goals subst hoi
                · refine XInv.yes_of [] (by kernel_rfl) ?_
                  intro Q2 K2 hK2
                  simp only [XInv.puts, XPrint.pw]
                  go_simp
                  exact hK2.out (.agg #[.int .i64 F, .int .i64 T]) w' ⟨b, rfl, fun _ _ _ => rfl, hW.1, fun hh => hW.2 (by simpa [XInv.up] using hh)⟩
                · refine XInv.yes_of [] (by kernel_rfl) ?_
                  intro Q2 K2 hK2
                  simp only [XInv.puts, XPrint.pw]
                  go_simp
                  exact hK2.out (.slice A l.length c) w' ⟨b, rfl, fun _ _ _ => rfl, hW.1, fun hh => hW.2 (by simpa [XInv.up] using hh)⟩
                · refine XInv.yes_of [] (by kernel_rfl) ?_
                  intro Q2 K2 hK2
                  simp only [XInv.puts, XPrint.pw]
                  go_simp
                  exact hK2.out (.agg #[.int .i64 sl, .int .i64 0, .int .i64 (l.length : Int), .int .i64 0, .int .i64 all]) w' ⟨b, rfl, fun _ _ _ => rfl, hW.1, fun hh => hW.2 (by simpa [XInv.up] using hh)⟩
                · refine XInv.yes_of [] (by kernel_rfl) ?_
                  intro Q2 K2 hK2
                  simp only [XInv.puts, XPrint.pw]
                  go_simp
                  refine (waysS w').mono ?_
                  rintro e' w2 ⟨rfl, hb2⟩
                  exact hK2.out (.agg #[.func (.func 88) #[] #[], .func (.func 89) #[] #[], .func (.func 90) #[] #[]]) w2 ⟨b, rfl, fun _ _ _ => rfl, below_step hW.1 hb2, fun hh => by
                    obtain ⟨z0, z1, z2, z3, z4⟩ := hW.2 (by simpa [XInv.up] using hh)
                    exact ⟨z0, blk_below z1 hb2, blk_below z2 hb2, blk_below z3 hb2, blk_below z4 hb2⟩⟩
                · refine XInv.yes_of [] (by kernel_rfl) ?_
                  intro Q2 K2 hK2
                  simp only [XInv.puts, XPrint.pw]
                  go_simp
                  exact hK2.out (.int .u8 2) w' ⟨b, rfl, fun _ _ _ => rfl, hW.1, fun hh => hW.2 (by simpa [XInv.up] using hh)⟩
                · refine XInv.yes_of [(51, 4), (50, 3)] (by kernel_rfl) ?_
                  intro Q2 K2 hK2
                  simp only [XInv.puts, XPrint.pw]
                  go_simp
                  exact hK2.out (.agg #[.func (.func 90) #[] #[]]) w' ⟨b, rfl, fun _ _ _ => rfl, hW.1, fun hh => hW.2 (by simpa [XInv.up] using hh)⟩
                · refine XInv.yes_of [(52, 5), (50, 3), (49, 2), (48, 1), (47, 0)] (by kernel_rfl) ?_
                  intro Q2 K2 hK2
                  simp only [XInv.puts, XPrint.pw]
                  go_simp
                  refine (windowsS F T sl 0 (l.length : Int) 0 all A l.length c 90 w').mono ?_
                  rintro e' w2 ⟨rfl, hb2, hs2, z1, z2, z3, z4⟩
                  exact hK2.out (.func (.func 87) #[] #[.pointer (some ⟨w'.heap.size, 0, none⟩), .pointer (some ⟨w'.heap.size + 1, 0, none⟩), .pointer (some ⟨w'.heap.size + 2, 0, none⟩), .pointer (some ⟨w'.heap.size + 3, 0, none⟩)]) w2 ⟨fun _ => w'.heap.size, rfl, fun j hj hh => by
                    have : j ≠ 6 := fun e => by subst e; rw [hlb] at hh; cases hh
                    have hcs : j = 0 ∨ j = 1 ∨ j = 2 ∨ j = 3 ∨ j = 4 ∨ j = 5 ∨ j = 7 ∨ j = 8 ∨ j = 9 := by
                      have : j < 10 := hj
                      omega
                    rcases hcs with rfl | rfl | rfl | rfl | rfl | rfl | rfl | rfl | rfl <;> rfl, below_step hW.1 hb2, fun _ => ⟨hW.1.size, z1, z2, z3, z4⟩⟩
                · cases hds
                · cases hds
                · cases hds
              · intro b w' hW
                refine XInv.end_of [(53, 6), (52, 5), (51, 4), (50, 3), (49, 2), (48, 1), (47, 0)] (by kernel_rfl) ?_
                refine XInv.end_seq _ 7 rfl rfl (by kernel_rfl) ?_
                simp only [XInv.puts, XPrint.pw]
                obtain ⟨hb, h6⟩ := hW
                obtain ⟨z0, z1, z2, z3, z4⟩ := h6 rfl
                have hD : Below w.heap.size w w' := below_step D8 hb
                have hCC := Aside0.mk (collectS w (b 6) (b 6 + 1) (b 6 + 2) (b 6 + 3) A c l 2 (by omega) F T sl (l.length : Int) all HX.out.2.1 w' hD HR.out.1 HX.out.2.2 z1 z2 z3 z4 (by have := D8.size; omega))
                clear z0 z1 z2 z3 z4 h6 hb
                generalize b 6 = fb at *
                go_wp2_with (go_at_call 75; refine hCC.out.mono ?_; rintro e' w9 ⟨v, rfl, hR9, hB9⟩)
                go_ret2
                refine ⟨v, rfl, ?_, hB9⟩
                rw [← HX.out.1]
                exact hR9
          · rw [if_neg hz] at h
            cases h
end
end St
def stage_Split.f (k : Nat) (a0_0 : Int) (a0_1 : Int) (l1 : List Int) (a2 : Int) : Option (List (S71) × Int) := (stage_check.f k a0_0 a0_1 l1).bind fun bt => St.splitR a0_0 a0_1 l1 a2 bt.1 bt.2
theorem stage_Split.mono : ∀ a0 a1 a2 a3 k, LeO (stage_Split.f k a0 a1 a2 a3) (stage_Split.f (k + 1) a0 a1 a2 a3) := by
  intro a0 a1 a2 a3 k
  unfold stage_Split.f
  exact LeO.bind (stage_check.mono _ _ _ _) (fun _ => LeO.refl _)
theorem stage_Split.calls (k : Nat) (a0_0 : Int) (a0_1 : Int) (A1 : Option Addr) (c1 : Nat) (l1 : List Int) (a2 : Int) (r1 : List (S71)) (r2 : Int) (w : World) (hr1 : Kd.C (Kd.int .i64) w A1 l1.length l1) (hc1 : l1.length ≤ c1) (h : stage_Split.f k a0_0 a0_1 l1 a2 = some (r1, r2)) :
    Calls Try.prog 47 #[.agg #[.int .i64 a0_0, .int .i64 a0_1], .slice A1 l1.length c1, .int .u8 a2] w fun e w' => ∃ v0_ : Value, e = .returned (.tuple #[v0_, .int .i64 r2]) ∧ Kd.R k71 71 w' w.heap.size (fun _ => True) v0_ r1 ∧ Below w.heap.size w w' := by
  obtain ⟨bt, hb, h⟩ := Option.bind_eq_some_iff.1 h
  exact St.splitS a0_0 a0_1 A1 c1 l1 a2 bt.1 bt.2 r1 r2 w hr1 hc1 (fun w' hb' => stage_check.calls k a0_0 a0_1 A1 c1 l1 bt.1 bt.2 w' (Kd.C_below hr1 hb') hc1 hb) h


end Go.Proofs.Ytkaokiiooakleaa.PStageParts
