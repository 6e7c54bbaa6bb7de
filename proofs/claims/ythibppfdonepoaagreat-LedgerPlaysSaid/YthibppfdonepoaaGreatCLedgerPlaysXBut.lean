/- Words of this session: worlds that differ in some blocks alone; ranges over functions. No condition. -/
import Derived.Test.YthibppfdonepoaaGreatCLedgerPlaysW
import Derived.RangeFuncRecord
import Derived.RangeFuncSeq
import Derived.TacticsInMore
import Derived.BigFrameIn
import Derived.Deep.LoopGhost
import Derived.Deep.RegionHeld3
import Derived.WalkKit
import Derived.KernelRfl
import Derived.BigQuiet
import Derived.WideLaws
import Derived.OwnWalkIn
import Derived.LoopN
import Derived.Laws.EntriesVeiled
import Derived.StillTailTactics
set_option linter.unusedVariables false
namespace Go.Proofs.YthibppfdonepoaaGreat.XBut
open Go.RowKit Go.Proofs.YthibppfdonepoaaGreatW.PrintWords Go.Proofs.YthibppfdonepoaaGreatW.PrintLast
structure But (T : Nat → Prop) (w w' : World) : Prop where
 os : w'.os = w.os
 tape : w'.tape = w.tape
 output : w'.output = w.output
 size : w.heap.size ≤ w'.heap.size
 block : ∀ k, k < w.heap.size → ¬ T k → w'.heap[k]? = w.heap[k]?
theorem But.refl (T : Nat → Prop) (w : World) : But T w w := ⟨rfl, rfl, rfl, Nat.le_refl _, fun _ _ _ => rfl⟩
theorem But.trans {T : Nat → Prop} {a b c : World} (h : But T a b) (k : But T b c) : But T a c :=
 ⟨k.os.trans h.os, k.tape.trans h.tape, k.output.trans h.output, Nat.le_trans h.size k.size, fun i hi hn => (k.block i (Nat.lt_of_lt_of_le hi h.size) hn).trans (h.block i hi hn)⟩
theorem But.mono {T T' : Nat → Prop} {a b : World} (h : But T a b) (hT : ∀ k, T k → T' k) : But T' a b := ⟨h.os, h.tape, h.output, h.size, fun i hi hn => h.block i hi fun hk => hn (hT i hk)⟩
theorem But.of_below {T : Nat → Prop} {w w' : World} (h : Below w.heap.size w w') : But T w w' := ⟨h.os, h.tape, h.output, h.size, fun k hk _ => h.block k hk⟩
theorem But.of_one {T : Nat → Prop} {b : Nat} {w w' : World} (h : XPrint.ButB b w w') (hb : T b) : But T w w' := ⟨h.os, h.tape, h.output, h.size, fun k hk hn => h.block k hk fun e => hn (e ▸ hb)⟩
theorem But.setCell {T : Nat → Prop} {w w' : World} (h : But T w w') {b : Nat} (hb : T b) (j : Nat) (v : Value) : But T w (w'.setCell ⟨b, j, none⟩ v) :=
 h.trans (But.of_one ((XPrint.ButB.refl b w').setCell j v) hb)
theorem But.drew {T : Nat → Prop} {w w' : World} (h : But T w w') : But T w w'.drew := ⟨h.os, h.tape, h.output, h.size, h.block⟩
theorem But.drewN {T : Nat → Prop} {w w' : World} (h : But T w w') (n : Nat) : But T w (w'.drewN n) := ⟨h.os, h.tape, h.output, h.size, h.block⟩
theorem But.alloc {T : Nat → Prop} {w w' : World} (h : But T w w') (o : Obj) : But T w (w'.alloc o) := h.trans (But.of_below (below_alloc (Below.refl _ _) o))
theorem But.putObj {T : Nat → Prop} {w w' : World} (h : But T w w') {b : Nat} (hb : T b) (o : Obj) : But T w (w'.putObj b o) :=
 h.trans ⟨rfl, rfl, rfl, by simp, fun k hk hn => World.putObj_heap_other fun e => hn (e ▸ hb)⟩
theorem But.put1 (b : Nat) (W : World) (o : Obj) : But (fun k => k = b) W (W.putObj b o) := (But.refl (fun k => k = b) W).putObj (b := b) rfl o
theorem But.heap {T : Nat → Prop} {w w' : World} (h : But T w w') {b : Nat} {o : Obj} (hc : w.heap[b]? = some o) (hn : ¬ T b) : w'.heap[b]? = some o := (h.block b (Array.getElem?_eq_some_iff.1 hc).1 hn).trans hc
theorem But.below {T : Nat → Prop} {B : Nat} {w0 w w' : World} (h0 : Below B w0 w) (hB : B ≤ w0.heap.size) (h : But T w w') (hT : ∀ k, T k → B ≤ k) : Below B w0 w' :=
 h0.trans ⟨h.os, h.tape, h.output, h.size, fun k hk => h.block k (Nat.lt_of_lt_of_le hk (Nat.le_trans hB h0.size)) fun hk' => by have := hT k hk'; omega⟩
theorem But.grown {T : Nat → Prop} {W W' : World} {row : Option Nat} (hg : W.grownBy W' row) (hr : ∀ k, row = some k → T k) : But T W W' :=
 ⟨hg.os, hg.tape, hg.output, hg.size, fun k hk hn => hg.block k hk fun e => hn (hr k e.symm)⟩
theorem R_but {α : Type} {d : Kd α} {e : Nat} {W W' : World} {base : Nat} {v : Value} {xs : List α} {T : Nat → Prop} (h : Kd.R d e W base (fun _ => True) v xs) (hb : But T W W') (hT : ∀ k, T k → k < base) : Kd.R d e W' base (fun _ => True) v xs :=
 Kd.R_mono (Kd.R_step (Kd.R_bound h) (fun k hk hlt => hb.block k hlt (fun hk' => by have := hT k hk'; have := hk.2.1; omega))) (fun _ _ => trivial)
def bodyQ {α : Type} (own : Nat → Prop) (I : List α → World → Prop) (Ix : Code → List α → World → Prop) (pre : List α) (W : World) : Exit → Act → World → Prop
 | .normal, _, W' => But own W W' ∧ I pre W'
 | .ret, _, W' => But own W W' ∧ Ix .ret pre W'
 | .exit id, _, W' => But own W W' ∧ Ix (.exit id) pre W'
 | .goto _, _, _ => False
 | .panic _, _, _ => False
 | .outgrown, _, _ => False
def Hands {α : Type} (P : Program) (n : Nat) (gf : Nat) (lb : Array Value) (lr : Nat) (encs : α → Array Value) (Ok Fin : List α → Prop) (wrs own : Nat → Prop) (endW : World → Prop) (W1 : World) : Prop :=
 ∀ (J Jx : List α → World → Prop), (∀ s A B, J s A → But wrs A B → J s B) →
  (∀ pre x A, Ok (pre ++ [x]) → J pre A → W1.heap.size ≤ A.heap.size → YieldAt Fence.wide (n - 1) P lr (encs x) A fun e A' => (e = .returned (.bool true) ∧ J (pre ++ [x]) A' ∧ But (fun k => own k ∨ k = lr) A A') ∨ (e = .returned (.bool false) ∧ Jx (pre ++ [x]) A')) →
  J [] W1 → CallsIn Fence.wide n P gf (#[.func (.yield lr) #[] #[]] ++ lb) W1 fun e W' => (∃ v, e = .returned v) ∧ ((∃ xs, Fin xs ∧ J xs W' ∧ endW W') ∨ ∃ pre x, Ok (pre ++ [x]) ∧ Jx (pre ++ [x]) W')
theorem range_law {α : Type} {P : Program} {n : Nat} {g : Operand} {ps : Array Tmp} {assign body : Code} {Q : Exit → Act → World → Prop} {a : Act} {w : World} (w0 : World) {gf : Nat} {lb : Array Value} {encs : α → Array Value} {Ok Fin : List α → Prop} {wrs own : Nat → Prop} {endW : World → Prop}
  (hg : a.eval g = .func (.func gf) #[] lb) (hent : ∀ args w, (callFunc gf args).run P w = .ok (.enter gf args) w) (hps : ∀ x, (encs x).size = ps.size)
  (hw : Below w0.heap.size w0 w)
  (hmut : ∀ k, wrs k → w0.heap.size ≤ k ∧ k ≠ w.heap.size ∧ k ≠ w.heap.size + 1)
  (hown : ∀ k, own k → w0.heap.size ≤ k ∧ k ≠ w.heap.size ∧ k ≠ w.heap.size + 1)
  (hend : ∀ W W', endW W → But (fun k => k = w.heap.size + 1) W W' → endW W')
  (hseq : ∀ W1, Below w.heap.size w W1 → W1.heap.size = w.heap.size + 2 → Hands P (n - 1) gf lb (w.heap.size + 1) encs Ok Fin wrs own endW W1)
  (I : List α → World → Prop) (Ix : Code → List α → World → Prop)
  (hI : ∀ s W W', I s W → But (fun k => wrs k ∨ k = w.heap.size ∨ k = w.heap.size + 1) W W' → I s W')
  (hIx : ∀ x s W W', Ix x s W → But (fun k => k = w.heap.size ∨ k = w.heap.size + 1) W W' → Ix x s W')
  (h0 : I [] w)
  (hbody : ∀ (pre : List α) (x : α) (W : World), Ok (pre ++ [x]) → I pre W → Below w0.heap.size w0 W → w.heap.size + 2 ≤ W.heap.size →
   assign.wpIn (Fence.wide.inRound (w.heap.size + 1)) (n - 1 - 1) P (Exit.then (fun a₁ W1 => But own W W1 ∧ ∀ W2, But (fun k => k = w.heap.size + 1) W1 W2 →
     body.wpIn (Fence.wide.inRound (w.heap.size + 1)) (n - 1 - 1) P (bodyQ own I Ix (pre ++ [x]) W2) a₁ W2) (fun _ _ _ => False))
    { tmps := (ps.zip (encs x)).foldl (fun t (p, v) => t.setIfInBounds p v) a.tmps, defers := [] } W)
  (hdone : ∀ xs W, Fin xs → I xs W → endW W → Below w0.heap.size w0 W → W.heap[w.heap.size]? = some (.deferred (some [])) →
   Q .normal { a with defers := { target := .collected w.heap.size, args := #[] } :: a.defers } W)
  (hstop : ∀ x pre W, Ix x pre W → Below w0.heap.size w0 W → W.heap[w.heap.size]? = some (.deferred (some [])) → x.wpIn Fence.wide n P Q { a with defers := { target := .collected w.heap.size, args := #[] } :: a.defers } W) :
  (Code.rangeFunc g ps assign body).wpIn Fence.wide n P Q a w := by
 refine wpIn_rangeFunc ?_
 intro fn hfn
 obtain ⟨rec, hrec⟩ : ∃ rec : LoopState → Option Code → Loop, rec = fun st pe => { state := st, pending := pe, fn, tmps := a.tmps, params := ps, assign, body, defers := w.heap.size } := ⟨_, rfl⟩
 obtain ⟨W1, hW1⟩ : ∃ W1, (w.alloc (.deferred (some []))).alloc (.loop (rec .ready none)) = W1 := ⟨_, rfl⟩
 have hs1 : W1.heap.size = w.heap.size + 2 := by rw [← hW1]; simp
 have hB1 : Below w.heap.size w W1 := by rw [← hW1]; exact below_alloc (below_alloc (Below.refl _ _) _) _
 have hL1 : W1.heap[w.heap.size + 1]? = some (.loop (rec .ready none)) := by
  rw [← hW1]; have := World.alloc_heap_new (w.alloc (.deferred (some []))) (.loop (rec .ready none)); rwa [World.size_alloc] at this
 have hK1 : W1.heap[w.heap.size]? = some (.deferred (some [])) := by
  rw [← hW1]; exact (Below.heap_alloc _ _ _ (by simp)).trans (World.alloc_heap_new w _)
 have lw := hw.size
 have no1 : ¬ own (w.heap.size + 1) := fun h => (hown _ h).2.2 rfl
 have no2 : ¬ own w.heap.size := fun h => (hown _ h).2.1 rfl
 have nm1 : ¬ wrs (w.heap.size + 1) := fun h => (hmut _ h).2.2 rfl
 have nm2 : ¬ wrs w.heap.size := fun h => (hmut _ h).2.1 rfl
 refine ⟨w.heap.size + 1, [{ target := .collected w.heap.size, args := #[] }], W1, { target := .fn (.func gf) lb, args := #[.func (.yield (w.heap.size + 1)) #[] #[]] }, W1, gf,
  #[.func (.yield (w.heap.size + 1)) #[] #[]] ++ lb, W1, ?_, ?_, ?_, ?_, fun h => (by cases h), ?_⟩
 ·rw [← hW1, hrec]; exact run_enterLoop_outer _ _ _ _ _
 ·simp only [resolve, hg]
  simp [go_sem]
 ·intro f' hf'; trivial
 ·simp [invoke, go_sem, hent]
 ·refine (hseq W1 hB1 hs1
   (fun pre W => I pre W ∧ Below w0.heap.size w0 W ∧ W.heap[w.heap.size + 1]? = some (.loop (rec .ready none)) ∧ W.heap[w.heap.size]? = some (.deferred (some [])))
   (fun pre W => ∃ x, Ix x pre W ∧ Below w0.heap.size w0 W ∧ W.heap[w.heap.size + 1]? = some (.loop (rec .done (some x))) ∧ W.heap[w.heap.size]? = some (.deferred (some [])))
   ?_ ?_ ?_).mono ?_
  ·rintro s Wa Wb ⟨h1, h2, h3, h4⟩ hb
   exact ⟨hI s Wa Wb h1 (hb.mono fun k h => .inl h), But.below h2 (Nat.le_refl _) hb (fun k h => (hmut k h).1), hb.heap h3 nm1, hb.heap h4 nm2⟩
  ·rintro pre x W hwk ⟨hi, hbw, hl, hk⟩ hlt
   have hy : (Instr.yield (w.heap.size + 1) (encs x)).run P W = .ok (.round (w.heap.size + 1) fn ((ps.zip (encs x)).foldl (fun t (p, v) => t.setIfInBounds p v) a.tmps) assign body) W := by
    have hy := run_yield (P := P) (args := encs x) hl (by rw [hrec]; exact hps x)
    rw [hrec] at hy
    exact hy
   refine ⟨fn, _, assign, body, hy, roundIn_of_wpIn trivial (wpIn_mono (hbody pre x W hwk hi hbw (by omega)) ?_)⟩
   rintro e a1 Wa hq
   cases e with
   | normal =>
    obtain ⟨hba, hq⟩ := hq
    have hla := hba.heap hl no1
    have hka := hba.heap hk no2
    refine ⟨_, run_beginRound hla (by rw [hrec]), ?_⟩
    have hput : But (fun k => k = w.heap.size + 1) Wa (Wa.putObj (w.heap.size + 1) (.loop { rec .ready none with state := .busy })) := But.put1 _ _ _
    have hlb : (Wa.putObj (w.heap.size + 1) (.loop { rec .ready none with state := .busy })).heap[w.heap.size + 1]? = some (.loop { rec .ready none with state := .busy }) := World.putObj_heap_same (blk_lt hla)
    have hkb : (Wa.putObj (w.heap.size + 1) (.loop { rec .ready none with state := .busy })).heap[w.heap.size]? = some (.deferred (some [])) := hput.heap hka (by omega)
    have hall : But (fun k => own k ∨ k = w.heap.size + 1) W (Wa.putObj (w.heap.size + 1) (.loop { rec .ready none with state := .busy })) := (hba.mono fun _ => .inl).trans (hput.mono fun _ => .inr)
    refine wpIn_mono (hq _ hput) ?_
    generalize Wa.putObj (w.heap.size + 1) (.loop { rec .ready none with state := .busy }) = Wb at hput hlb hkb hall
    have fin : ∀ (jump : Option Code) (W3 : World), But own Wb W3 →
      (Instr.endRound (w.heap.size + 1) jump).run P W3 = .ok (.bool jump.isNone) (W3.putObj (w.heap.size + 1) (.loop (rec (if jump.isNone then .ready else .done) jump))) ∧
      (W3.putObj (w.heap.size + 1) (.loop (rec (if jump.isNone then .ready else .done) jump))).heap[w.heap.size + 1]? = some (.loop (rec (if jump.isNone then .ready else .done) jump)) ∧
      (W3.putObj (w.heap.size + 1) (.loop (rec (if jump.isNone then .ready else .done) jump))).heap[w.heap.size]? = some (.deferred (some [])) ∧
      But (fun k => own k ∨ k = w.heap.size + 1) W (W3.putObj (w.heap.size + 1) (.loop (rec (if jump.isNone then .ready else .done) jump))) ∧
      But (fun k => k = w.heap.size ∨ k = w.heap.size + 1) W3 (W3.putObj (w.heap.size + 1) (.loop (rec (if jump.isNone then .ready else .done) jump))) ∧
      Below w0.heap.size w0 (W3.putObj (w.heap.size + 1) (.loop (rec (if jump.isNone then .ready else .done) jump))) := fun jump W3 h3 => by
     have hl3 := h3.heap hlb no1
     have hk3 := h3.heap hkb no2
     have := run_endRound (P := P) jump hl3
     have hp3 : But (fun k => k = w.heap.size + 1) W3 (W3.putObj (w.heap.size + 1) (.loop (rec (if jump.isNone then .ready else .done) jump))) := But.put1 _ _ _
     have hA := (hall.trans (h3.mono fun _ => .inl)).trans (hp3.mono fun _ => .inr)
     rw [hrec] at this ⊢
     rw [hrec] at hl3 hp3 hA
     exact ⟨this, World.putObj_heap_same (blk_lt hl3), hp3.heap hk3 (by omega), hA, hp3.mono fun k h => .inr h, But.below hbw (Nat.le_refl _) hA fun k h => h.elim (fun h => (hown k h).1) (fun h => by omega)⟩
    rintro e a3 W3 hp
    cases e with
    | normal =>
     obtain ⟨h3, hi3⟩ := hp
     obtain ⟨q1, q2, q3, q4, q5, q6⟩ := fin none W3 h3
     exact ⟨_, _, q1, .inl ⟨rfl, ⟨hI _ _ _ hi3 (q5.mono fun k h => .inr h), q6, q2, q3⟩, q4⟩⟩
    | ret =>
     obtain ⟨h3, hi3⟩ := hp
     obtain ⟨q1, q2, q3, q4, q5, q6⟩ := fin (some .ret) W3 h3
     exact ⟨_, _, q1, .inr ⟨rfl, .ret, hIx _ _ _ _ hi3 q5, q6, q2, q3⟩⟩
    | exit id =>
     obtain ⟨h3, hi3⟩ := hp
     obtain ⟨q1, q2, q3, q4, q5, q6⟩ := fin (some (.exit id)) W3 h3
     exact ⟨_, _, q1, .inr ⟨rfl, .exit id, hIx _ _ _ _ hi3 q5, q6, q2, q3⟩⟩
    | goto t => exact hp.elim
    | panic ch => exact hp.elim
    | outgrown => exact hp.elim
   | exit id => exact hq.elim
   | goto t => exact hq.elim
   | ret => exact hq.elim
   | panic ch => exact hq.elim
   | outgrown => exact hq.elim
  ·exact ⟨hI _ _ _ h0 (But.of_below hB1), hw.trans (hB1.mono hw.size), hL1, hK1⟩
  ·rintro e W2 ⟨⟨v, rfl⟩, (⟨xs, hfin, ⟨hi, hb, hl, hk⟩, hen⟩ | ⟨pre, x, _, y, hi, hb, hl, hk⟩)⟩
   ·have hp3 : But (fun k => k = w.heap.size + 1) W2 (W2.putObj (w.heap.size + 1) (.loop { rec .ready none with state := .exhausted })) := But.put1 _ _ _
    exact ⟨none, _, by have := run_endLoop (P := P) hl (by rw [hrec]; simp); rw [hrec] at this ⊢; exact this,
     hdone _ _ hfin (hI _ _ _ hi (hp3.mono fun k h => .inr (.inr h))) (hend _ _ hen hp3) (But.below hb (Nat.le_refl _) hp3 fun k h => by omega) (hp3.heap hk (by omega))⟩
   ·have hp3 : But (fun k => k = w.heap.size + 1) W2 (W2.putObj (w.heap.size + 1) (.loop { rec .done (some y) with state := .exhausted })) := But.put1 _ _ _
    exact ⟨some y, _, by have := run_endLoop (P := P) hl (by rw [hrec]; simp); rw [hrec] at this ⊢; exact this,
     hstop _ _ _ (hIx _ _ _ _ hi (hp3.mono fun k h => .inr h)) (But.below hb (Nat.le_refl _) hp3 fun k h => by omega) (hp3.heap hk (by omega))⟩
theorem leave_mark {P : Program} {n : Nat} {fn : Func} {tmps : Array Value} {d : Nat} {R : Ending → World → Prop} {W : World} (v : Value) (hK : W.heap[d]? = some (.deferred (some [])))
  (hv : (results fn tmps).run P (W.putObj d (.deferred none)) = .ok v (W.putObj d (.deferred none))) (hR : R (.returned v) (W.putObj d (.deferred none))) :
  bodyPostM Fence.wide n P fn R .ret { tmps := tmps, defers := [{ target := .collected d, args := #[] }] } W :=
 ⟨by simp, .inl ⟨d, _, rfl, run_takeDeferred hK, v, hv, hR⟩⟩
end Go.Proofs.YthibppfdonepoaaGreat.XBut
