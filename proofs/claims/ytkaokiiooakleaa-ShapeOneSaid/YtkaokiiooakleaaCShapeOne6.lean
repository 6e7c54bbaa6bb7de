-- printed by this session's own driver over the kit's printer: Lean checks it
import Derived.Test.YtkaokiiooakleaaCShapeOne0
import Derived.Test.YtkaokiiooakleaaCShapeOne2
import Derived.Test.YtkaokiiooakleaaCShapeOne3
namespace Go.Proofs.Ytkaokiiooakleaa.PShapeOne
open Go.RowKit Go.Proofs.YtkaokiiooakleaaW.PrintWords Go.Proofs.YtkaokiiooakleaaW.PrintLast Go.Proofs.YtkaokiiooakleaaW.PrintMore
attribute [local go_sem] max2_int min2_int max_two min_two max_three min_three max_four min_four   -- for this text's walks alone
set_option linter.unusedVariables false
set_option linter.unusedSimpArgs false

/-! GIVEN -/
/-! ### shape_Depth: function 40 -/
namespace Sh
section
attribute [local go_sem] Oper.semAt_some
def depthF (l : List S65) (q : Int) : Option (Int × Int) := (shape_may.f l q).bind fun e => if e ≠ 0 then some (0, e) else some (match (walk65 l).1.find? fun x => (x.1 : Int) == q with | some x => ((x.2.2 : Int), 0) | none => (0, 2))
theorem find_stop {L pre post : List Met} {x : Met} {q : Int} (h : L = pre ++ x :: post) (h1 : ∀ y ∈ pre, (y.1 : Int) ≠ q) (h2 : (x.1 : Int) = q) : (L.find? fun x => (x.1 : Int) == q) = some x := by
  subst h
  rw [List.find?_append, List.find?_eq_none.2 (fun y hy => by simpa using h1 y hy)]
  simp [h2]
set_option maxHeartbeats 8000000 in
set_option maxRecDepth 100000 in
theorem depthW (A0 : Option Addr) (c0 : Nat) (l0 : List S65) (a1 : Int) (r1 r2 : Int) (w : World) (hr0 : Kd.C k65 w A0 l0.length l0) (hc0 : l0.length ≤ c0) (h : depthF l0 a1 = some (r1, r2)) :
    Calls Try.prog 40 #[.slice A0 l0.length c0, .int .i64 a1] w fun e w' => e = .returned (.tuple #[.int .i64 r1, .int .i64 r2]) ∧ Below w.heap.size w w' := by
  unfold depthF at h
  obtain ⟨e, he, h⟩ := Option.bind_eq_some_iff.1 h
  have HR0 := Aside0.mk hr0
  have HC0 := Aside0.mk hc0
  have HE := Aside0.mk he
  clear hr0 hc0 he
  refine callsIn_wide.1 (callsIn_of_wp_marks (F := Fence.wide) (n := 5) Try.func40 rfl trivial ?_)
  simp only [Try.ntmps40, List.size_toArray, List.length_cons, List.length_nil, Nat.reduceAdd, Nat.reduceSub, Array.replicate_succ, Array.replicate_zero, List.push_toArray, List.append_toArray, List.nil_append, List.cons_append]
  refine wpIn_wide.2 ?_
  by_cases e0 : e = 0
  · rw [if_neg (by simpa using e0)] at h
    have hb1 : (e != 0) = false := by simp [e0]
    have F := Aside0.mk (And.intro h e0)
    clear h e0
    go_wp2_with (first | (go_at_call 68; refine (shape_may.calls A0 c0 l0 a1 e _ (Kd.C_alloc (Kd.C_alloc (Kd.C_alloc HR0.out _) _) _) HC0.out HE.out).mono ?_; rintro e' w1 ⟨rfl, hb⟩) | (go_at_call 69; refine (parts (w1.heap.size) (w1.heap.size + 1) A0 l0.length c0 _).mono ?_; rintro e' w2 ⟨rfl, hb2, e1, e2, e3⟩))
    have hz : (((w.alloc (Obj.cells #[Value.int IntKind.i64 a1] 3)).alloc (Obj.cells #[Value.int IntKind.i64 0] 3)).alloc (Obj.cells #[Value.int IntKind.i64 0] 24)).heap.size = w.heap.size + 3 := by simp
    have hz2 : ((w1.alloc (Obj.cells #[Value.int IntKind.i64 0] 3)).alloc (Obj.cells #[Value.int IntKind.i64 0] 24)).heap.size = w1.heap.size + 2 := by simp
    have hb1' : Below w.heap.size w w1 := below_step (below_alloc (below_alloc (below_alloc (Below.refl _ _) _) _) _) hb
    have hb0 : Below w.heap.size w w2 := below_step (below_alloc (below_alloc hb1' _) _) hb2
    have j1 : w1.heap[w.heap.size]? = some (.cells #[.int .i64 a1] 3 (0, 0)) := blk_below (blk_alloc (blk_alloc (blk_new _ _) _) _) hb
    have j2 : w1.heap[w.heap.size + 1]? = some (.cells #[.int .i64 0] 3 (0, 0)) := blk_below (blk_alloc (by simpa using blk_new (w.alloc (Obj.cells #[Value.int IntKind.i64 a1] 3)) (Obj.cells #[Value.int IntKind.i64 0] 3)) _) hb
    have j3 : w1.heap[w.heap.size + 2]? = some (.cells #[.int .i64 0] 24 (0, 0)) := blk_below (by simpa using blk_new ((w.alloc (Obj.cells #[Value.int IntKind.i64 a1] 3)).alloc (Obj.cells #[Value.int IntKind.i64 0] 3)) (Obj.cells #[Value.int IntKind.i64 0] 24)) hb
    have k9 : w2.heap[w.heap.size]? = some (.cells #[.int .i64 a1] 3 (0, 0)) := blk_below (blk_alloc (blk_alloc j1 _) _) hb2
    have k4 : w2.heap[w.heap.size + 1]? = some (.cells #[.int .i64 0] 3 (0, 0)) := blk_below (blk_alloc (blk_alloc j2 _) _) hb2
    have k5 : w2.heap[w.heap.size + 2]? = some (.cells #[.int .i64 0] 24 (0, 0)) := blk_below (blk_alloc (blk_alloc j3 _) _) hb2
    have k1 : w2.heap[w1.heap.size]? = some (.cells #[.int .i64 0] 3 (0, 0)) := blk_below (blk_alloc (blk_new _ _) _) hb2
    have k2 : w2.heap[w1.heap.size + 1]? = some (.cells #[.int .i64 0] 24 (0, 0)) := blk_below (by simpa using blk_new (w1.alloc (Obj.cells #[Value.int IntKind.i64 0] 3)) (Obj.cells #[Value.int IntKind.i64 0] 24)) hb2
    rw [hz2] at e1 e2 e3
    have s2 := hb2.size
    rw [hz2] at s2
    have l3 := blk_lt e3
    have hle := hb1'.size
    have hlt := blk_lt j3
    clear hb hb2 j1 j2 j3
    refine (wpIn_wide (n := 5)).1 (range_parts w (l := l0) (A := A0) (c := c0) rfl hb0 HR0.out e1 e2 e3 ⟨0, k1⟩ ⟨0, k2⟩ (by omega) (by omega) (fun k => k = w.heap.size + 1 ∨ k = w.heap.size + 2) (fun k h => by omega)
      (fun pre W => W.heap[w.heap.size]? = some (.cells #[.int .i64 a1] 3 (0, 0)) ∧ (∃ v, W.heap[w.heap.size + 1]? = some (.cells #[.int .i64 v] 3 (0, 0))) ∧ (∃ v, W.heap[w.heap.size + 2]? = some (.cells #[.int .i64 v] 24 (0, 0))) ∧ ∀ y ∈ pre, (y.1 : Int) ≠ a1)
      (fun x pre W => x = Code.ret ∧ ∃ pre' y post, pre = pre' ++ [y] ∧ (walk65 l0).1 = pre' ++ y :: post ∧ (∀ z ∈ pre', (z.1 : Int) ≠ a1) ∧ (y.1 : Int) = a1 ∧ W.heap[w.heap.size + 1]? = some (.cells #[.int .i64 y.2.2] 3 (0, 0)) ∧ W.heap[w.heap.size + 2]? = some (.cells #[.int .i64 0] 24 (0, 0))) ?_ ?_ ?_ ?_ ?_ ?_)
    · rintro s W W' ⟨h1, ⟨v, h2⟩, ⟨u, h3⟩, h4⟩ hb
      exact ⟨hb.heap h1 (by omega), ⟨v, hb.heap h2 (by omega)⟩, ⟨u, hb.heap h3 (by omega)⟩, h4⟩
    · rintro x s W W' ⟨h1, pre', y, post, h2, h3, h4, h5, h6, h7⟩ hb
      exact ⟨h1, pre', y, post, h2, h3, h4, h5, hb.heap h6 (by omega), hb.heap h7 (by omega)⟩
    · exact ⟨k9, ⟨0, k4⟩, ⟨0, k5⟩, fun y hy => by cases hy⟩
    · rintro pre x post W hwk ⟨h1, ⟨v, h2⟩, ⟨u, h3⟩, h4⟩ hBw hsz
      have X := Aside0.mk (And.intro hwk (And.intro h1 (And.intro h2 (And.intro h3 (And.intro h4 (And.intro hBw hsz))))))
      clear hwk h1 h2 h3 h4 hBw hsz h HE F HR0 HC0 e1 e2 e3 k1 k2 k4 k5 k9 hb0 hb1' hz hz2
      obtain ⟨xi, xp, xd⟩ := x
      simp only [XPrint.pw, frameV]
      gi_wp2
      refine ⟨(But.refl _ _).alloc _, fun W2 hb2 => ?_⟩
      obtain ⟨hwk, h1, h2, h3, h4, hBw, hsz⟩ := X.out
      have f0 : W2.heap[W.heap.size]? = some (.cells #[.int .i64 xp, .int .i64 xd] 105 (0, 0)) := hb2.heap (blk_new W _) (by omega)
      have f1 : W2.heap[w.heap.size]? = some (.cells #[.int .i64 a1] 3 (0, 0)) := hb2.heap (blk_alloc h1 _) (by omega)
      have f2 : W2.heap[w.heap.size + 1]? = some (.cells #[.int .i64 v] 3 (0, 0)) := hb2.heap (blk_alloc h2 _) (by omega)
      have f3 : W2.heap[w.heap.size + 2]? = some (.cells #[.int .i64 u] 24 (0, 0)) := hb2.heap (blk_alloc h3 _) (by omega)
      have c0_ := (blk_cell f0 1).trans rfl
      have c1_ := (blk_cell f1 0).trans rfl
      have c2_ := (blk_cell f2 0).trans rfl
      have g2_ := blk_frozen f2 0
      have n3_ : (W2.setCell ⟨w.heap.size + 1, 0, none⟩ (.int .i64 xd)).heap[w.heap.size + 2]? = some (.cells #[.int .i64 u] 24 (0, 0)) := blk_far f3 (p := ⟨w.heap.size + 1, 0, none⟩) (by simp) _
      have c3_ := (blk_cell n3_ 0).trans rfl
      have g3_ := blk_frozen n3_ 0
      obtain ⟨z, hz⟩ : ∃ z : Int, (xi : Int) = z := ⟨_, rfl⟩
      by_cases hq : (xi : Int) = a1
      · have hqb : (z == a1) = true := by simp [← hz, hq]
        have Z := Aside0.mk (And.intro hwk (And.intro h4 (And.intro hq (And.intro f2 n3_))))
        clear hwk h1 h2 h3 h4 hBw hsz f0 f1 f2 f3 n3_ hq X hb2
        rw [hz]
        clear hz
        gi_wp2
        obtain ⟨hwk, h4, hq, f2, n3_⟩ := Z.out
        refine ⟨((But.refl _ _).setCell (.inl rfl) 0 _).setCell (.inr rfl) 0 _, rfl, pre, (xi, xp, xd), post, rfl, hwk, h4, hq, ?_, ?_⟩
        · exact blk_far (by simpa using blk_set f2 0 (.int .i64 (xd : Nat))) (p := ⟨w.heap.size + 2, 0, none⟩) (by simp) _
        · simpa using blk_set n3_ 0 (.int .i64 0)
      · have hqb : (z == a1) = false := by simpa [← hz] using hq
        have Z := Aside0.mk (And.intro h4 (And.intro hq (And.intro f1 (And.intro f2 f3))))
        clear hwk h1 h2 h3 h4 hBw hsz f0 f1 f2 f3 n3_ hq X hb2
        rw [hz]
        clear hz
        gi_wp2
        obtain ⟨h4, hq, f1, f2, f3⟩ := Z.out
        refine ⟨But.refl _ _, f1, ⟨v, f2⟩, ⟨u, f3⟩, fun y hy => ?_⟩
        rcases List.mem_append.1 hy with hy | hy
        · exact h4 y hy
        · obtain rfl : y = (xi, xp, xd) := by simpa using hy
          exact hq
    · rintro W ⟨g1, ⟨v, g2⟩, ⟨u, g3⟩, g4⟩ hB h1 h2 h3
      have hf : ((walk65 l0).1.find? fun x => (x.1 : Int) == a1) = none := List.find?_eq_none.2 (fun y hy => by simpa using g4 y hy)
      have c2_ := (blk_cell g2 0).trans rfl
      have q2_ := blk_frozen g2 0
      have n3_ : (W.setCell ⟨w.heap.size + 1, 0, none⟩ (.int .i64 0)).heap[w.heap.size + 2]? = some (.cells #[.int .i64 u] 24 (0, 0)) := blk_far g3 (p := ⟨w.heap.size + 1, 0, none⟩) (by simp) _
      have c3_ := (blk_cell n3_ 0).trans rfl
      have q3_ := blk_frozen n3_ 0
      obtain ⟨h, e0⟩ := F.out
      rw [hf] at h
      injection h with h
      injection h with h4 h5
      subst h5
      subst h4
      have Z := Aside0.mk (And.intro g2 (And.intro n3_ (And.intro h3 hB)))
      clear h1 h2 h3 hf g1 g2 g3 g4 n3_ hB
      dsimp only
      go_wp2
      obtain ⟨g2, n3_, h3, hB⟩ := Z.out
      have hW : But (fun k => k = w.heap.size + 1 ∨ k = w.heap.size + 2 ∨ k = w2.heap.size) W (((W.setCell ⟨w.heap.size + 1, 0, none⟩ (.int .i64 0)).setCell ⟨w.heap.size + 2, 0, none⟩ (.int .i64 2)).putObj w2.heap.size (.deferred none)) := (((But.refl _ _).setCell (.inl rfl) 0 _).setCell (.inr (.inl rfl)) 0 _).putObj (.inr (.inr rfl)) _
      have hp := But.put1 w2.heap.size ((W.setCell ⟨w.heap.size + 1, 0, none⟩ (.int .i64 0)).setCell ⟨w.heap.size + 2, 0, none⟩ (.int .i64 2)) (.deferred none)
      have m1 : ((W.setCell ⟨w.heap.size + 1, 0, none⟩ (.int .i64 0)).setCell ⟨w.heap.size + 2, 0, none⟩ (.int .i64 2)).heap[w.heap.size + 1]? = some (.cells #[.int .i64 0] 3 (0, 0)) := blk_far (by simpa using blk_set g2 0 (.int .i64 0)) (p := ⟨w.heap.size + 2, 0, none⟩) (by simp) _
      have m2 : ((W.setCell ⟨w.heap.size + 1, 0, none⟩ (.int .i64 0)).setCell ⟨w.heap.size + 2, 0, none⟩ (.int .i64 2)).heap[w.heap.size + 2]? = some (.cells #[.int .i64 2] 24 (0, 0)) := by simpa using blk_set n3_ 0 (.int .i64 2)
      have m3 : ((W.setCell ⟨w.heap.size + 1, 0, none⟩ (.int .i64 0)).setCell ⟨w.heap.size + 2, 0, none⟩ (.int .i64 2)).heap[w2.heap.size]? = some (.deferred (some [])) := by
        have := (((But.refl (fun k => k = w.heap.size + 1 ∨ k = w.heap.size + 2) W).setCell (.inl rfl) 0 (.int .i64 0)).setCell (.inr rfl) 0 (.int .i64 2)).heap h3 (by omega)
        exact this
      have A1 := (blk_cell (hp.heap m1 (by omega)) 0).trans rfl
      have A2 := (blk_cell (hp.heap m2 (by omega)) 0).trans rfl
      refine leave_mark (.tuple #[.int .i64 0, .int .i64 2]) m3 (by simp [results, Try.f40, go_sem, A1, A2]) ⟨rfl, But.below hB (Nat.le_refl _) hW fun k h => by omega⟩
    · rintro x pre W ⟨rfl, pre', y, post, hp, hwk, h4, h5, h6, h7⟩ hB h3
      have hf := find_stop hwk h4 h5
      obtain ⟨h, e0⟩ := F.out
      rw [hf] at h
      injection h with h
      injection h with h8 h9
      subst h9
      subst h8
      dsimp only
      gi_wp2
      have hp := But.put1 w2.heap.size W (.deferred none)
      have A1 := (blk_cell (hp.heap h6 (by omega)) 0).trans rfl
      have A2 := (blk_cell (hp.heap h7 (by omega)) 0).trans rfl
      refine leave_mark (.tuple #[.int .i64 (y.2.2 : Nat), .int .i64 0]) h3 (by simp [results, Try.f40, go_sem, A1, A2]) ⟨rfl, But.below hB (Nat.le_refl _) hp fun k h => by omega⟩
  · rw [if_pos (by simpa using e0)] at h
    have hb1 : (e != 0) = true := by simp [e0]
    obtain ⟨h4, h5⟩ : 0 = r1 ∧ e = r2 := by
      injection h with h
      injection h with h4 h5
      exact ⟨h4, h5⟩
    subst h4 h5
    clear h e0
    go_wp2_with (first | (go_at_call 68; refine (shape_may.calls A0 c0 l0 a1 e _ (Kd.C_alloc (Kd.C_alloc (Kd.C_alloc HR0.out _) _) _) HC0.out HE.out).mono ?_; rintro e' w1 ⟨rfl, hb⟩; have j2 : w1.heap[w.heap.size + 1]? = some (.cells #[.int .i64 0] 3 (0, 0)) := blk_below (blk_alloc (by simpa using blk_new (w.alloc (Obj.cells #[Value.int IntKind.i64 a1] 3)) (Obj.cells #[Value.int IntKind.i64 0] 3)) _) hb; have j3 : w1.heap[w.heap.size + 2]? = some (.cells #[.int .i64 0] 24 (0, 0)) := blk_below (by simpa using blk_new ((w.alloc (Obj.cells #[Value.int IntKind.i64 a1] 3)).alloc (Obj.cells #[Value.int IntKind.i64 0] 3)) (Obj.cells #[Value.int IntKind.i64 0] 24)) hb; have c2_ := (blk_cell j2 0).trans rfl; have q2_ := blk_frozen j2 0; have n3_ : (w1.setCell ⟨w.heap.size + 1, 0, none⟩ (.int .i64 0)).heap[w.heap.size + 2]? = some (.cells #[.int .i64 0] 24 (0, 0)) := blk_far j3 (p := ⟨w.heap.size + 1, 0, none⟩) (by simp) _; have c3_ := (blk_cell n3_ 0).trans rfl; have q3_ := blk_frozen n3_ 0; have Z := Aside0.mk (And.intro j2 (And.intro n3_ hb)); clear hb j2 j3 n3_))
    obtain ⟨j2, n3_, hb⟩ := Z.out
    have m1 : ((w1.setCell ⟨w.heap.size + 1, 0, none⟩ (.int .i64 0)).setCell ⟨w.heap.size + 2, 0, none⟩ (.int .i64 e)).heap[w.heap.size + 1]? = some (.cells #[.int .i64 0] 3 (0, 0)) := blk_far (by simpa using blk_set j2 0 (.int .i64 0)) (p := ⟨w.heap.size + 2, 0, none⟩) (by simp) _
    have m2 : ((w1.setCell ⟨w.heap.size + 1, 0, none⟩ (.int .i64 0)).setCell ⟨w.heap.size + 2, 0, none⟩ (.int .i64 e)).heap[w.heap.size + 2]? = some (.cells #[.int .i64 e] 24 (0, 0)) := by simpa using blk_set n3_ 0 (.int .i64 e)
    have A1 := (blk_cell m1 0).trans rfl
    have A2 := (blk_cell m2 0).trans rfl
    exact ⟨.tuple #[.int .i64 0, .int .i64 e], by simp [results, Try.f40, go_sem, A1, A2], rfl, below_set (below_set (below_step (below_alloc (below_alloc (below_alloc (Below.refl _ _) _) _) _) hb) (by omega)) (by omega)⟩
end
end Sh
def shape_Depth.f (l0 : List S65) (a1 : Int) : Option (Int × Int) := Sh.depthF l0 a1
theorem shape_Depth.calls (A0 : Option Addr) (c0 : Nat) (l0 : List S65) (a1 : Int) (r1 r2 : Int) (w : World) (hr0 : Kd.C k65 w A0 l0.length l0) (hc0 : l0.length ≤ c0) (h : shape_Depth.f l0 a1 = some (r1, r2)) :
    Calls Try.prog 40 #[.slice A0 l0.length c0, .int .i64 a1] w fun e w' => e = .returned (.tuple #[.int .i64 r1, .int .i64 r2]) ∧ Below w.heap.size w w' := Sh.depthW A0 c0 l0 a1 r1 r2 w hr0 hc0 h
-- of shape_tree


end Go.Proofs.Ytkaokiiooakleaa.PShapeOne
