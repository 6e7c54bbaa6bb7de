-- printed by this session's own driver over the kit's printer: Lean checks it
import Derived.Test.YtkaokiiooakleaaCShapeOne0
import Derived.Test.YtkaokiiooakleaaCShapeOne2
import Derived.Test.YtkaokiiooakleaaCShapeOne3
namespace Go.Proofs.Ytkaokiiooakleaa.PShapeOne
open Go.RowKit Go.Proofs.YtkaokiiooakleaaW.PrintWords Go.Proofs.YtkaokiiooakleaaW.PrintLast Go.Proofs.YtkaokiiooakleaaW.PrintMore
attribute [local go_sem] max2_int min2_int max_two min_two max_three min_three max_four min_four   -- for this text's walks alone
set_option linter.unusedVariables false
set_option linter.unusedSimpArgs false

/-! GIVEN -/
/-! ### shape_Kids: function 38 -/
namespace Sh
section
attribute [local go_sem] Oper.semAt_some
/-- The children of a part as the walk meets them. -/
def kidsI (L : List Met) (q : Int) : List Int := (L.filter fun x => x.2.1 == q).map fun x => (x.1 : Int)
def kidsF (l : List S65) (q : Int) : Option (List Int × Int) := (shape_may.f l q).bind fun e => if e ≠ 0 then some ([], e) else some (kidsI (walk65 l).1 q, 0)
theorem go_len (E : Nat → Nat → Int → Int) (K : Nat → Nat) (C : Nat → Int) : ∀ (f a : Nat) (S : List (Nat × Nat)), (ShapeM.go E K C f a S).1.length ≤ f
  | 0, a, S => by
    unfold ShapeM.go
    cases ShapeM.pops S <;> simp
  | f + 1, a, S => by
    unfold ShapeM.go
    cases ShapeM.pops S with
    | nil => simp
    | cons s T =>
      simp only
      split
      · have := go_len E K C f (a + 1) ((a, K a) :: ShapeM.dec (s :: T))
        simp only [List.length_cons]
        omega
      · simp
theorem walk_len (l : List S65) : (walk65 l).1.length ≤ 65 := by
  unfold walk65 ShapeM.walk
  split
  · have := go_len (errE l) (K65 l) (C65 l) 64 1 [(0, K65 l 0)]
    simp only [List.length_cons]
    omega
  · simp
theorem kidsI_len (L : List Met) (q : Int) : (kidsI L q).length ≤ L.length := by
  unfold kidsI
  rw [List.length_map]
  exact List.length_filter_le _ _
theorem kidsI_snoc (L : List Met) (x : Met) (q : Int) : kidsI (L ++ [x]) q = if x.2.1 = q then kidsI L q ++ [(x.1 : Int)] else kidsI L q := by
  unfold kidsI
  by_cases h : x.2.1 = q
  · rw [if_pos h]; simp [List.filter_append, h]
  · rw [if_neg h]; simp [List.filter_append, h]
theorem R_but {α : Type} {d : Kd α} {e : Nat} {W W' : World} {base : Nat} {v : Value} {xs : List α} {T : Nat → Prop} (h : Kd.R d e W base (fun _ => True) v xs) (hb : But T W W') (hT : ∀ k, T k → k < base) : Kd.R d e W' base (fun _ => True) v xs :=
  Kd.R_mono (Kd.R_step (Kd.R_bound h) (fun k hk hlt => hb.block k hlt (fun hk' => by have := hT k hk'; have := hk.2.1; omega))) (fun _ _ => trivial)
theorem But.grown {T : Nat → Prop} {W W' : World} {row : Option Nat} (hg : W.grownBy W' row) (hr : ∀ k, row = some k → T k) : But T W W' :=
  ⟨hg.os, hg.tape, hg.output, hg.size, fun k hk hn => hg.block k hk fun e => hn (hr k e.symm)⟩
set_option maxHeartbeats 8000000 in
set_option maxRecDepth 100000 in
theorem kidsW (A0 : Option Addr) (c0 : Nat) (l0 : List S65) (a1 : Int) (r1 : List Int) (r2 : Int) (w : World) (hr0 : Kd.C k65 w A0 l0.length l0) (hc0 : l0.length ≤ c0) (h : kidsF l0 a1 = some (r1, r2)) :
    Calls Try.prog 38 #[.slice A0 l0.length c0, .int .i64 a1] w fun e w' => ∃ v0_ : Value, e = .returned (.tuple #[v0_, .int .i64 r2]) ∧ Kd.R (Kd.int .i64) 3 w' w.heap.size (fun _ => True) v0_ r1 ∧ Below w.heap.size w w' := by
  unfold kidsF at h
  obtain ⟨e, he, h⟩ := Option.bind_eq_some_iff.1 h
  have HR0 := Aside0.mk hr0
  have HC0 := Aside0.mk hc0
  have HE := Aside0.mk he
  clear hr0 hc0 he
  refine callsIn_wide.1 (callsIn_of_wp_marks (F := Fence.wide) (n := 5) Try.func38 rfl trivial ?_)
  simp only [Try.ntmps38, List.size_toArray, List.length_cons, List.length_nil, Nat.reduceAdd, Nat.reduceSub, Array.replicate_succ, Array.replicate_zero, List.push_toArray, List.append_toArray, List.nil_append, List.cons_append]
  refine wpIn_wide.2 ?_
  by_cases e0 : e = 0
  · rw [if_neg (by simpa using e0)] at h
    have hb1 : (e != 0) = false := by simp [e0]
    have F := Aside0.mk (And.intro h e0)
    clear h e0
    go_wp2_with (first | (go_at_call 68; refine (shape_may.calls A0 c0 l0 a1 e _ (Kd.C_alloc HR0.out _) HC0.out HE.out).mono ?_; rintro e' w1 ⟨rfl, hb⟩; have ha := blk_below (blk_new w (Obj.cells #[Value.int IntKind.i64 a1] 3)) hb) | (go_at_call 69; refine (parts (w1.heap.size + 1) (w1.heap.size + 2) A0 l0.length c0 _).mono ?_; rintro e' w2 ⟨rfl, hb2, e1, e2, e3⟩))
    have hz : (((w1.alloc (Obj.cells #[Value.slice none 0 0] 56)).alloc (Obj.cells #[Value.int IntKind.i64 0] 3)).alloc (Obj.cells #[Value.int IntKind.i64 0] 24)).heap.size = w1.heap.size + 3 := by simp
    have hb1' : Below w.heap.size w w1 := below_step (below_alloc (Below.refl _ _) _) hb
    have hb0 : Below w.heap.size w w2 := below_step (below_alloc (below_alloc (below_alloc hb1' _) _) _) hb2
    have hlt := blk_lt ha
    have k9 : w2.heap[w.heap.size]? = some (.cells #[.int .i64 a1] 3 (0, 0)) := blk_below (blk_alloc (blk_alloc (blk_alloc ha _) _) _) hb2
    have k0 : w2.heap[w1.heap.size]? = some (.cells #[.slice none 0 0] 56 (0, 0)) := blk_below (blk_alloc (blk_alloc (blk_new _ _) _) _) hb2
    have k1 : w2.heap[w1.heap.size + 1]? = some (.cells #[.int .i64 0] 3 (0, 0)) := blk_below (blk_alloc (by simpa using blk_new (w1.alloc (Obj.cells #[Value.slice none 0 0] 56)) (Obj.cells #[Value.int IntKind.i64 0] 3)) _) hb2
    have k2 : w2.heap[w1.heap.size + 2]? = some (.cells #[.int .i64 0] 24 (0, 0)) := blk_below (by simpa using blk_new ((w1.alloc (Obj.cells #[Value.slice none 0 0] 56)).alloc (Obj.cells #[Value.int IntKind.i64 0] 3)) (Obj.cells #[Value.int IntKind.i64 0] 24)) hb2
    rw [hz] at e1 e2 e3
    have s2 := hb2.size
    rw [hz] at s2
    have l3 := blk_lt e3
    have hle := hb1'.size
    clear hb hb2 ha
    have HE := Aside0.mk HE
    refine (wpIn_wide (n := 5)).1 (range_parts w (l := l0) (A := A0) (c := c0) rfl hb0 HR0.out e1 e2 e3 ⟨0, k1⟩ ⟨0, k2⟩ (by omega) (by omega) (fun k => k = w1.heap.size ∨ w2.heap.size + 3 ≤ k) (fun k h => by omega)
      (fun pre W => W.heap[w.heap.size]? = some (.cells #[.int .i64 a1] 3 (0, 0)) ∧ pre.length ≤ (walk65 l0).1.length ∧ ∃ v, W.heap[w1.heap.size]? = some (.cells #[v] 56 (0, 0)) ∧ Kd.R (Kd.int .i64) 3 W (w2.heap.size + 3) (fun _ => True) v (kidsI pre a1))
      (fun _ _ _ => False) ?_ (fun _ _ _ _ h _ => h) ?_ ?_ ?_ (fun _ _ _ h => h.elim))
    · rintro s W W' ⟨h1, hn, v, h2, h3⟩ hb
      exact ⟨hb.heap h1 (by omega), hn, v, hb.heap h2 (by omega), R_but h3 hb (fun k hk => by omega)⟩
    · exact ⟨k9, Nat.zero_le _, _, k0, Kd.R_nil _ _ _ _ _⟩
    · rintro pre x post W hwk ⟨hbx, hn, v, hv, hR⟩ hBw hsz
      have X := Aside0.mk (And.intro hwk (And.intro hbx (And.intro hn (And.intro hv (And.intro hR (And.intro hBw hsz))))))
      clear hwk hbx hn hv hR hBw hsz h HE F HR0 HC0 e1 e2 e3 k0 k1 k2 k9 hb0 hb1' hz
      obtain ⟨xi, xp, xd⟩ := x
      simp only [XPrint.pw, frameV]
      gi_wp2
      refine ⟨(But.refl _ _).alloc _, fun W2 hb2 => ?_⟩
      obtain ⟨hwk, hbx, hn, v, hv, hR, hBw, hsz⟩ : (walk65 l0).1 = pre ++ (xi, xp, xd) :: post ∧ W.heap[w.heap.size]? = some (.cells #[.int .i64 a1] 3 (0, 0)) ∧ pre.length ≤ (walk65 l0).1.length ∧ ∃ v, W.heap[w1.heap.size]? = some (.cells #[v] 56 (0, 0)) ∧ Kd.R (Kd.int .i64) 3 W (w2.heap.size + 3) (fun _ => True) v (kidsI pre a1) ∧ Below w.heap.size w W ∧ w2.heap.size + 3 ≤ W.heap.size := ⟨X.out.1, X.out.2.1, X.out.2.2.1, v, X.out.2.2.2.1, X.out.2.2.2.2.1, X.out.2.2.2.2.2.1, X.out.2.2.2.2.2.2⟩
      have f0 : W2.heap[W.heap.size]? = some (.cells #[.int .i64 xp, .int .i64 xd] 105 (0, 0)) := hb2.heap (blk_new W _) (by omega)
      have f1 : W2.heap[w.heap.size]? = some (.cells #[.int .i64 a1] 3 (0, 0)) := hb2.heap (blk_alloc hbx _) (by omega)
      have f2 : W2.heap[w1.heap.size]? = some (.cells #[v] 56 (0, 0)) := hb2.heap (blk_alloc hv _) (by omega)
      have hR2 : Kd.R (Kd.int .i64) 3 W2 (w2.heap.size + 3) (fun _ => True) v (kidsI pre a1) := R_but hR (((But.refl (fun k => k = w2.heap.size + 1) W).alloc _).trans hb2) (fun k hk => by omega)
      have s3 : W.heap.size + 1 ≤ W2.heap.size := by have := hb2.size; simpa using this
      have hlen : pre.length + 1 ≤ 65 := by
        have h1 := walk_len l0
        rw [hwk] at h1
        simp at h1
        omega
      have hkl := kidsI_len pre a1
      have c0_ := (blk_cell f0 0).trans rfl
      have c1_ := (blk_cell f1 0).trans rfl
      have c2_ := (blk_cell f2 0).trans rfl
      have g2_ := blk_frozen f2 0
      by_cases hq : xp = a1
      · have hqb : (xp == a1) = true := by simpa using hq
        obtain ⟨h0, inner, hown, hreps⟩ := hR2
        obtain ⟨i3, hi3, hzz⟩ := Option.map_eq_some_iff.1 info3
        simp only [Prod.mk.injEq] at hzz
        obtain ⟨hz0, hz1, hz2⟩ := hzz
        have hWK := Aside0.mk hwk
        clear hwk
        have Z := Aside0.mk (And.intro hq (And.intro f1 (And.intro f2 (And.intro hown hreps))))
        clear hq f1 f2 hown hreps X f0 hR hv hbx hb2 hBw hn
        gi_wp2_with (refine wpListIn_append_own (W2.alloc (.cells #[.int .i64 (xi : Nat)] 3)) rfl (.tmp 26) (.tmp 28) 56 rfl (w2.heap.size + 3) 3 i3 (.int .i64 0) 1 8 Try.underlying56 hi3 hz0 hz1 hz2 rfl (by decide) v _ inner rfl (Z.out.2.2.2.1.alloc _) ⟨W2.heap.size, 0, none⟩ 1 1 [.int .i64 (xi : Nat)] rfl rfl ?hnews ?hone ?hb1 ?hb2 ?hb3 ?_)
        any_goals first | rfl | (simp only [maxLen]; omega) | (simp only [World.size_alloc]; omega) | omega
        intro v1 W5 hown5 hg5 hnn
        have hR5 : Kd.R (Kd.int .i64) 3 W5 (w2.heap.size + 3) (fun _ => True) v1 (kidsI pre a1 ++ [(xi : Int)]) :=
          ⟨fun _ _ => trivial, inner ++ [.int .i64 (xi : Nat)], by rw [List.length_append, List.length_singleton]; exact hown5, Reps.snoc (R := (Kd.int .i64).M W5 (w2.heap.size + 3) (fun k => True ∧ some k ≠ v1.ownBlock)) (Z.out.2.2.2.2.imp_ (fun _ _ hq => hq)) (show (Kd.int .i64).M W5 (w2.heap.size + 3) (fun k => True ∧ some k ≠ v1.ownBlock) (xi : Int) [.int .i64 (xi : Nat)] from rfl) rfl⟩
        obtain ⟨A5, q5', e5⟩ := Kd.R_slice hR5
        subst e5
        have hR5 := Aside0.mk hR5
        have hne : some w1.heap.size ≠ v.ownBlock := fun h => by
          have := own_base Z.out.2.2.2.1 _ h.symm
          omega
        have f5 := blk_grown (blk_alloc Z.out.2.2.1 (.cells #[.int .i64 (xi : Nat)] 3)) hg5 hne
        have c5 := (blk_cell f5 0).trans rfl
        have q5 := blk_frozen f5 0
        have Z5 := Aside0.mk (And.intro hown5 (And.intro hg5 f5))
        clear hown5 hg5 f5 hne hnn c2_ g2_
        gi_wp2
        obtain ⟨hq, f1, f2, hown, hreps⟩ := Z.out
        obtain ⟨hown5, hg5, f5⟩ := Z5.out
        have hrow : ∀ k, v.ownBlock = some k → w2.heap.size + 3 ≤ k := fun k hk => own_base hown _ hk
        have hB5 : But (fun k => k = w1.heap.size ∨ w2.heap.size + 3 ≤ k) W2 (W5.setCell ⟨w1.heap.size, 0, none⟩ (.slice A5 ((kidsI pre a1).length + 1) q5')) :=
          (((But.refl _ _).alloc _).trans (But.grown hg5 (fun k hk => .inr (hrow k hk)))).setCell (.inl rfl) 0 _
        refine ⟨hB5, hB5.heap f1 (by omega), ?_, _, by simpa using blk_set f5 0 (.slice A5 ((kidsI pre a1).length + 1) q5'), ?_⟩
        · have := hWK.out
          rw [this]
          simp
        · rw [kidsI_snoc, if_pos hq]
          have := R_but hR5.out ((But.refl (fun k => k = w1.heap.size) W5).setCell rfl 0 (.slice A5 ((kidsI pre a1).length + 1) q5')) (fun k hk => by omega)
          simpa using this
      · have hqb : (xp == a1) = false := by simpa using hq
        clear X hb2 hBw
        have Z := Aside0.mk (And.intro hq (And.intro f1 (And.intro f2 hR2)))
        clear hq f1 f2 hR2 f0 hR hv hbx
        gi_wp2
        obtain ⟨hq, f1, f2, hR2⟩ := Z.out
        refine ⟨But.refl _ _, f1, ?_, v, f2, ?_⟩
        · rw [hwk]; simp
        · rw [kidsI_snoc, if_neg hq]; exact hR2
    · rintro W ⟨hbx, hn, v, hv, hR⟩ hB h1 h2 h3
      have c1 := (blk_cell hv 0).trans rfl
      dsimp only
      obtain ⟨h, e0⟩ := F.out
      injection h with h
      injection h with h4 h5
      subst h5
      subst h4
      clear h1 h2
      go_wp2
      refine leave_mark (.tuple #[v, .int .i64 0]) h3 (by simp [results, Try.f38, go_sem]) ⟨v, rfl, ?_, ?_⟩
      · exact Kd.R_lower (R_but hR (But.put1 _ _ _) (fun k hk => by omega)) (by omega)
      · exact But.below hB (Nat.le_refl _) (But.put1 _ _ _) fun k h => by omega
  · rw [if_pos (by simpa using e0)] at h
    have hb1 : (e != 0) = true := by simp [e0]
    have F := Aside0.mk h
    clear h e0
    go_wp2_with (first | (go_at_call 68; refine (shape_may.calls A0 c0 l0 a1 e _ (Kd.C_alloc HR0.out _) HC0.out HE.out).mono ?_; rintro e' w1 ⟨rfl, hb⟩))
    obtain ⟨h4, h5⟩ : [] = r1 ∧ e = r2 := by
      have h := F.out
      injection h with h
      injection h with h4 h5
      exact ⟨h4, h5⟩
    subst h4 h5
    go_wp2
    exact ⟨.tuple #[.slice none 0 0, .int .i64 e], by simp [results, Try.f38, go_sem], _, rfl, Kd.R_nil _ _ _ _ _, below_step (below_alloc (Below.refl _ _) _) hb⟩
end
end Sh
def shape_Kids.f (l0 : List S65) (a1 : Int) : Option (List Int × Int) := Sh.kidsF l0 a1
theorem shape_Kids.calls (A0 : Option Addr) (c0 : Nat) (l0 : List S65) (a1 : Int) (r1 : List Int) (r2 : Int) (w : World) (hr0 : Kd.C k65 w A0 l0.length l0) (hc0 : l0.length ≤ c0) (h : shape_Kids.f l0 a1 = some (r1, r2)) :
    Calls Try.prog 38 #[.slice A0 l0.length c0, .int .i64 a1] w fun e w' => ∃ v0_ : Value, e = .returned (.tuple #[v0_, .int .i64 r2]) ∧ Kd.R (Kd.int .i64) 3 w' w.heap.size (fun _ => True) v0_ r1 ∧ Below w.heap.size w w' := Sh.kidsW A0 c0 l0 a1 r1 r2 w hr0 hc0 h
-- of shape_tree


end Go.Proofs.Ytkaokiiooakleaa.PShapeOne
