/- liverylaw22.NodeNone. -/
import Derived.Test.YthibppfdonepoaaCNodeNoneHNodeK
import Derived.Test.YthibppfdonepoaaCNodeNoneHNodeG
set_option linter.unusedVariables false
namespace Go.Proofs.Ythibppfdonepoaa.NodeT
open Go.RowKit Go.MapKept Go.Maps Go.ChangeMaps Go.Proofs.Ythibppfdonepoaa.XBut Go.Proofs.Ythibppfdonepoaa.XMap Go.Proofs.Ythibppfdonepoaa.PNodePlays Go.Proofs.YthibppfdonepoaaW.PrintWords Go.Proofs.YthibppfdonepoaaW.PrintLast
structure NoneAt (w0 w : World) (s bt : Nat) (n n0 n1 : Int) : Prop where
  below : Below w0.heap.size w0 w
  box : w.heap[w0.heap.size]? = some (.cells #[.int .u32 n, .int .i64 n0, .int .i64 n1] 39 (0, 0))
  row : ∃ t, w.heap[s]? = some (.cells #[.pointer none, .pointer (some ⟨bt, 0, none⟩)] t (0, 0))
  tab : ∃ t, w.heap[bt]? = some (.cells #[.int .i64 0, .int .i64 0, .map none] t (0, 0))
theorem NoneAt.more {w0 w w' : World} {s bt : Nat} {n n0 n1 : Int} (h : NoneAt w0 w s bt n n0 n1) (hb : Below w.heap.size w w') : NoneAt w0 w' s bt n n0 n1 :=
  ⟨below_step h.below hb, blk_below h.box hb, h.row.imp fun _ h => blk_below h hb, h.tab.imp fun _ h => blk_below h hb⟩
theorem NoneAt.get {w0 w : World} {s bt : Nat} {n n0 n1 : Int} (h : NoneAt w0 w s bt n n0 n1) (j : Nat) (hj : j < 2) : ∃ p, w.cell? ⟨s, j, none⟩ = some (.pointer p) ∧ ∀ w', NoneAt w0 w' s bt n n0 n1 → NoT w' p := by
  obtain ⟨t, hr⟩ := h.row
  rcases (show j = 0 ∨ j = 1 by omega) with rfl | rfl
  · exact ⟨none, (blk_cell hr 0).trans rfl, fun _ _ => .inl rfl⟩
  · exact ⟨_, (blk_cell hr 1).trans rfl, fun w' h' => by obtain ⟨t, ht⟩ := h'.tab; exact .inr ⟨bt, t, rfl, ht⟩⟩
set_option maxHeartbeats 16000000 in
set_option maxRecDepth 100000 in
theorem nodeNone (n n0 n1 : Int) (w : World) : Calls Try.prog 6 #[.agg #[.int .u32 n, .int .i64 n0, .int .i64 n1]] w fun e w' => e = .returned (.bool true) ∧ Below w.heap.size w w' := by
  have hu23 := Try.underlying23
  have hu39 := Try.underlying39
  have e23 := eqA23
  go_enter Try.func6, Try.ntmps6
  go_wp2_with fail
  go_loopg [5] 2 (fun kk i wr => ∃ j : Nat, kk = 2 - j ∧ i = .int .i64 j ∧ j ≤ 2 ∧ NoneAt w wr (w.heap.size + 1 + 1) (w.heap.size + 1) n n0 n1)
  case atStart =>
    have h0 := blk_alloc (blk_alloc (blk_new w (.cells #[.int .u32 n, .int .i64 n0, .int .i64 n1] 39)) (.cells #[.int .i64 0, .int .i64 0, .map none] 63)) (.cells #[.pointer none, .pointer (some ⟨w.heap.size + 1, 0, none⟩)] 25)
    have h1 := blk_alloc (blk_new (w.alloc (.cells #[.int .u32 n, .int .i64 n0, .int .i64 n1] 39)) (.cells #[.int .i64 0, .int .i64 0, .map none] 63)) (.cells #[.pointer none, .pointer (some ⟨w.heap.size + 1, 0, none⟩)] 25)
    have h2 := blk_new ((w.alloc (.cells #[.int .u32 n, .int .i64 n0, .int .i64 n1] 39)).alloc (.cells #[.int .i64 0, .int .i64 0, .map none] 63)) (.cells #[.pointer none, .pointer (some ⟨w.heap.size + 1, 0, none⟩)] 25)
    simp only [World.size_alloc] at h1 h2
    exact ⟨0, rfl, rfl, Nat.zero_le _, below_alloc (below_alloc (below_alloc (Below.refl _ _) _) _) _, h0, ⟨_, h2⟩, ⟨_, h1⟩⟩
  obtain ⟨j, rfl, rfl, hj, hN⟩ := hrel
  by_cases hlt : j < 2
  · obtain ⟨p, cp, hp⟩ := hN.get j hlt
    have X := Aside0.mk hN
    have P := Aside0.mk hp
    have bx := hN.box
    have q0 := (blk_cell bx 0).trans rfl
    have q1 := (blk_cell bx 1).trans rfl
    have q2 := (blk_cell bx 2).trans rfl
    have hlt' : (j : Int) < 2 := by omega
    clear hN hp bx
    go_wp2_with fail
    refine (lose_none p n _ (P.out _ X.out)).mono ?_
    rintro e wz ⟨rfl, hb⟩
    replace X := Aside0.mk (X.out.more hb)
    have bx := X.out.box
    have q0 := (blk_cell bx 0).trans rfl
    have q1 := (blk_cell bx 1).trans rfl
    have q2 := (blk_cell bx 2).trans rfl
    have r0 := fun o => (blk_cell (blk_alloc bx o) 0).trans rfl
    clear hb bx
    dsimp only
    go_wp2_with fail
    replace X := Aside0.mk (X.out.more (below_alloc (Below.refl _ _) (.cells #[.int .u32 0, .int .i64 0, .int .i64 0] 39)))
    refine (units_none p n _ (P.out _ X.out)).mono ?_
    rintro e wz ⟨rfl, hb⟩
    replace X := Aside0.mk (X.out.more hb)
    have bx := X.out.box
    have q0 := (blk_cell bx 0).trans rfl
    have q1 := (blk_cell bx 1).trans rfl
    have q2 := (blk_cell bx 2).trans rfl
    have r0 := fun o => (blk_cell (blk_alloc bx o) 0).trans rfl
    clear hb bx
    dsimp only
    go_wp2_with fail
    refine (join_no p n n0 n1 _ (P.out _ X.out)).mono ?_
    rintro e wz ⟨rfl, hb⟩
    replace X := Aside0.mk (X.out.more hb)
    have bx := X.out.box
    have q0 := (blk_cell bx 0).trans rfl
    have q1 := (blk_cell bx 1).trans rfl
    have q2 := (blk_cell bx 2).trans rfl
    have r0 := fun o => (blk_cell (blk_alloc bx o) 0).trans rfl
    clear hb bx
    dsimp only
    go_wp2_with fail
    refine (total_none p _ (P.out _ X.out)).mono ?_
    rintro e wz ⟨rfl, hb⟩
    replace X := Aside0.mk (X.out.more hb)
    have bx := X.out.box
    have q0 := (blk_cell bx 0).trans rfl
    have q1 := (blk_cell bx 1).trans rfl
    have q2 := (blk_cell bx 2).trans rfl
    have r0 := fun o => (blk_cell (blk_alloc bx o) 0).trans rfl
    clear hb bx
    dsimp only
    go_wp2_with fail
    refine (cap_none p _ (P.out _ X.out)).mono ?_
    rintro e wz ⟨rfl, hb⟩
    replace X := Aside0.mk (X.out.more hb)
    have bx := X.out.box
    have q0 := (blk_cell bx 0).trans rfl
    have q1 := (blk_cell bx 1).trans rfl
    have q2 := (blk_cell bx 2).trans rfl
    have r0 := fun o => (blk_cell (blk_alloc bx o) 0).trans rfl
    clear hb bx
    dsimp only
    go_wp2_with fail
    refine (nodes_none p _ (P.out _ X.out)).mono ?_
    rintro e wz ⟨rfl, hb⟩
    replace X := Aside0.mk (X.out.more hb)
    have bx := X.out.box
    have q0 := (blk_cell bx 0).trans rfl
    have q1 := (blk_cell bx 1).trans rfl
    have q2 := (blk_cell bx 2).trans rfl
    have r0 := fun o => (blk_cell (blk_alloc bx o) 0).trans rfl
    clear hb bx
    dsimp only
    go_wp2_with fail
    refine (unit_none p _ (P.out _ X.out)).mono ?_
    rintro e wz ⟨rfl, hb⟩
    replace X := Aside0.mk (X.out.more hb)
    have bx := X.out.box
    have q0 := (blk_cell bx 0).trans rfl
    have q1 := (blk_cell bx 1).trans rfl
    have q2 := (blk_cell bx 2).trans rfl
    have r0 := fun o => (blk_cell (blk_alloc bx o) 0).trans rfl
    clear hb bx
    dsimp only
    go_wp2_with fail
    refine (copy_none p _ (P.out _ X.out)).mono ?_
    rintro e wz ⟨rfl, hb⟩
    replace X := Aside0.mk (X.out.more hb)
    have bx := X.out.box
    have q0 := (blk_cell bx 0).trans rfl
    have q1 := (blk_cell bx 1).trans rfl
    have q2 := (blk_cell bx 2).trans rfl
    have r0 := fun o => (blk_cell (blk_alloc bx o) 0).trans rfl
    clear hb bx
    dsimp only
    go_wp2
    go_roundg (2 - (j + 1))
    case measure => omega
    case rel => exact ⟨j + 1, rfl, by go_num, by omega, X.out⟩
  · have hlt' : ¬ (j : Int) < 2 := by omega
    have X := Aside0.mk hN
    clear hN
    go_wp2_with fail
    refine (head _).mono ?_
    rintro e wz ⟨rfl, hb⟩
    have Y := Aside0.mk (below_step X.out.below hb)
    clear hb
    dsimp only
    go_wp2
    go_ret
    exact ⟨rfl, Y.out⟩
end Go.Proofs.Ythibppfdonepoaa.NodeT
