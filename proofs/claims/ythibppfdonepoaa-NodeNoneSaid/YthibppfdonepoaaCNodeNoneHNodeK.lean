/- Tables that are none: sum, Total, Cap. -/
import Derived.Test.YthibppfdonepoaaCNodeNoneHNodeJ
set_option linter.unusedVariables false
namespace Go.Proofs.Ythibppfdonepoaa.NodeT
open Go.RowKit Go.MapKept Go.Maps Go.ChangeMaps Go.Proofs.Ythibppfdonepoaa.XBut Go.Proofs.Ythibppfdonepoaa.XMap Go.Proofs.Ythibppfdonepoaa.PNodePlays Go.Proofs.YthibppfdonepoaaW.PrintWords Go.Proofs.YthibppfdonepoaaW.PrintLast
set_option maxHeartbeats 8000000 in
set_option maxRecDepth 100000 in
theorem sum_none (p : Option Addr) (f : Value) (w : World) (h : NoT w p) : Calls Try.prog 80 #[.pointer p, f] w fun e w' => e = .returned (.int .i64 0) ∧ Below w.heap.size w w' := by
  have N := Aside0.mk (nodes_none p w h)
  clear h
  go_enter Try.func80, Try.ntmps80
  go_wp2_with fail
  refine N.out.mono ?_
  rintro e w1 ⟨rfl, hB⟩
  have X := Aside0.mk hB
  clear hB
  dsimp only
  go_wp2
  go_loopg [6, 12] 0 (fun kk v6 v12 wr => v12 = .int .i64 0 ∧ v6 = .int .i64 0 ∧ Below w1.heap.size w1 wr)
  case atStart => exact ⟨rfl, rfl, Below.refl _ _⟩
  obtain ⟨rfl, rfl, hB⟩ := hrel
  have Y := Aside0.mk hB
  clear hB
  go_wp2
  go_ret
  exact ⟨rfl, below_step X.out Y.out⟩
set_option maxHeartbeats 8000000 in
set_option maxRecDepth 100000 in
theorem total_none (p : Option Addr) (w : World) (h : NoT w p) : Calls Try.prog 28 #[.pointer p] w fun e w' => e = .returned (.int .i64 0) ∧ Below w.heap.size w w' := by
  have S := Aside0.mk (fun f => sum_none p f _ (h.below (below_alloc (Below.refl _ _) (.cells #[.pointer p] 25))))
  clear h
  go_enter Try.func28, Try.ntmps28
  go_wp2_with fail
  refine (S.out _).mono ?_
  rintro e w1 ⟨rfl, hB⟩
  have X := Aside0.mk hB
  clear hB
  dsimp only
  go_wp2
  go_ret
  exact ⟨rfl, below_then (below_alloc (Below.refl _ _) _) (by simp) X.out⟩
set_option maxHeartbeats 8000000 in
set_option maxRecDepth 100000 in
theorem cap_none (p : Option Addr) (w : World) (h : NoT w p) : Calls Try.prog 27 #[.pointer p] w fun e w' => e = .returned (.agg #[.int .i64 0, .int .i64 0]) ∧ Below w.heap.size w w' := by
  have HH := Aside0.mk h
  have hu23 := Try.underlying23
  have hs2 : Aside0 (vec_Scale.f 0 0 0 = some (0, 0, 0)) := ⟨by decide +kernel⟩
  clear h
  go_enter Try.func27, Try.ntmps27
  go_wp2_with fail
  have hB0 := below_alloc (Below.refl w.heap.size w) (.cells #[.int .i64 0, .int .i64 0] 23)
  have hT0 := HH.out.below (below_alloc (Below.refl _ _) (.cells #[.int .i64 0, .int .i64 0] 23))
  refine (unit_none p _ hT0).mono ?_
  rintro e w1 ⟨rfl, hB1⟩
  have hT1 := hT0.below hB1
  have S := Aside0.mk (total_none p _ hT1)
  have X := Aside0.mk (below_step hB0 hB1)
  have k0 := blk_below (blk_new w (.cells #[.int .i64 0, .int .i64 0] 23)) hB1
  have K0 := Aside0.mk k0
  clear hB0 hT0 hB1 hT1 k0
  dsimp only
  go_wp2_with fail
  refine S.out.mono ?_
  rintro e w2 ⟨rfl, hB2⟩
  have K1 := Aside0.mk (blk_below K0.out hB2)
  have X2 := Aside0.mk (below_step X.out hB2)
  clear hB2
  dsimp only
  go_wp2_with fail
  refine (vec_Scale.calls 0 0 0 0 0 0 _ hs2.out).mono ?_
  rintro e w3 ⟨rfl, hB3⟩
  have k3 := blk_below K1.out hB3
  have hlt := blk_lt k3
  have c0 := fun o => (blk_cell (blk_alloc k3 o) 0).trans rfl
  have c1 := fun o => (blk_cell (blk_alloc k3 o) 1).trans rfl
  have f0 := fun o => blk_frozen (blk_alloc k3 o) 0
  have f1 := fun o => blk_frozen (blk_alloc k3 o) 1
  have k4 : (w3.setCell ⟨w.heap.size, 0, none⟩ (.int .i64 0)).heap[w.heap.size]? = some (.cells #[.int .i64 0, .int .i64 0] 23 (0, 0)) := by simpa using blk_set k3 0 (.int .i64 0)
  have d1 := fun o => (blk_cell (blk_alloc k4 o) 1).trans rfl
  have g1 := fun o => blk_frozen (blk_alloc k4 o) 1
  have k5 : ((w3.setCell ⟨w.heap.size, 0, none⟩ (.int .i64 0)).setCell ⟨w.heap.size, 1, none⟩ (.int .i64 0)).heap[w.heap.size]? = some (.cells #[.int .i64 0, .int .i64 0] 23 (0, 0)) := by simpa using blk_set k4 1 (.int .i64 0)
  have e0 := fun o => (blk_cell (blk_alloc k5 o) 0).trans rfl
  have e1 := fun o => (blk_cell (blk_alloc k5 o) 1).trans rfl
  have X3 := Aside0.mk (below_step X2.out hB3)
  clear hB3 k3 k4 k5
  dsimp only
  go_wp2
  refine bodyPost_ret (v := .agg #[.int .i64 0, .int .i64 0]) (by simp [results, Try.results27, go_sem, e0, e1]) rfl ⟨rfl, ?_⟩
  exact ((X3.out.setCell (p := ⟨w.heap.size, 0, none⟩) (Nat.le_refl _) _).setCell (p := ⟨w.heap.size, 1, none⟩) (Nat.le_refl _) _).alloc (by simp; omega) _
end Go.Proofs.Ythibppfdonepoaa.NodeT
