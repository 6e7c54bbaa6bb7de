/- Tables that are none. -/
import Derived.Test.YthibppfdonepoaaCNodeNoneHNodeI
set_option linter.unusedVariables false
namespace Go.Proofs.Ythibppfdonepoaa.NodeT
open Go.RowKit Go.MapKept Go.Maps Go.ChangeMaps Go.Proofs.Ythibppfdonepoaa.XBut Go.Proofs.Ythibppfdonepoaa.XMap Go.Proofs.Ythibppfdonepoaa.PNodePlays Go.Proofs.YthibppfdonepoaaW.PrintWords Go.Proofs.YthibppfdonepoaaW.PrintLast
/-- No table: none, or one that has no map. -/
def NoT (w : World) (p : Option Addr) : Prop := p = none ∨ ∃ b t, p = some ⟨b, 0, none⟩ ∧ w.heap[b]? = some (.cells #[.int .i64 0, .int .i64 0, .map none] t (0, 0))
theorem NoT.below {w w' : World} {p : Option Addr} (h : NoT w p) (hb : Below w.heap.size w w') : NoT w' p := by
  rcases h with rfl | ⟨b, t, rfl, h⟩
  · exact .inl rfl
  · exact .inr ⟨b, t, rfl, blk_below h hb⟩
theorem none_no (p : Option Addr) (w : World) (h : NoT w p) : Calls Try.prog 72 #[.pointer p] w fun e w' => e = .returned (.bool true) ∧ w' = w := by
  rcases h with rfl | ⟨b, t, rfl, h⟩
  · exact none_nil w
  · exact none_map b none w ((blk_cell h 2).trans rfl)
set_option maxHeartbeats 4000000 in
set_option maxRecDepth 100000 in
theorem join_no (p : Option Addr) (n n0 n1 : Int) (w : World) (h : NoT w p) : Calls Try.prog 21 #[.pointer p, .agg #[.int .u32 n, .int .i64 n0, .int .i64 n1]] w fun e w' => e = .returned (.int .i64 1) ∧ Below w.heap.size w w' := by
  have hu39 := Try.underlying39
  have hu23 := Try.underlying23
  have H := Aside0.mk h
  clear h
  go_enter Try.func21, Try.ntmps21
  go_wp2_with fail
  refine (none_no p _ (H.out.below (below_alloc (Below.refl _ _) _))).mono ?_
  rintro e wz ⟨rfl, hz⟩
  obtain rfl := hz.symm
  clear hz
  go_wp2
  go_ret
  exact ⟨rfl, by first | exact Below.refl _ _ | exact below_alloc (Below.refl _ _) _⟩
set_option maxHeartbeats 4000000 in
set_option maxRecDepth 100000 in
theorem lose_none (p : Option Addr) (n : Int) (w : World) (h : NoT w p) : Calls Try.prog 20 #[.pointer p, .int .u32 n] w fun e w' => e = .returned (.tuple #[.agg #[.int .u32 0, .int .i64 0, .int .i64 0], .int .i64 1]) ∧ Below w.heap.size w w' := by
  have hu39 := Try.underlying39
  have hu23 := Try.underlying23
  have H := Aside0.mk h
  clear h
  go_enter Try.func20, Try.ntmps20
  go_wp2_with fail
  refine (none_no p _ (H.out.below (below_alloc (Below.refl _ _) _))).mono ?_
  rintro e wz ⟨rfl, hz⟩
  obtain rfl := hz.symm
  clear hz
  go_wp2
  refine bodyPost_ret (v := .tuple #[.agg #[.int .u32 0, .int .i64 0, .int .i64 0], .int .i64 1]) (by simp [results, Try.results20, go_sem]) rfl ⟨rfl, ?_⟩
  first | exact Below.refl _ _ | exact below_alloc (Below.refl _ _) _
set_option maxHeartbeats 4000000 in
set_option maxRecDepth 100000 in
theorem units_none (p : Option Addr) (n : Int) (w : World) (h : NoT w p) : Calls Try.prog 24 #[.pointer p, .int .u32 n] w fun e w' => e = .returned (.tuple #[.int .i64 0, .int .i64 1]) ∧ Below w.heap.size w w' := by
  have hu39 := Try.underlying39
  have hu23 := Try.underlying23
  have H := Aside0.mk h
  clear h
  go_enter Try.func24, Try.ntmps24
  go_wp2_with fail
  refine (none_no p _ (H.out)).mono ?_
  rintro e wz ⟨rfl, hz⟩
  obtain rfl := hz.symm
  clear hz
  go_wp2
  go_ret2
  exact ⟨rfl, by first | exact Below.refl _ _ | exact below_alloc (Below.refl _ _) _⟩
set_option maxHeartbeats 4000000 in
set_option maxRecDepth 100000 in
theorem nodes_none (p : Option Addr) (w : World) (h : NoT w p) : Calls Try.prog 22 #[.pointer p] w fun e w' => e = .returned (.slice none 0 0) ∧ Below w.heap.size w w' := by
  have hu39 := Try.underlying39
  have hu23 := Try.underlying23
  have H := Aside0.mk h
  clear h
  go_enter Try.func22, Try.ntmps22
  go_wp2_with fail
  refine (none_no p _ (H.out)).mono ?_
  rintro e wz ⟨rfl, hz⟩
  obtain rfl := hz.symm
  clear hz
  go_wp2
  go_ret
  exact ⟨rfl, by first | exact Below.refl _ _ | exact below_alloc (Below.refl _ _) _⟩
set_option maxHeartbeats 4000000 in
set_option maxRecDepth 100000 in
theorem unit_none (p : Option Addr) (w : World) (h : NoT w p) : Calls Try.prog 32 #[.pointer p] w fun e w' => e = .returned (.agg #[.int .i64 0, .int .i64 0]) ∧ Below w.heap.size w w' := by
  have hu39 := Try.underlying39
  have hu23 := Try.underlying23
  have H := Aside0.mk h
  clear h
  go_enter Try.func32, Try.ntmps32
  go_wp2_with fail
  refine (none_no p _ (H.out.below (below_alloc (Below.refl _ _) _))).mono ?_
  rintro e wz ⟨rfl, hz⟩
  obtain rfl := hz.symm
  clear hz
  go_wp2
  refine bodyPost_ret (v := .agg #[.int .i64 0, .int .i64 0]) (by simp [results, Try.results32, go_sem]) rfl ⟨rfl, ?_⟩
  first | exact Below.refl _ _ | exact below_alloc (Below.refl _ _) _
set_option maxHeartbeats 4000000 in
set_option maxRecDepth 100000 in
theorem copy_none (p : Option Addr) (w : World) (h : NoT w p) : Calls Try.prog 29 #[.pointer p] w fun e w' => e = .returned (.pointer none) ∧ Below w.heap.size w w' := by
  have hu39 := Try.underlying39
  have hu23 := Try.underlying23
  have H := Aside0.mk h
  clear h
  go_enter Try.func29, Try.ntmps29
  go_wp2_with fail
  refine (none_no p _ (H.out)).mono ?_
  rintro e wz ⟨rfl, hz⟩
  obtain rfl := hz.symm
  clear hz
  go_wp2
  go_ret
  exact ⟨rfl, by first | exact Below.refl _ _ | exact below_alloc (Below.refl _ _) _⟩
end Go.Proofs.Ythibppfdonepoaa.NodeT
