/- ledger: a ledger that is none. ledger: Of and Owners of a ledger that is none. -/
import Derived.Test.YthibppfdonepoaaCLedgerNoneHLedI
import Derived.Test.YthibppfdonepoaaCLedgerNoneHLedP
import Derived.Test.YthibppfdonepoaaCLedgerNoneHSortJ
set_option linter.unusedVariables false
namespace Go.Proofs.Ythibppfdonepoaa.LedT
open Go.RowKit Go.MapKept Go.Maps Go.ChangeMaps Go.Proofs.Ythibppfdonepoaa.XBut Go.Proofs.Ythibppfdonepoaa.XMap Go.Proofs.Ythibppfdonepoaa.NodeT Go.Proofs.YthibppfdonepoaaW.PrintWords Go.Proofs.YthibppfdonepoaaW.PrintLast
/-- A pointer at which no ledger is. -/
def NoL (a : Value) (w : World) : Prop := ∀ w', Below w.heap.size w w' → Calls Try.prog 103 #[a] w' fun e w'' => e = .returned (.bool true) ∧ w'' = w'
theorem NoL.nil (w : World) : NoL (.pointer none) w := fun w' _ => none_nil w'
theorem NoL.at_ {w : World} {p : Nat} (h : w.cell? ⟨p, 0, none⟩ = some (.pointer none)) : NoL (.pointer (some ⟨p, 0, none⟩)) w := fun w' hb => (none_at p none w' (pw_cell_below hb h)).mono fun _ _ h => h
theorem NoL.below {a : Value} {w w' : World} (h : NoL a w) (hb : Below w.heap.size w w') : NoL a w' := fun w'' h2 => h w'' (below_step hb h2)
set_option maxHeartbeats 4000000 in
set_option maxRecDepth 100000 in
theorem no_join (a : Value) (x0 x1 x2 : Int) (w : World) (h : NoL a w) : Calls Try.prog 52 #[a, .agg #[.int .u32 x0, .int .i64 x1, .int .i64 x2]] w fun e w' => e = .returned (.int .i64 1) ∧ Below w.heap.size w w' := by
  have H := Aside0.mk h
  have hu39 := Try.underlying39
  clear h
  go_enter Try.func52, Try.ntmps52
  go_wp2_with fail
  refine (H.out _ (below_alloc (Below.refl _ _) _)).mono ?_
  rintro e wz ⟨rfl, hz⟩
  obtain rfl := hz.symm
  clear hz
  go_wp2
  go_ret
  exact ⟨rfl, below_alloc (Below.refl _ _) _⟩
set_option maxHeartbeats 4000000 in
set_option maxRecDepth 100000 in
theorem no_lose (a : Value) (i : Int) (w : World) (h : NoL a w) : Calls Try.prog 53 #[a, .int .u32 i] w fun e w' => e = .returned (.tuple #[.slice none 0 0, .int .i64 1]) ∧ Below w.heap.size w w' := by
  have H := Aside0.mk h
  clear h
  go_enter Try.func53, Try.ntmps53
  go_wp2_with fail
  refine (H.out _ (below_alloc (Below.refl _ _) _)).mono ?_
  rintro e wz ⟨rfl, hz⟩
  obtain rfl := hz.symm
  clear hz
  go_wp2
  go_ret2
  exact ⟨rfl, below_alloc (Below.refl _ _) _⟩
set_option maxHeartbeats 4000000 in
set_option maxRecDepth 100000 in
theorem no_may (a : Value) (o n : Int) (w : World) (h : NoL a w) : Calls Try.prog 106 #[a, .int .u32 o, .int .i64 n] w fun e w' => e = .returned (.int .i64 1) ∧ w' = w := by
  have H := Aside0.mk h
  clear h
  go_enter Try.func106, Try.ntmps106
  go_wp2_with fail
  refine (H.out _ (Below.refl _ _)).mono ?_
  rintro e wz ⟨rfl, hz⟩
  obtain rfl := hz.symm
  clear hz
  go_wp2
  go_ret
  exact ⟨rfl, rfl⟩
set_option maxHeartbeats 4000000 in
set_option maxRecDepth 100000 in
theorem no_give (a : Value) (o n : Int) (s : Bool) (w : World) (h : NoL a w) : Calls Try.prog 54 #[a, .int .u32 o, .bool s, .int .i64 n] w fun e w' => e = .returned (.tuple #[.slice none 0 0, .int .i64 1]) ∧ Below w.heap.size w w' := by
  have H := Aside0.mk (no_may a o n w h)
  clear h
  go_enter Try.func54, Try.ntmps54
  go_wp2_with fail
  refine H.out.mono ?_
  rintro e wz ⟨rfl, hz⟩
  obtain rfl := hz.symm
  clear hz
  go_wp2
  go_ret2
  exact ⟨rfl, Below.refl _ _⟩
set_option maxHeartbeats 4000000 in
set_option maxRecDepth 100000 in
theorem no_take (a : Value) (o n : Int) (s : Bool) (w : World) (h : NoL a w) : Calls Try.prog 55 #[a, .int .u32 o, .bool s, .int .i64 n] w fun e w' => e = .returned (.tuple #[.slice none 0 0, .int .i64 1]) ∧ Below w.heap.size w w' := by
  have H := Aside0.mk (fun w' (hb : Below w.heap.size w w') => no_may a o n w' (h.below hb))
  clear h
  go_enter Try.func55, Try.ntmps55
  go_wp2_with fail
  refine (H.out _ (by first | exact Below.refl _ _ | exact below_alloc (Below.refl _ _) _)).mono ?_
  rintro e wz ⟨rfl, hz⟩
  obtain rfl := hz.symm
  clear hz
  go_wp2
  go_ret2
  exact ⟨rfl, by first | exact Below.refl _ _ | exact below_alloc (Below.refl _ _) _⟩
set_option maxHeartbeats 4000000 in
set_option maxRecDepth 100000 in
theorem no_boxes (a : Value) (w : World) (h : NoL a w) : Calls Try.prog 56 #[a] w fun e w' => e = .returned (.slice none 0 0) ∧ Below w.heap.size w w' := by
  have H := Aside0.mk h
  clear h
  go_enter Try.func56, Try.ntmps56
  go_wp2_with fail
  refine (H.out _ (Below.refl _ _)).mono ?_
  rintro e wz ⟨rfl, hz⟩
  obtain rfl := hz.symm
  clear hz
  go_wp2
  go_ret
  exact ⟨rfl, Below.refl _ _⟩
set_option maxHeartbeats 4000000 in
set_option maxRecDepth 100000 in
theorem no_free (a : Value) (w : World) (h : NoL a w) : Calls Try.prog 51 #[a] w fun e w' => e = .returned (.int .i64 0) ∧ Below w.heap.size w w' := by
  have H := Aside0.mk h
  clear h
  go_enter Try.func51, Try.ntmps51
  go_wp2_with fail
  refine (H.out _ (Below.refl _ _)).mono ?_
  rintro e wz ⟨rfl, hz⟩
  obtain rfl := hz.symm
  clear hz
  go_wp2
  go_ret
  exact ⟨rfl, Below.refl _ _⟩
set_option maxHeartbeats 4000000 in
set_option maxRecDepth 100000 in
theorem no_room (a : Value) (i : Int) (w : World) (h : NoL a w) : Calls Try.prog 58 #[a, .int .u32 i] w fun e w' => e = .returned (.int .i64 0) ∧ Below w.heap.size w w' := by
  have H := Aside0.mk h
  clear h
  go_enter Try.func58, Try.ntmps58
  go_wp2_with fail
  refine (H.out _ (below_alloc (Below.refl _ _) _)).mono ?_
  rintro e wz ⟨rfl, hz⟩
  obtain rfl := hz.symm
  clear hz
  go_wp2
  go_ret
  exact ⟨rfl, below_alloc (Below.refl _ _) _⟩
set_option maxHeartbeats 4000000 in
set_option maxRecDepth 100000 in
theorem no_nodes (a : Value) (w : World) (h : NoL a w) : Calls Try.prog 57 #[a] w fun e w' => e = .returned (.pointer none) ∧ Below w.heap.size w w' := by
  have H := Aside0.mk h
  clear h
  go_enter Try.func57, Try.ntmps57
  go_wp2_with fail
  refine (H.out _ (Below.refl _ _)).mono ?_
  rintro e wz ⟨rfl, hz⟩
  obtain rfl := hz.symm
  clear hz
  go_wp2
  go_ret
  exact ⟨rfl, Below.refl _ _⟩
set_option maxHeartbeats 4000000 in
set_option maxRecDepth 100000 in
theorem no_copy (a : Value) (w : World) (h : NoL a w) : Calls Try.prog 63 #[a] w fun e w' => e = .returned (.pointer none) ∧ Below w.heap.size w w' := by
  have H := Aside0.mk h
  clear h
  go_enter Try.func63, Try.ntmps63
  go_wp2_with fail
  refine (H.out _ (Below.refl _ _)).mono ?_
  rintro e wz ⟨rfl, hz⟩
  obtain rfl := hz.symm
  clear hz
  go_wp2
  go_ret
  exact ⟨rfl, Below.refl _ _⟩
end Go.Proofs.Ythibppfdonepoaa.LedT
set_option linter.unusedVariables false
namespace Go.Proofs.Ythibppfdonepoaa.LedT
open Go.RowKit Go.MapKept Go.Maps Go.ChangeMaps Go.Proofs.Ythibppfdonepoaa.XBut Go.Proofs.Ythibppfdonepoaa.XMap Go.Proofs.Ythibppfdonepoaa.NodeT Go.Proofs.YthibppfdonepoaaW.PrintWords Go.Proofs.YthibppfdonepoaaW.PrintLast
theorem But.none_below {w w' : World} (h : But (fun _ => False) w w') : Below w.heap.size w w' := ⟨h.os, h.tape, h.output, h.size, fun k hk => h.block k hk id⟩
set_option maxHeartbeats 4000000 in
set_option maxRecDepth 100000 in
theorem no_of (a : Value) (o : Int) (s : Bool) (w : World) (h : NoL a w) :
    Calls Try.prog 61 #[a, .int .u32 o, .bool s] w fun e w' => ∃ A c, e = .returned (.slice A 0 c) ∧ Below w.heap.size w w' := by
  have BX := Aside0.mk (no_boxes a w h)
  clear h
  go_enter Try.func61, Try.ntmps61
  go_wp2_with fail
  refine BX.out.mono ?_
  rintro e w1 ⟨rfl, hb1⟩
  have X := Aside0.mk hb1
  clear hb1
  dsimp only
  go_wp2_with fail
  refine (owned o s w1).mono ?_
  rintro e w2 ⟨rfl, hw2⟩
  have hb2 : Below w1.heap.size w1 w2 := by rw [hw2]; exact below_alloc (below_alloc (Below.refl _ _) _) _
  have PK := Aside0.mk (picked2 149 (.pointer (some ⟨w1.heap.size, 0, none⟩)) (.pointer (some ⟨w1.heap.size + 1, 0, none⟩)) (fun x => x.f2 == o && x.f3 == s) [] none 0 w2 (Kd.R_reads' (Kd.R_nil PLedLib.k113 113 w2 0 (fun _ => True))).2.2 (by decide) (fun _ _ => rfl) (fun y hy => by cases hy))
  have Z := Aside0.mk hb2
  clear hb2 hw2
  dsimp only
  go_wp2_with fail
  refine PK.out.mono ?_
  rintro e w3 ⟨va, vb, rfl, hRa, hRb, hd, hb3⟩
  have Y := Aside0.mk hb3
  obtain ⟨Aa, ca, e1⟩ := Kd.R_slice hRa
  obtain ⟨Ab, cb, e2⟩ := Kd.R_slice hRb
  dsimp only [List.filter_nil, List.length_nil] at e1 e2
  subst e1
  subst e2
  clear hRa hRb hd hb3
  dsimp only
  go_wp2
  go_ret
  exact ⟨_, _, rfl, below_step (below_step X.out Z.out) Y.out⟩
set_option maxHeartbeats 4000000 in
set_option maxRecDepth 100000 in
theorem compact_nil (w : World) : Calls Try.prog 117 #[.slice none 0 0] w fun e w' => e = .returned (.slice none 0 0) ∧ Below w.heap.size w w' := by
  go_enter Try.func117, Try.ntmps117
  go_wp2
  go_ret
  exact ⟨rfl, Below.refl _ _⟩
set_option maxHeartbeats 4000000 in
set_option maxRecDepth 100000 in
theorem no_owners (a : Value) (s : Bool) (w : World) (h : NoL a w) :
    Calls Try.prog 62 #[a, .bool s] w fun e w' => e = .returned (.slice none 0 0) ∧ Below w.heap.size w w' := by
  have BX := Aside0.mk (no_boxes a w h)
  clear h
  go_enter Try.func62, Try.ntmps62
  go_wp2_with fail
  refine BX.out.mono ?_
  rintro e w1 ⟨rfl, hb1⟩
  have X := Aside0.mk hb1
  clear hb1
  dsimp only
  go_wp2_with fail
  go_loopg [5, 11] 0 (fun kk v5 v11 wr => v5 = .slice none 0 0 ∧ v11 = .int .i64 0 ∧ Below w1.heap.size w1 wr ∧ kk = 0)
  case atStart => exact ⟨rfl, rfl, Below.refl _ _, rfl⟩
  obtain ⟨rfl, rfl, hB, hk⟩ := hrel
  have Y := Aside0.mk hB
  clear hB hk
  go_wp2_with fail
  refine (Go.Proofs.Ythibppfdonepoaa.Srt.sort_nil _).mono ?_
  rintro e w2 ⟨rfl, hb2⟩
  have Z := Aside0.mk (But.none_below hb2)
  clear hb2
  dsimp only
  go_wp2_with fail
  refine (compact_nil _).mono ?_
  rintro e w3 ⟨rfl, hb3⟩
  have V := Aside0.mk hb3
  clear hb3
  dsimp only
  go_wp2
  go_ret
  exact ⟨rfl, below_step (below_step (below_step X.out Y.out) Z.out) V.out⟩
end Go.Proofs.Ythibppfdonepoaa.LedT
