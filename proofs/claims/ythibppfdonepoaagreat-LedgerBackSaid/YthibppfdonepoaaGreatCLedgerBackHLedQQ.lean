/- liverylaw23.LedgerBack. -/
import Derived.Test.YthibppfdonepoaaGreatCLedgerBackHNodeV
import Derived.Test.YthibppfdonepoaaGreatCLedgerBackHLedNew
set_option linter.unusedVariables false
set_option linter.unusedSimpArgs false
namespace Go.Proofs.YthibppfdonepoaaGreat.LedT
open Go.RowKit Go.MapKept Go.Maps Go.ChangeMaps Go.Proofs.YthibppfdonepoaaGreat.XBut Go.Proofs.YthibppfdonepoaaGreat.XMap Go.Proofs.YthibppfdonepoaaGreat.NodeT Go.Proofs.YthibppfdonepoaaGreatW.PrintWords Go.Proofs.YthibppfdonepoaaGreatW.PrintLast
theorem cs11 (P : Nat → Prop) (h0 : P 0) (h1 : P 1) (h2 : P 2) (h3 : P 3) (h4 : P 4) (h5 : P 5) (h6 : P 6) (h7 : P 7) (h8 : P 8) (h9 : P 9) (h10 : P 10) : ∀ i, i < 11 → P i := by
 intro i hi
 rcases (by omega : i = 0 ∨ i = 1 ∨ i = 2 ∨ i = 3 ∨ i = 4 ∨ i = 5 ∨ i = 6 ∨ i = 7 ∨ i = 8 ∨ i = 9 ∨ i = 10) with rfl | rfl | rfl | rfl | rfl | rfl | rfl | rfl | rfl | rfl | rfl
 all_goals assumption
theorem cs25 (P : Nat → Prop) (h0 : P 0) (h1 : P 1) (h2 : P 2) (h3 : P 3) (h4 : P 4) (h5 : P 5) (h6 : P 6) (h7 : P 7) (h8 : P 8) (h9 : P 9) (h10 : P 10) (h11 : P 11) (h12 : P 12) (h13 : P 13) (h14 : P 14) (h15 : P 15) (h16 : P 16) (h17 : P 17) (h18 : P 18) (h19 : P 19) (h20 : P 20) (h21 : P 21) (h22 : P 22) (h23 : P 23) (h24 : P 24) : ∀ i, i < 25 → P i := by
 intro i hi
 rcases (by omega : i = 0 ∨ i = 1 ∨ i = 2 ∨ i = 3 ∨ i = 4 ∨ i = 5 ∨ i = 6 ∨ i = 7 ∨ i = 8 ∨ i = 9 ∨ i = 10 ∨ i = 11 ∨ i = 12 ∨ i = 13 ∨ i = 14 ∨ i = 15 ∨ i = 16 ∨ i = 17 ∨ i = 18 ∨ i = 19 ∨ i = 20 ∨ i = 21 ∨ i = 22 ∨ i = 23 ∨ i = 24) with rfl | rfl | rfl | rfl | rfl | rfl | rfl | rfl | rfl | rfl | rfl | rfl | rfl | rfl | rfl | rfl | rfl | rfl | rfl | rfl | rfl | rfl | rfl | rfl | rfl
 all_goals assumption
set_option maxHeartbeats 8000000 in
set_option maxRecDepth 100000 in
theorem ledgerBack_bad (u0 u1 z0 z1 z2 z3 z4 z6 : Int) (z5 : Bool) (A : Option Addr) (n c : Nat) (w : World) (hu : ¬ okV 1 ⟨u0, u1⟩) :
  Calls Tryz.prog 5 #[.agg #[.int .i64 u0, .int .i64 u1], .slice A n c, .agg #[.int .u8 z0, .int .u32 z1, .int .i64 z2, .int .i64 z3, .int .u32 z4, .bool z5, .int .i64 z6]] w fun e w' => e = .returned (.bool true) ∧ Below w.heap.size w w' := by
 have hu23 := Tryz.underlying23
 have hu61 := Tryz.underlying61
 obtain ⟨W0, hW0⟩ : ∃ W0, (w.alloc (.cells #[.int .i64 u0, .int .i64 u1] 23)).alloc (.cells #[.int .u8 z0, .int .u32 z1, .int .i64 z2, .int .i64 z3, .int .u32 z4, .bool z5, .int .i64 z6] 61) = W0 := ⟨_, rfl⟩
 have hB0 : Below w.heap.size w W0 := by rw [← hW0]; exact below_alloc (below_alloc (Below.refl _ _) _) _
 have kv : W0.heap[w.heap.size]? = some (.cells #[.int .i64 u0, .int .i64 u1] 23 (0, 0)) := by rw [← hW0]; exact blk_alloc (blk_new w _) _
 have kx : W0.heap[w.heap.size + 1]? = some (.cells #[.int .u8 z0, .int .u32 z1, .int .i64 z2, .int .i64 z3, .int .u32 z4, .bool z5, .int .i64 z6] 61 (0, 0)) := by
  have := blk_new (w.alloc (.cells #[.int .i64 u0, .int .i64 u1] 23)) (.cells #[.int .u8 z0, .int .u32 z1, .int .i64 z2, .int .i64 z3, .int .u32 z4, .bool z5, .int .i64 z6] 61)
  rw [World.size_alloc] at this
  rw [← hW0]; exact this
 have v0 := (blk_cell kv 0).trans rfl
 have v1 := (blk_cell kv 1).trans rfl
 have H := Aside0.mk (And.intro hu (And.intro hB0 hW0))
 clear hu hB0 hW0 kv kx
 go_enter Tryz.func5, Tryz.ntmps5
 go_wp2_with fail
 rw [H.out.2.2]
 go_wp2_with fail
 refine (lnew_no u0 u1 _ H.out.1).mono ?_
 rintro e w1 ⟨rfl, hb1⟩
 have X := Aside0.mk (below_then H.out.2.1 H.out.2.1.size hb1)
 clear hb1 v0 v1
 dsimp only
 go_wp2_with fail
 refine (head w1).mono ?_
 rintro e wz ⟨rfl, hbz⟩
 have Z := Aside0.mk hbz
 clear hbz
 dsimp only
 go_wp2
 go_ret
 exact ⟨rfl, below_step X.out Z.out⟩
set_option maxHeartbeats 8000000 in
set_option maxRecDepth 100000 in
theorem ledgerBack_great (u0 u1 z0 z1 z2 z3 z4 z6 : Int) (z5 : Bool) (A : Option Addr) (c : Nat) (l : List Ac) (w : World) (hA : AcRow w A l) (hl : l.length ≤ 9223372036854775807) (hu : okV 1 ⟨u0, u1⟩) (hg : gr l = true) :
  Calls Tryz.prog 5 #[.agg #[.int .i64 u0, .int .i64 u1], .slice A l.length c, .agg #[.int .u8 z0, .int .u32 z1, .int .i64 z2, .int .i64 z3, .int .u32 z4, .bool z5, .int .i64 z6]] w fun e w' => e = .returned (.bool true) ∧ Below w.heap.size w w' := by
 have hu23 := Tryz.underlying23
 have hu61 := Tryz.underlying61
 obtain ⟨W0, hW0⟩ : ∃ W0, (w.alloc (.cells #[.int .i64 u0, .int .i64 u1] 23)).alloc (.cells #[.int .u8 z0, .int .u32 z1, .int .i64 z2, .int .i64 z3, .int .u32 z4, .bool z5, .int .i64 z6] 61) = W0 := ⟨_, rfl⟩
 have hB0 : Below w.heap.size w W0 := by rw [← hW0]; exact below_alloc (below_alloc (Below.refl _ _) _) _
 have kv : W0.heap[w.heap.size]? = some (.cells #[.int .i64 u0, .int .i64 u1] 23 (0, 0)) := by rw [← hW0]; exact blk_alloc (blk_new w _) _
 have kx : W0.heap[w.heap.size + 1]? = some (.cells #[.int .u8 z0, .int .u32 z1, .int .i64 z2, .int .i64 z3, .int .u32 z4, .bool z5, .int .i64 z6] 61 (0, 0)) := by
  have := blk_new (w.alloc (.cells #[.int .i64 u0, .int .i64 u1] 23)) (.cells #[.int .u8 z0, .int .u32 z1, .int .i64 z2, .int .i64 z3, .int .u32 z4, .bool z5, .int .i64 z6] 61)
  rw [World.size_alloc] at this
  rw [← hW0]; exact this
 have v0 := (blk_cell kv 0).trans rfl
 have v1 := (blk_cell kv 1).trans rfl
 have H := Aside0.mk (And.intro hA (And.intro hl (And.intro hu (And.intro hg (And.intro hB0 hW0)))))
 clear hA hl hu hg hB0 hW0 kv kx
 go_enter Tryz.func5, Tryz.ntmps5
 go_wp2_with fail
 rw [H.out.2.2.2.2.2]
 go_wp2_with fail
 refine (lnew_yes u0 u1 _ H.out.2.2.1).mono ?_
 rintro e w1 ⟨p, b, g, rfl, hb1, _⟩
 have X := Aside0.mk (below_then H.out.2.2.2.2.1 H.out.2.2.2.2.1.size hb1)
 clear hb1 v0 v1
 dsimp only
 go_wp2_with fail
 refine (great A c l w1 (H.out.1.below X.out) H.out.2.1).mono ?_
 rintro e w2 ⟨rfl, hb2⟩
 rw [H.out.2.2.2.1]
 have Y := Aside0.mk (below_step X.out hb2)
 clear hb2
 dsimp only
 go_wp2_with fail
 refine (head w2).mono ?_
 rintro e wz ⟨rfl, hbz⟩
 have Z := Aside0.mk hbz
 clear hbz
 dsimp only
 go_wp2
 go_ret
 exact ⟨rfl, below_step Y.out Z.out⟩
theorem one_row {z0 z1 z2 z3 z4 z6 : Int} {z5 : Bool} {w : World} (hx : (Lit.int .u8 z0).wf = true ∧ (Lit.int .u32 z1).wf = true ∧ (Lit.int .u32 z4).wf = true ∧ (Lit.int .i64 z6).wf = true) {b : Nat} (h : w.heap[b]? = some (.cells #[.int .u8 z0, .int .u32 z1, .int .i64 z2, .int .i64 z3, .int .u32 z4, .bool z5, .int .i64 z6] 61 (0, 0))) : AcRow w (some ⟨b, 0, none⟩) [(⟨z0, ⟨z1, ⟨z2, z3⟩⟩, z4, z5, z6⟩ : Ac)] := by
 refine ⟨fun j hj => ?_, fun x hm => by rw [List.mem_singleton.1 hm]; exact hx⟩
 have hj0 : j = 0 := by simpa using hj
 subst hj0
 refine ⟨_, rfl, ⟨?_, ?_, ?_, ?_, ?_, ?_, ?_⟩⟩
 ·exact (blk_cell h 0).trans rfl
 ·exact (blk_cell h 1).trans rfl
 ·exact (blk_cell h 2).trans rfl
 ·exact (blk_cell h 3).trans rfl
 ·exact (blk_cell h 4).trans rfl
 ·exact (blk_cell h 5).trans rfl
 ·exact (blk_cell h 6).trans rfl
set_option maxHeartbeats 32000000 in
set_option maxRecDepth 100000 in
theorem ledgerBack_great2 (u0 u1 z0 z1 z2 z3 z4 z6 : Int) (z5 : Bool) (A : Option Addr) (c : Nat) (l : List Ac) (w : World) (hA : AcRow w A l) (hl : l.length ≤ 9223372036854775807) (hu : okV 1 ⟨u0, u1⟩) (hg : gr l = false) (hx : (Lit.int .u8 z0).wf = true ∧ (Lit.int .u32 z1).wf = true ∧ (Lit.int .u32 z4).wf = true ∧ (Lit.int .i64 z6).wf = true) (hg2 : gr [⟨z0, ⟨z1, ⟨z2, z3⟩⟩, z4, z5, z6⟩] = true) :
  Calls Tryz.prog 5 #[.agg #[.int .i64 u0, .int .i64 u1], .slice A l.length c, .agg #[.int .u8 z0, .int .u32 z1, .int .i64 z2, .int .i64 z3, .int .u32 z4, .bool z5, .int .i64 z6]] w fun e w' => e = .returned (.bool true) ∧ Below w.heap.size w w' := by
 have hu23 := Tryz.underlying23
 have hu39 := Tryz.underlying59
 have hu107 := Tryz.underlying61
 have hu113 := Tryz.underlying100
 have hu118 := Tryz.underlying37
 have hsm := gr_small hg
 have hl80 : (l.length : Int) ≤ 80 := by omega
 obtain ⟨W0, hW0⟩ : ∃ W0, (w.alloc (.cells #[.int .i64 u0, .int .i64 u1] 23)).alloc (.cells #[.int .u8 z0, .int .u32 z1, .int .i64 z2, .int .i64 z3, .int .u32 z4, .bool z5, .int .i64 z6] 61) = W0 := ⟨_, rfl⟩
 have hB0 : Below w.heap.size w W0 := by rw [← hW0]; exact below_alloc (below_alloc (Below.refl _ _) _) _
 have kv : W0.heap[w.heap.size]? = some (.cells #[.int .i64 u0, .int .i64 u1] 23 (0, 0)) := by rw [← hW0]; exact blk_alloc (blk_new w _) _
 have kx : W0.heap[w.heap.size + 1]? = some (.cells #[.int .u8 z0, .int .u32 z1, .int .i64 z2, .int .i64 z3, .int .u32 z4, .bool z5, .int .i64 z6] 61 (0, 0)) := by
  have := blk_new (w.alloc (.cells #[.int .i64 u0, .int .i64 u1] 23)) (.cells #[.int .u8 z0, .int .u32 z1, .int .i64 z2, .int .i64 z3, .int .u32 z4, .bool z5, .int .i64 z6] 61)
  rw [World.size_alloc] at this
  rw [← hW0]; exact this
 have v0 := (blk_cell kv 0).trans rfl
 have v1 := (blk_cell kv 1).trans rfl
 have HA := Aside0.mk (And.intro hA (And.intro hl (And.intro hu (And.intro hg (And.intro hsm (And.intro hB0 (And.intro hW0 (And.intro kv (And.intro kx (And.intro hx hg2))))))))))
 clear hA hl hu hg hsm hB0 hW0 kv kx hx hg2
 go_enter Tryz.func5, Tryz.ntmps5
 go_wp2_with fail
 rw [HA.out.2.2.2.2.2.2.1]
 go_wp2_with fail
 refine (lnew_yes u0 u1 W0 HA.out.2.2.1).mono ?_
 rintro e w1 ⟨p, b, g, rfl, hb1, hL⟩
 have X1 := Aside0.mk (HS.new W0 w1 HA.out.2.2.1 hb1 hL)
 clear hb1 hL v0 v1
 dsimp only
 go_wp2_with fail
 refine (great A c l w1 (HA.out.1.below (below_then HA.out.2.2.2.2.2.1 HA.out.2.2.2.2.2.1.size X1.out.below)) HA.out.2.1).mono ?_
 rintro e w2 ⟨rfl, hb⟩
 rw [HA.out.2.2.2.1]
 have X2 := Aside0.mk (X1.out.same hb)
 have kx := blk_below HA.out.2.2.2.2.2.2.2.2.1 X2.out.below
 have x0 := (blk_cell kx 0).trans rfl
 have x1 := (blk_cell kx 1).trans rfl
 have x2 := (blk_cell kx 2).trans rfl
 have x3 := (blk_cell kx 3).trans rfl
 have x4 := (blk_cell kx 4).trans rfl
 have x5 := (blk_cell kx 5).trans rfl
 have x6 := (blk_cell kx 6).trans rfl
 clear hb X1 kx
 dsimp only
 go_wp2_with fail
 obtain ⟨w3, hw3⟩ : ∃ w3, w2.alloc (.cells #[.int .u8 z0, .int .u32 z1, .int .i64 z2, .int .i64 z3, .int .u32 z4, .bool z5, .int .i64 z6] 61) = w3 := ⟨_, rfl⟩
 have hb3 : Below w2.heap.size w2 w3 := by rw [← hw3]; exact below_alloc (Below.refl _ _) _
 have k3 : w3.heap[w2.heap.size]? = some (.cells #[.int .u8 z0, .int .u32 z1, .int .i64 z2, .int .i64 z3, .int .u32 z4, .bool z5, .int .i64 z6] 61 (0, 0)) := by rw [← hw3]; exact blk_new w2 _
 rw [hw3]
 have X3 := Aside0.mk (X2.out.same hb3)
 have K3 := Aside0.mk k3
 clear hb3 k3 hw3 X2 x0 x1 x2 x3 x4 x5 x6
 refine (great (some ⟨w2.heap.size, 0, none⟩) 1 [⟨z0, ⟨z1, ⟨z2, z3⟩⟩, z4, z5, z6⟩] w3 (one_row HA.out.2.2.2.2.2.2.2.2.2.1 K3.out) (by simp)).mono ?_
 rintro e w4 ⟨rfl, hb⟩
 rw [HA.out.2.2.2.2.2.2.2.2.2.2]
 have X4 := Aside0.mk (X3.out.same hb)
 clear hb X3 K3
 dsimp only
 go_wp2_with fail
 refine (head w4).mono ?_
 rintro e wz ⟨rfl, hbz⟩
 have Z := Aside0.mk hbz
 clear hbz
 dsimp only
 go_wp2
 go_ret
 exact ⟨rfl, below_step (below_then HA.out.2.2.2.2.2.1 HA.out.2.2.2.2.2.1.size X4.out.below) Z.out⟩
set_option maxHeartbeats 32000000 in
set_option maxRecDepth 100000 in
theorem ledgerBack (u0 u1 z0 z1 z2 z3 z4 z6 : Int) (z5 : Bool) (A : Option Addr) (c : Nat) (l : List Ac) (w : World) (hA : AcRow w A l) (hl : l.length ≤ 9223372036854775807) (hu : okV 1 ⟨u0, u1⟩) (hg : gr l = false) (hx : (Lit.int .u8 z0).wf = true ∧ (Lit.int .u32 z1).wf = true ∧ (Lit.int .u32 z4).wf = true ∧ (Lit.int .i64 z6).wf = true) (hg2 : gr [⟨z0, ⟨z1, ⟨z2, z3⟩⟩, z4, z5, z6⟩] = false) :
  Calls Tryz.prog 5 #[.agg #[.int .i64 u0, .int .i64 u1], .slice A l.length c, .agg #[.int .u8 z0, .int .u32 z1, .int .i64 z2, .int .i64 z3, .int .u32 z4, .bool z5, .int .i64 z6]] w fun e w' => e = .returned (.bool true) ∧ Below w.heap.size w w' := by
 have hu23 := Tryz.underlying23
 have hu39 := Tryz.underlying59
 have hu107 := Tryz.underlying61
 have hu113 := Tryz.underlying100
 have hu118 := Tryz.underlying37
 have hsm := gr_small hg
 have hl80 : (l.length : Int) ≤ 80 := by omega
 obtain ⟨W0, hW0⟩ : ∃ W0, (w.alloc (.cells #[.int .i64 u0, .int .i64 u1] 23)).alloc (.cells #[.int .u8 z0, .int .u32 z1, .int .i64 z2, .int .i64 z3, .int .u32 z4, .bool z5, .int .i64 z6] 61) = W0 := ⟨_, rfl⟩
 have hB0 : Below w.heap.size w W0 := by rw [← hW0]; exact below_alloc (below_alloc (Below.refl _ _) _) _
 have kv : W0.heap[w.heap.size]? = some (.cells #[.int .i64 u0, .int .i64 u1] 23 (0, 0)) := by rw [← hW0]; exact blk_alloc (blk_new w _) _
 have kx : W0.heap[w.heap.size + 1]? = some (.cells #[.int .u8 z0, .int .u32 z1, .int .i64 z2, .int .i64 z3, .int .u32 z4, .bool z5, .int .i64 z6] 61 (0, 0)) := by
  have := blk_new (w.alloc (.cells #[.int .i64 u0, .int .i64 u1] 23)) (.cells #[.int .u8 z0, .int .u32 z1, .int .i64 z2, .int .i64 z3, .int .u32 z4, .bool z5, .int .i64 z6] 61)
  rw [World.size_alloc] at this
  rw [← hW0]; exact this
 have v0 := (blk_cell kv 0).trans rfl
 have v1 := (blk_cell kv 1).trans rfl
 have HA := Aside0.mk (And.intro hA (And.intro hl (And.intro hu (And.intro hg (And.intro hsm (And.intro hB0 (And.intro hW0 (And.intro kv (And.intro kx (And.intro hx hg2))))))))))
 clear hA hl hu hg hsm hB0 hW0 kv kx hx hg2
 go_enter Tryz.func5, Tryz.ntmps5
 go_wp2_with fail
 rw [HA.out.2.2.2.2.2.2.1]
 go_wp2_with fail
 refine (lnew_yes u0 u1 W0 HA.out.2.2.1).mono ?_
 rintro e w1 ⟨p, b, g, rfl, hb1, hL⟩
 have X1 := Aside0.mk (HS.new W0 w1 HA.out.2.2.1 hb1 hL)
 clear hb1 hL v0 v1
 dsimp only
 go_wp2_with fail
 refine (great A c l w1 (HA.out.1.below (below_then HA.out.2.2.2.2.2.1 HA.out.2.2.2.2.2.1.size X1.out.below)) HA.out.2.1).mono ?_
 rintro e w2 ⟨rfl, hb⟩
 rw [HA.out.2.2.2.1]
 have X2 := Aside0.mk (X1.out.same hb)
 have kx := blk_below HA.out.2.2.2.2.2.2.2.2.1 X2.out.below
 have x0 := (blk_cell kx 0).trans rfl
 have x1 := (blk_cell kx 1).trans rfl
 have x2 := (blk_cell kx 2).trans rfl
 have x3 := (blk_cell kx 3).trans rfl
 have x4 := (blk_cell kx 4).trans rfl
 have x5 := (blk_cell kx 5).trans rfl
 have x6 := (blk_cell kx 6).trans rfl
 clear hb X1 kx
 dsimp only
 go_wp2_with fail
 obtain ⟨w3, hw3⟩ : ∃ w3, w2.alloc (.cells #[.int .u8 z0, .int .u32 z1, .int .i64 z2, .int .i64 z3, .int .u32 z4, .bool z5, .int .i64 z6] 61) = w3 := ⟨_, rfl⟩
 have hb3 : Below w2.heap.size w2 w3 := by rw [← hw3]; exact below_alloc (Below.refl _ _) _
 have k3 : w3.heap[w2.heap.size]? = some (.cells #[.int .u8 z0, .int .u32 z1, .int .i64 z2, .int .i64 z3, .int .u32 z4, .bool z5, .int .i64 z6] 61 (0, 0)) := by rw [← hw3]; exact blk_new w2 _
 rw [hw3]
 have X3 := Aside0.mk (X2.out.same hb3)
 have K3 := Aside0.mk k3
 clear hb3 k3 hw3 X2 x0 x1 x2 x3 x4 x5 x6
 refine (great (some ⟨w2.heap.size, 0, none⟩) 1 [⟨z0, ⟨z1, ⟨z2, z3⟩⟩, z4, z5, z6⟩] w3 (one_row HA.out.2.2.2.2.2.2.2.2.2.1 K3.out) (by simp)).mono ?_
 rintro e w4 ⟨rfl, hb⟩
 rw [HA.out.2.2.2.2.2.2.2.2.2.2]
 have X4 := Aside0.mk (X3.out.same hb)
 clear hb X3 K3
 have kv := blk_below HA.out.2.2.2.2.2.2.2.1 X4.out.below
 have v0 := (blk_cell kv 0).trans rfl
 have v1 := (blk_cell kv 1).trans rfl
 clear kv
 dsimp only
 go_wp2_with fail
 refine (dnew u0 u1 w4 HA.out.2.2.1).mono ?_
 rintro e w5 ⟨vn, rfl, hR, hb⟩
 obtain ⟨An, cn, rfl⟩ := Kd.R_slice hR
 dsimp only [List.length_nil] at hR ⊢
 have X5 := Aside0.mk (And.intro (DS.new X4.out hR hb) (below_step X4.out.below hb))
 clear hR hb X4 v0 v1
 unfold dv
 go_upto_region 5 with (fail)
 obtain ⟨W6, hW6⟩ : ∃ W6, w5.alloc (.cells #[.int .i64 u0, .int .i64 u1, .slice An 0 cn, .slice none 0 0, .int .u32 0] LT) = W6 := ⟨_, rfl⟩
 have hB6 : Below w5.heap.size w5 W6 := by rw [← hW6]; exact below_alloc (Below.refl _ _) _
 have k6 : W6.heap[w5.heap.size]? = some (.cells #[.int .i64 u0, .int .i64 u1, .slice An 0 cn, .slice none 0 0, .int .u32 0] LT (0, 0)) := by rw [← hW6]; exact blk_new w5 _
 rw [hW6]
 have hQM : ¬ May2 p g (.slice none 0 0) (.slice none 0 0) (fun k => w4.heap.size ≤ k ∧ k < w5.heap.size) w5.heap.size ∧ w5.heap.size ≠ b ∧ W0.heap.size ≤ w5.heap.size := by
  have hl := X5.out.1.hs.led.lt
  have hz := X5.out.2.size
  refine ⟨fun hm => ?_, by omega, hz⟩
  rcases hm with ((hm | hm) | hm) | hm | hm
  ·omega
  ·omega
  ·simp [Value.ownBlock] at hm
  ·omega
  ·simp [Value.ownBlock] at hm
 obtain ⟨q, hq⟩ : ∃ q, w5.heap.size = q := ⟨_, rfl⟩
 have D6 := X5.out.1.same hB6
 rw [hq] at k6 hQM D6 ⊢
 have X6 := Aside0.mk (And.intro D6 (And.intro k6 hQM))
 clear hW6 hB6 k6 hQM D6 X5 hq
 go_wp2_with fail
 go_loopg [11] l.length (fun kk v11 wr => ∃ (j : Nat) (ns : List Nd) (v : Value) (bx : List Bx) (last : Int) (vn vb : Value) (okn : Nat → Prop), kk = l.length - j ∧ v11 = .int .i64 j ∧ j ≤ l.length ∧ last ≤ 200 * j ∧ DS W0 wr p b g u0 u1 ns v bx last vn vb okn ∧ wr.heap[q]? = some (.cells #[.int .i64 u0, .int .i64 u1, vn, vb, .int .u32 last] LT (0, 0)) ∧ ¬ May2 p g v vb okn q)
 case atStart => exact ⟨0, [], _, [], 0, _, _, _, rfl, rfl, Nat.zero_le _, by omega, X6.out.1, X6.out.2.1, X6.out.2.2.1⟩
 obtain ⟨j, ns, v, bx, last, vn, vb, okn, rfl, rfl, hj, hlast, hD, hk, hM⟩ := hrel
 have XQ := Aside0.mk X6.out.2.2.2
 clear X6
 obtain ⟨An, cn, rfl⟩ := Kd.R_slice hD.nrow
 obtain ⟨A2, c2, rfl⟩ := Kd.R_slice hD.brow
 by_cases hlt : j < l.length
 ·as_aux_lemma =>
  obtain ⟨ad, rfl, hAc⟩ := HA.out.1.at_ j hlt
  have hwf := HA.out.1.wf l[j] (List.getElem_mem hlt)
  have hbig := HA.out.2.2.2.2.1.2 l[j] (List.getElem_mem hlt)
  obtain ⟨x, hx⟩ : ∃ x, l[j] = x := ⟨_, rfl⟩
  rw [hx] at hAc hwf hbig
  have hbw := below_then HA.out.2.2.2.2.2.1 HA.out.2.2.2.2.2.1.size hD.hs.below
  have hAr := hAc.below hbw
  obtain ⟨xw, ⟨n0, n1, n2⟩, o, s, m⟩ := x
  have hla : last ≤ 4000000000 := by omega
  have hal := acL_le (u0 := u0) (u1 := u1) (ns := ns) (bx := bx) (last := last) hbig
  obtain ⟨nn, hnn⟩ : ∃ nn, ns.length = nn := ⟨_, rfl⟩
  obtain ⟨nb, hnb⟩ : ∃ nb, bx.length = nb := ⟨_, rfl⟩
  rw [hnn] at hD hk
  rw [hnb] at hD hk hM
  obtain ⟨la2, hla2⟩ : ∃ la2, acL u0 u1 ns bx last ⟨xw, ⟨n0, ⟨n1, n2⟩⟩, o, s, m⟩ = la2 := ⟨_, rfl⟩
  obtain ⟨ns2, hns2⟩ : ∃ ns2, acN u0 u1 ns ⟨xw, ⟨n0, ⟨n1, n2⟩⟩, o, s, m⟩ = ns2 := ⟨_, rfl⟩
  obtain ⟨bx2, hbx2⟩ : ∃ bx2, acB u0 u1 ns bx last ⟨xw, ⟨n0, ⟨n1, n2⟩⟩, o, s, m⟩ = bx2 := ⟨_, rfl⟩
  have DC := Aside0.mk (fun (w' : World) (hb : Below wr.heap.size wr w') => does p b g u0 u1 ns v bx last An A2 nn cn nb c2 okn xw n0 n1 n2 o m s W0 w' (hD.same hb) hwf.1 hwf.2.1 hla)
  rw [hla2, hns2, hbx2] at DC
  rw [hla2] at hal
  unfold dv at DC
  obtain ⟨nn2, hnn2⟩ : ∃ nn2, ns2.length = nn2 := ⟨_, rfl⟩
  obtain ⟨nb2, hnb2⟩ : ∃ nb2, bx2.length = nb2 := ⟨_, rfl⟩
  have NL := Aside0.mk (And.intro hnn2 hnb2)
  have hlt' : (j : Int) < (l.length : Int) := by omega
  have X := Aside0.mk (And.intro hk (And.intro hM (And.intro hAr (And.intro hlast (And.intro hal hD.hs.below.size)))))
  clear hk hM hAc hAr hlast hal hwf hbig hx hbw hD hla hla2 hns2 hbx2 hnn hnb hnn2 hnb2
  go_upto_region 8 with (fail)
  refine XInv.region_tab [] [[], [], [], [], [2, 3], [4], [0, 1, 5], [6], [7], [7], [8, 6, 0, 1, 2, 3, 4, 5, 6, 7, 8]] (fun bq jq => match jq with
    | 0 => .pointer (some ⟨p, 0, none⟩)
    | 1 => .agg #[.int .i64 u0, .int .i64 u1, .slice An nn cn, .slice A2 nb c2, .int .u32 last]
    | 2 => .slice (some ad) l.length c
    | 3 => .int .i64 j
    | 4 => .pointer (some (ad.add (j * 7)))
    | 5 => .agg #[.int .u8 xw, .int .u32 n0, .int .i64 n1, .int .i64 n2, .int .u32 o, .bool s, .int .i64 m]
    | 6 => .tuple #[.agg #[.int .i64 u0, .int .i64 u1, .slice bq.1.1 nn2 bq.1.2, .slice bq.2.1 nb2 bq.2.2, .int .u32 la2], .bool true]
    | 7 => .tuple #[.agg #[.int .i64 u0, .int .i64 u1, .slice bq.1.1 nn2 bq.1.2, .slice bq.2.1 nb2 bq.2.2, .int .u32 la2], .bool true]
    | 8 => .agg #[.int .i64 u0, .int .i64 u1, .slice bq.1.1 nn2 bq.1.2, .slice bq.2.1 nb2 bq.2.2, .int .u32 la2]
    | 9 => .bool true
    | 10 => undef
    | _ => undef)
    (fun bq l w' => if l 10 = true then (∃ wz v1 okn1, DS W0 wz p b g u0 u1 ns2 v1 bx2 la2 (.slice bq.1.1 nn2 bq.1.2) (.slice bq.2.1 nb2 bq.2.2) okn1 ∧ ¬ May2 p g v1 (.slice bq.2.1 nb2 bq.2.2) okn1 q ∧ wz.heap[q]? = some (.cells #[.int .i64 u0, .int .i64 u1, .slice An nn cn, .slice A2 nb c2, .int .u32 last] LT (0, 0)) ∧ w' = (((((wz.setCell ⟨q, 0, none⟩ (.int .i64 u0)).setCell ⟨q, 1, none⟩ (.int .i64 u1)).setCell ⟨q, 2, none⟩ (.slice bq.1.1 nn2 bq.1.2)).setCell ⟨q, 3, none⟩ (.slice bq.2.1 nb2 bq.2.2)).setCell ⟨q, 4, none⟩ (.int .u32 la2))) else if l 6 = true then (∃ v1 okn1, DS W0 w' p b g u0 u1 ns2 v1 bx2 la2 (.slice bq.1.1 nn2 bq.1.2) (.slice bq.2.1 nb2 bq.2.2) okn1 ∧ ¬ May2 p g v1 (.slice bq.2.1 nb2 bq.2.2) okn1 q ∧ w'.heap[q]? = some (.cells #[.int .i64 u0, .int .i64 u1, .slice An nn cn, .slice A2 nb c2, .int .u32 last] LT (0, 0))) else Below wr.heap.size wr w')
    (by kernel_rfl) rfl (by kernel_rfl) (by kernel_rfl) (by kernel_rfl) ⟨(((none, 0), (none, 0)) : (Option Addr × Nat) × (Option Addr × Nat)), (by rw [if_neg (by simp)]; rw [if_neg (by simp)]; exact below_drew (Below.refl _ _))⟩ ?_ ?_
  ·refine cs11 _ ?_ ?_ ?_ ?_ ?_ ?_ ?_ ?_ ?_ ?_ ?_
   all_goals intro hds oi hoi bq lb w' hW hlb hcl hneed hclo
   all_goals simp only [List.getElem?_toArray, List.getElem?_cons_succ, List.getElem?_cons_zero, Option.some.injEq] at hoi
   all_goals subst hoi
   ·refine XInv.yes_tab [] (by kernel_rfl) ?_
    have hs0 := hcl 6 (by decide) (by kernel_rfl)
    have hs1 := hcl 10 (by decide) (by kernel_rfl)
    rw [if_neg (by rw [hs1]; decide)] at hW
    rw [if_neg (by rw [hs0]; decide)] at hW
    have kq := blk_below X.out.1 hW
    have q0 := (blk_cell kq 0).trans rfl
    have q1 := (blk_cell kq 1).trans rfl
    have q2 := (blk_cell kq 2).trans rfl
    have q3 := (blk_cell kq 3).trans rfl
    have q4 := (blk_cell kq 4).trans rfl
    have hac := X.out.2.2.1.below hW
    obtain ⟨d0, d1, d2, d3, d4, d5, d6⟩ := hac
    dsimp only at d0 d1 d2 d3 d4 d5 d6
    clear hcl hneed hclo
    intro Q2 K2 hK2
    simp only [XInv.puts, XPrint.pw]
    go_simp
    exact hK2.out (.pointer (some ⟨p, 0, none⟩)) w' ⟨bq, rfl, fun _ _ _ => rfl, (by rw [if_neg (by simp [XInv.up, hs1])]; rw [if_neg (by simp [XInv.up, hs0])]; exact hW)⟩
   ·refine XInv.yes_tab [] (by kernel_rfl) ?_
    have hs0 := hcl 6 (by decide) (by kernel_rfl)
    have hs1 := hcl 10 (by decide) (by kernel_rfl)
    rw [if_neg (by rw [hs1]; decide)] at hW
    rw [if_neg (by rw [hs0]; decide)] at hW
    have kq := blk_below X.out.1 hW
    have q0 := (blk_cell kq 0).trans rfl
    have q1 := (blk_cell kq 1).trans rfl
    have q2 := (blk_cell kq 2).trans rfl
    have q3 := (blk_cell kq 3).trans rfl
    have q4 := (blk_cell kq 4).trans rfl
    have hac := X.out.2.2.1.below hW
    obtain ⟨d0, d1, d2, d3, d4, d5, d6⟩ := hac
    dsimp only at d0 d1 d2 d3 d4 d5 d6
    clear hcl hneed hclo
    intro Q2 K2 hK2
    simp only [XInv.puts, XPrint.pw]
    go_simp
    exact hK2.out (.agg #[.int .i64 u0, .int .i64 u1, .slice An nn cn, .slice A2 nb c2, .int .u32 last]) w' ⟨bq, rfl, fun _ _ _ => rfl, (by rw [if_neg (by simp [XInv.up, hs1])]; rw [if_neg (by simp [XInv.up, hs0])]; exact hW)⟩
   ·refine XInv.yes_tab [] (by kernel_rfl) ?_
    have hs0 : lb 6 = false := (Bool.eq_false_or_eq_true (lb 6)).elim (fun h => absurd (XInv.reach hclo [5, 4] 6 2 (by kernel_rfl) h) (by rw [hlb]; decide)) id
    have hs1 := hcl 10 (by decide) (by kernel_rfl)
    rw [if_neg (by rw [hs1]; decide)] at hW
    rw [if_neg (by rw [hs0]; decide)] at hW
    have kq := blk_below X.out.1 hW
    have q0 := (blk_cell kq 0).trans rfl
    have q1 := (blk_cell kq 1).trans rfl
    have q2 := (blk_cell kq 2).trans rfl
    have q3 := (blk_cell kq 3).trans rfl
    have q4 := (blk_cell kq 4).trans rfl
    have hac := X.out.2.2.1.below hW
    obtain ⟨d0, d1, d2, d3, d4, d5, d6⟩ := hac
    dsimp only at d0 d1 d2 d3 d4 d5 d6
    clear hcl hneed hclo
    intro Q2 K2 hK2
    simp only [XInv.puts, XPrint.pw]
    go_simp
    exact hK2.out (.slice (some ad) l.length c) w' ⟨bq, rfl, fun _ _ _ => rfl, (by rw [if_neg (by simp [XInv.up, hs1])]; rw [if_neg (by simp [XInv.up, hs0])]; exact hW)⟩
   ·refine XInv.yes_tab [] (by kernel_rfl) ?_
    have hs0 : lb 6 = false := (Bool.eq_false_or_eq_true (lb 6)).elim (fun h => absurd (XInv.reach hclo [5, 4] 6 3 (by kernel_rfl) h) (by rw [hlb]; decide)) id
    have hs1 := hcl 10 (by decide) (by kernel_rfl)
    rw [if_neg (by rw [hs1]; decide)] at hW
    rw [if_neg (by rw [hs0]; decide)] at hW
    have kq := blk_below X.out.1 hW
    have q0 := (blk_cell kq 0).trans rfl
    have q1 := (blk_cell kq 1).trans rfl
    have q2 := (blk_cell kq 2).trans rfl
    have q3 := (blk_cell kq 3).trans rfl
    have q4 := (blk_cell kq 4).trans rfl
    have hac := X.out.2.2.1.below hW
    obtain ⟨d0, d1, d2, d3, d4, d5, d6⟩ := hac
    dsimp only at d0 d1 d2 d3 d4 d5 d6
    clear hcl hneed hclo
    intro Q2 K2 hK2
    simp only [XInv.puts, XPrint.pw]
    go_simp
    exact hK2.out (.int .i64 j) w' ⟨bq, rfl, fun _ _ _ => rfl, (by rw [if_neg (by simp [XInv.up, hs1])]; rw [if_neg (by simp [XInv.up, hs0])]; exact hW)⟩
   ·refine XInv.yes_tab [(51, 3), (50, 2)] (by kernel_rfl) ?_
    have hs0 : lb 6 = false := (Bool.eq_false_or_eq_true (lb 6)).elim (fun h => absurd (XInv.reach hclo [5] 6 4 (by kernel_rfl) h) (by rw [hlb]; decide)) id
    have hs1 := hcl 10 (by decide) (by kernel_rfl)
    rw [if_neg (by rw [hs1]; decide)] at hW
    rw [if_neg (by rw [hs0]; decide)] at hW
    have kq := blk_below X.out.1 hW
    have q0 := (blk_cell kq 0).trans rfl
    have q1 := (blk_cell kq 1).trans rfl
    have q2 := (blk_cell kq 2).trans rfl
    have q3 := (blk_cell kq 3).trans rfl
    have q4 := (blk_cell kq 4).trans rfl
    have hac := X.out.2.2.1.below hW
    obtain ⟨d0, d1, d2, d3, d4, d5, d6⟩ := hac
    dsimp only at d0 d1 d2 d3 d4 d5 d6
    clear hcl hneed hclo
    intro Q2 K2 hK2
    simp only [XInv.puts, XPrint.pw]
    go_simp
    exact hK2.out (.pointer (some (ad.add (j * 7)))) w' ⟨bq, rfl, fun _ _ _ => rfl, (by rw [if_neg (by simp [XInv.up, hs1])]; rw [if_neg (by simp [XInv.up, hs0])]; exact hW)⟩
   ·refine XInv.yes_tab [(52, 4)] (by kernel_rfl) ?_
    have hs0 := hcl 6 (by decide) (by kernel_rfl)
    have hs1 := hcl 10 (by decide) (by kernel_rfl)
    rw [if_neg (by rw [hs1]; decide)] at hW
    rw [if_neg (by rw [hs0]; decide)] at hW
    have kq := blk_below X.out.1 hW
    have q0 := (blk_cell kq 0).trans rfl
    have q1 := (blk_cell kq 1).trans rfl
    have q2 := (blk_cell kq 2).trans rfl
    have q3 := (blk_cell kq 3).trans rfl
    have q4 := (blk_cell kq 4).trans rfl
    have hac := X.out.2.2.1.below hW
    obtain ⟨d0, d1, d2, d3, d4, d5, d6⟩ := hac
    dsimp only at d0 d1 d2 d3 d4 d5 d6
    clear hcl hneed hclo
    intro Q2 K2 hK2
    simp only [XInv.puts, XPrint.pw]
    go_simp
    exact hK2.out (.agg #[.int .u8 xw, .int .u32 n0, .int .i64 n1, .int .i64 n2, .int .u32 o, .bool s, .int .i64 m]) w' ⟨bq, rfl, fun _ _ _ => rfl, (by rw [if_neg (by simp [XInv.up, hs1])]; rw [if_neg (by simp [XInv.up, hs0])]; exact hW)⟩
   ·refine XInv.yes_tab [(53, 5), (49, 1), (48, 0)] (by kernel_rfl) ?_
    have hs0 := hlb
    have hs1 := hcl 10 (by decide) (by kernel_rfl)
    rw [if_neg (by rw [hs1]; decide)] at hW
    rw [if_neg (by rw [hs0]; decide)] at hW
    have kq := blk_below X.out.1 hW
    have q0 := (blk_cell kq 0).trans rfl
    have q1 := (blk_cell kq 1).trans rfl
    have q2 := (blk_cell kq 2).trans rfl
    have q3 := (blk_cell kq 3).trans rfl
    have q4 := (blk_cell kq 4).trans rfl
    have hac := X.out.2.2.1.below hW
    obtain ⟨d0, d1, d2, d3, d4, d5, d6⟩ := hac
    dsimp only at d0 d1 d2 d3 d4 d5 d6
    clear hcl hneed
    intro Q2 K2 hK2
    simp only [XInv.puts, XPrint.pw]
    go_simp
    go_at_call 25
    (with_reducible refine (DC.out _ hW).mono ?_)
    rintro e wz ⟨v1, vn1, vb1, okn1, rfl, hD1, hb1, ho1⟩
    obtain ⟨An1, cn1, rfl⟩ := Kd.R_slice hD1.nrow
    obtain ⟨Ab1, cb1, rfl⟩ := Kd.R_slice hD1.brow
    rw [NL.out.1] at hD1
    rw [NL.out.2] at hD1 ho1
    rw [NL.out.1, NL.out.2]
    exact hK2.out (.tuple #[.agg #[.int .i64 u0, .int .i64 u1, .slice An1 nn2 cn1, .slice Ab1 nb2 cb1, .int .u32 la2], .bool true]) wz ⟨((An1, cn1), (Ab1, cb1)), rfl, (cs11 _ (fun _ => rfl) (fun _ => rfl) (fun _ => rfl) (fun _ => rfl) (fun _ => rfl) (fun _ => rfl) (fun hlj => absurd (hlb.symm.trans hlj) (by decide)) (fun hlj => absurd (hlb.symm.trans (XInv.reach hclo [] 7 6 (by kernel_rfl) hlj)) (by decide)) (fun hlj => absurd (hlb.symm.trans (XInv.reach hclo [7] 8 6 (by kernel_rfl) hlj)) (by decide)) (fun hlj => absurd (hlb.symm.trans (XInv.reach hclo [7] 9 6 (by kernel_rfl) hlj)) (by decide)) (fun hlj => absurd (hlb.symm.trans (XInv.reach hclo [] 10 6 (by kernel_rfl) hlj)) (by decide))), (by rw [if_neg (by simp [XInv.up, hs1])]; rw [if_pos (by simp [XInv.up, hs0])]; exact ⟨v1, okn1, hD1, (fun hm => (ho1 q hm).elim X.out.2.1 (fun h => absurd (blk_lt kq) (by omega))), hb1.heap kq X.out.2.1⟩)⟩
   ·refine XInv.yes_tab [(54, 6)] (by kernel_rfl) ?_
    have hs0 := hneed 6 (by kernel_rfl)
    have hs1 := hcl 10 (by decide) (by kernel_rfl)
    rw [if_neg (by rw [hs1]; decide)] at hW
    rw [if_pos hs0] at hW
    obtain ⟨v1, okn1, hD1, hM1, hk1⟩ := id hW
    have y0 := (blk_cell hk1 0).trans rfl
    have y1 := (blk_cell hk1 1).trans rfl
    have y2 := (blk_cell hk1 2).trans rfl
    have y3 := (blk_cell hk1 3).trans rfl
    have y4 := (blk_cell hk1 4).trans rfl
    have g0 := blk_frozen hk1 0
    have g1 := blk_frozen hk1 1
    have g2 := blk_frozen hk1 2
    have g3 := blk_frozen hk1 3
    have g4 := blk_frozen hk1 4
    clear hcl hneed hclo
    intro Q2 K2 hK2
    simp only [XInv.puts, XPrint.pw]
    go_simp
    exact hK2.out (.tuple #[.agg #[.int .i64 u0, .int .i64 u1, .slice bq.1.1 nn2 bq.1.2, .slice bq.2.1 nb2 bq.2.2, .int .u32 la2], .bool true]) w' ⟨bq, rfl, fun _ _ _ => rfl, (by rw [if_neg (by simp [XInv.up, hs1])]; rw [if_pos (by simp [XInv.up, hs0])]; exact hW)⟩
   ·refine XInv.yes_tab [(47, 7)] (by kernel_rfl) ?_
    have hs0 := (XInv.reach hclo [] 7 6 (by kernel_rfl) (hneed 7 (by kernel_rfl)))
    have hs1 := hcl 10 (by decide) (by kernel_rfl)
    rw [if_neg (by rw [hs1]; decide)] at hW
    rw [if_pos hs0] at hW
    obtain ⟨v1, okn1, hD1, hM1, hk1⟩ := id hW
    have y0 := (blk_cell hk1 0).trans rfl
    have y1 := (blk_cell hk1 1).trans rfl
    have y2 := (blk_cell hk1 2).trans rfl
    have y3 := (blk_cell hk1 3).trans rfl
    have y4 := (blk_cell hk1 4).trans rfl
    have g0 := blk_frozen hk1 0
    have g1 := blk_frozen hk1 1
    have g2 := blk_frozen hk1 2
    have g3 := blk_frozen hk1 3
    have g4 := blk_frozen hk1 4
    clear hcl hneed hclo
    intro Q2 K2 hK2
    simp only [XInv.puts, XPrint.pw]
    go_simp
    exact hK2.out (.agg #[.int .i64 u0, .int .i64 u1, .slice bq.1.1 nn2 bq.1.2, .slice bq.2.1 nb2 bq.2.2, .int .u32 la2]) w' ⟨bq, rfl, fun _ _ _ => rfl, (by rw [if_neg (by simp [XInv.up, hs1])]; rw [if_pos (by simp [XInv.up, hs0])]; exact hW)⟩
   ·refine XInv.yes_tab [(47, 7)] (by kernel_rfl) ?_
    have hs0 := (XInv.reach hclo [] 7 6 (by kernel_rfl) (hneed 7 (by kernel_rfl)))
    cases hs1 : lb 10
    case false =>
     rw [if_neg (by rw [hs1]; decide)] at hW
     rw [if_pos hs0] at hW
     obtain ⟨v1, okn1, hD1, hM1, hk1⟩ := id hW
     have y0 := (blk_cell hk1 0).trans rfl
     have y1 := (blk_cell hk1 1).trans rfl
     have y2 := (blk_cell hk1 2).trans rfl
     have y3 := (blk_cell hk1 3).trans rfl
     have y4 := (blk_cell hk1 4).trans rfl
     have g0 := blk_frozen hk1 0
     have g1 := blk_frozen hk1 1
     have g2 := blk_frozen hk1 2
     have g3 := blk_frozen hk1 3
     have g4 := blk_frozen hk1 4
     clear hcl hneed hclo
     intro Q2 K2 hK2
     simp only [XInv.puts, XPrint.pw]
     go_simp
     exact hK2.out (.bool true) w' ⟨bq, rfl, fun _ _ _ => rfl, (by rw [if_neg (by simp [XInv.up, hs1])]; rw [if_pos (by simp [XInv.up, hs0])]; exact hW)⟩
    case true =>
     rw [if_pos hs1] at hW
     clear hcl hneed hclo
     intro Q2 K2 hK2
     simp only [XInv.puts, XPrint.pw]
     go_simp
     exact hK2.out (.bool true) w' ⟨bq, rfl, fun _ _ _ => rfl, (by rw [if_pos (by simp [XInv.up, hs1])]; exact hW)⟩
   ·refine XInv.yes_tab [(55, 8), (47, 7), (54, 6), (53, 5), (52, 4), (51, 3), (50, 2), (49, 1), (48, 0)] (by kernel_rfl) ?_
    have hs0 := hneed 6 (by kernel_rfl)
    have hs1 := hlb
    rw [if_neg (by rw [hs1]; decide)] at hW
    rw [if_pos hs0] at hW
    obtain ⟨v1, okn1, hD1, hM1, hk1⟩ := id hW
    have y0 := (blk_cell hk1 0).trans rfl
    have y1 := (blk_cell hk1 1).trans rfl
    have y2 := (blk_cell hk1 2).trans rfl
    have y3 := (blk_cell hk1 3).trans rfl
    have y4 := (blk_cell hk1 4).trans rfl
    have g0 := blk_frozen hk1 0
    have g1 := blk_frozen hk1 1
    have g2 := blk_frozen hk1 2
    have g3 := blk_frozen hk1 3
    have g4 := blk_frozen hk1 4
    clear hcl hneed
    intro Q2 K2 hK2
    simp only [XInv.puts, XPrint.pw] at hK2 ⊢
    go_simp
    exact hK2.out undef _ ⟨bq, rfl, fun _ _ _ => rfl, (by rw [if_pos (by simp [XInv.up, hs1])]; exact ⟨w', v1, okn1, hD1, hM1, hk1, rfl⟩)⟩
  ·intro bq w' hW
   refine XInv.end_nil [(56, 9), (55, 8), (47, 7), (54, 6), (53, 5), (52, 4), (51, 3), (50, 2), (49, 1), (48, 0)] (by kernel_rfl) (by kernel_rfl) ?_
   simp only [XInv.puts, XPrint.pw]
   rw [if_pos (by kernel_rfl)] at hW
   obtain ⟨wz, v1, okn1, hD1, hM1, hk1, rfl⟩ := hW
   have hQ := but5T (But.refl (fun k => k = q) wz) (q := q) rfl (.int .i64 u0) (.int .i64 u1) (.slice bq.1.1 nn2 bq.1.2) (.slice bq.2.1 nb2 bq.2.2) (.int .u32 la2)
   have hD2 := hD1.put hQ XQ.out.2 (fun hm => hM1 (.inl hm)) XQ.out.1 (fun hm => hM1 (.inr (.inl hm))) (fun hm => hM1 (.inr (.inr hm)))
   have hk2 := set5 (b0 := .int .i64 u0) (b1 := .int .i64 u1) (b2 := .slice bq.1.1 nn2 bq.1.2) (b3 := .slice bq.2.1 nb2 bq.2.2) (b4 := .int .u32 la2) hk1
   have E := Aside0.mk (And.intro hD2 (And.intro hk2 hM1))
   clear hQ hD2 hk2 hD1 hM1 hk1
   go_wp2
   go_roundg (l.length - (j + 1))
   case measure => omega
   case rel => exact ⟨j + 1, ns2, v1, bx2, la2, _, _, okn1, rfl, by go_num, by omega, by have := X.out.2.2.2.1; have := X.out.2.2.2.2.1; omega, E.out.1, E.out.2.1, E.out.2.2⟩
 ·have hlt' : ¬ (j : Int) < (l.length : Int) := by omega
  have hla : last ≤ 4000000000 := by omega
  have X := Aside0.mk hD.hs
  clear hD hk hM hlast
  go_wp2_with fail
  refine X.out.boxes.mono ?_
  rintro e w7 ⟨vw, rfl, hRw, hb7⟩
  obtain ⟨Aw, cw, rfl⟩ := Kd.R_slice hRw
  have hbl := X.out.len
  obtain ⟨nb, hnb⟩ : ∃ nb, bx.length = nb := ⟨_, rfl⟩
  rw [hnb] at hRw hbl ⊢
  have X7 := Aside0.mk (And.intro ((X.out.same hb7).add hRw (X.out.up (Nat.le_refl _)) (fun k hk he => by have := Kd.R_base hRw k hk; have := X.out.led.lt.2.2.2 k he; omega)) hnb)
  clear hRw hb7 hnb
  dsimp only
  go_wp2_with fail
  refine X7.out.1.free.mono ?_
  rintro e w8 ⟨rfl, hb8⟩
  obtain ⟨fr, hfr⟩ : ∃ fr, freeN u0 u1 ns bx = fr := ⟨_, rfl⟩
  rw [hfr]
  have X8 := Aside0.mk (And.intro (X7.out.1.same hb8) hfr)
  clear hb8 hfr
  dsimp only
  go_wp2_with fail
  refine (lcopy w8 X8.out.1.led X8.out.1.len).mono ?_
  rintro e w9 ⟨p2, b2, g2, v2, rfl, hb9, hL9⟩
  have kx := blk_below HA.out.2.2.2.2.2.2.2.2.1 (below_step X8.out.1.below hb9)
  have hmw : ∀ k, May p g v k → k < w8.heap.size := fun k hk => by
   have h := X8.out.1.led.lt
   rcases hk with (hk | hk) | hk
   ·omega
   ·omega
   ·exact h.2.2.2 k hk
  have C9 := Aside0.mk (And.intro hL9 (And.intro hmw (And.intro kx hb9.size)))
  have X9 := Aside0.mk (X8.out.1.same hb9)
  clear hb9 hL9 hmw
  have x4 := (blk_cell kx 4).trans rfl
  have x5 := (blk_cell kx 5).trans rfl
  have x6 := (blk_cell kx 6).trans rfl
  clear kx
  dsimp only
  go_wp2_with fail
  refine (X9.out.giveM z4 z6 z5 hla).mono ?_
  rintro e w10 ⟨vo, v3, rfl, hS10, hb10, ho10, hvo10⟩
  obtain ⟨gv, hgv⟩ : ∃ gv, given u0 u1 ns bx last z4 z5 z6 = gv := ⟨_, rfl⟩
  obtain ⟨gc, hgc⟩ : ∃ gc, gcode u0 u1 ns bx z4 z6 = gc := ⟨_, rfl⟩
  have tb := fun h => taken_back (u0 := u0) (u1 := u1) (ns := ns) (bx := bx) (last := last) (o := z4) (s := z5) (n := z6) X9.out.good h
  have gn0 := fun h => given_none (u0 := u0) (u1 := u1) (ns := ns) (bx := bx) (last := last) (o := z4) (s := z5) (n := z6) h
  rw [hgc] at tb gn0 ⊢
  rw [hgv] at hS10 tb gn0
  have hRo := (hS10.rows _ (List.mem_cons_self ..)).1
  obtain ⟨Ao, co, e1⟩ := Kd.R_slice hRo
  dsimp only at e1
  subst e1
  obtain ⟨gn, hgn⟩ : ∃ gn, gv.length = gn := ⟨_, rfl⟩
  rw [hgn] at hS10 hRo tb ⊢
  obtain ⟨la4, hla4⟩ : ∃ la4, last + (gn : Int) = la4 := ⟨_, rfl⟩
  rw [hla4] at hS10
  have hlt9 := C9.out.1.lt
  have hnm : ∀ k, w8.heap.size ≤ k → ¬ May p g v k := fun k hk hm => by have := C9.out.2.1 k hm; omega
  have L10 := C9.out.1.but hb10 (hnm _ C9.out.1.ne.2.2) (hnm _ C9.out.1.tab.base1) (hnm _ C9.out.1.tab.base2) (fun k hk => hnm k (Kd.R_base C9.out.1.row k hk))
  have hm3 : ∀ k, w8.heap.size ≤ k → k < w9.heap.size → ¬ May p g v3 k := fun k hk hk2 hm => by
   have h8 := X8.out.1.led.lt
   rcases hm with (hm | hm) | hm
   ·omega
   ·omega
   ·rcases ho10 k hm with h | h
    ·have := h8.2.2.2 k h
     omega
    ·omega
  have kx := hb10.heap C9.out.2.2.1 (fun hm => by have := X9.out.may _ hm; have := blk_lt HA.out.2.2.2.2.2.2.2.2.1; omega)
  have X10 := Aside0.mk (And.intro hS10 (And.intro L10 (And.intro hm3 (And.intro kx (And.intro hgn hRo)))))
  have TB := Aside0.mk tb
  have GN := Aside0.mk gn0
  clear hS10 hb10 ho10 hvo10 hgv hgc tb gn0 hRo hgn hla4 hnm L10 hm3 kx x4 x5 x6
  dsimp only
  obtain ⟨q0, hq0⟩ : ∃ q0, (gc == 0) = q0 := ⟨_, rfl⟩
  go_upto_if 75 with (fail)
  go_cut [17, 18] from 76 to 119 (fun v17 v18 wx => ∃ v4 la5, HS W0 wx p b g u0 u1 ns v4 bx la5 [(.slice Aw nb cw, bx)] ∧ LedAt wx w8.heap.size p2 b2 g2 u0 u1 ns v2 bx last)
  case first =>
   cases q0
   case true =>
    have h0 : gc = 0 := by simpa using hq0
    subst h0
    as_aux_lemma =>
    obtain ⟨tb1, tb2, tb3, tb4⟩ := TB.out rfl
    have hfg := free_given (u0 := u0) (u1 := u1) (ns := ns) (bx := bx) (gv := gv)
    rw [X8.out.2, X10.out.2.2.2.2.1] at hfg
    have hln : (bx ++ gv).length = nb + gn := by rw [List.length_append, X7.out.2, X10.out.2.2.2.2.1]
    obtain ⟨n2, hn2⟩ : ∃ n2, nb + gn = n2 := ⟨_, rfl⟩
    rw [hn2] at hln
    have hfb := LG.len X8.out.1.good
    rw [X8.out.2] at hfb
    have hzz := gcode_zero (u0 := u0) (u1 := u1) (ns := ns) (bx := bx) (o := z4) (n := z6)
    have hfb2 := LG.len X10.out.1.good
    rw [hfg, hln] at hfb2
    have FC := fun (w' : World) (hB : Below w10.heap.size w10 w') => (X10.out.1.same hB).free
    rw [hfg] at FC
    obtain ⟨fr2, hfr2⟩ : ∃ fr2, fr - (gn : Int) = fr2 := ⟨_, rfl⟩
    rw [hfr2] at FC hfb2
    have hw1 : IntKind.i64.wrap (fr - z6) = fr2 := by rw [IntKind.wrap_i64]; omega
    have hw2 : IntKind.i64.wrap ((nb : Int) + (gn : Int)) = (n2 : Int) := by rw [IntKind.wrap_i64]; omega
    have e1 : (fr2 != fr2) = false := by simp
    have e2 : ((n2 : Int) != (n2 : Int)) = false := by simp
    have hwas := (X10.out.1.rows _ (List.mem_cons_of_mem _ (List.mem_cons_self ..))).1
    have WC := (Kd.R_reads' hwas).2.2
    dsimp only at WC
    rw [X7.out.2] at WC
    have SMC := fun (w' : World) (hB : Below w10.heap.size w10 w') (A1 : Option Addr) (c1 : Nat) (hR : RB w' w10.heap.size (.slice A1 nb c1) bx) => dsame bx A1 Aw nb c1 cw w' (by have h := (Kd.R_reads' hR).2.2; rw [X7.out.2] at h; exact h) (Kd.C_below WC hB) X7.out.2 hbl
    have hgn2 : gn ≤ n2 := by omega
    have FC := Aside0.mk FC
    have SMC := Aside0.mk SMC
    have T := Aside0.mk (And.intro tb1 (And.intro tb2 (And.intro tb3 hln)))
    have WCX := Aside0.mk WC
    clear tb1 tb2 tb3 tb4 hfg hln hn2 hfb hzz hfb2 hfr2 hwas WC
    go_upto_region 12 with (fail)
    refine XInv.region_tab [] [[], [0], [], [], [3], [2, 4], [1, 5], [6, 1], [7], [8, 7, 7], [9, 7], [7], [11, 7], [7], [13, 7], [12, 14, 7], [10, 15, 7], [7, 16], [17, 9], [18], [19, 18, 18], [18], [20, 21, 20, 18], [22, 18], [18, 23]] (fun bq jq => match jq with
      | 0 => .pointer (some ⟨p, 0, none⟩)
      | 1 => .int .i64 fr2
      | 2 => .int .i64 fr
      | 3 => .pointer (some ⟨w.heap.size + 1, 6, none⟩)
      | 4 => .int .i64 z6
      | 5 => .int .i64 fr2
      | 6 => .bool false
      | 7 => .bool false
      | 8 => .pointer (some ⟨p, 0, none⟩)
      | 9 => .slice bq.1.1 n2 bq.1.2
      | 10 => .int .i64 n2
      | 11 => .slice Aw nb cw
      | 12 => .int .i64 nb
      | 13 => .slice Ao gn co
      | 14 => .int .i64 gn
      | 15 => .int .i64 n2
      | 16 => .bool false
      | 17 => .bool false
      | 18 => .bool false
      | 19 => .pointer (some ⟨p2, 0, none⟩)
      | 20 => .slice bq.2.1 nb bq.2.2
      | 21 => .slice Aw nb cw
      | 22 => .bool true
      | 23 => .bool false
      | 24 => .bool false
      | _ => undef)
      (fun bq l w' => if l 20 = true then (Below w10.heap.size w10 w' ∧ RB w' w10.heap.size (.slice bq.2.1 nb bq.2.2) bx) else Below w10.heap.size w10 w')
      (by kernel_rfl) rfl (by kernel_rfl) (by kernel_rfl) (by kernel_rfl) ⟨(((none, 0), (none, 0)) : (Option Addr × Nat) × (Option Addr × Nat)), (by rw [if_neg (by simp)]; exact below_drew (Below.refl _ _))⟩ ?_ ?_
    ·refine cs25 _ ?_ ?_ ?_ ?_ ?_ ?_ ?_ ?_ ?_ ?_ ?_ ?_ ?_ ?_ ?_ ?_ ?_ ?_ ?_ ?_ ?_ ?_ ?_ ?_ ?_
     all_goals intro hds oi hoi bq lb w' hW hlb hcl hneed hclo
     all_goals simp only [List.getElem?_toArray, List.getElem?_cons_succ, List.getElem?_cons_zero, Option.some.injEq] at hoi
     all_goals subst hoi
     ·refine XInv.yes_tab [] (by kernel_rfl) ?_
      have hs0 : lb 20 = false := (Bool.eq_false_or_eq_true (lb 20)).elim (fun h => absurd (XInv.reach hclo [18, 9, 7, 1] 20 0 (by kernel_rfl) h) (by rw [hlb]; decide)) id
      rw [if_neg (by rw [hs0]; decide)] at hW
      have x6 := (blk_cell (blk_below X10.out.2.2.2.1 hW) 6).trans rfl
      clear hcl hneed hclo
      intro Q2 K2 hK2
      simp only [XInv.puts, XPrint.pw]
      go_simp
      exact hK2.out (.pointer (some ⟨p, 0, none⟩)) w' ⟨bq, rfl, fun _ _ _ => rfl, (by rw [if_neg (by simp [XInv.up, hs0])]; exact hW)⟩
     ·refine XInv.yes_tab [(76, 0)] (by kernel_rfl) ?_
      have hs0 : lb 20 = false := (Bool.eq_false_or_eq_true (lb 20)).elim (fun h => absurd (XInv.reach hclo [18, 9, 7] 20 1 (by kernel_rfl) h) (by rw [hlb]; decide)) id
      rw [if_neg (by rw [hs0]; decide)] at hW
      have x6 := (blk_cell (blk_below X10.out.2.2.2.1 hW) 6).trans rfl
      clear hcl hneed
      intro Q2 K2 hK2
      simp only [XInv.puts, XPrint.pw]
      go_simp
      go_at_call 26
      (with_reducible refine (FC.out _ hW).mono ?_)
      rintro e wz ⟨rfl, hb⟩
      exact hK2.out (.int .i64 fr2) wz ⟨bq, rfl, fun _ _ _ => rfl, (by rw [if_neg (by simp [XInv.up, hs0])]; exact below_step hW hb)⟩
     ·refine XInv.yes_tab [] (by kernel_rfl) ?_
      have hs0 : lb 20 = false := (Bool.eq_false_or_eq_true (lb 20)).elim (fun h => absurd (XInv.reach hclo [18, 9, 7, 6, 5] 20 2 (by kernel_rfl) h) (by rw [hlb]; decide)) id
      rw [if_neg (by rw [hs0]; decide)] at hW
      have x6 := (blk_cell (blk_below X10.out.2.2.2.1 hW) 6).trans rfl
      clear hcl hneed hclo
      intro Q2 K2 hK2
      simp only [XInv.puts, XPrint.pw]
      go_simp
      exact hK2.out (.int .i64 fr) w' ⟨bq, rfl, fun _ _ _ => rfl, (by rw [if_neg (by simp [XInv.up, hs0])]; exact hW)⟩
     ·refine XInv.yes_tab [] (by kernel_rfl) ?_
      have hs0 : lb 20 = false := (Bool.eq_false_or_eq_true (lb 20)).elim (fun h => absurd (XInv.reach hclo [18, 9, 7, 6, 5, 4] 20 3 (by kernel_rfl) h) (by rw [hlb]; decide)) id
      rw [if_neg (by rw [hs0]; decide)] at hW
      have x6 := (blk_cell (blk_below X10.out.2.2.2.1 hW) 6).trans rfl
      clear hcl hneed hclo
      intro Q2 K2 hK2
      simp only [XInv.puts, XPrint.pw]
      go_simp
      exact hK2.out (.pointer (some ⟨w.heap.size + 1, 6, none⟩)) w' ⟨bq, rfl, fun _ _ _ => rfl, (by rw [if_neg (by simp [XInv.up, hs0])]; exact hW)⟩
     ·refine XInv.yes_tab [(79, 3)] (by kernel_rfl) ?_
      have hs0 : lb 20 = false := (Bool.eq_false_or_eq_true (lb 20)).elim (fun h => absurd (XInv.reach hclo [18, 9, 7, 6, 5] 20 4 (by kernel_rfl) h) (by rw [hlb]; decide)) id
      rw [if_neg (by rw [hs0]; decide)] at hW
      have x6 := (blk_cell (blk_below X10.out.2.2.2.1 hW) 6).trans rfl
      clear hcl hneed hclo
      intro Q2 K2 hK2
      simp only [XInv.puts, XPrint.pw]
      go_simp
      exact hK2.out (.int .i64 z6) w' ⟨bq, rfl, fun _ _ _ => rfl, (by rw [if_neg (by simp [XInv.up, hs0])]; exact hW)⟩
     ·refine XInv.yes_tab [(80, 4), (78, 2)] (by kernel_rfl) ?_
      have hs0 : lb 20 = false := (Bool.eq_false_or_eq_true (lb 20)).elim (fun h => absurd (XInv.reach hclo [18, 9, 7, 6] 20 5 (by kernel_rfl) h) (by rw [hlb]; decide)) id
      rw [if_neg (by rw [hs0]; decide)] at hW
      have x6 := (blk_cell (blk_below X10.out.2.2.2.1 hW) 6).trans rfl
      clear hcl hneed hclo
      intro Q2 K2 hK2
      simp only [XInv.puts, XPrint.pw]
      go_simp
      exact hK2.out (.int .i64 fr2) w' ⟨bq, rfl, fun _ _ _ => rfl, (by rw [if_neg (by simp [XInv.up, hs0])]; exact hW)⟩
     ·refine XInv.yes_tab [(81, 5), (77, 1)] (by kernel_rfl) ?_
      have hs0 : lb 20 = false := (Bool.eq_false_or_eq_true (lb 20)).elim (fun h => absurd (XInv.reach hclo [18, 9, 7] 20 6 (by kernel_rfl) h) (by rw [hlb]; decide)) id
      rw [if_neg (by rw [hs0]; decide)] at hW
      have x6 := (blk_cell (blk_below X10.out.2.2.2.1 hW) 6).trans rfl
      clear hcl hneed hclo
      intro Q2 K2 hK2
      simp only [XInv.puts, XPrint.pw]
      go_simp
      exact hK2.out (.bool false) w' ⟨bq, rfl, fun _ _ _ => rfl, (by rw [if_neg (by simp [XInv.up, hs0])]; exact hW)⟩
     ·refine XInv.yes_tab [(82, 6), (77, 1)] (by kernel_rfl) ?_
      have hs0 : lb 20 = false := (Bool.eq_false_or_eq_true (lb 20)).elim (fun h => absurd (XInv.reach hclo [18, 9] 20 7 (by kernel_rfl) h) (by rw [hlb]; decide)) id
      rw [if_neg (by rw [hs0]; decide)] at hW
      have x6 := (blk_cell (blk_below X10.out.2.2.2.1 hW) 6).trans rfl
      clear hcl hneed hclo
      intro Q2 K2 hK2
      simp only [XInv.puts, XPrint.pw]
      go_simp
      exact hK2.out (.bool false) w' ⟨bq, rfl, fun _ _ _ => rfl, (by rw [if_neg (by simp [XInv.up, hs0])]; exact hW)⟩
     ·refine XInv.yes_tab [(83, 7)] (by kernel_rfl) ?_
      have hs0 : lb 20 = false := (Bool.eq_false_or_eq_true (lb 20)).elim (fun h => absurd (XInv.reach hclo [18, 9] 20 8 (by kernel_rfl) h) (by rw [hlb]; decide)) id
      rw [if_neg (by rw [hs0]; decide)] at hW
      have x6 := (blk_cell (blk_below X10.out.2.2.2.1 hW) 6).trans rfl
      clear hcl hneed hclo
      intro Q2 K2 hK2
      simp only [XInv.puts, XPrint.pw]
      go_simp
      exact hK2.out (.pointer (some ⟨p, 0, none⟩)) w' ⟨bq, rfl, fun _ _ _ => rfl, (by rw [if_neg (by simp [XInv.up, hs0])]; exact hW)⟩
     ·refine XInv.yes_tab [(84, 8), (83, 7)] (by kernel_rfl) ?_
      have hs0 : lb 20 = false := (Bool.eq_false_or_eq_true (lb 20)).elim (fun h => absurd (XInv.reach hclo [18] 20 9 (by kernel_rfl) h) (by rw [hlb]; decide)) id
      rw [if_neg (by rw [hs0]; decide)] at hW
      have x6 := (blk_cell (blk_below X10.out.2.2.2.1 hW) 6).trans rfl
      clear hcl hneed
      intro Q2 K2 hK2
      simp only [XInv.puts, XPrint.pw]
      go_simp
      go_at_call 13
      (with_reducible refine ((X10.out.1.same hW).boxes).mono ?_)
      rintro e wz ⟨va, rfl, hR, hb⟩
      obtain ⟨A1, c1, rfl⟩ := Kd.R_slice hR
      rw [T.out.2.2.2]
      exact hK2.out (.slice A1 n2 c1) wz ⟨((A1, c1), bq.2), rfl, (cs25 _ (fun _ => rfl) (fun _ => rfl) (fun _ => rfl) (fun _ => rfl) (fun _ => rfl) (fun _ => rfl) (fun _ => rfl) (fun _ => rfl) (fun _ => rfl) (fun hlj => absurd (hlb.symm.trans hlj) (by decide)) (fun hlj => absurd (hlb.symm.trans (XInv.reach hclo [] 10 9 (by kernel_rfl) hlj)) (by decide)) (fun _ => rfl) (fun _ => rfl) (fun _ => rfl) (fun _ => rfl) (fun _ => rfl) (fun hlj => absurd (hlb.symm.trans (XInv.reach hclo [10] 16 9 (by kernel_rfl) hlj)) (by decide)) (fun hlj => absurd (hlb.symm.trans (XInv.reach hclo [16, 10] 17 9 (by kernel_rfl) hlj)) (by decide)) (fun hlj => absurd (hlb.symm.trans (XInv.reach hclo [] 18 9 (by kernel_rfl) hlj)) (by decide)) (fun hlj => absurd (hlb.symm.trans (XInv.reach hclo [18] 19 9 (by kernel_rfl) hlj)) (by decide)) (fun hlj => absurd (hlb.symm.trans (XInv.reach hclo [18] 20 9 (by kernel_rfl) hlj)) (by decide)) (fun hlj => absurd (hlb.symm.trans (XInv.reach hclo [18] 21 9 (by kernel_rfl) hlj)) (by decide)) (fun hlj => absurd (hlb.symm.trans (XInv.reach hclo [18] 22 9 (by kernel_rfl) hlj)) (by decide)) (fun hlj => absurd (hlb.symm.trans (XInv.reach hclo [18] 23 9 (by kernel_rfl) hlj)) (by decide)) (fun hlj => absurd (hlb.symm.trans (XInv.reach hclo [18] 24 9 (by kernel_rfl) hlj)) (by decide))), (by rw [if_neg (by simp [XInv.up, hs0])]; exact below_step hW hb)⟩
     ·refine XInv.yes_tab [(85, 9), (83, 7)] (by kernel_rfl) ?_
      have hs0 : lb 20 = false := (Bool.eq_false_or_eq_true (lb 20)).elim (fun h => absurd (XInv.reach hclo [18, 17, 16] 20 10 (by kernel_rfl) h) (by rw [hlb]; decide)) id
      rw [if_neg (by rw [hs0]; decide)] at hW
      have x6 := (blk_cell (blk_below X10.out.2.2.2.1 hW) 6).trans rfl
      clear hcl hneed hclo
      intro Q2 K2 hK2
      simp only [XInv.puts, XPrint.pw]
      go_simp
      exact hK2.out (.int .i64 n2) w' ⟨bq, rfl, fun _ _ _ => rfl, (by rw [if_neg (by simp [XInv.up, hs0])]; exact hW)⟩
     ·refine XInv.yes_tab [(83, 7)] (by kernel_rfl) ?_
      have hs0 : lb 20 = false := (Bool.eq_false_or_eq_true (lb 20)).elim (fun h => absurd (XInv.reach hclo [18, 17, 16, 15, 12] 20 11 (by kernel_rfl) h) (by rw [hlb]; decide)) id
      rw [if_neg (by rw [hs0]; decide)] at hW
      have x6 := (blk_cell (blk_below X10.out.2.2.2.1 hW) 6).trans rfl
      clear hcl hneed hclo
      intro Q2 K2 hK2
      simp only [XInv.puts, XPrint.pw]
      go_simp
      exact hK2.out (.slice Aw nb cw) w' ⟨bq, rfl, fun _ _ _ => rfl, (by rw [if_neg (by simp [XInv.up, hs0])]; exact hW)⟩
     ·refine XInv.yes_tab [(87, 11), (83, 7)] (by kernel_rfl) ?_
      have hs0 : lb 20 = false := (Bool.eq_false_or_eq_true (lb 20)).elim (fun h => absurd (XInv.reach hclo [18, 17, 16, 15] 20 12 (by kernel_rfl) h) (by rw [hlb]; decide)) id
      rw [if_neg (by rw [hs0]; decide)] at hW
      have x6 := (blk_cell (blk_below X10.out.2.2.2.1 hW) 6).trans rfl
      clear hcl hneed hclo
      intro Q2 K2 hK2
      simp only [XInv.puts, XPrint.pw]
      go_simp
      exact hK2.out (.int .i64 nb) w' ⟨bq, rfl, fun _ _ _ => rfl, (by rw [if_neg (by simp [XInv.up, hs0])]; exact hW)⟩
     ·refine XInv.yes_tab [(83, 7)] (by kernel_rfl) ?_
      have hs0 : lb 20 = false := (Bool.eq_false_or_eq_true (lb 20)).elim (fun h => absurd (XInv.reach hclo [18, 17, 16, 15, 14] 20 13 (by kernel_rfl) h) (by rw [hlb]; decide)) id
      rw [if_neg (by rw [hs0]; decide)] at hW
      have x6 := (blk_cell (blk_below X10.out.2.2.2.1 hW) 6).trans rfl
      clear hcl hneed hclo
      intro Q2 K2 hK2
      simp only [XInv.puts, XPrint.pw]
      go_simp
      exact hK2.out (.slice Ao gn co) w' ⟨bq, rfl, fun _ _ _ => rfl, (by rw [if_neg (by simp [XInv.up, hs0])]; exact hW)⟩
     ·refine XInv.yes_tab [(89, 13), (83, 7)] (by kernel_rfl) ?_
      have hs0 : lb 20 = false := (Bool.eq_false_or_eq_true (lb 20)).elim (fun h => absurd (XInv.reach hclo [18, 17, 16, 15] 20 14 (by kernel_rfl) h) (by rw [hlb]; decide)) id
      rw [if_neg (by rw [hs0]; decide)] at hW
      have x6 := (blk_cell (blk_below X10.out.2.2.2.1 hW) 6).trans rfl
      clear hcl hneed hclo
      intro Q2 K2 hK2
      simp only [XInv.puts, XPrint.pw]
      go_simp
      exact hK2.out (.int .i64 gn) w' ⟨bq, rfl, fun _ _ _ => rfl, (by rw [if_neg (by simp [XInv.up, hs0])]; exact hW)⟩
     ·refine XInv.yes_tab [(90, 14), (88, 12), (83, 7)] (by kernel_rfl) ?_
      have hs0 : lb 20 = false := (Bool.eq_false_or_eq_true (lb 20)).elim (fun h => absurd (XInv.reach hclo [18, 17, 16] 20 15 (by kernel_rfl) h) (by rw [hlb]; decide)) id
      rw [if_neg (by rw [hs0]; decide)] at hW
      have x6 := (blk_cell (blk_below X10.out.2.2.2.1 hW) 6).trans rfl
      clear hcl hneed hclo
      intro Q2 K2 hK2
      simp only [XInv.puts, XPrint.pw]
      go_simp
      exact hK2.out (.int .i64 n2) w' ⟨bq, rfl, fun _ _ _ => rfl, (by rw [if_neg (by simp [XInv.up, hs0])]; exact hW)⟩
     ·refine XInv.yes_tab [(91, 15), (86, 10), (83, 7)] (by kernel_rfl) ?_
      have hs0 : lb 20 = false := (Bool.eq_false_or_eq_true (lb 20)).elim (fun h => absurd (XInv.reach hclo [18, 17] 20 16 (by kernel_rfl) h) (by rw [hlb]; decide)) id
      rw [if_neg (by rw [hs0]; decide)] at hW
      have x6 := (blk_cell (blk_below X10.out.2.2.2.1 hW) 6).trans rfl
      clear hcl hneed hclo
      intro Q2 K2 hK2
      simp only [XInv.puts, XPrint.pw]
      go_simp
      exact hK2.out (.bool false) w' ⟨bq, rfl, fun _ _ _ => rfl, (by rw [if_neg (by simp [XInv.up, hs0])]; exact hW)⟩
     ·refine XInv.yes_tab [(92, 16), (83, 7)] (by kernel_rfl) ?_
      have hs0 : lb 20 = false := (Bool.eq_false_or_eq_true (lb 20)).elim (fun h => absurd (XInv.reach hclo [18] 20 17 (by kernel_rfl) h) (by rw [hlb]; decide)) id
      rw [if_neg (by rw [hs0]; decide)] at hW
      have x6 := (blk_cell (blk_below X10.out.2.2.2.1 hW) 6).trans rfl
      clear hcl hneed hclo
      intro Q2 K2 hK2
      simp only [XInv.puts, XPrint.pw]
      go_simp
      exact hK2.out (.bool false) w' ⟨bq, rfl, fun _ _ _ => rfl, (by rw [if_neg (by simp [XInv.up, hs0])]; exact hW)⟩
     ·refine XInv.yes_tab [(93, 17), (85, 9)] (by kernel_rfl) ?_
      have hs0 := hcl 20 (by decide) (by kernel_rfl)
      rw [if_neg (by rw [hs0]; decide)] at hW
      have x6 := (blk_cell (blk_below X10.out.2.2.2.1 hW) 6).trans rfl
      clear hcl hneed hclo
      intro Q2 K2 hK2
      simp only [XInv.puts, XPrint.pw]
      go_simp
      exact hK2.out (.bool false) w' ⟨bq, rfl, fun _ _ _ => rfl, (by rw [if_neg (by simp [XInv.up, hs0])]; exact hW)⟩
     ·refine XInv.yes_tab [(94, 18)] (by kernel_rfl) ?_
      have hs0 := hcl 20 (by decide) (by kernel_rfl)
      rw [if_neg (by rw [hs0]; decide)] at hW
      have x6 := (blk_cell (blk_below X10.out.2.2.2.1 hW) 6).trans rfl
      clear hcl hneed hclo
      intro Q2 K2 hK2
      simp only [XInv.puts, XPrint.pw]
      go_simp
      exact hK2.out (.pointer (some ⟨p2, 0, none⟩)) w' ⟨bq, rfl, fun _ _ _ => rfl, (by rw [if_neg (by simp [XInv.up, hs0])]; exact hW)⟩
     ·refine XInv.yes_tab [(95, 19), (94, 18)] (by kernel_rfl) ?_
      have hs0 := hlb
      rw [if_neg (by rw [hs0]; decide)] at hW
      have x6 := (blk_cell (blk_below X10.out.2.2.2.1 hW) 6).trans rfl
      clear hcl hneed
      intro Q2 K2 hK2
      simp only [XInv.puts, XPrint.pw]
      go_simp
      go_at_call 13
      (with_reducible refine (LedT.boxes w' (X10.out.2.1.below hW) X8.out.1.len).mono ?_)
      rintro e wz ⟨va, rfl, hR, hb⟩
      obtain ⟨A1, c1, rfl⟩ := Kd.R_slice hR
      rw [X7.out.2] at hR ⊢
      exact hK2.out (.slice A1 nb c1) wz ⟨(bq.1, (A1, c1)), rfl, (cs25 _ (fun _ => rfl) (fun _ => rfl) (fun _ => rfl) (fun _ => rfl) (fun _ => rfl) (fun _ => rfl) (fun _ => rfl) (fun _ => rfl) (fun _ => rfl) (fun _ => rfl) (fun _ => rfl) (fun _ => rfl) (fun _ => rfl) (fun _ => rfl) (fun _ => rfl) (fun _ => rfl) (fun _ => rfl) (fun _ => rfl) (fun _ => rfl) (fun _ => rfl) (fun hlj => absurd (hlb.symm.trans hlj) (by decide)) (fun _ => rfl) (fun hlj => absurd (hlb.symm.trans (XInv.reach hclo [] 22 20 (by kernel_rfl) hlj)) (by decide)) (fun hlj => absurd (hlb.symm.trans (XInv.reach hclo [22] 23 20 (by kernel_rfl) hlj)) (by decide)) (fun hlj => absurd (hlb.symm.trans (XInv.reach hclo [23, 22] 24 20 (by kernel_rfl) hlj)) (by decide))), (by rw [if_pos (by simp [XInv.up, hs0])]; exact ⟨below_step hW hb, Kd.R_lower hR hW.size⟩)⟩
     ·refine XInv.yes_tab [(94, 18)] (by kernel_rfl) ?_
      cases hs0 : lb 20
      case false =>
       rw [if_neg (by rw [hs0]; decide)] at hW
       have x6 := (blk_cell (blk_below X10.out.2.2.2.1 hW) 6).trans rfl
       clear hcl hneed hclo
       intro Q2 K2 hK2
       simp only [XInv.puts, XPrint.pw]
       go_simp
       exact hK2.out (.slice Aw nb cw) w' ⟨bq, rfl, fun _ _ _ => rfl, (by rw [if_neg (by simp [XInv.up, hs0])]; exact hW)⟩
      case true =>
       rw [if_pos hs0] at hW
       have x6 := (blk_cell (blk_below X10.out.2.2.2.1 hW.1) 6).trans rfl
       clear hcl hneed hclo
       intro Q2 K2 hK2
       simp only [XInv.puts, XPrint.pw]
       go_simp
       exact hK2.out (.slice Aw nb cw) w' ⟨bq, rfl, fun _ _ _ => rfl, (by rw [if_pos (by simp [XInv.up, hs0])]; exact hW)⟩
     ·refine XInv.yes_tab [(97, 21), (96, 20), (94, 18)] (by kernel_rfl) ?_
      have hs0 := hneed 20 (by kernel_rfl)
      rw [if_pos hs0] at hW
      have x6 := (blk_cell (blk_below X10.out.2.2.2.1 hW.1) 6).trans rfl
      clear hcl hneed
      intro Q2 K2 hK2
      simp only [XInv.puts, XPrint.pw]
      go_simp
      go_at_call 29
      (with_reducible refine (SMC.out _ hW.1 _ _ hW.2).mono ?_)
      rintro e wz ⟨rfl, hb⟩
      exact hK2.out (.bool true) wz ⟨bq, rfl, fun _ _ _ => rfl, (by rw [if_pos (by simp [XInv.up, hs0])]; exact ⟨below_step hW.1 hb, Kd.R_below hW.2 hb⟩)⟩
     ·refine XInv.yes_tab [(98, 22), (94, 18)] (by kernel_rfl) ?_
      have hs0 := (XInv.reach hclo [] 22 20 (by kernel_rfl) (hneed 22 (by kernel_rfl)))
      rw [if_pos hs0] at hW
      have x6 := (blk_cell (blk_below X10.out.2.2.2.1 hW.1) 6).trans rfl
      clear hcl hneed hclo
      intro Q2 K2 hK2
      simp only [XInv.puts, XPrint.pw]
      go_simp
      exact hK2.out (.bool false) w' ⟨bq, rfl, fun _ _ _ => rfl, (by rw [if_pos (by simp [XInv.up, hs0])]; exact hW)⟩
     ·refine XInv.yes_tab [(99, 23), (94, 18)] (by kernel_rfl) ?_
      have hs0 := (XInv.reach hclo [22] 23 20 (by kernel_rfl) (hneed 23 (by kernel_rfl)))
      rw [if_pos hs0] at hW
      have x6 := (blk_cell (blk_below X10.out.2.2.2.1 hW.1) 6).trans rfl
      clear hcl hneed hclo
      intro Q2 K2 hK2
      simp only [XInv.puts, XPrint.pw]
      go_simp
      exact hK2.out (.bool false) w' ⟨bq, rfl, fun _ _ _ => rfl, (by rw [if_pos (by simp [XInv.up, hs0])]; exact hW)⟩
    ·intro bq w' hW
     refine XInv.end_nil [(100, 24), (99, 23), (98, 22), (97, 21), (96, 20), (95, 19), (94, 18), (93, 17), (92, 16), (91, 15), (90, 14), (89, 13), (88, 12), (87, 11), (86, 10), (85, 9), (84, 8), (83, 7), (82, 6), (81, 5), (80, 4), (79, 3), (78, 2), (77, 1), (76, 0)] (by kernel_rfl) (by kernel_rfl) ?_
     simp only [XInv.puts, XPrint.pw]
     rw [if_pos (by kernel_rfl)] at hW
     obtain ⟨w12, hw12⟩ : ∃ w12, w' = w12 := ⟨_, rfl⟩
     rw [hw12] at hW ⊢
     have kx := blk_below X10.out.2.2.2.1 hW.1
     have X12 := Aside0.mk (And.intro (X10.out.1.same hW.1) (And.intro (X10.out.2.1.below hW.1) hW.1.size))
     clear hW hw12
     have x4 := (blk_cell kx 4).trans rfl
     have x5 := (blk_cell kx 5).trans rfl
     have x6 := (blk_cell kx 6).trans rfl
     clear kx
     go_wp2_with fail
     refine (X12.out.1.takeB z4 z6 z5).mono ?_
     rintro e w13 ⟨vk, v4, rfl, hS13, hb13, ho13, hvk13⟩
     rw [T.out.1]
     rw [T.out.2.1] at hS13
     rw [T.out.2.2.1] at hS13
     have hRk := (hS13.rows _ (List.mem_cons_self ..)).1
     obtain ⟨Ak, ck, e1⟩ := Kd.R_slice hRk
     dsimp only at e1
     subst e1
     rw [X10.out.2.2.2.2.1] at hS13 hRk ⊢
     have CK := (Kd.R_reads' hRk).2.2
     have CO := (Kd.R_reads' (hS13.rows _ (List.mem_cons_of_mem _ (List.mem_cons_self ..))).1).2.2
     dsimp only at CK CO
     rw [X10.out.2.2.2.2.1] at CK CO
     have l9 := C9.out.1.lt
     have hm := fun k hk1 hk2 => X10.out.2.2.1 k hk1 hk2
     have L13 := X12.out.2.1.but hb13 (hm _ C9.out.1.ne.2.2 (by omega)) (hm _ C9.out.1.tab.base1 (by omega)) (hm _ C9.out.1.tab.base2 (by omega)) (fun k hk => hm k (Kd.R_base C9.out.1.row k hk) (l9.2.2.2 k hk))
     have hgl : gn ≤ 1000000 := by have := X10.out.1.len; rw [T.out.2.2.2] at this; omega
     have X13 := Aside0.mk (And.intro (hS13.keep (rows' := [(.slice Aw nb cw, bx)]) (fun r hr => List.mem_cons_of_mem _ (List.mem_cons_of_mem _ hr))) (And.intro L13 (And.intro CK (And.intro CO hgl))))
     clear hS13 hb13 ho13 hvk13 hRk CK CO l9 hm L13 hgl x4 x5 x6
     dsimp only
     go_wp2_with fail
     refine (dsame gv Ak Ao gn ck co w13 X13.out.2.2.1 X13.out.2.2.2.1 X10.out.2.2.2.2.1 X13.out.2.2.2.2).mono ?_
     rintro e w14 ⟨rfl, hb14⟩
     have X14 := Aside0.mk (And.intro (X13.out.1.same hb14) (X13.out.2.1.below hb14))
     clear hb14
     dsimp only
     go_wp2
     go_meet
     case rel => exact ⟨v4, la4, X14.out.1, X14.out.2⟩
   case false =>
    have h0 : gc ≠ 0 := by simpa using hq0
    have hg0 := GN.out h0
    have S11 : HS W0 w10 p b g u0 u1 ns v3 bx la4 [(.slice Aw nb cw, bx)] := by
     have h := X10.out.1.keep (rows' := [(.slice Aw nb cw, bx)]) (fun r hr => List.mem_cons_of_mem _ hr)
     rw [hg0, List.append_nil] at h
     exact h
    have S11 := Aside0.mk S11
    clear h0 hg0 hq0
    go_wp2
    go_meet
    case rel => exact ⟨v3, la4, S11.out, X10.out.2.1⟩
  case rest =>
   obtain ⟨v4, la5, hS, hC⟩ := hcut
   have tf : (fr == fr) = true := by simp
   have hwas := Kd.R_reads' (hS.rows _ (List.mem_cons_self ..)).1
   have CW := hwas.2.2
   dsimp only at CW
   rw [X7.out.2] at CW
   have S := Aside0.mk (And.intro hS (And.intro hC CW))
   clear hS hC hwas CW
   go_wp2_with fail
   refine S.out.1.boxes.mono ?_
   rintro e w20 ⟨va, rfl, hRa, hb20⟩
   obtain ⟨Aa, ca, rfl⟩ := Kd.R_slice hRa
   rw [X7.out.2] at hRa ⊢
   have CA := (Kd.R_reads' hRa).2.2
   rw [X7.out.2] at CA
   have S20 := Aside0.mk (And.intro hb20 CA)
   clear hRa hb20 CA
   dsimp only
   go_wp2_with fail
   refine (dsame bx Aa Aw nb ca cw w20 S20.out.2 (Kd.C_below S.out.2.2 S20.out.1) X7.out.2 hbl).mono ?_
   rintro e w21 ⟨rfl, hb21⟩
   have S21 := Aside0.mk (below_step S20.out.1 hb21)
   clear hb21 S20
   dsimp only
   go_wp2_with fail
   refine (S.out.1.same S21.out).free.mono ?_
   rintro e w22 ⟨rfl, hb22⟩
   rw [X8.out.2]
   have S22 := Aside0.mk (below_step S21.out hb22)
   clear hb22 S21
   dsimp only
   go_wp2_with fail
   refine (LedT.boxes w22 (S.out.2.1.below S22.out) S.out.1.len).mono ?_
   rintro e w23 ⟨va, rfl, hRa, hb23⟩
   obtain ⟨Ac, cc, rfl⟩ := Kd.R_slice hRa
   rw [X7.out.2] at hRa ⊢
   have CA := (Kd.R_reads' hRa).2.2
   rw [X7.out.2] at CA
   have S23 := Aside0.mk (And.intro (below_step S22.out hb23) CA)
   clear hRa hb23 CA S22
   dsimp only
   go_wp2_with fail
   refine (dsame bx Ac Aw nb cc cw w23 S23.out.2 (Kd.C_below S.out.2.2 S23.out.1) X7.out.2 hbl).mono ?_
   rintro e w24 ⟨rfl, hb24⟩
   have S24 := Aside0.mk (below_step S23.out.1 hb24)
   clear hb24 S23
   dsimp only
   go_wp2_with fail
   refine (LedT.free w24 (S.out.2.1.below S24.out) S.out.1.good.nodes S.out.1.len).mono ?_
   rintro e w25 ⟨rfl, hb25⟩
   rw [X8.out.2]
   have S25 := Aside0.mk (below_step S24.out hb25)
   clear hb25 S24
   dsimp only
   go_wp2_with fail
   refine (head w25).mono ?_
   rintro e w26 ⟨rfl, hb26⟩
   have Z := Aside0.mk hb26
   clear hb26
   dsimp only
   go_wp2
   go_ret
   exact ⟨rfl, below_step (below_then HA.out.2.2.2.2.2.1 HA.out.2.2.2.2.2.1.size (S.out.1.same S25.out).below) Z.out⟩
end Go.Proofs.YthibppfdonepoaaGreat.LedT
