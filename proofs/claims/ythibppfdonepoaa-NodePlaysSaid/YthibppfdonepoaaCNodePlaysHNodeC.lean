/- node.Table: Units, Lose. -/
import Derived.Test.YthibppfdonepoaaCNodePlaysHNodeB
set_option linter.unusedVariables false
namespace Go.Proofs.Ythibppfdonepoaa.NodeT
open Go.RowKit Go.MapKept Go.Maps Go.ChangeMaps Go.Proofs.Ythibppfdonepoaa.XBut Go.Proofs.Ythibppfdonepoaa.XMap Go.Proofs.Ythibppfdonepoaa.PNodePlays Go.Proofs.YthibppfdonepoaaW.PrintWords Go.Proofs.YthibppfdonepoaaW.PrintLast
/-- The node with a number. -/
def who (ns : List S39) (k : Int) : Option S39 := ns.find? fun x => x.f0 == k
theorem look_en (ns : List S39) (k : Int) : XMap.look (ns.map en) k = (who ns k).map nv := by
  unfold XMap.look who
  induction ns with
  | nil => rfl
  | cons a l ih =>
    rw [List.map_cons, List.find?_cons, List.find?_cons]
    have e : ((en a).1 == k) = (a.f0 == k) := rfl
    rw [e]
    cases a.f0 == k
    · exact ih
    · rfl
theorem zero39 (w : World) : (zeroValue 39).run Try.prog w = .ok (.agg #[.int .u32 0, .int .i64 0, .int .i64 0]) w := by
  kernel_rfl
theorem TabAt.found {w : World} {base b g : Nat} {u0 u1 k : Int} {ns : List S39} {x : S39} (hT : TabAt w base b g u0 u1 ns) (hk : (Lit.int .u32 k).wf = true) (h : who ns k = some x) :
    (Instr.lookup 61 (.map (some g)) (.int .u32 k) true).run Try.prog w = .ok (.tuple #[nv x, .bool true]) w ∧ (Instr.lookup 61 (.map (some g)) (.int .u32 k) false).run Try.prog w = .ok (nv x) w := by
  rcases hT.map.look (t := 61) Try.underlying61 Try.underlying37 hk with ⟨v, h1, h2, h3⟩ | ⟨h1, _⟩
  · rw [look_en, h] at h1
    cases h1
    exact ⟨h2, h3⟩
  · rw [look_en, h] at h1
    cases h1
theorem TabAt.lost {w : World} {base b g : Nat} {u0 u1 k : Int} {ns : List S39} (hT : TabAt w base b g u0 u1 ns) (hk : (Lit.int .u32 k).wf = true) (h : who ns k = none) :
    (Instr.lookup 61 (.map (some g)) (.int .u32 k) true).run Try.prog w = .ok (.tuple #[.agg #[.int .u32 0, .int .i64 0, .int .i64 0], .bool false]) w := by
  rcases hT.map.look (t := 61) Try.underlying61 Try.underlying37 hk with ⟨v, h1, _⟩ | ⟨_, h2⟩
  · rw [look_en, h] at h1
    cases h1
  · exact (h2 _ (zero39 w)).1
theorem TabAt.set_cells {w : World} {base b g : Nat} {u0 u1 : Int} {ns : List S39} (hT : TabAt w base b g u0 u1 ns) : w.cell? ⟨b, 0, none⟩ = some (.int .i64 u0) ∧ w.cell? ⟨b, 1, none⟩ = some (.int .i64 u1) ∧ w.cell? ⟨b, 2, none⟩ = some (.map (some g)) :=
  ⟨(blk_cell hT.blk 0).trans rfl, (blk_cell hT.blk 1).trans rfl, (blk_cell hT.blk 2).trans rfl⟩
set_option maxHeartbeats 4000000 in
set_option maxRecDepth 100000 in
theorem units_no (base b g : Nat) (u0 u1 i : Int) (ns : List S39) (w : World) (hT : TabAt w base b g u0 u1 ns) (hi : (Lit.int .u32 i).wf = true) (hx : who ns i = none) :
    Calls Try.prog 24 #[.pointer (some ⟨b, 0, none⟩), .int .u32 i] w fun e w' => e = .returned (.tuple #[.int .i64 0, .int .i64 7]) ∧ Below w.heap.size w w' := by
  have hl := hT.lt.1
  obtain ⟨c0, c1, c2⟩ := hT.set_cells
  have L := hT.lost hi hx
  have hu39 := Try.underlying39
  clear hT hi hx
  go_enter Try.func24, Try.ntmps24
  go_wp2_with fail
  refine (none_map b (some g) _ c2).mono ?_
  rintro e w1 ⟨rfl, rfl⟩
  simp only [Option.isNone]
  go_wp2
  go_ret2
  exact ⟨rfl, by first | exact (below_alloc (Below.refl _ _) _).setCell (p := ⟨w1.heap.size, 0, none⟩) (Nat.le_refl _) _ | exact below_alloc (Below.refl _ _) _⟩
set_option maxHeartbeats 4000000 in
set_option maxRecDepth 100000 in
theorem units_yes (k base b g : Nat) (u0 u1 i : Int) (ns : List S39) (x : S39) (q z : Int) (w : World) (hT : TabAt w base b g u0 u1 ns) (hi : (Lit.int .u32 i).wf = true) (hx : who ns i = some x) (h : vec_Units.f k x.f1.f0 x.f1.f1 u0 u1 = some (q, z)) :
    Calls Try.prog 24 #[.pointer (some ⟨b, 0, none⟩), .int .u32 i] w fun e w' => e = .returned (.tuple #[.int .i64 q, .int .i64 0]) ∧ Below w.heap.size w w' := by
  have hl := hT.lt.1
  obtain ⟨c0, c1, c2⟩ := hT.set_cells
  have L := (hT.found hi hx).1
  have H := Aside0.mk (And.intro hT h)
  have hu39 := Try.underlying39
  obtain ⟨x0, x1, x2⟩ := x
  clear hT hi hx h
  unfold nv at L
  dsimp only at L
  go_enter Try.func24, Try.ntmps24
  go_wp2_with fail
  refine (none_map b (some g) _ c2).mono ?_
  rintro e w1 ⟨rfl, rfl⟩
  simp only [Option.isNone]
  go_wp2_with fail
  obtain ⟨hT, h⟩ := H.out
  refine (bears k base b g u0 u1 ns ⟨x0, x1, x2⟩ q z _ (hT.below (below_alloc (Below.refl _ _) _)) h).mono ?_
  rintro e w2 ⟨rfl, hb⟩
  have HB := Aside0.mk hb
  clear hT h hb
  dsimp only
  go_wp2
  go_ret2
  exact ⟨rfl, below_then (below_alloc (Below.refl _ _) _) (by simp) HB.out⟩
theorem but_new {T : Nat → Prop} {w w' : World} (h : But T w w') {b : Nat} (hb : w.heap.size ≤ b) (j : Nat) (v : Value) : But T w (w'.setCell ⟨b, j, none⟩ v) := by
  have h2 := (h.mono (T' := fun k => T k ∨ w.heap.size ≤ k) fun _ => .inl).setCell (b := b) (.inr hb) j v
  exact ⟨h2.os, h2.tape, h2.output, h2.size, fun k hk hn => h2.block k hk (fun h => h.elim hn (fun h => by omega))⟩
theorem cell_first (w : World) (o2 : Obj) (cs : Array Value) (t : TypeId) (j : Nat) : ((w.alloc (.cells cs t)).alloc o2).cell? ⟨w.heap.size, j, none⟩ = cs[j]? := blk_cell (blk_alloc (blk_new w _) _) j
set_option maxHeartbeats 4000000 in
set_option maxRecDepth 100000 in
theorem lose_no (base b g : Nat) (u0 u1 i : Int) (ns : List S39) (w : World) (hT : TabAt w base b g u0 u1 ns) (hi : (Lit.int .u32 i).wf = true) (hx : who ns i = none) :
    Calls Try.prog 20 #[.pointer (some ⟨b, 0, none⟩), .int .u32 i] w fun e w' => e = .returned (.tuple #[.agg #[.int .u32 0, .int .i64 0, .int .i64 0], .int .i64 7]) ∧ Below w.heap.size w w' := by
  have hl := hT.lt.1
  obtain ⟨c0, c1, c2⟩ := hT.set_cells
  have L := hT.lost hi hx
  have L2 : ∀ o, (Instr.lookup 61 (.map (some g)) (.int .u32 i) true).run Try.prog (w.alloc o) = .ok (.tuple #[.agg #[.int .u32 0, .int .i64 0, .int .i64 0], .bool false]) (w.alloc o) := fun o => (hT.below (below_alloc (Below.refl _ _) o)).lost hi hx
  have hu39 := Try.underlying39
  clear hT hi hx
  go_enter Try.func20, Try.ntmps20
  go_wp2_with fail
  have c2' : ∀ o, (w.alloc o).cell? ⟨b, 2, none⟩ = some (.map (some g)) := fun o => pw_cell_below (below_alloc (Below.refl _ _) o) c2
  refine (none_map b (some g) _ (c2' _)).mono ?_
  rintro e w1 ⟨rfl, rfl⟩
  simp only [Option.isNone]
  go_wp2
  refine bodyPost_ret (v := .tuple #[.agg #[.int .u32 0, .int .i64 0, .int .i64 0], .int .i64 7]) (by simp [results, Try.results20, go_sem]) rfl ⟨rfl, ?_⟩
  exact below_alloc (below_alloc (Below.refl _ _) _) _
/-- The nodes but one. -/
def less (ns : List S39) (k : Int) : List S39 := ns.filter fun x => x.f0 != k
theorem del_en (ns : List S39) (k : Int) : del (ns.map en) k = (less ns k).map en := by
  unfold del less
  rw [List.filter_map]
  rfl
set_option maxHeartbeats 4000000 in
set_option maxRecDepth 100000 in
theorem lose_yes (base b g : Nat) (u0 u1 i : Int) (ns : List S39) (x : S39) (w : World) (hT : TabAt w base b g u0 u1 ns) (hi : (Lit.int .u32 i).wf = true) (hx : who ns i = some x) :
    Calls Try.prog 20 #[.pointer (some ⟨b, 0, none⟩), .int .u32 i] w fun e w' => e = .returned (.tuple #[nv x, .int .i64 0]) ∧ But (fun k => k = g) w w' ∧ TabAt w' base b g u0 u1 (less ns i) := by
  have hl := hT.lt.1
  obtain ⟨x0, x1, x2⟩ := x
  obtain ⟨c0, c1, c2⟩ := hT.set_cells
  obtain ⟨W0, hW0⟩ : ∃ W0, W0 = (w.alloc (Obj.cells #[.int .u32 0, .int .i64 0, .int .i64 0] 39)).alloc (Obj.cells #[.int .u32 x0, .int .i64 x1, .int .i64 x2] 39) := ⟨_, rfl⟩
  have L2 : ∀ o, (Instr.lookup 61 (.map (some g)) (.int .u32 i) true).run Try.prog (w.alloc o) = .ok (.tuple #[.agg #[.int .u32 x0, .int .i64 x1, .int .i64 x2], .bool true]) (w.alloc o) := fun o => ((hT.below (below_alloc (Below.refl _ _) o)).found hi hx).1
  have hB0 : Below w.heap.size w W0 := by rw [hW0]; exact below_alloc (below_alloc (Below.refl _ _) _) _
  have hT0 := hT.below hB0
  obtain ⟨o, D, hM⟩ := hT0.map.strike (ty := 0) (t := 61) Try.underlying61 Try.underlying37 hi
  rw [del_en] at hM
  have b1 : But (fun k => k = g) W0 (setBlock W0 g o) := But.put1 _ _ _
  have KEEP := Aside0.mk (And.intro ((But.of_below hB0).trans b1) (And.intro hT0.ne (And.intro hT0 (And.intro hM b1))))
  have k0 : W0.heap[w.heap.size]? = some (.cells #[.int .u32 0, .int .i64 0, .int .i64 0] 39 (0, 0)) := by rw [hW0]; exact blk_alloc (blk_new w _) _
  have k1 : W0.heap[w.heap.size + 1]? = some (.cells #[.int .u32 x0, .int .i64 x1, .int .i64 x2] 39 (0, 0)) := by
    rw [hW0]; have := blk_new (w.alloc (.cells #[.int .u32 0, .int .i64 0, .int .i64 0] 39)) (.cells #[.int .u32 x0, .int .i64 x1, .int .i64 x2] 39); rwa [World.size_alloc] at this
  have l2 := hT.lt.2
  have r0 := b1.heap k0 (by omega)
  have r1 := b1.heap k1 (by omega)
  obtain ⟨W1, hW1⟩ : ∃ W1, setBlock W0 g o = W1 := ⟨_, rfl⟩
  rw [hW1] at D r0 r1 KEEP
  rw [hW0] at D
  have p0 := (blk_cell r1 0).trans rfl
  have p1 := (blk_cell r1 1).trans rfl
  have p2 := (blk_cell r1 2).trans rfl
  have q0 := (blk_cell r0 0).trans rfl
  have q1 := (blk_cell r0 1).trans rfl
  have q2 := (blk_cell r0 2).trans rfl
  have f0 := blk_frozen r0 0
  have f1 := blk_frozen r0 1
  have f2 := blk_frozen r0 2
  have R := Aside0.mk r0
  have hu39 := Try.underlying39
  clear hT hi hx hT0 hM b1 k0 k1 r0 r1 hW1
  go_enter Try.func20, Try.ntmps20
  go_wp2_with fail
  have c2' : ∀ o, (w.alloc o).cell? ⟨b, 2, none⟩ = some (.map (some g)) := fun o => pw_cell_below (below_alloc (Below.refl _ _) o) c2
  have c2'' : ∀ o o2, ((w.alloc o).alloc o2).cell? ⟨b, 2, none⟩ = some (.map (some g)) := fun o o2 => pw_cell_below (below_alloc (below_alloc (Below.refl _ _) o) o2) c2
  refine (none_map b (some g) _ (c2' _)).mono ?_
  rintro e w1 ⟨rfl, rfl⟩
  simp only [Option.isNone]
  go_wp2
  refine bodyPost_ret (v := .tuple #[.agg #[.int .u32 x0, .int .i64 x1, .int .i64 x2], .int .i64 0]) (by simp [results, Try.results20, go_sem, q0, q1, q2]) rfl ⟨rfl, ?_, ?_⟩
  · exact but_new (but_new (but_new KEEP.out.1 (Nat.le_refl _) _ _) (Nat.le_refl _) _ _) (Nat.le_refl _) _ _
  · obtain ⟨_, hne, hT0, hM, b1⟩ := KEEP.out
    have hT1 : TabAt W1 base b g u0 u1 (less ns i) := ⟨b1.heap hT0.blk hne, hM, hT0.base1, hT0.base2⟩
    refine hT1.but (T := fun k => k = w.heap.size) ((((But.refl (fun k => k = w.heap.size) W1).setCell (b := w.heap.size) rfl _ _).setCell (b := w.heap.size) rfl _ _).setCell (b := w.heap.size) rfl _ _) (by omega) (by omega)
end Go.Proofs.Ythibppfdonepoaa.NodeT
