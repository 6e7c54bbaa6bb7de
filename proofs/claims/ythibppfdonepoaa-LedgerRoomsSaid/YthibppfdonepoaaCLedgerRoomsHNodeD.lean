/- node.Table: its small methods. node.Table: New. node.Table: Units, Lose. node.Table: Join. -/
import Derived.Test.YthibppfdonepoaaCLedgerRoomsHMapSorted
import Derived.Test.YthibppfdonepoaaCLedgerRoomsPNodePlaysx2
set_option linter.unusedVariables false
namespace Go.Proofs.Ythibppfdonepoaa.NodeT
open Go.RowKit Go.Proofs.Ythibppfdonepoaa.XBut Go.Proofs.Ythibppfdonepoaa.XMap Go.Proofs.YthibppfdonepoaaW.PrintWords Go.Proofs.YthibppfdonepoaaW.PrintLast
set_option maxHeartbeats 4000000 in
theorem none_nil (w : World) : Calls Try.prog 72 #[.pointer none] w fun e w' => e = .returned (.bool true) ∧ w' = w := by
  go_enter Try.func72, Try.ntmps72
  go_wp2
  go_ret
  exact ⟨rfl, rfl⟩
theorem eqIn (n : Nat) (mv : Option Nat) (w : World) : (Op.equalIn (n + 1) 61 (.map mv) (.map none)).run Try.prog w = .ok mv.isNone w := by
  have h := run_underlying Keys.und w
  cases mv <;> simp [Op.equalIn, go_sem, h]
theorem map_eq (mv : Option Nat) (w : World) : (binOp .eql 61 (.map mv) (.map none)).run Try.prog w = .ok (.bool mv.isNone) w := by
  have h : (Op.equal 61 (.map mv) (.map none)).run Try.prog w = .ok mv.isNone w := eqIn 9999 mv w
  cases mv <;> simp [binOp, go_sem, h]
set_option maxHeartbeats 4000000 in
set_option maxRecDepth 100000 in
theorem none_map (b : Nat) (mv : Option Nat) (w : World) (c : w.cell? ⟨b, 2, none⟩ = some (.map mv)) : Calls Try.prog 72 #[.pointer (some ⟨b, 0, none⟩)] w fun e w' => e = .returned (.bool mv.isNone) ∧ w' = w := by
  have h := map_eq mv w
  cases mv
  all_goals
    simp only [Option.isNone] at h
    go_enter Try.func72, Try.ntmps72
    go_wp2
    go_ret
    exact ⟨rfl, rfl⟩
end Go.Proofs.Ythibppfdonepoaa.NodeT
set_option linter.unusedVariables false
namespace Go.Proofs.Ythibppfdonepoaa.NodeT
open Go.RowKit Go.MapKept Go.Maps Go.Proofs.Ythibppfdonepoaa.XBut Go.Proofs.Ythibppfdonepoaa.XMap Go.Proofs.Ythibppfdonepoaa.PNodePlays Go.Proofs.YthibppfdonepoaaW.PrintWords Go.Proofs.YthibppfdonepoaaW.PrintLast
/-- A node as a value, an entry of a table's map. -/
def nv (x : S39) : Value := .agg #[.int .u32 x.f0, .int .i64 x.f1.f0, .int .i64 x.f1.f1]
def en (x : S39) : Int × Value := (x.f0, nv x)
/-- A table with unit (u0, u1) and the nodes ns: block b, its map g. -/
structure TabAt (w : World) (base b g : Nat) (u0 u1 : Int) (ns : List S39) : Prop where
  blk : w.heap[b]? = some (.cells #[.int .i64 u0, .int .i64 u1, .map (some g)] 63 (0, 0))
  map : MapAt w .u32 g (ns.map en)
  base1 : base ≤ b
  base2 : base ≤ g
theorem TabAt.ne {w : World} {base b g : Nat} {u0 u1 : Int} {ns : List S39} (h : TabAt w base b g u0 u1 ns) : b ≠ g := by
  rintro rfl
  obtain ⟨es, clock, h1, _⟩ := h.map
  rw [h.blk] at h1
  cases h1
theorem TabAt.but {w w' : World} {base b g : Nat} {u0 u1 : Int} {ns : List S39} (h : TabAt w base b g u0 u1 ns) {T : Nat → Prop} (hb : But T w w') (h1 : ¬ T b) (h2 : ¬ T g) : TabAt w' base b g u0 u1 ns :=
  ⟨hb.heap h.blk h1, h.map.of_block (hb.block g h.map.lt h2), h.base1, h.base2⟩
theorem TabAt.below {w w' : World} {base b g : Nat} {u0 u1 : Int} {ns : List S39} (h : TabAt w base b g u0 u1 ns) (hb : Below w.heap.size w w') : TabAt w' base b g u0 u1 ns :=
  h.but (T := fun _ => False) (But.of_below hb) id id
theorem TabAt.lt {w : World} {base b g : Nat} {u0 u1 : Int} {ns : List S39} (h : TabAt w base b g u0 u1 ns) : b < w.heap.size ∧ g < w.heap.size := ⟨blk_lt h.blk, h.map.lt⟩
set_option maxHeartbeats 4000000 in
set_option maxRecDepth 100000 in
theorem new_no (u0 u1 : Int) (w : World) (h : node_in.f u0 u1 1 = some false) :
    Calls Try.prog 15 #[.agg #[.int .i64 u0, .int .i64 u1]] w fun e w' => e = .returned (.tuple #[.pointer none, .int .i64 2]) ∧ Below w.heap.size w w' := by
  have hu23 := Try.underlying23
  have H := Aside0.mk h
  clear h
  go_enter Try.func15, Try.ntmps15
  go_wp2_with fail
  refine (node_in.calls u0 u1 1 false _ H.out).mono ?_
  rintro e w1 ⟨rfl, hb⟩
  have HB := Aside0.mk (below_then (below_alloc (Below.refl w.heap.size w) _) (by first | omega | simp) hb)
  clear hb
  dsimp only
  go_wp2
  go_ret2
  exact ⟨rfl, HB.out⟩
set_option maxHeartbeats 4000000 in
set_option maxRecDepth 100000 in
theorem new_yes (u0 u1 : Int) (w : World) (h : node_in.f u0 u1 1 = some true) :
    Calls Try.prog 15 #[.agg #[.int .i64 u0, .int .i64 u1]] w fun e w' => ∃ b g, e = .returned (.tuple #[.pointer (some ⟨b, 0, none⟩), .int .i64 0]) ∧ Below w.heap.size w w' ∧ TabAt w' w.heap.size b g u0 u1 [] := by
  have hu23 := Try.underlying23
  have H := Aside0.mk h
  clear h
  have hmm := @run_makeMap Try.prog
  go_enter Try.func15, Try.ntmps15
  go_wp2_with fail
  refine (node_in.calls u0 u1 1 true _ H.out).mono ?_
  rintro e w1 ⟨rfl, hb⟩
  have HB := Aside0.mk (below_then (below_alloc (Below.refl w.heap.size w) _) (by first | omega | simp) hb)
  have k0 := blk_below (blk_new w (.cells #[.int .i64 u0, .int .i64 u1] 23)) hb
  have c0 := (blk_cell k0 0).trans rfl
  have c1 := (blk_cell k0 1).trans rfl
  clear hb
  dsimp only
  go_wp2
  go_ret2
  have hs := HB.out.size
  refine ⟨w1.heap.size + 1, w1.heap.size, rfl, below_alloc (below_alloc HB.out (Obj.map #[] 0)) _, ⟨?_, ?_, by omega, by omega⟩⟩
  · have := blk_new (w1.alloc (.map #[] 0)) (.cells #[.int .i64 u0, .int .i64 u1, .map (some w1.heap.size)] 63)
    rwa [World.size_alloc] at this
  · exact (MapAt.made w1).of_block (Below.heap_alloc _ _ _ (by simp))
/-! ### units -/
set_option maxHeartbeats 4000000 in
set_option maxRecDepth 100000 in
theorem bears (k : Nat) (base b g : Nat) (u0 u1 : Int) (ns : List S39) (x : S39) (q z : Int) (w : World) (hT : TabAt w base b g u0 u1 ns) (h : vec_Units.f k x.f1.f0 x.f1.f1 u0 u1 = some (q, z)) :
    Calls Try.prog 73 #[.pointer (some ⟨b, 0, none⟩), nv x] w fun e w' => e = .returned (.int .i64 q) ∧ Below w.heap.size w w' := by
  obtain ⟨x0, x1, x2⟩ := x
  have hl := hT.lt.1
  have c0 := (blk_cell hT.blk 0).trans rfl
  have c1 := (blk_cell hT.blk 1).trans rfl
  have hne : b ≠ w.heap.size := by omega
  have H := Aside0.mk h
  have HT := Aside0.mk hT
  clear h hT
  unfold nv
  dsimp only
  go_enter Try.func73, Try.ntmps73
  go_wp2_with fail
  have d0 : ∀ o, ((w.alloc o).drew).cell? ⟨b, 0, none⟩ = some (.int .i64 u0) := fun o => pw_cell_below (below_drew (below_alloc (Below.refl _ _) o)) c0
  have d1 : ∀ o, ((w.alloc o).drew).cell? ⟨b, 1, none⟩ = some (.int .i64 u1) := fun o => pw_cell_below (below_drew (below_alloc (Below.refl _ _) o)) c1
  have e1 : ((w.alloc (Obj.cells #[.int .u32 x0, .int .i64 x1, .int .i64 x2] 39)).drew).cell? ⟨w.heap.size, 1, none⟩ = some (.int .i64 x1) := (blk_cell (blk_new w _) 1).trans rfl
  have e2 : ((w.alloc (Obj.cells #[.int .u32 x0, .int .i64 x1, .int .i64 x2] 39)).drew).cell? ⟨w.heap.size, 2, none⟩ = some (.int .i64 x2) := (blk_cell (blk_new w _) 2).trans rfl
  have hs : ∀ o, (w.alloc o).drew.heap.size = w.heap.size + 1 := fun o => World.size_alloc ..
  go_region_held3? (fun w' => w'.cell? ⟨w.heap.size, 1, none⟩ = some (.int .i64 x1) ∧ w'.cell? ⟨w.heap.size, 2, none⟩ = some (.int .i64 x2) ∧ w'.cell? ⟨b, 0, none⟩ = some (.int .i64 u0) ∧ w'.cell? ⟨b, 1, none⟩ = some (.int .i64 u1))
    (first | (go_split_ands; exact ⟨(hb.cell (p := ⟨w.heap.size, 1, none⟩) (by simp)).trans e1, (hb.cell (p := ⟨w.heap.size, 2, none⟩) (by simp)).trans e2, (hb.cell (p := ⟨b, 0, none⟩) (by rw [hs]; show b < _; omega)).trans (d0 _), (hb.cell (p := ⟨b, 1, none⟩) (by rw [hs]; show b < _; omega)).trans (d1 _)⟩) | go_keep)
    (first | (go_simp; go_at_call 123; (with_reducible refine (vec_Units.calls k x1 x2 u0 u1 q z _ H.out).mono ?_); rintro e w1 ⟨rfl, hb⟩; dsimp only))
  go_wp2
  go_ret
  exact ⟨rfl, below_then (below_drew (below_alloc (Below.refl _ _) _)) (by rw [hs]; omega) hb⟩
end Go.Proofs.Ythibppfdonepoaa.NodeT
set_option linter.unusedVariables false
namespace Go.Proofs.Ythibppfdonepoaa.NodeT
open Go.RowKit Go.MapKept Go.Maps Go.ChangeMaps Go.Proofs.Ythibppfdonepoaa.XBut Go.Proofs.Ythibppfdonepoaa.XMap Go.Proofs.Ythibppfdonepoaa.PNodePlays Go.Proofs.YthibppfdonepoaaW.PrintWords Go.Proofs.YthibppfdonepoaaW.PrintLast
/-- The node with a number. -/
def who (ns : List S39) (k : Int) : Option S39 := ns.find? fun x => x.f0 == k
theorem look_en (ns : List S39) (k : Int) : XMap.look (ns.map en) k = (who ns k).map nv := by
  unfold XMap.look who
  induction ns with
  | nil => rfl
  | cons a l ih =>
    rw [List.map_cons, List.find?_cons, List.find?_cons]
    have e : ((en a).1 == k) = (a.f0 == k) := rfl
    rw [e]
    cases a.f0 == k
    · exact ih
    · rfl
theorem zero39 (w : World) : (zeroValue 39).run Try.prog w = .ok (.agg #[.int .u32 0, .int .i64 0, .int .i64 0]) w := by
  kernel_rfl
theorem TabAt.found {w : World} {base b g : Nat} {u0 u1 k : Int} {ns : List S39} {x : S39} (hT : TabAt w base b g u0 u1 ns) (hk : (Lit.int .u32 k).wf = true) (h : who ns k = some x) :
    (Instr.lookup 61 (.map (some g)) (.int .u32 k) true).run Try.prog w = .ok (.tuple #[nv x, .bool true]) w ∧ (Instr.lookup 61 (.map (some g)) (.int .u32 k) false).run Try.prog w = .ok (nv x) w := by
  rcases hT.map.look (t := 61) Try.underlying61 Try.underlying37 hk with ⟨v, h1, h2, h3⟩ | ⟨h1, _⟩
  · rw [look_en, h] at h1
    cases h1
    exact ⟨h2, h3⟩
  · rw [look_en, h] at h1
    cases h1
theorem TabAt.lost {w : World} {base b g : Nat} {u0 u1 k : Int} {ns : List S39} (hT : TabAt w base b g u0 u1 ns) (hk : (Lit.int .u32 k).wf = true) (h : who ns k = none) :
    (Instr.lookup 61 (.map (some g)) (.int .u32 k) true).run Try.prog w = .ok (.tuple #[.agg #[.int .u32 0, .int .i64 0, .int .i64 0], .bool false]) w := by
  rcases hT.map.look (t := 61) Try.underlying61 Try.underlying37 hk with ⟨v, h1, _⟩ | ⟨_, h2⟩
  · rw [look_en, h] at h1
    cases h1
  · exact (h2 _ (zero39 w)).1
theorem TabAt.set_cells {w : World} {base b g : Nat} {u0 u1 : Int} {ns : List S39} (hT : TabAt w base b g u0 u1 ns) : w.cell? ⟨b, 0, none⟩ = some (.int .i64 u0) ∧ w.cell? ⟨b, 1, none⟩ = some (.int .i64 u1) ∧ w.cell? ⟨b, 2, none⟩ = some (.map (some g)) :=
  ⟨(blk_cell hT.blk 0).trans rfl, (blk_cell hT.blk 1).trans rfl, (blk_cell hT.blk 2).trans rfl⟩
set_option maxHeartbeats 4000000 in
set_option maxRecDepth 100000 in
theorem units_no (base b g : Nat) (u0 u1 i : Int) (ns : List S39) (w : World) (hT : TabAt w base b g u0 u1 ns) (hi : (Lit.int .u32 i).wf = true) (hx : who ns i = none) :
    Calls Try.prog 24 #[.pointer (some ⟨b, 0, none⟩), .int .u32 i] w fun e w' => e = .returned (.tuple #[.int .i64 0, .int .i64 7]) ∧ Below w.heap.size w w' := by
  have hl := hT.lt.1
  obtain ⟨c0, c1, c2⟩ := hT.set_cells
  have L := hT.lost hi hx
  have hu39 := Try.underlying39
  clear hT hi hx
  go_enter Try.func24, Try.ntmps24
  go_wp2_with fail
  refine (none_map b (some g) _ c2).mono ?_
  rintro e w1 ⟨rfl, rfl⟩
  simp only [Option.isNone]
  go_wp2
  go_ret2
  exact ⟨rfl, by first | exact (below_alloc (Below.refl _ _) _).setCell (p := ⟨w1.heap.size, 0, none⟩) (Nat.le_refl _) _ | exact below_alloc (Below.refl _ _) _⟩
set_option maxHeartbeats 4000000 in
set_option maxRecDepth 100000 in
theorem units_yes (k base b g : Nat) (u0 u1 i : Int) (ns : List S39) (x : S39) (q z : Int) (w : World) (hT : TabAt w base b g u0 u1 ns) (hi : (Lit.int .u32 i).wf = true) (hx : who ns i = some x) (h : vec_Units.f k x.f1.f0 x.f1.f1 u0 u1 = some (q, z)) :
    Calls Try.prog 24 #[.pointer (some ⟨b, 0, none⟩), .int .u32 i] w fun e w' => e = .returned (.tuple #[.int .i64 q, .int .i64 0]) ∧ Below w.heap.size w w' := by
  have hl := hT.lt.1
  obtain ⟨c0, c1, c2⟩ := hT.set_cells
  have L := (hT.found hi hx).1
  have H := Aside0.mk (And.intro hT h)
  have hu39 := Try.underlying39
  obtain ⟨x0, x1, x2⟩ := x
  clear hT hi hx h
  unfold nv at L
  dsimp only at L
  go_enter Try.func24, Try.ntmps24
  go_wp2_with fail
  refine (none_map b (some g) _ c2).mono ?_
  rintro e w1 ⟨rfl, rfl⟩
  simp only [Option.isNone]
  go_wp2_with fail
  obtain ⟨hT, h⟩ := H.out
  refine (bears k base b g u0 u1 ns ⟨x0, x1, x2⟩ q z _ (hT.below (below_alloc (Below.refl _ _) _)) h).mono ?_
  rintro e w2 ⟨rfl, hb⟩
  have HB := Aside0.mk hb
  clear hT h hb
  dsimp only
  go_wp2
  go_ret2
  exact ⟨rfl, below_then (below_alloc (Below.refl _ _) _) (by simp) HB.out⟩
theorem but_new {T : Nat → Prop} {w w' : World} (h : But T w w') {b : Nat} (hb : w.heap.size ≤ b) (j : Nat) (v : Value) : But T w (w'.setCell ⟨b, j, none⟩ v) := by
  have h2 := (h.mono (T' := fun k => T k ∨ w.heap.size ≤ k) fun _ => .inl).setCell (b := b) (.inr hb) j v
  exact ⟨h2.os, h2.tape, h2.output, h2.size, fun k hk hn => h2.block k hk (fun h => h.elim hn (fun h => by omega))⟩
theorem cell_first (w : World) (o2 : Obj) (cs : Array Value) (t : TypeId) (j : Nat) : ((w.alloc (.cells cs t)).alloc o2).cell? ⟨w.heap.size, j, none⟩ = cs[j]? := blk_cell (blk_alloc (blk_new w _) _) j
set_option maxHeartbeats 4000000 in
set_option maxRecDepth 100000 in
theorem lose_no (base b g : Nat) (u0 u1 i : Int) (ns : List S39) (w : World) (hT : TabAt w base b g u0 u1 ns) (hi : (Lit.int .u32 i).wf = true) (hx : who ns i = none) :
    Calls Try.prog 20 #[.pointer (some ⟨b, 0, none⟩), .int .u32 i] w fun e w' => e = .returned (.tuple #[.agg #[.int .u32 0, .int .i64 0, .int .i64 0], .int .i64 7]) ∧ Below w.heap.size w w' := by
  have hl := hT.lt.1
  obtain ⟨c0, c1, c2⟩ := hT.set_cells
  have L := hT.lost hi hx
  have L2 : ∀ o, (Instr.lookup 61 (.map (some g)) (.int .u32 i) true).run Try.prog (w.alloc o) = .ok (.tuple #[.agg #[.int .u32 0, .int .i64 0, .int .i64 0], .bool false]) (w.alloc o) := fun o => (hT.below (below_alloc (Below.refl _ _) o)).lost hi hx
  have hu39 := Try.underlying39
  clear hT hi hx
  go_enter Try.func20, Try.ntmps20
  go_wp2_with fail
  have c2' : ∀ o, (w.alloc o).cell? ⟨b, 2, none⟩ = some (.map (some g)) := fun o => pw_cell_below (below_alloc (Below.refl _ _) o) c2
  refine (none_map b (some g) _ (c2' _)).mono ?_
  rintro e w1 ⟨rfl, rfl⟩
  simp only [Option.isNone]
  go_wp2
  refine bodyPost_ret (v := .tuple #[.agg #[.int .u32 0, .int .i64 0, .int .i64 0], .int .i64 7]) (by simp [results, Try.results20, go_sem]) rfl ⟨rfl, ?_⟩
  exact below_alloc (below_alloc (Below.refl _ _) _) _
/-- The nodes but one. -/
def less (ns : List S39) (k : Int) : List S39 := ns.filter fun x => x.f0 != k
theorem del_en (ns : List S39) (k : Int) : del (ns.map en) k = (less ns k).map en := by
  unfold del less
  rw [List.filter_map]
  rfl
set_option maxHeartbeats 4000000 in
set_option maxRecDepth 100000 in
theorem lose_yes (base b g : Nat) (u0 u1 i : Int) (ns : List S39) (x : S39) (w : World) (hT : TabAt w base b g u0 u1 ns) (hi : (Lit.int .u32 i).wf = true) (hx : who ns i = some x) :
    Calls Try.prog 20 #[.pointer (some ⟨b, 0, none⟩), .int .u32 i] w fun e w' => e = .returned (.tuple #[nv x, .int .i64 0]) ∧ But (fun k => k = g) w w' ∧ TabAt w' base b g u0 u1 (less ns i) := by
  have hl := hT.lt.1
  obtain ⟨x0, x1, x2⟩ := x
  obtain ⟨c0, c1, c2⟩ := hT.set_cells
  obtain ⟨W0, hW0⟩ : ∃ W0, W0 = (w.alloc (Obj.cells #[.int .u32 0, .int .i64 0, .int .i64 0] 39)).alloc (Obj.cells #[.int .u32 x0, .int .i64 x1, .int .i64 x2] 39) := ⟨_, rfl⟩
  have L2 : ∀ o, (Instr.lookup 61 (.map (some g)) (.int .u32 i) true).run Try.prog (w.alloc o) = .ok (.tuple #[.agg #[.int .u32 x0, .int .i64 x1, .int .i64 x2], .bool true]) (w.alloc o) := fun o => ((hT.below (below_alloc (Below.refl _ _) o)).found hi hx).1
  have hB0 : Below w.heap.size w W0 := by rw [hW0]; exact below_alloc (below_alloc (Below.refl _ _) _) _
  have hT0 := hT.below hB0
  obtain ⟨o, D, hM⟩ := hT0.map.strike (ty := 0) (t := 61) Try.underlying61 Try.underlying37 hi
  rw [del_en] at hM
  have b1 : But (fun k => k = g) W0 (setBlock W0 g o) := But.put1 _ _ _
  have KEEP := Aside0.mk (And.intro ((But.of_below hB0).trans b1) (And.intro hT0.ne (And.intro hT0 (And.intro hM b1))))
  have k0 : W0.heap[w.heap.size]? = some (.cells #[.int .u32 0, .int .i64 0, .int .i64 0] 39 (0, 0)) := by rw [hW0]; exact blk_alloc (blk_new w _) _
  have k1 : W0.heap[w.heap.size + 1]? = some (.cells #[.int .u32 x0, .int .i64 x1, .int .i64 x2] 39 (0, 0)) := by
    rw [hW0]; have := blk_new (w.alloc (.cells #[.int .u32 0, .int .i64 0, .int .i64 0] 39)) (.cells #[.int .u32 x0, .int .i64 x1, .int .i64 x2] 39); rwa [World.size_alloc] at this
  have l2 := hT.lt.2
  have r0 := b1.heap k0 (by omega)
  have r1 := b1.heap k1 (by omega)
  obtain ⟨W1, hW1⟩ : ∃ W1, setBlock W0 g o = W1 := ⟨_, rfl⟩
  rw [hW1] at D r0 r1 KEEP
  rw [hW0] at D
  have p0 := (blk_cell r1 0).trans rfl
  have p1 := (blk_cell r1 1).trans rfl
  have p2 := (blk_cell r1 2).trans rfl
  have q0 := (blk_cell r0 0).trans rfl
  have q1 := (blk_cell r0 1).trans rfl
  have q2 := (blk_cell r0 2).trans rfl
  have f0 := blk_frozen r0 0
  have f1 := blk_frozen r0 1
  have f2 := blk_frozen r0 2
  have R := Aside0.mk r0
  have hu39 := Try.underlying39
  clear hT hi hx hT0 hM b1 k0 k1 r0 r1 hW1
  go_enter Try.func20, Try.ntmps20
  go_wp2_with fail
  have c2' : ∀ o, (w.alloc o).cell? ⟨b, 2, none⟩ = some (.map (some g)) := fun o => pw_cell_below (below_alloc (Below.refl _ _) o) c2
  have c2'' : ∀ o o2, ((w.alloc o).alloc o2).cell? ⟨b, 2, none⟩ = some (.map (some g)) := fun o o2 => pw_cell_below (below_alloc (below_alloc (Below.refl _ _) o) o2) c2
  refine (none_map b (some g) _ (c2' _)).mono ?_
  rintro e w1 ⟨rfl, rfl⟩
  simp only [Option.isNone]
  go_wp2
  refine bodyPost_ret (v := .tuple #[.agg #[.int .u32 x0, .int .i64 x1, .int .i64 x2], .int .i64 0]) (by simp [results, Try.results20, go_sem, q0, q1, q2]) rfl ⟨rfl, ?_, ?_⟩
  · exact but_new (but_new (but_new KEEP.out.1 (Nat.le_refl _) _ _) (Nat.le_refl _) _ _) (Nat.le_refl _) _ _
  · obtain ⟨_, hne, hT0, hM, b1⟩ := KEEP.out
    have hT1 : TabAt W1 base b g u0 u1 (less ns i) := ⟨b1.heap hT0.blk hne, hM, hT0.base1, hT0.base2⟩
    refine hT1.but (T := fun k => k = w.heap.size) ((((But.refl (fun k => k = w.heap.size) W1).setCell (b := w.heap.size) rfl _ _).setCell (b := w.heap.size) rfl _ _).setCell (b := w.heap.size) rfl _ _) (by omega) (by omega)
end Go.Proofs.Ythibppfdonepoaa.NodeT
set_option linter.unusedVariables false
namespace Go.Proofs.Ythibppfdonepoaa.NodeT
open Go.RowKit Go.MapKept Go.Maps Go.ChangeMaps Go.Proofs.Ythibppfdonepoaa.XBut Go.Proofs.Ythibppfdonepoaa.XMap Go.Proofs.Ythibppfdonepoaa.PNodePlays Go.Proofs.YthibppfdonepoaaW.PrintWords Go.Proofs.YthibppfdonepoaaW.PrintLast
theorem TabAt.asked {w : World} {base b g : Nat} {u0 u1 k : Int} {ns : List S39} (hT : TabAt w base b g u0 u1 ns) (hk : (Lit.int .u32 k).wf = true) :
    ∃ y0 y1 y2, ∀ w', TabAt w' base b g u0 u1 ns → (Instr.lookup 61 (.map (some g)) (.int .u32 k) true).run Try.prog w' = .ok (.tuple #[.agg #[.int .u32 y0, .int .i64 y1, .int .i64 y2], .bool (who ns k).isSome]) w' := by
  cases h : who ns k with
  | none => exact ⟨_, _, _, fun w' hT' => hT'.lost hk h⟩
  | some x => exact ⟨x.f0, x.f1.f0, x.f1.f1, fun w' hT' => (hT'.found hk h).1⟩
/-- A node set in its place. -/
def ins : List S39 → S39 → List S39
  | [], x => [x]
  | y :: l, x => if x.f0 < y.f0 then x :: y :: l else if x.f0 = y.f0 then x :: l else y :: ins l x
theorem put_en (ns : List S39) (x : S39) : put (ns.map en) x.f0 (nv x) = (ins ns x).map en := by
  induction ns with
  | nil => rfl
  | cons y l ih =>
    rw [List.map_cons]
    unfold put ins
    have e : (en y).1 = y.f0 := rfl
    rw [e, ih]
    split
    · rfl
    · split <;> rfl
theorem TabAt.count {w : World} {base b g : Nat} {u0 u1 : Int} {ns : List S39} (hT : TabAt w base b g u0 u1 ns) (hl : ns.length < 9223372036854775808) (ty : TypeId) :
    (Builtin.len_ #[61] ty #[.map (some g)]).run Try.prog w = .ok (.int .i64 ns.length) w := by
  obtain ⟨es, clock, hb, F⟩ := hT.map
  have hs := F.size
  rw [List.length_map] at hs
  have h := run_len_map (P := Try.prog) w 61 ty g es clock (by kernel_rfl) hb
  rw [hs] at h
  refine h.trans ?_
  simp only [goInt]
  try rfl
/-- What Join answers. -/
def joins (n : Int) (t : Bool) (q : Int) (isb : Bool) (len : Nat) : Int := if n = 0 then 2 else if t = false then 2 else if 4096 < q then 2 else if isb = true then 8 else if 32 ≤ len then 6 else 0
def joined (c : Int) (ns : List S39) (x : S39) : List S39 := if c = 0 then ins ns x else ns
set_option maxHeartbeats 8000000 in
set_option maxRecDepth 100000 in
theorem join (base b g : Nat) (u0 u1 n n0 n1 : Int) (ns : List S39) (w : World) (hT : TabAt w base b g u0 u1 ns) (hi : (Lit.int .u32 n).wf = true) (hlen : ns.length ≤ 1000000) (k : Nat) (t : Bool) (q z : Int) (h1 : n ≠ 0 → node_in.f n0 n1 0 = some t) (h2 : n ≠ 0 → t = true → vec_Units.f k n0 n1 u0 u1 = some (q, z)) :
    Calls Try.prog 21 #[.pointer (some ⟨b, 0, none⟩), .agg #[.int .u32 n, .int .i64 n0, .int .i64 n1]] w fun e w' =>
      e = .returned (.int .i64 (joins n t q (who ns n).isSome ns.length)) ∧ But (fun k => k = g) w w' ∧ TabAt w' base b g u0 u1 (joined (joins n t q (who ns n).isSome ns.length) ns ⟨n, ⟨n0, n1⟩⟩) := by
  have hl := hT.lt.1
  obtain ⟨c0, c1, c2⟩ := hT.set_cells
  obtain ⟨y0, y1, y2, hL⟩ := hT.asked hi
  have hu39 := Try.underlying39
  obtain ⟨W0, hW0⟩ : ∃ W0, W0 = w.alloc (Obj.cells #[.int .u32 n, .int .i64 n0, .int .i64 n1] 39) := ⟨_, rfl⟩
  have hB0 : Below w.heap.size w W0 := by rw [hW0]; exact below_alloc (Below.refl _ _) _
  have hT0 := hT.below hB0
  have kn : W0.heap[w.heap.size]? = some (.cells #[.int .u32 n, .int .i64 n0, .int .i64 n1] 39 (0, 0)) := by rw [hW0]; exact blk_new w _
  have KL : ∀ w', Below W0.heap.size W0 w' → w'.cell? ⟨b, 2, none⟩ = some (.map (some g)) ∧ w'.cell? ⟨w.heap.size, 0, none⟩ = some (.int .u32 n) ∧ (Instr.lookup 61 (.map (some g)) (.int .u32 n) true).run Try.prog w' = .ok (.tuple #[.agg #[.int .u32 y0, .int .i64 y1, .int .i64 y2], .bool (who ns n).isSome]) w' := fun w' h =>
    ⟨(hT0.below h).set_cells.2.2, (blk_cell (blk_below kn h) 0).trans rfl, hL _ (hT0.below h)⟩
  obtain ⟨isb, hisb⟩ : ∃ isb, (who ns n).isSome = isb := ⟨_, rfl⟩
  rw [hisb] at KL
  rw [hisb]
  have hlg := hT.lt.2
  have KEEP := Aside0.mk (And.intro hT (And.intro hlen (And.intro hT0 (And.intro kn (And.intro h1 (And.intro h2 hlg))))))
  clear hT hT0 hL kn hisb h1 h2 hlen hlg
  have c2' := (KL W0 (Below.refl _ _)).1
  rw [hW0] at c2' KL
  go_enter Try.func21, Try.ntmps21
  go_wp2_with fail
  refine (none_map b (some g) _ c2').mono ?_
  rintro e w1 ⟨rfl, rfl⟩
  simp only [Option.isNone]
  go_upto_region 3 with (fail)
  go_region_held3? (fun w' => w'.cell? ⟨b, 2, none⟩ = some (.map (some g)) ∧ w'.cell? ⟨w.heap.size, 0, none⟩ = some (.int .u32 n) ∧ (Instr.lookup 61 (.map (some g)) (.int .u32 n) true).run Try.prog w' = .ok (.tuple #[.agg #[.int .u32 y0, .int .i64 y1, .int .i64 y2], .bool isb]) w')
    (first | exact KL _ (below_drew (Below.refl _ _)) | exact KL _ (below_alloc (below_drew (Below.refl _ _)) _) | go_keep) (fail)
  all_goals
    obtain ⟨W3, hW3⟩ : ∃ W3, ((w.alloc (Obj.cells #[.int .u32 n, .int .i64 n0, .int .i64 n1] 39)).alloc (Obj.cells #[.int .u32 y0, .int .i64 y1, .int .i64 y2] 39)).drew = W3 := ⟨_, rfl⟩
    rw [hW3]
    obtain ⟨hT, hlen, hT0, kn, h1, h2, hlg⟩ := KEEP.out
    rw [hW0] at hT0 kn
    have hB3 := below_drew (below_alloc (Below.refl _ (w.alloc (Obj.cells #[.int .u32 n, .int .i64 n0, .int .i64 n1] 39))) (Obj.cells #[.int .u32 y0, .int .i64 y1, .int .i64 y2] 39))
    rw [hW3] at hB3
    have hT3 := hT0.below hB3
    have kn3 := blk_below kn hB3
    have hB4 : Below w.heap.size w W3 := below_then (below_alloc (Below.refl _ _) _) (by simp) hB3
    have n0c := (blk_cell kn3 0).trans rfl
    have n1c := (blk_cell kn3 1).trans rfl
    have n2c := (blk_cell kn3 2).trans rfl
    have tc := hT3.set_cells.2.2
    have HH := Aside0.mk (And.intro hT3 (And.intro kn3 (And.intro hB4 (And.intro h1 (And.intro h2 (And.intro hlg hlen))))))
    have LEN := hT3.count (by omega) 3
    clear KEEP KL hB0 c0 c1 c2 c2' hW0 hW3 hT hT0 hlen kn h1 h2 hB3 hT3 kn3 hB4
    by_cases hn : n = 0
    · have hnb : (n == 0) = true := by simp [hn]
      have E : Aside0 (joins n t q isb ns.length = 2) := ⟨by simp [joins, hn]⟩
      clear hn
      go_wp2
      go_ret
      obtain ⟨hT3, kn3, hB4, _⟩ := HH.out
      exact ⟨by rw [E.out]; rfl, But.of_below hB4, by rw [E.out]; exact hT3⟩
    · have hnb : (n == 0) = false := by simp [hn]
      cases t with
      | false =>
        have E : Aside0 (joins n false q isb ns.length = 2) := ⟨by simp [joins, hn]⟩
        have H1 := Aside0.mk (HH.out.2.2.2.1 hn)
        clear hn
        go_wp2_with fail
        refine (node_in.calls n0 n1 0 false _ H1.out).mono ?_
        rintro e w4 ⟨rfl, hb⟩
        have HB := Aside0.mk hb
        clear hb
        dsimp only
        go_wp2
        go_ret
        obtain ⟨hT3, kn3, hB4, _⟩ := HH.out
        exact ⟨by rw [E.out]; rfl, But.of_below (below_step hB4 HB.out), by rw [E.out]; exact hT3.below HB.out⟩
      | true =>
        have H1 := Aside0.mk (HH.out.2.2.2.1 hn)
        have H2 := Aside0.mk (HH.out.2.2.2.2.1 hn rfl)
        go_wp2_with fail
        refine (node_in.calls n0 n1 0 true _ H1.out).mono ?_
        rintro e w4 ⟨rfl, hb⟩
        obtain ⟨hT3, kn3, hB4, h1, h2, hlg, hlen⟩ := HH.out
        have HB := Aside0.mk hb
        have hT4 := hT3.below hb
        have kn4 := blk_below kn3 hb
        have n0c := (blk_cell kn4 0).trans rfl
        have n1c := (blk_cell kn4 1).trans rfl
        have n2c := (blk_cell kn4 2).trans rfl
        clear hb hT3 kn3 hB4 h1 h2 hlg hlen LEN
        dsimp only
        go_wp2_with fail
        refine (bears k base b g u0 u1 ns ⟨n, ⟨n0, n1⟩⟩ q z _ hT4 H2.out).mono ?_
        rintro e w5 ⟨rfl, hb⟩
        have hT5 := hT4.below hb
        have kn5 := blk_below kn4 hb
        have n0c := (blk_cell kn5 0).trans rfl
        have n1c := (blk_cell kn5 1).trans rfl
        have n2c := (blk_cell kn5 2).trans rfl
        have tc := hT5.set_cells.2.2
        have HB5 := Aside0.mk (below_step HB.out hb)
        have LEN := hT5.count (by have := HH.out.2.2.2.2.2.2; omega) 3
        have HT5 := Aside0.mk (And.intro hT5 kn5)
        clear hb hT4 kn4 hT5 kn5
        dsimp only
        have hlen := HH.out.2.2.2.2.2.2
        have hlg := HH.out.2.2.2.2.2.1
        have hlen2 : (ns.length : Int) ≤ 1000000 := by omega
        by_cases hq : 4096 < q
        · have hqb : decide (4096 < q) = true := decide_eq_true hq
          have E : Aside0 (joins n true q isb ns.length = 2) := ⟨by simp [joins, hn, hq]⟩
          clear hn hq
          go_wp2
          go_ret
          exact ⟨by rw [E.out]; rfl, But.of_below (below_step HH.out.2.2.1 HB5.out), by rw [E.out]; exact HT5.out.1⟩
        · have hqb : decide (4096 < q) = false := decide_eq_false hq
          cases isb with
          | true =>
            have E : Aside0 (joins n true q true ns.length = 8) := ⟨by simp [joins, hn, hq]⟩
            clear hn hq
            go_wp2
            go_ret
            exact ⟨by rw [E.out]; rfl, But.of_below (below_step HH.out.2.2.1 HB5.out), by rw [E.out]; exact HT5.out.1⟩
          | false =>
            by_cases hf : (32 : Int) ≤ ns.length
            · have hfb : decide ((32 : Int) ≤ ns.length) = true := decide_eq_true hf
              have E : Aside0 (joins n true q false ns.length = 6) := ⟨by simp [joins, hn, hq, (show 32 ≤ ns.length by omega)]⟩
              clear hn hq
              go_wp2
              go_ret
              exact ⟨by rw [E.out]; rfl, But.of_below (below_step HH.out.2.2.1 HB5.out), by rw [E.out]; exact HT5.out.1⟩
            · have hfb : decide ((32 : Int) ≤ ns.length) = false := decide_eq_false hf
              have E : Aside0 (joins n true q false ns.length = 0) := ⟨by simp [joins, hn, hq, (show ¬ 32 ≤ ns.length by omega)]⟩
              clear hn hq
              go_upto_region 10 with (fail)
              obtain ⟨o, MU, hM⟩ := HT5.out.1.map.drew.store (t := 61) Try.underlying61 Try.underlying37 hi (by rw [List.length_map]; unfold maxLen; omega) (.agg #[.int .u32 n, .int .i64 n0, .int .i64 n1])
              obtain ⟨W6, hW6⟩ : ∃ W6, setBlock w5.drew g o = W6 := ⟨_, rfl⟩
              have b1 : But (fun k => k = g) w5.drew (setBlock w5.drew g o) := But.put1 _ _ _
              rw [hW6] at MU hM b1
              have R := Aside0.mk (And.intro hM b1)
              clear hM b1 hW6
              go_still_tail 7, (by kernel_rfl)
              change wpList _ _ _ _ _ w5.drew
              have tc' : w5.drew.cell? ⟨b, 2, none⟩ = some (.map (some g)) := tc
              have n0c' : w5.drew.cell? ⟨w.heap.size, 0, none⟩ = some (.int .u32 n) := n0c
              have n1c' : w5.drew.cell? ⟨w.heap.size, 1, none⟩ = some (.int .i64 n0) := n1c
              have n2c' : w5.drew.cell? ⟨w.heap.size, 2, none⟩ = some (.int .i64 n1) := n2c
              go_wp2
              go_ret
              have hT5 := HT5.out.1
              have hM : MapAt W6 .u32 g ((ins ns ⟨n, ⟨n0, n1⟩⟩).map en) := by rw [← put_en]; exact R.out.1
              refine ⟨by rw [E.out]; rfl, ((But.of_below (below_step HH.out.2.2.1 HB5.out)).drew).trans R.out.2, ?_⟩
              rw [E.out]
              exact ⟨R.out.2.heap (show w5.drew.heap[b]? = _ from hT5.blk) hT5.ne, hM, hT5.base1, hT5.base2⟩
end Go.Proofs.Ythibppfdonepoaa.NodeT
