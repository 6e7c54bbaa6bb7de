/- node.Table: New. -/
import Derived.Test.YthibppfdonepoaaCNodePlaysHNodeA
import Derived.Test.YthibppfdonepoaaCNodePlays2
set_option linter.unusedVariables false
namespace Go.Proofs.Ythibppfdonepoaa.NodeT
open Go.RowKit Go.MapKept Go.Maps Go.Proofs.Ythibppfdonepoaa.XBut Go.Proofs.Ythibppfdonepoaa.XMap Go.Proofs.Ythibppfdonepoaa.PNodePlays Go.Proofs.YthibppfdonepoaaW.PrintWords Go.Proofs.YthibppfdonepoaaW.PrintLast
/-- A node as a value, an entry of a table's map. -/
def nv (x : S39) : Value := .agg #[.int .u32 x.f0, .int .i64 x.f1.f0, .int .i64 x.f1.f1]
def en (x : S39) : Int × Value := (x.f0, nv x)
/-- A table with unit (u0, u1) and the nodes ns: block b, its map g. -/
structure TabAt (w : World) (base b g : Nat) (u0 u1 : Int) (ns : List S39) : Prop where
  blk : w.heap[b]? = some (.cells #[.int .i64 u0, .int .i64 u1, .map (some g)] 63 (0, 0))
  map : MapAt w .u32 g (ns.map en)
  base1 : base ≤ b
  base2 : base ≤ g
theorem TabAt.ne {w : World} {base b g : Nat} {u0 u1 : Int} {ns : List S39} (h : TabAt w base b g u0 u1 ns) : b ≠ g := by
  rintro rfl
  obtain ⟨es, clock, h1, _⟩ := h.map
  rw [h.blk] at h1
  cases h1
theorem TabAt.but {w w' : World} {base b g : Nat} {u0 u1 : Int} {ns : List S39} (h : TabAt w base b g u0 u1 ns) {T : Nat → Prop} (hb : But T w w') (h1 : ¬ T b) (h2 : ¬ T g) : TabAt w' base b g u0 u1 ns :=
  ⟨hb.heap h.blk h1, h.map.of_block (hb.block g h.map.lt h2), h.base1, h.base2⟩
theorem TabAt.below {w w' : World} {base b g : Nat} {u0 u1 : Int} {ns : List S39} (h : TabAt w base b g u0 u1 ns) (hb : Below w.heap.size w w') : TabAt w' base b g u0 u1 ns :=
  h.but (T := fun _ => False) (But.of_below hb) id id
theorem TabAt.lt {w : World} {base b g : Nat} {u0 u1 : Int} {ns : List S39} (h : TabAt w base b g u0 u1 ns) : b < w.heap.size ∧ g < w.heap.size := ⟨blk_lt h.blk, h.map.lt⟩
set_option maxHeartbeats 4000000 in
set_option maxRecDepth 100000 in
theorem new_no (u0 u1 : Int) (w : World) (h : node_in.f u0 u1 1 = some false) :
    Calls Try.prog 15 #[.agg #[.int .i64 u0, .int .i64 u1]] w fun e w' => e = .returned (.tuple #[.pointer none, .int .i64 2]) ∧ Below w.heap.size w w' := by
  have hu23 := Try.underlying23
  have H := Aside0.mk h
  clear h
  go_enter Try.func15, Try.ntmps15
  go_wp2_with fail
  refine (node_in.calls u0 u1 1 false _ H.out).mono ?_
  rintro e w1 ⟨rfl, hb⟩
  have HB := Aside0.mk (below_then (below_alloc (Below.refl w.heap.size w) _) (by first | omega | simp) hb)
  clear hb
  dsimp only
  go_wp2
  go_ret2
  exact ⟨rfl, HB.out⟩
set_option maxHeartbeats 4000000 in
set_option maxRecDepth 100000 in
theorem new_yes (u0 u1 : Int) (w : World) (h : node_in.f u0 u1 1 = some true) :
    Calls Try.prog 15 #[.agg #[.int .i64 u0, .int .i64 u1]] w fun e w' => ∃ b g, e = .returned (.tuple #[.pointer (some ⟨b, 0, none⟩), .int .i64 0]) ∧ Below w.heap.size w w' ∧ TabAt w' w.heap.size b g u0 u1 [] := by
  have hu23 := Try.underlying23
  have H := Aside0.mk h
  clear h
  have hmm := @run_makeMap Try.prog
  go_enter Try.func15, Try.ntmps15
  go_wp2_with fail
  refine (node_in.calls u0 u1 1 true _ H.out).mono ?_
  rintro e w1 ⟨rfl, hb⟩
  have HB := Aside0.mk (below_then (below_alloc (Below.refl w.heap.size w) _) (by first | omega | simp) hb)
  have k0 := blk_below (blk_new w (.cells #[.int .i64 u0, .int .i64 u1] 23)) hb
  have c0 := (blk_cell k0 0).trans rfl
  have c1 := (blk_cell k0 1).trans rfl
  clear hb
  dsimp only
  go_wp2
  go_ret2
  have hs := HB.out.size
  refine ⟨w1.heap.size + 1, w1.heap.size, rfl, below_alloc (below_alloc HB.out (Obj.map #[] 0)) _, ⟨?_, ?_, by omega, by omega⟩⟩
  · have := blk_new (w1.alloc (.map #[] 0)) (.cells #[.int .i64 u0, .int .i64 u1, .map (some w1.heap.size)] 63)
    rwa [World.size_alloc] at this
  · exact (MapAt.made w1).of_block (Below.heap_alloc _ _ _ (by simp))
/-! ### units -/
set_option maxHeartbeats 4000000 in
set_option maxRecDepth 100000 in
theorem bears (k : Nat) (base b g : Nat) (u0 u1 : Int) (ns : List S39) (x : S39) (q z : Int) (w : World) (hT : TabAt w base b g u0 u1 ns) (h : vec_Units.f k x.f1.f0 x.f1.f1 u0 u1 = some (q, z)) :
    Calls Try.prog 73 #[.pointer (some ⟨b, 0, none⟩), nv x] w fun e w' => e = .returned (.int .i64 q) ∧ Below w.heap.size w w' := by
  obtain ⟨x0, x1, x2⟩ := x
  have hl := hT.lt.1
  have c0 := (blk_cell hT.blk 0).trans rfl
  have c1 := (blk_cell hT.blk 1).trans rfl
  have hne : b ≠ w.heap.size := by omega
  have H := Aside0.mk h
  have HT := Aside0.mk hT
  clear h hT
  unfold nv
  dsimp only
  go_enter Try.func73, Try.ntmps73
  go_wp2_with fail
  have d0 : ∀ o, ((w.alloc o).drew).cell? ⟨b, 0, none⟩ = some (.int .i64 u0) := fun o => pw_cell_below (below_drew (below_alloc (Below.refl _ _) o)) c0
  have d1 : ∀ o, ((w.alloc o).drew).cell? ⟨b, 1, none⟩ = some (.int .i64 u1) := fun o => pw_cell_below (below_drew (below_alloc (Below.refl _ _) o)) c1
  have e1 : ((w.alloc (Obj.cells #[.int .u32 x0, .int .i64 x1, .int .i64 x2] 39)).drew).cell? ⟨w.heap.size, 1, none⟩ = some (.int .i64 x1) := (blk_cell (blk_new w _) 1).trans rfl
  have e2 : ((w.alloc (Obj.cells #[.int .u32 x0, .int .i64 x1, .int .i64 x2] 39)).drew).cell? ⟨w.heap.size, 2, none⟩ = some (.int .i64 x2) := (blk_cell (blk_new w _) 2).trans rfl
  have hs : ∀ o, (w.alloc o).drew.heap.size = w.heap.size + 1 := fun o => World.size_alloc ..
  go_region_held3? (fun w' => w'.cell? ⟨w.heap.size, 1, none⟩ = some (.int .i64 x1) ∧ w'.cell? ⟨w.heap.size, 2, none⟩ = some (.int .i64 x2) ∧ w'.cell? ⟨b, 0, none⟩ = some (.int .i64 u0) ∧ w'.cell? ⟨b, 1, none⟩ = some (.int .i64 u1))
    (first | (go_split_ands; exact ⟨(hb.cell (p := ⟨w.heap.size, 1, none⟩) (by simp)).trans e1, (hb.cell (p := ⟨w.heap.size, 2, none⟩) (by simp)).trans e2, (hb.cell (p := ⟨b, 0, none⟩) (by rw [hs]; show b < _; omega)).trans (d0 _), (hb.cell (p := ⟨b, 1, none⟩) (by rw [hs]; show b < _; omega)).trans (d1 _)⟩) | go_keep)
    (first | (go_simp; go_at_call 123; (with_reducible refine (vec_Units.calls k x1 x2 u0 u1 q z _ H.out).mono ?_); rintro e w1 ⟨rfl, hb⟩; dsimp only))
  go_wp2
  go_ret
  exact ⟨rfl, below_then (below_drew (below_alloc (Below.refl _ _) _)) (by rw [hs]; omega) hb⟩
end Go.Proofs.Ythibppfdonepoaa.NodeT
