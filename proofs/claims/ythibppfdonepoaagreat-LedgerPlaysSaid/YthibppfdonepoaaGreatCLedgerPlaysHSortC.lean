/- Words on rows of numbers that a function sorts in place. No condition. maps.Keys: what its iterator hands over. node.Table: its small methods. node.Table: New. node.Table: Units, Lose. node.Table: Join. node.Table: Copy (maps.Clone). Sorting in place: the choice of a pivot. How many bits a number has. (Printed by wip/tool/gensort3.py.) Sorting in place: the reversal of a range. Sorting in place: insertion. Sorting in place: heaps. -/
import Derived.Test.YthibppfdonepoaaGreatCLedgerPlaysXBut
import Derived.Sort.Statements
import Derived.IntWalk
import Derived.Test.YthibppfdonepoaaGreatProg
import Derived.Test.YthibppfdonepoaaGreatCLedgerPlaysXMap
import Derived.Test.YthibppfdonepoaaGreatCLedgerPlaysPNodePlaysx0
import Derived.Test.YthibppfdonepoaaGreatCLedgerPlaysPNodePlaysx1
import Derived.Test.YthibppfdonepoaaGreatCLedgerPlaysPNodePlaysx10
import Derived.Test.YthibppfdonepoaaGreatCLedgerPlaysPNodePlaysx11
import Derived.Test.YthibppfdonepoaaGreatCLedgerPlaysPNodePlaysx12
import Derived.Test.YthibppfdonepoaaGreatCLedgerPlaysPNodePlaysx13
import Derived.Test.YthibppfdonepoaaGreatCLedgerPlaysPNodePlaysx14
import Derived.Test.YthibppfdonepoaaGreatCLedgerPlaysPNodePlaysx16
import Derived.Test.YthibppfdonepoaaGreatCLedgerPlaysPNodePlaysx17
import Derived.Test.YthibppfdonepoaaGreatCLedgerPlaysPNodePlaysx2
import Derived.Test.YthibppfdonepoaaGreatCLedgerPlaysPNodePlaysx3
import Derived.Test.YthibppfdonepoaaGreatCLedgerPlaysPNodePlaysx4
import Derived.Test.YthibppfdonepoaaGreatCLedgerPlaysPNodePlaysx5
import Derived.Test.YthibppfdonepoaaGreatCLedgerPlaysPNodePlaysx7
import Derived.Test.YthibppfdonepoaaGreatCLedgerPlaysPNodePlaysx8
import Derived.Test.YthibppfdonepoaaGreatCLedgerPlaysPNodePlaysx9
import Derived.Laws.Externs
import Derived.RegionTactic
import Derived.Deep.DeepCutAuto
import Derived.Outline
set_option maxHeartbeats 16000000
set_option maxRecDepth 100000
set_option linter.unusedVariables false
namespace Go.Proofs.YthibppfdonepoaaGreat.Srt
open Go.RowKit Go.Proofs.YthibppfdonepoaaGreat.XBut Go.Proofs.YthibppfdonepoaaGreatW.PrintWords Go.Proofs.YthibppfdonepoaaGreatW.PrintLast
def Row (w : World) (g : Nat) (t : TypeId) (c : Nat) (d : Array Int) : Prop := ∃ cs : Array Value, cs.size = c ∧ w.heap[g]? = some (.cells cs t (0, 0)) ∧ d.size ≤ c ∧ ∀ j, j < d.size → cs[j]? = some (.int .u32 d[j]!)
theorem Row.lt {w : World} {g : Nat} {t : TypeId} {c : Nat} {d : Array Int} (h : Row w g t c d) : g < w.heap.size := by
 obtain ⟨cs, _, h1, _⟩ := h
 exact blk_lt h1
theorem Row.cell {w : World} {g : Nat} {t : TypeId} {c : Nat} {d : Array Int} (h : Row w g t c d) {j : Nat} (hj : j < d.size) : w.cell? ⟨g, j, none⟩ = some (.int .u32 d[j]!) := by
 obtain ⟨cs, _, h1, _, h2⟩ := h
 exact (blk_cell h1 j).trans (h2 j hj)
theorem Row.free {w : World} {g : Nat} {t : TypeId} {c : Nat} {d : Array Int} (h : Row w g t c d) (j : Nat) : w.frozen? ⟨g, j, none⟩ = false := by
 obtain ⟨cs, _, h1, _⟩ := h
 exact blk_frozen h1 j
theorem Row.but {w w' : World} {g : Nat} {t : TypeId} {c : Nat} {d : Array Int} {T : Nat → Prop} (h : Row w g t c d) (hb : But T w w') (hg : ¬ T g) : Row w' g t c d := by
 obtain ⟨cs, h0, h1, h2⟩ := h
 exact ⟨cs, h0, hb.heap h1 hg, h2⟩
theorem Row.drew {w : World} {g : Nat} {t : TypeId} {c : Nat} {d : Array Int} (h : Row w g t c d) : Row w.drew g t c d := h
theorem Row.set {w : World} {g : Nat} {t : TypeId} {c : Nat} {d : Array Int} (h : Row w g t c d) {j : Nat} (hj : j < d.size) (x : Int) : Row (w.setCell ⟨g, j, none⟩ (.int .u32 x)) g t c (d.setIfInBounds j x) := by
 obtain ⟨cs, h0, h1, h2, h3⟩ := h
 refine ⟨cs.setIfInBounds j (.int .u32 x), by simpa using h0, by simpa using blk_set h1 j (.int .u32 x), by simpa using h2, fun k hk => ?_⟩
 have hk' : k < d.size := by simpa using hk
 have hc : j < cs.size := by omega
 by_cases e : j = k
 ·subst e
  rw [Array.getElem?_setIfInBounds_self_of_lt hc]
  simp [hj]
 ·rw [Array.getElem?_setIfInBounds_ne e, h3 k hk']
  have : (d.setIfInBounds j x)[k]! = d[k]! := by
   rw [getElem!_pos _ k hk, getElem!_pos _ k hk', Array.getElem_setIfInBounds_ne hk' e]
  rw [this]
theorem Row.swp {w : World} {g : Nat} {t : TypeId} {c : Nat} {d : Array Int} (h : Row w g t c d) {i j : Nat} (hi : i < d.size) (hj : j < d.size) : Row ((w.setCell ⟨g, i, none⟩ (.int .u32 d[j]!)).setCell ⟨g, j, none⟩ (.int .u32 d[i]!)) g t c (Sort.swp d i j) :=
 (h.set hi _).set (by simpa using hj) _
theorem swp_size (d : Array Int) (i j : Nat) : (Sort.swp d i j).size = d.size := by simp [Sort.swp]
theorem But.two {g : Nat} (w : World) (i j : Nat) (x y : Value) : But (fun k => k = g) w ((w.setCell ⟨g, i, none⟩ x).setCell ⟨g, j, none⟩ y) := ((But.refl (fun k => k = g) w).setCell (b := g) rfl i x).setCell (b := g) rfl j y
theorem i64w {x : Int} (h : -9223372036854775808 ≤ x ∧ x ≤ 9223372036854775807) : IntKind.i64.wrap x = x := IntWalk.i64_in _ (by omega)
theorem quiet2 {P : Program} {f : FuncId} {args : Array Value} {w : World} {a n : Nat} {v : Value} (h : Calls P f args (w.drewN (a + n)) fun e w' => e = .returned v ∧ w' = w.drewN (a + n)) :
  Calls P f args (w.drewN (a + n)) fun e w'' => e = .returned v ∧ ∃ m, w'' = w.drewN (a + m) := h.mono fun _ _ ⟨he, hm⟩ => ⟨he, n, hm⟩
def Left (w : World) (g : Nat) (t : TypeId) (c : Nat) (d : Array Int) (e : Ending) (w' : World) : Prop := e = .returned (.tuple #[]) ∧ Row w' g t c d ∧ But (fun k => k = g) w w'
theorem isNaN (x : Int) (w : World) : Calls Tryz.prog 177 #[.int .u32 x] w fun e w' => e = .returned (.bool false) ∧ w' = w := by
 have h : (x != x) = false := by simp
 go_enter Tryz.func177, Tryz.ntmps177
 go_wp2
 go_ret
 exact ⟨rfl, rfl⟩
theorem less (x y : Int) (w : World) : Calls Tryz.prog 155 #[.int .u32 x, .int .u32 y] w fun e w' => e = .returned (.bool (Sort.ltInt x y)) ∧ w' = w := by
 obtain ⟨b, hb⟩ : ∃ b, decide (x < y) = b := ⟨_, rfl⟩
 have H := Aside0.mk hb
 have e : Sort.ltInt x y = b := hb
 rw [e]
 clear e
 cases b
 all_goals
  go_enter Tryz.func155, Tryz.ntmps155
  go_wp2_with (go_at_call 177; refine (isNaN _ _).mono ?_; rintro e w' ⟨rfl, rfl⟩)
  go_ret
  exact ⟨rfl, rfl⟩
theorem lessv {x y : Int} {l : Bool} (h : Sort.ltInt x y = l) (w : World) : Calls Tryz.prog 155 #[.int .u32 x, .int .u32 y] w fun e w' => e = .returned (.bool l) ∧ w' = w := by
 subst h
 exact less x y w
end Go.Proofs.YthibppfdonepoaaGreat.Srt
set_option linter.unusedVariables false
namespace Go.Proofs.YthibppfdonepoaaGreat.Keys
open Go.RowKit Go.MapKept Go.Maps Go.Proofs.YthibppfdonepoaaGreat.XBut Go.Proofs.YthibppfdonepoaaGreat.XMap Go.Proofs.YthibppfdonepoaaGreatW.PrintWords Go.Proofs.YthibppfdonepoaaGreatW.PrintLast
def left (m : List (Int × Value)) (pre : List Int) : Nat := (m.filter fun p => !pre.contains p.1).length
theorem left_lt {m : List (Int × Value)} {pre : List Int} {p : Int × Value} (hp : p ∈ m) (hn : p.1 ∉ pre) : left m (pre ++ [p.1]) < left m pre := by
 unfold left
 have e : (m.filter fun r => !(pre ++ [p.1]).contains r.1) = (m.filter fun r => !pre.contains r.1).filter fun r => r.1 != p.1 := by
  rw [List.filter_filter]
  congr 1
  funext r
  by_cases h : r.1 ∈ pre <;> by_cases h2 : r.1 = p.1 <;> simp [h, h2]
 rw [e]
 exact List.length_filter_lt_length_iff_exists.2 ⟨p, List.mem_filter.2 ⟨hp, by simp [hn]⟩, by simp⟩
theorem told_fresh {w : World} {q : IntKind} {g r : Nat} {m : List (Int × Value)} {pre : List Int} (h : XMap.Told w q g r m pre) : pre.Nodup ∧ ∀ a ∈ pre, ∃ p ∈ m, p.1 = a := by
 obtain ⟨es, clock, since, seen, c0, h1, h2, h3, h4, h5, h6, h7, h8, h9⟩ := h
 exact ⟨h7, h9⟩
theorem und : Tryz.prog.underlying 174 = some (.map 35 59) := by kernel_rfl
theorem keys1 (n : Nat) (lr g bm : Nat) (t : TypeId) (m : List (Int × Value)) (own : Nat → Prop) (W : World)
  (hm : MapAt W .u32 g m) (b1 : W.heap[bm]? = some (.cells #[.map (some g)] t (0, 0))) (hown : ∀ k, own k ∨ k = lr → k ≠ g ∧ k ≠ bm ∧ k ≠ W.heap.size) :
  Hands Tryz.prog n 146 #[.pointer (some ⟨bm, 0, none⟩)] lr (fun x : Int => #[.int .u32 x]) (fun pre => pre.Nodup ∧ ∀ a ∈ pre, ∃ p ∈ m, p.1 = a) (fun pre => pre.Perm (m.map (·.1))) (fun k => k = W.heap.size) own (fun _ => True) W := by
 intro J Jx hJ hY h0
 refine callsIn_wide.2 ?_
 have c1 := (blk_cell b1 0).trans rfl
 obtain ⟨o, hr, hT⟩ := hm.range (P := Tryz.prog) (t := 174) (kt := 35) (et := 59) und
 have HH := Aside0.mk (And.intro hm (And.intro b1 (And.intro h0 (And.intro hY (And.intro hJ hT)))))
 clear hm b1 h0 hY hJ hT
 go_enter Tryz.func146, Tryz.ntmps146
 go_wp2
 go_loopg [] (left m []) (fun kk wr => ∃ pre : List Int, kk = left m pre ∧ XMap.Told wr .u32 g W.heap.size m pre ∧ J pre wr ∧ W.heap.size + 1 ≤ wr.heap.size)
 case atStart =>
  obtain ⟨hm, b1, h0, hY, hJ, hT⟩ := HH.out
  exact ⟨[], rfl, hT, hJ [] _ _ h0 ((But.refl _ _).alloc _), by simp⟩
 obtain ⟨pre, rfl, hT, hj, hsz⟩ := hrel
 have hgne : g ≠ W.heap.size := by have := HH.out.1.lt; omega
 rcases hT.next (P := Tryz.prog) hgne 0 with ⟨hn, hp⟩ | ⟨p, hp, hnew, w1, o2, hal, hn, hT2, he⟩
 ·have X := Aside0.mk (And.intro hp hj)
  clear hp hj hT
  go_wp2
  go_end0
  exact ⟨⟨_, rfl⟩, .inl ⟨pre, X.out.1, X.out.2, trivial⟩⟩
 ·have hB : But (fun k => k = W.heap.size) wr (ChangeMaps.setBlock w1 W.heap.size o2) := by
   rcases hal with rfl | rfl
   ·exact But.put1 _ _ o2
   ·exact (But.refl (fun k => k = W.heap.size) wr).drew.putObj (b := W.heap.size) rfl o2
  have hj2 := HH.out.2.2.2.2.1 _ _ _ hj hB
  have hyy := HH.out.2.2.2.1 pre p.1 _ (told_fresh hT2) hj2 (Nat.le_trans (by omega) hB.size)
  have hsz2 := Nat.le_trans hsz hB.size
  obtain ⟨fn, tmps, assign, body, hy, hR⟩ := hyy
  have RR := Aside0.mk (And.intro hR (And.intro hp (And.intro hnew (And.intro hT2 hsz2))))
  clear hT hj hj2 hB hal hR hp hnew hT2 hsz hsz2
  go_upto_region 3 with (fail)
  refine (wpIn_wide (n := n)).1 (wpIn_region_lit ?_)
  gi_wp2
  refine ⟨fun h => (by cases h), RR.out.1.mono ?_⟩
  rintro e W7 (⟨rfl, hJ7, hk7⟩ | ⟨rfl, hJx7⟩)
  ·have G := Aside0.mk (And.intro hJ7 hk7)
   clear hJ7 hk7 hy
   gi_wp2
   go_wp2
   go_roundg (left m (pre ++ [p.1]))
   case measure => exact left_lt RR.out.2.1 RR.out.2.2.1
   case rel =>
    obtain ⟨hR, hp, hnew, hT2, hsz2⟩ := RR.out
    obtain ⟨hJ7, hk7⟩ := G.out
    have hown2 := hown
    exact ⟨pre ++ [p.1], rfl, hT2.of_blocks (hk7.block g hT2.map.lt (fun h => (hown _ h).1 rfl)) (hk7.block _ hT2.lt (fun h => (hown _ h).2.2 rfl)), hJ7, Nat.le_trans hsz2 hk7.size⟩
  ·have G := Aside0.mk hJx7
   clear hJx7 hy
   gi_wp2
   go_wp2
   refine bodyPost_ret (results_none rfl _ _ _) rfl ?_
   exact ⟨⟨_, rfl⟩, .inr ⟨pre, p.1, told_fresh RR.out.2.2.2.1, G.out⟩⟩
theorem keys (g : Nat) (w : World) : Calls Tryz.prog 123 #[.map (some g)] w fun e w' => ∃ o, e = .returned (.func (.func 146) #[] #[.pointer (some ⟨w.heap.size, 0, none⟩)]) ∧ w' = w.alloc o ∧ ∃ t, o = .cells #[.map (some g)] t (0, 0) := by
 go_enter Tryz.func123, Tryz.ntmps123
 go_wp2
 go_ret
 exact ⟨_, rfl, rfl, _, rfl⟩
end Go.Proofs.YthibppfdonepoaaGreat.Keys
set_option linter.unusedVariables false
namespace Go.Proofs.YthibppfdonepoaaGreat.NodeT
open Go.RowKit Go.Proofs.YthibppfdonepoaaGreat.XBut Go.Proofs.YthibppfdonepoaaGreat.XMap Go.Proofs.YthibppfdonepoaaGreatW.PrintWords Go.Proofs.YthibppfdonepoaaGreatW.PrintLast
theorem eqIn (n : Nat) (mv : Option Nat) (w : World) : (Op.equalIn (n + 1) 174 (.map mv) (.map none)).run Tryz.prog w = .ok mv.isNone w := by
 have h := run_underlying Keys.und w
 cases mv <;> simp [Op.equalIn, go_sem, h]
theorem map_eq (mv : Option Nat) (w : World) : (binOp .eql 174 (.map mv) (.map none)).run Tryz.prog w = .ok (.bool mv.isNone) w := by
 have h : (Op.equal 174 (.map mv) (.map none)).run Tryz.prog w = .ok mv.isNone w := eqIn 9999 mv w
 cases mv <;> simp [binOp, go_sem, h]
theorem none_map (b : Nat) (mv : Option Nat) (w : World) (c : w.cell? ⟨b, 2, none⟩ = some (.map mv)) : Calls Tryz.prog 118 #[.pointer (some ⟨b, 0, none⟩)] w fun e w' => e = .returned (.bool mv.isNone) ∧ w' = w := by
 have h := map_eq mv w
 cases mv
 all_goals
  simp only [Option.isNone] at h
  go_enter Tryz.func118, Tryz.ntmps118
  go_wp2
  go_ret
  exact ⟨rfl, rfl⟩
end Go.Proofs.YthibppfdonepoaaGreat.NodeT
set_option linter.unusedVariables false
namespace Go.Proofs.YthibppfdonepoaaGreat.NodeT
open Go.RowKit Go.MapKept Go.Maps Go.Proofs.YthibppfdonepoaaGreat.XBut Go.Proofs.YthibppfdonepoaaGreat.XMap Go.Proofs.YthibppfdonepoaaGreat.PNodePlays Go.Proofs.YthibppfdonepoaaGreatW.PrintWords Go.Proofs.YthibppfdonepoaaGreatW.PrintLast
def nv (x : S59) : Value := .agg #[.int .u32 x.f0, .int .i64 x.f1.f0, .int .i64 x.f1.f1]
def en (x : S59) : Int × Value := (x.f0, nv x)
structure TabAt (w : World) (base b g : Nat) (u0 u1 : Int) (ns : List S59) : Prop where
 blk : w.heap[b]? = some (.cells #[.int .i64 u0, .int .i64 u1, .map (some g)] 176 (0, 0))
 map : MapAt w .u32 g (ns.map en)
 base1 : base ≤ b
 base2 : base ≤ g
theorem TabAt.ne {w : World} {base b g : Nat} {u0 u1 : Int} {ns : List S59} (h : TabAt w base b g u0 u1 ns) : b ≠ g := by
 rintro rfl
 obtain ⟨es, clock, h1, _⟩ := h.map
 rw [h.blk] at h1
 cases h1
theorem TabAt.but {w w' : World} {base b g : Nat} {u0 u1 : Int} {ns : List S59} (h : TabAt w base b g u0 u1 ns) {T : Nat → Prop} (hb : But T w w') (h1 : ¬ T b) (h2 : ¬ T g) : TabAt w' base b g u0 u1 ns :=
 ⟨hb.heap h.blk h1, h.map.of_block (hb.block g h.map.lt h2), h.base1, h.base2⟩
theorem TabAt.below {w w' : World} {base b g : Nat} {u0 u1 : Int} {ns : List S59} (h : TabAt w base b g u0 u1 ns) (hb : Below w.heap.size w w') : TabAt w' base b g u0 u1 ns :=
 h.but (T := fun _ => False) (But.of_below hb) id id
theorem TabAt.lt {w : World} {base b g : Nat} {u0 u1 : Int} {ns : List S59} (h : TabAt w base b g u0 u1 ns) : b < w.heap.size ∧ g < w.heap.size := ⟨blk_lt h.blk, h.map.lt⟩
theorem new_no (u0 u1 : Int) (w : World) (h : node_in.f u0 u1 1 = some false) :
  Calls Tryz.prog 56 #[.agg #[.int .i64 u0, .int .i64 u1]] w fun e w' => e = .returned (.tuple #[.pointer none, .int .i64 2]) ∧ Below w.heap.size w w' := by
 have hu23 := Tryz.underlying23
 have H := Aside0.mk h
 clear h
 go_enter Tryz.func56, Tryz.ntmps56
 go_wp2_with fail
 refine (node_in.calls u0 u1 1 false _ H.out).mono ?_
 rintro e w1 ⟨rfl, hb⟩
 have HB := Aside0.mk (below_then (below_alloc (Below.refl w.heap.size w) _) (by first | omega | simp) hb)
 clear hb
 dsimp only
 go_wp2
 go_ret2
 exact ⟨rfl, HB.out⟩
theorem new_yes (u0 u1 : Int) (w : World) (h : node_in.f u0 u1 1 = some true) :
  Calls Tryz.prog 56 #[.agg #[.int .i64 u0, .int .i64 u1]] w fun e w' => ∃ b g, e = .returned (.tuple #[.pointer (some ⟨b, 0, none⟩), .int .i64 0]) ∧ Below w.heap.size w w' ∧ TabAt w' w.heap.size b g u0 u1 [] := by
 have hu23 := Tryz.underlying23
 have H := Aside0.mk h
 clear h
 have hmm := @run_makeMap Tryz.prog
 go_enter Tryz.func56, Tryz.ntmps56
 go_wp2_with fail
 refine (node_in.calls u0 u1 1 true _ H.out).mono ?_
 rintro e w1 ⟨rfl, hb⟩
 have HB := Aside0.mk (below_then (below_alloc (Below.refl w.heap.size w) _) (by first | omega | simp) hb)
 have k0 := blk_below (blk_new w (.cells #[.int .i64 u0, .int .i64 u1] 23)) hb
 have c0 := (blk_cell k0 0).trans rfl
 have c1 := (blk_cell k0 1).trans rfl
 clear hb
 dsimp only
 go_wp2
 go_ret2
 have hs := HB.out.size
 refine ⟨w1.heap.size + 1, w1.heap.size, rfl, below_alloc (below_alloc HB.out (Obj.map #[] 0)) _, ⟨?_, ?_, by omega, by omega⟩⟩
 ·have := blk_new (w1.alloc (.map #[] 0)) (.cells #[.int .i64 u0, .int .i64 u1, .map (some w1.heap.size)] 176)
  rwa [World.size_alloc] at this
 ·exact (MapAt.made w1).of_block (Below.heap_alloc _ _ _ (by simp))
theorem bears (k : Nat) (base b g : Nat) (u0 u1 : Int) (ns : List S59) (x : S59) (q z : Int) (w : World) (hT : TabAt w base b g u0 u1 ns) (h : vec_Units.f k x.f1.f0 x.f1.f1 u0 u1 = some (q, z)) :
  Calls Tryz.prog 117 #[.pointer (some ⟨b, 0, none⟩), nv x] w fun e w' => e = .returned (.int .i64 q) ∧ Below w.heap.size w w' := by
 obtain ⟨x0, x1, x2⟩ := x
 have hl := hT.lt.1
 have c0 := (blk_cell hT.blk 0).trans rfl
 have c1 := (blk_cell hT.blk 1).trans rfl
 have hne : b ≠ w.heap.size := by omega
 have H := Aside0.mk h
 have HT := Aside0.mk hT
 clear h hT
 unfold nv
 dsimp only
 go_enter Tryz.func117, Tryz.ntmps117
 go_wp2_with fail
 have d0 : ∀ o, ((w.alloc o).drew).cell? ⟨b, 0, none⟩ = some (.int .i64 u0) := fun o => pw_cell_below (below_drew (below_alloc (Below.refl _ _) o)) c0
 have d1 : ∀ o, ((w.alloc o).drew).cell? ⟨b, 1, none⟩ = some (.int .i64 u1) := fun o => pw_cell_below (below_drew (below_alloc (Below.refl _ _) o)) c1
 have e1 : ((w.alloc (Obj.cells #[.int .u32 x0, .int .i64 x1, .int .i64 x2] 59)).drew).cell? ⟨w.heap.size, 1, none⟩ = some (.int .i64 x1) := (blk_cell (blk_new w _) 1).trans rfl
 have e2 : ((w.alloc (Obj.cells #[.int .u32 x0, .int .i64 x1, .int .i64 x2] 59)).drew).cell? ⟨w.heap.size, 2, none⟩ = some (.int .i64 x2) := (blk_cell (blk_new w _) 2).trans rfl
 have hs : ∀ o, (w.alloc o).drew.heap.size = w.heap.size + 1 := fun o => World.size_alloc ..
 go_region_held3? (fun w' => w'.cell? ⟨w.heap.size, 1, none⟩ = some (.int .i64 x1) ∧ w'.cell? ⟨w.heap.size, 2, none⟩ = some (.int .i64 x2) ∧ w'.cell? ⟨b, 0, none⟩ = some (.int .i64 u0) ∧ w'.cell? ⟨b, 1, none⟩ = some (.int .i64 u1))
  (first | (go_split_ands; exact ⟨(hb.cell (p := ⟨w.heap.size, 1, none⟩) (by simp)).trans e1, (hb.cell (p := ⟨w.heap.size, 2, none⟩) (by simp)).trans e2, (hb.cell (p := ⟨b, 0, none⟩) (by rw [hs]; show b < _; omega)).trans (d0 _), (hb.cell (p := ⟨b, 1, none⟩) (by rw [hs]; show b < _; omega)).trans (d1 _)⟩) | go_keep)
  (first | (go_simp; go_at_call 143; (with_reducible refine (vec_Units.calls k x1 x2 u0 u1 q z _ H.out).mono ?_); rintro e w1 ⟨rfl, hb⟩; dsimp only))
 go_wp2
 go_ret
 exact ⟨rfl, below_then (below_drew (below_alloc (Below.refl _ _) _)) (by rw [hs]; omega) hb⟩
end Go.Proofs.YthibppfdonepoaaGreat.NodeT
set_option linter.unusedVariables false
namespace Go.Proofs.YthibppfdonepoaaGreat.NodeT
open Go.RowKit Go.MapKept Go.Maps Go.ChangeMaps Go.Proofs.YthibppfdonepoaaGreat.XBut Go.Proofs.YthibppfdonepoaaGreat.XMap Go.Proofs.YthibppfdonepoaaGreat.PNodePlays Go.Proofs.YthibppfdonepoaaGreatW.PrintWords Go.Proofs.YthibppfdonepoaaGreatW.PrintLast
def who (ns : List S59) (k : Int) : Option S59 := ns.find? fun x => x.f0 == k
theorem look_en (ns : List S59) (k : Int) : XMap.look (ns.map en) k = (who ns k).map nv := by
 unfold XMap.look who
 induction ns with
 | nil => rfl
 | cons a l ih =>
  rw [List.map_cons, List.find?_cons, List.find?_cons]
  have e : ((en a).1 == k) = (a.f0 == k) := rfl
  rw [e]
  cases a.f0 == k
  ·exact ih
  ·rfl
theorem zero39 (w : World) : (zeroValue 59).run Tryz.prog w = .ok (.agg #[.int .u32 0, .int .i64 0, .int .i64 0]) w := by
 kernel_rfl
theorem TabAt.found {w : World} {base b g : Nat} {u0 u1 k : Int} {ns : List S59} {x : S59} (hT : TabAt w base b g u0 u1 ns) (hk : (Lit.int .u32 k).wf = true) (h : who ns k = some x) :
  (Instr.lookup 174 (.map (some g)) (.int .u32 k) true).run Tryz.prog w = .ok (.tuple #[nv x, .bool true]) w ∧ (Instr.lookup 174 (.map (some g)) (.int .u32 k) false).run Tryz.prog w = .ok (nv x) w := by
 rcases hT.map.look (t := 174) Tryz.underlying174 Tryz.underlying35 hk with ⟨v, h1, h2, h3⟩ | ⟨h1, _⟩
 ·rw [look_en, h] at h1
  cases h1
  exact ⟨h2, h3⟩
 ·rw [look_en, h] at h1
  cases h1
theorem TabAt.lost {w : World} {base b g : Nat} {u0 u1 k : Int} {ns : List S59} (hT : TabAt w base b g u0 u1 ns) (hk : (Lit.int .u32 k).wf = true) (h : who ns k = none) :
  (Instr.lookup 174 (.map (some g)) (.int .u32 k) true).run Tryz.prog w = .ok (.tuple #[.agg #[.int .u32 0, .int .i64 0, .int .i64 0], .bool false]) w := by
 rcases hT.map.look (t := 174) Tryz.underlying174 Tryz.underlying35 hk with ⟨v, h1, _⟩ | ⟨_, h2⟩
 ·rw [look_en, h] at h1
  cases h1
 ·exact (h2 _ (zero39 w)).1
theorem TabAt.set_cells {w : World} {base b g : Nat} {u0 u1 : Int} {ns : List S59} (hT : TabAt w base b g u0 u1 ns) : w.cell? ⟨b, 0, none⟩ = some (.int .i64 u0) ∧ w.cell? ⟨b, 1, none⟩ = some (.int .i64 u1) ∧ w.cell? ⟨b, 2, none⟩ = some (.map (some g)) :=
 ⟨(blk_cell hT.blk 0).trans rfl, (blk_cell hT.blk 1).trans rfl, (blk_cell hT.blk 2).trans rfl⟩
theorem units_no (base b g : Nat) (u0 u1 i : Int) (ns : List S59) (w : World) (hT : TabAt w base b g u0 u1 ns) (hi : (Lit.int .u32 i).wf = true) (hx : who ns i = none) :
  Calls Tryz.prog 108 #[.pointer (some ⟨b, 0, none⟩), .int .u32 i] w fun e w' => e = .returned (.tuple #[.int .i64 0, .int .i64 7]) ∧ Below w.heap.size w w' := by
 have hl := hT.lt.1
 obtain ⟨c0, c1, c2⟩ := hT.set_cells
 have L := hT.lost hi hx
 have hu39 := Tryz.underlying59
 clear hT hi hx
 go_enter Tryz.func108, Tryz.ntmps108
 go_wp2_with fail
 refine (none_map b (some g) _ c2).mono ?_
 rintro e w1 ⟨rfl, rfl⟩
 simp only [Option.isNone]
 go_wp2
 go_ret2
 exact ⟨rfl, by first | exact (below_alloc (Below.refl _ _) _).setCell (p := ⟨w1.heap.size, 0, none⟩) (Nat.le_refl _) _ | exact below_alloc (Below.refl _ _) _⟩
theorem units_yes (k base b g : Nat) (u0 u1 i : Int) (ns : List S59) (x : S59) (q z : Int) (w : World) (hT : TabAt w base b g u0 u1 ns) (hi : (Lit.int .u32 i).wf = true) (hx : who ns i = some x) (h : vec_Units.f k x.f1.f0 x.f1.f1 u0 u1 = some (q, z)) :
  Calls Tryz.prog 108 #[.pointer (some ⟨b, 0, none⟩), .int .u32 i] w fun e w' => e = .returned (.tuple #[.int .i64 q, .int .i64 0]) ∧ Below w.heap.size w w' := by
 have hl := hT.lt.1
 obtain ⟨c0, c1, c2⟩ := hT.set_cells
 have L := (hT.found hi hx).1
 have H := Aside0.mk (And.intro hT h)
 have hu39 := Tryz.underlying59
 obtain ⟨x0, x1, x2⟩ := x
 clear hT hi hx h
 unfold nv at L
 dsimp only at L
 go_enter Tryz.func108, Tryz.ntmps108
 go_wp2_with fail
 refine (none_map b (some g) _ c2).mono ?_
 rintro e w1 ⟨rfl, rfl⟩
 simp only [Option.isNone]
 go_wp2_with fail
 obtain ⟨hT, h⟩ := H.out
 refine (bears k base b g u0 u1 ns ⟨x0, x1, x2⟩ q z _ (hT.below (below_alloc (Below.refl _ _) _)) h).mono ?_
 rintro e w2 ⟨rfl, hb⟩
 have HB := Aside0.mk hb
 clear hT h hb
 dsimp only
 go_wp2
 go_ret2
 exact ⟨rfl, below_then (below_alloc (Below.refl _ _) _) (by simp) HB.out⟩
theorem but_new {T : Nat → Prop} {w w' : World} (h : But T w w') {b : Nat} (hb : w.heap.size ≤ b) (j : Nat) (v : Value) : But T w (w'.setCell ⟨b, j, none⟩ v) := by
 have h2 := (h.mono (T' := fun k => T k ∨ w.heap.size ≤ k) fun _ => .inl).setCell (b := b) (.inr hb) j v
 exact ⟨h2.os, h2.tape, h2.output, h2.size, fun k hk hn => h2.block k hk (fun h => h.elim hn (fun h => by omega))⟩
theorem lose_no (base b g : Nat) (u0 u1 i : Int) (ns : List S59) (w : World) (hT : TabAt w base b g u0 u1 ns) (hi : (Lit.int .u32 i).wf = true) (hx : who ns i = none) :
  Calls Tryz.prog 110 #[.pointer (some ⟨b, 0, none⟩), .int .u32 i] w fun e w' => e = .returned (.tuple #[.agg #[.int .u32 0, .int .i64 0, .int .i64 0], .int .i64 7]) ∧ Below w.heap.size w w' := by
 have hl := hT.lt.1
 obtain ⟨c0, c1, c2⟩ := hT.set_cells
 have L := hT.lost hi hx
 have L2 : ∀ o, (Instr.lookup 174 (.map (some g)) (.int .u32 i) true).run Tryz.prog (w.alloc o) = .ok (.tuple #[.agg #[.int .u32 0, .int .i64 0, .int .i64 0], .bool false]) (w.alloc o) := fun o => (hT.below (below_alloc (Below.refl _ _) o)).lost hi hx
 have hu39 := Tryz.underlying59
 clear hT hi hx
 go_enter Tryz.func110, Tryz.ntmps110
 go_wp2_with fail
 have c2' : ∀ o, (w.alloc o).cell? ⟨b, 2, none⟩ = some (.map (some g)) := fun o => pw_cell_below (below_alloc (Below.refl _ _) o) c2
 refine (none_map b (some g) _ (c2' _)).mono ?_
 rintro e w1 ⟨rfl, rfl⟩
 simp only [Option.isNone]
 go_wp2
 refine bodyPost_ret (v := .tuple #[.agg #[.int .u32 0, .int .i64 0, .int .i64 0], .int .i64 7]) (by simp [results, Tryz.results110, go_sem]) rfl ⟨rfl, ?_⟩
 exact below_alloc (below_alloc (Below.refl _ _) _) _
def less (ns : List S59) (k : Int) : List S59 := ns.filter fun x => x.f0 != k
theorem del_en (ns : List S59) (k : Int) : del (ns.map en) k = (less ns k).map en := by
 unfold del less
 rw [List.filter_map]
 rfl
theorem lose_yes (base b g : Nat) (u0 u1 i : Int) (ns : List S59) (x : S59) (w : World) (hT : TabAt w base b g u0 u1 ns) (hi : (Lit.int .u32 i).wf = true) (hx : who ns i = some x) :
  Calls Tryz.prog 110 #[.pointer (some ⟨b, 0, none⟩), .int .u32 i] w fun e w' => e = .returned (.tuple #[nv x, .int .i64 0]) ∧ But (fun k => k = g) w w' ∧ TabAt w' base b g u0 u1 (less ns i) := by
 have hl := hT.lt.1
 obtain ⟨x0, x1, x2⟩ := x
 obtain ⟨c0, c1, c2⟩ := hT.set_cells
 obtain ⟨W0, hW0⟩ : ∃ W0, W0 = (w.alloc (Obj.cells #[.int .u32 0, .int .i64 0, .int .i64 0] 59)).alloc (Obj.cells #[.int .u32 x0, .int .i64 x1, .int .i64 x2] 59) := ⟨_, rfl⟩
 have L2 : ∀ o, (Instr.lookup 174 (.map (some g)) (.int .u32 i) true).run Tryz.prog (w.alloc o) = .ok (.tuple #[.agg #[.int .u32 x0, .int .i64 x1, .int .i64 x2], .bool true]) (w.alloc o) := fun o => ((hT.below (below_alloc (Below.refl _ _) o)).found hi hx).1
 have hB0 : Below w.heap.size w W0 := by rw [hW0]; exact below_alloc (below_alloc (Below.refl _ _) _) _
 have hT0 := hT.below hB0
 obtain ⟨o, D, hM⟩ := hT0.map.strike (ty := 0) (t := 174) Tryz.underlying174 Tryz.underlying35 hi
 rw [del_en] at hM
 have b1 : But (fun k => k = g) W0 (setBlock W0 g o) := But.put1 _ _ _
 have KEEP := Aside0.mk (And.intro ((But.of_below hB0).trans b1) (And.intro hT0.ne (And.intro hT0 (And.intro hM b1))))
 have k0 : W0.heap[w.heap.size]? = some (.cells #[.int .u32 0, .int .i64 0, .int .i64 0] 59 (0, 0)) := by rw [hW0]; exact blk_alloc (blk_new w _) _
 have k1 : W0.heap[w.heap.size + 1]? = some (.cells #[.int .u32 x0, .int .i64 x1, .int .i64 x2] 59 (0, 0)) := by
  rw [hW0]; have := blk_new (w.alloc (.cells #[.int .u32 0, .int .i64 0, .int .i64 0] 59)) (.cells #[.int .u32 x0, .int .i64 x1, .int .i64 x2] 59); rwa [World.size_alloc] at this
 have l2 := hT.lt.2
 have r0 := b1.heap k0 (by omega)
 have r1 := b1.heap k1 (by omega)
 obtain ⟨W1, hW1⟩ : ∃ W1, setBlock W0 g o = W1 := ⟨_, rfl⟩
 rw [hW1] at D r0 r1 KEEP
 rw [hW0] at D
 have p0 := (blk_cell r1 0).trans rfl
 have p1 := (blk_cell r1 1).trans rfl
 have p2 := (blk_cell r1 2).trans rfl
 have q0 := (blk_cell r0 0).trans rfl
 have q1 := (blk_cell r0 1).trans rfl
 have q2 := (blk_cell r0 2).trans rfl
 have f0 := blk_frozen r0 0
 have f1 := blk_frozen r0 1
 have f2 := blk_frozen r0 2
 have R := Aside0.mk r0
 have hu39 := Tryz.underlying59
 clear hT hi hx hT0 hM b1 k0 k1 r0 r1 hW1
 go_enter Tryz.func110, Tryz.ntmps110
 go_wp2_with fail
 have c2' : ∀ o, (w.alloc o).cell? ⟨b, 2, none⟩ = some (.map (some g)) := fun o => pw_cell_below (below_alloc (Below.refl _ _) o) c2
 have c2'' : ∀ o o2, ((w.alloc o).alloc o2).cell? ⟨b, 2, none⟩ = some (.map (some g)) := fun o o2 => pw_cell_below (below_alloc (below_alloc (Below.refl _ _) o) o2) c2
 refine (none_map b (some g) _ (c2' _)).mono ?_
 rintro e w1 ⟨rfl, rfl⟩
 simp only [Option.isNone]
 go_wp2
 refine bodyPost_ret (v := .tuple #[.agg #[.int .u32 x0, .int .i64 x1, .int .i64 x2], .int .i64 0]) (by simp [results, Tryz.results110, go_sem, q0, q1, q2]) rfl ⟨rfl, ?_, ?_⟩
 ·exact but_new (but_new (but_new KEEP.out.1 (Nat.le_refl _) _ _) (Nat.le_refl _) _ _) (Nat.le_refl _) _ _
 ·obtain ⟨_, hne, hT0, hM, b1⟩ := KEEP.out
  have hT1 : TabAt W1 base b g u0 u1 (less ns i) := ⟨b1.heap hT0.blk hne, hM, hT0.base1, hT0.base2⟩
  refine hT1.but (T := fun k => k = w.heap.size) ((((But.refl (fun k => k = w.heap.size) W1).setCell (b := w.heap.size) rfl _ _).setCell (b := w.heap.size) rfl _ _).setCell (b := w.heap.size) rfl _ _) (by omega) (by omega)
theorem TabAt.asked {w : World} {base b g : Nat} {u0 u1 k : Int} {ns : List S59} (hT : TabAt w base b g u0 u1 ns) (hk : (Lit.int .u32 k).wf = true) :
  ∃ y0 y1 y2, ∀ w', TabAt w' base b g u0 u1 ns → (Instr.lookup 174 (.map (some g)) (.int .u32 k) true).run Tryz.prog w' = .ok (.tuple #[.agg #[.int .u32 y0, .int .i64 y1, .int .i64 y2], .bool (who ns k).isSome]) w' := by
 cases h : who ns k with
 | none => exact ⟨_, _, _, fun w' hT' => hT'.lost hk h⟩
 | some x => exact ⟨x.f0, x.f1.f0, x.f1.f1, fun w' hT' => (hT'.found hk h).1⟩
def ins : List S59 → S59 → List S59
 | [], x => [x]
 | y :: l, x => if x.f0 < y.f0 then x :: y :: l else if x.f0 = y.f0 then x :: l else y :: ins l x
theorem put_en (ns : List S59) (x : S59) : put (ns.map en) x.f0 (nv x) = (ins ns x).map en := by
 induction ns with
 | nil => rfl
 | cons y l ih =>
  rw [List.map_cons]
  unfold put ins
  have e : (en y).1 = y.f0 := rfl
  rw [e, ih]
  split
  ·rfl
  ·split <;> rfl
theorem TabAt.count {w : World} {base b g : Nat} {u0 u1 : Int} {ns : List S59} (hT : TabAt w base b g u0 u1 ns) (hl : ns.length < 9223372036854775808) (ty : TypeId) :
  (Builtin.len_ #[174] ty #[.map (some g)]).run Tryz.prog w = .ok (.int .i64 ns.length) w := by
 obtain ⟨es, clock, hb, F⟩ := hT.map
 have hs := F.size
 rw [List.length_map] at hs
 have h := run_len_map (P := Tryz.prog) w 174 ty g es clock (by kernel_rfl) hb
 rw [hs] at h
 refine h.trans ?_
 simp only [goInt]
 try rfl
def joins (n : Int) (t : Bool) (q : Int) (isb : Bool) (len : Nat) : Int := if n = 0 then 2 else if t = false then 2 else if 4096 < q then 2 else if isb = true then 8 else if 32 ≤ len then 6 else 0
def joined (c : Int) (ns : List S59) (x : S59) : List S59 := if c = 0 then ins ns x else ns
theorem join (base b g : Nat) (u0 u1 n n0 n1 : Int) (ns : List S59) (w : World) (hT : TabAt w base b g u0 u1 ns) (hi : (Lit.int .u32 n).wf = true) (hlen : ns.length ≤ 1000000) (k : Nat) (t : Bool) (q z : Int) (h1 : n ≠ 0 → node_in.f n0 n1 0 = some t) (h2 : n ≠ 0 → t = true → vec_Units.f k n0 n1 u0 u1 = some (q, z)) :
  Calls Tryz.prog 87 #[.pointer (some ⟨b, 0, none⟩), .agg #[.int .u32 n, .int .i64 n0, .int .i64 n1]] w fun e w' =>
   e = .returned (.int .i64 (joins n t q (who ns n).isSome ns.length)) ∧ But (fun k => k = g) w w' ∧ TabAt w' base b g u0 u1 (joined (joins n t q (who ns n).isSome ns.length) ns ⟨n, ⟨n0, n1⟩⟩) := by
 have hl := hT.lt.1
 obtain ⟨c0, c1, c2⟩ := hT.set_cells
 obtain ⟨y0, y1, y2, hL⟩ := hT.asked hi
 have hu39 := Tryz.underlying59
 obtain ⟨W0, hW0⟩ : ∃ W0, W0 = w.alloc (Obj.cells #[.int .u32 n, .int .i64 n0, .int .i64 n1] 59) := ⟨_, rfl⟩
 have hB0 : Below w.heap.size w W0 := by rw [hW0]; exact below_alloc (Below.refl _ _) _
 have hT0 := hT.below hB0
 have kn : W0.heap[w.heap.size]? = some (.cells #[.int .u32 n, .int .i64 n0, .int .i64 n1] 59 (0, 0)) := by rw [hW0]; exact blk_new w _
 have KL : ∀ w', Below W0.heap.size W0 w' → w'.cell? ⟨b, 2, none⟩ = some (.map (some g)) ∧ w'.cell? ⟨w.heap.size, 0, none⟩ = some (.int .u32 n) ∧ (Instr.lookup 174 (.map (some g)) (.int .u32 n) true).run Tryz.prog w' = .ok (.tuple #[.agg #[.int .u32 y0, .int .i64 y1, .int .i64 y2], .bool (who ns n).isSome]) w' := fun w' h =>
  ⟨(hT0.below h).set_cells.2.2, (blk_cell (blk_below kn h) 0).trans rfl, hL _ (hT0.below h)⟩
 obtain ⟨isb, hisb⟩ : ∃ isb, (who ns n).isSome = isb := ⟨_, rfl⟩
 rw [hisb] at KL
 rw [hisb]
 have hlg := hT.lt.2
 have KEEP := Aside0.mk (And.intro hT (And.intro hlen (And.intro hT0 (And.intro kn (And.intro h1 (And.intro h2 hlg))))))
 clear hT hT0 hL kn hisb h1 h2 hlen hlg
 have c2' := (KL W0 (Below.refl _ _)).1
 rw [hW0] at c2' KL
 go_enter Tryz.func87, Tryz.ntmps87
 go_wp2_with fail
 refine (none_map b (some g) _ c2').mono ?_
 rintro e w1 ⟨rfl, rfl⟩
 simp only [Option.isNone]
 go_upto_region 3 with (fail)
 go_region_held3? (fun w' => w'.cell? ⟨b, 2, none⟩ = some (.map (some g)) ∧ w'.cell? ⟨w.heap.size, 0, none⟩ = some (.int .u32 n) ∧ (Instr.lookup 174 (.map (some g)) (.int .u32 n) true).run Tryz.prog w' = .ok (.tuple #[.agg #[.int .u32 y0, .int .i64 y1, .int .i64 y2], .bool isb]) w')
  (first | exact KL _ (below_drew (Below.refl _ _)) | exact KL _ (below_alloc (below_drew (Below.refl _ _)) _) | go_keep) (fail)
 all_goals
  obtain ⟨W3, hW3⟩ : ∃ W3, ((w.alloc (Obj.cells #[.int .u32 n, .int .i64 n0, .int .i64 n1] 59)).alloc (Obj.cells #[.int .u32 y0, .int .i64 y1, .int .i64 y2] 59)).drew = W3 := ⟨_, rfl⟩
  rw [hW3]
  obtain ⟨hT, hlen, hT0, kn, h1, h2, hlg⟩ := KEEP.out
  rw [hW0] at hT0 kn
  have hB3 := below_drew (below_alloc (Below.refl _ (w.alloc (Obj.cells #[.int .u32 n, .int .i64 n0, .int .i64 n1] 59))) (Obj.cells #[.int .u32 y0, .int .i64 y1, .int .i64 y2] 59))
  rw [hW3] at hB3
  have hT3 := hT0.below hB3
  have kn3 := blk_below kn hB3
  have hB4 : Below w.heap.size w W3 := below_then (below_alloc (Below.refl _ _) _) (by simp) hB3
  have n0c := (blk_cell kn3 0).trans rfl
  have n1c := (blk_cell kn3 1).trans rfl
  have n2c := (blk_cell kn3 2).trans rfl
  have tc := hT3.set_cells.2.2
  have HH := Aside0.mk (And.intro hT3 (And.intro kn3 (And.intro hB4 (And.intro h1 (And.intro h2 (And.intro hlg hlen))))))
  have LEN := hT3.count (by omega) 3
  clear KEEP KL hB0 c0 c1 c2 c2' hW0 hW3 hT hT0 hlen kn h1 h2 hB3 hT3 kn3 hB4
  by_cases hn : n = 0
  ·have hnb : (n == 0) = true := by simp [hn]
   have E : Aside0 (joins n t q isb ns.length = 2) := ⟨by simp [joins, hn]⟩
   clear hn
   go_wp2
   go_ret
   obtain ⟨hT3, kn3, hB4, _⟩ := HH.out
   exact ⟨by rw [E.out]; rfl, But.of_below hB4, by rw [E.out]; exact hT3⟩
  ·have hnb : (n == 0) = false := by simp [hn]
   cases t with
   | false =>
    have E : Aside0 (joins n false q isb ns.length = 2) := ⟨by simp [joins, hn]⟩
    have H1 := Aside0.mk (HH.out.2.2.2.1 hn)
    clear hn
    go_wp2_with fail
    refine (node_in.calls n0 n1 0 false _ H1.out).mono ?_
    rintro e w4 ⟨rfl, hb⟩
    have HB := Aside0.mk hb
    clear hb
    dsimp only
    go_wp2
    go_ret
    obtain ⟨hT3, kn3, hB4, _⟩ := HH.out
    exact ⟨by rw [E.out]; rfl, But.of_below (below_step hB4 HB.out), by rw [E.out]; exact hT3.below HB.out⟩
   | true =>
    have H1 := Aside0.mk (HH.out.2.2.2.1 hn)
    have H2 := Aside0.mk (HH.out.2.2.2.2.1 hn rfl)
    go_wp2_with fail
    refine (node_in.calls n0 n1 0 true _ H1.out).mono ?_
    rintro e w4 ⟨rfl, hb⟩
    obtain ⟨hT3, kn3, hB4, h1, h2, hlg, hlen⟩ := HH.out
    have HB := Aside0.mk hb
    have hT4 := hT3.below hb
    have kn4 := blk_below kn3 hb
    have n0c := (blk_cell kn4 0).trans rfl
    have n1c := (blk_cell kn4 1).trans rfl
    have n2c := (blk_cell kn4 2).trans rfl
    clear hb hT3 kn3 hB4 h1 h2 hlg hlen LEN
    dsimp only
    go_wp2_with fail
    refine (bears k base b g u0 u1 ns ⟨n, ⟨n0, n1⟩⟩ q z _ hT4 H2.out).mono ?_
    rintro e w5 ⟨rfl, hb⟩
    have hT5 := hT4.below hb
    have kn5 := blk_below kn4 hb
    have n0c := (blk_cell kn5 0).trans rfl
    have n1c := (blk_cell kn5 1).trans rfl
    have n2c := (blk_cell kn5 2).trans rfl
    have tc := hT5.set_cells.2.2
    have HB5 := Aside0.mk (below_step HB.out hb)
    have LEN := hT5.count (by have := HH.out.2.2.2.2.2.2; omega) 3
    have HT5 := Aside0.mk (And.intro hT5 kn5)
    clear hb hT4 kn4 hT5 kn5
    dsimp only
    have hlen := HH.out.2.2.2.2.2.2
    have hlg := HH.out.2.2.2.2.2.1
    have hlen2 : (ns.length : Int) ≤ 1000000 := by omega
    by_cases hq : 4096 < q
    ·have hqb : decide (4096 < q) = true := decide_eq_true hq
     have E : Aside0 (joins n true q isb ns.length = 2) := ⟨by simp [joins, hn, hq]⟩
     clear hn hq
     go_wp2
     go_ret
     exact ⟨by rw [E.out]; rfl, But.of_below (below_step HH.out.2.2.1 HB5.out), by rw [E.out]; exact HT5.out.1⟩
    ·have hqb : decide (4096 < q) = false := decide_eq_false hq
     cases isb with
     | true =>
      have E : Aside0 (joins n true q true ns.length = 8) := ⟨by simp [joins, hn, hq]⟩
      clear hn hq
      go_wp2
      go_ret
      exact ⟨by rw [E.out]; rfl, But.of_below (below_step HH.out.2.2.1 HB5.out), by rw [E.out]; exact HT5.out.1⟩
     | false =>
      by_cases hf : (32 : Int) ≤ ns.length
      ·have hfb : decide ((32 : Int) ≤ ns.length) = true := decide_eq_true hf
       have E : Aside0 (joins n true q false ns.length = 6) := ⟨by simp [joins, hn, hq, (show 32 ≤ ns.length by omega)]⟩
       clear hn hq
       go_wp2
       go_ret
       exact ⟨by rw [E.out]; rfl, But.of_below (below_step HH.out.2.2.1 HB5.out), by rw [E.out]; exact HT5.out.1⟩
      ·have hfb : decide ((32 : Int) ≤ ns.length) = false := decide_eq_false hf
       have E : Aside0 (joins n true q false ns.length = 0) := ⟨by simp [joins, hn, hq, (show ¬ 32 ≤ ns.length by omega)]⟩
       clear hn hq
       go_upto_region 10 with (fail)
       obtain ⟨o, MU, hM⟩ := HT5.out.1.map.drew.store (t := 174) Tryz.underlying174 Tryz.underlying35 hi (by rw [List.length_map]; unfold maxLen; omega) (.agg #[.int .u32 n, .int .i64 n0, .int .i64 n1])
       obtain ⟨W6, hW6⟩ : ∃ W6, setBlock w5.drew g o = W6 := ⟨_, rfl⟩
       have b1 : But (fun k => k = g) w5.drew (setBlock w5.drew g o) := But.put1 _ _ _
       rw [hW6] at MU hM b1
       have R := Aside0.mk (And.intro hM b1)
       clear hM b1 hW6
       go_still_tail 7, (by kernel_rfl)
       change wpList _ _ _ _ _ w5.drew
       have tc' : w5.drew.cell? ⟨b, 2, none⟩ = some (.map (some g)) := tc
       have n0c' : w5.drew.cell? ⟨w.heap.size, 0, none⟩ = some (.int .u32 n) := n0c
       have n1c' : w5.drew.cell? ⟨w.heap.size, 1, none⟩ = some (.int .i64 n0) := n1c
       have n2c' : w5.drew.cell? ⟨w.heap.size, 2, none⟩ = some (.int .i64 n1) := n2c
       go_wp2
       go_ret
       have hT5 := HT5.out.1
       have hM : MapAt W6 .u32 g ((ins ns ⟨n, ⟨n0, n1⟩⟩).map en) := by rw [← put_en]; exact R.out.1
       refine ⟨by rw [E.out]; rfl, ((But.of_below (below_step HH.out.2.2.1 HB5.out)).drew).trans R.out.2, ?_⟩
       rw [E.out]
       exact ⟨R.out.2.heap (show w5.drew.heap[b]? = _ from hT5.blk) hT5.ne, hM, hT5.base1, hT5.base2⟩
theorem eq_map_nil {P : Program} (w : World) (t k e : TypeId) (p : Option Nat) (h : P.underlying t = some (.map k e)) : (binOp .eql t (.map p) (.map none)).run P w = .ok (.bool p.isNone) w := by
 have e0 : ∀ d, (Op.equalIn (d + 1) t (.map p) (.map none)).run P w = .ok p.isNone w := by
  intro d
  cases p <;> simp [Op.equalIn, run_underlying h]
 have e1 := e0 9999
 simp only [binOp]
 simp [show Op.equal t (.map p) (.map none) = Op.equalIn (9999 + 1) t (.map p) (.map none) from rfl, e1]
theorem assert_map {P : Program} (w : World) (t xT k e : TypeId) (v : Value) (h : P.underlying t = some (.map k e)) : (Instr.typeAssert (.iface t v) xT t false).run P w = .ok v w := by
 simp [Instr.typeAssert, run_underlying h, go_sem, Result.andThen]
theorem clone_run {P : Program} {w : World} {r : Nat} {es : Array MapEntry} {clock : Nat} (t : TypeId) (hb : w.heap[r]? = some (.map es clock)) :
  (Extern.MapsClone.clone #[.iface t (.map (some r))]).run P w = .ok (.iface t (.map (some w.heap.size))) (w.alloc (.map es clock)) := by
 have e : Extern.MapsClone.clone #[.iface t (.map (some r))] = (getObj r >>= fun o => match o with
   | .map entries clock => (newObj (.map entries clock) >>= fun n => pure (.iface t (.map (some n))))
   | _ => stuck "maps.clone: a map expected") := rfl
 rw [e]
 simp [MapKept.run_getObj_map hb, Result.andThen, go_sem]
theorem clone (g : Nat) (es : Array MapEntry) (clock : Nat) (w : World) (hb : w.heap[g]? = some (.map es clock)) :
  Calls Tryz.prog 119 #[.map (some g)] w fun e w' => e = .returned (.map (some w.heap.size)) ∧ w' = w.alloc (.map es clock) := by
 have hq := fun w => eq_map_nil (P := Tryz.prog) w 174 _ _ (some g) Tryz.underlying174
 go_enter Tryz.func119, Tryz.ntmps119
 go_wp2
 rw [run_callFunc_extern Tryz.func144 (by kernel_rfl) (by kernel_rfl) (by kernel_rfl) (e := Extern.MapsClone.clone) (by kernel_rfl), clone_run 174 hb]
 simp only [Result.andThen]
 rw [Oper.upon_value]
 go_wp2
 rw [assert_map _ 174 20 _ _ _ Tryz.underlying174]
 simp only [Result.andThen]
 rw [Oper.upon_value]
 go_wp2
 go_ret
 exact ⟨rfl, rfl⟩
theorem copy (base b g : Nat) (u0 u1 : Int) (ns : List S59) (w : World) (hT : TabAt w base b g u0 u1 ns) :
  Calls Tryz.prog 64 #[.pointer (some ⟨b, 0, none⟩)] w fun e w' => ∃ b' g', e = .returned (.pointer (some ⟨b', 0, none⟩)) ∧ Below w.heap.size w w' ∧ TabAt w' w.heap.size b' g' u0 u1 ns := by
 have hl := hT.lt.1
 obtain ⟨c0, c1, c2⟩ := hT.set_cells
 have hu23 := Tryz.underlying23
 obtain ⟨es, clock, hb, hF⟩ := hT.map
 have H := Aside0.mk (And.intro hT (And.intro hb hF))
 clear hT hb hF
 go_enter Tryz.func64, Tryz.ntmps64
 go_wp2_with fail
 refine (none_map b (some g) _ c2).mono ?_
 rintro e wz ⟨rfl, hz⟩
 obtain rfl := hz.symm
 clear hz
 simp only [Option.isNone]
 go_wp2_with fail
 have KL : ∀ w', Below w.heap.size w w' → Below w.heap.size w w' ∧ w'.cell? ⟨b, 0, none⟩ = some (.int .i64 u0) ∧ w'.cell? ⟨b, 1, none⟩ = some (.int .i64 u1) ∧ w'.cell? ⟨b, 2, none⟩ = some (.map (some g)) := fun w' h =>
  ⟨h, pw_cell_below h c0, pw_cell_below h c1, pw_cell_below h c2⟩
 have K := Aside0.mk KL
 have HG : Aside0 (∀ w', Below w.heap.size w w' → w'.heap[g]? = some (.map es clock)) := ⟨fun w' h => (h.block _ H.out.1.lt.2).trans H.out.2.1⟩
 clear KL c0 c1 c2
 go_region_held3? (fun w' => Below w.heap.size w w' ∧ w'.cell? ⟨b, 0, none⟩ = some (.int .i64 u0) ∧ w'.cell? ⟨b, 1, none⟩ = some (.int .i64 u1) ∧ w'.cell? ⟨b, 2, none⟩ = some (.map (some g)))
  (first | exact K.out _ (below_drew (Below.refl _ _)) | exact K.out _ (below_alloc (And.left (by assumption)) _) | go_keep)
  (first | (go_simp; go_at_call 119; (with_reducible refine (clone g es clock _ (HG.out _ (And.left (by assumption)))).mono ?_); rintro e wz ⟨rfl, rfl⟩; dsimp only))
 go_wp2
 go_ret
 refine ⟨_, _, rfl, below_drew (below_alloc (below_alloc (Below.refl _ _) _) _), ⟨?_, ⟨es, clock, ?_, H.out.2.2⟩, by omega, Nat.le_refl _⟩⟩
 ·have := blk_new (w.alloc (.map es clock)) (.cells #[.int .i64 u0, .int .i64 u1, .map (some w.heap.size)] 176)
  rw [World.size_alloc] at this
  exact this
 ·exact (Below.heap_alloc _ _ _ (by simp)).trans (World.alloc_heap_new w _)
end Go.Proofs.YthibppfdonepoaaGreat.NodeT
set_option linter.unusedVariables false
namespace Go.Proofs.YthibppfdonepoaaGreat.Srt
open Go.RowKit Go.Proofs.YthibppfdonepoaaGreat.XBut Go.Proofs.YthibppfdonepoaaGreatW.PrintWords Go.Proofs.YthibppfdonepoaaGreatW.PrintLast
def Counts (gs : Nat) (w w' : World) : Prop := (∃ s' : Int, w'.heap[gs]? = some (.cells #[.int .i64 s'] 3 (0, 0))) ∧ But (fun k => k = gs) w w'
theorem Counts.trans {gs : Nat} {w1 w2 w3 : World} (h : Counts gs w1 w2) (k : Counts gs w2 w3) : Counts gs w1 w3 := ⟨k.1, h.2.trans k.2⟩
theorem Counts.set {gs : Nat} {w : World} {s : Int} (hs : w.heap[gs]? = some (.cells #[.int .i64 s] 3 (0, 0))) (n : Nat) (s' : Int) : Counts gs w ((w.drewN n).setCell ⟨gs, 0, none⟩ (.int .i64 s')) :=
 ⟨⟨s', by simpa using blk_set (w := w.drewN n) (g := gs) hs 0 (.int .i64 s')⟩, ((But.refl (fun k => k = gs) w).drewN n).setCell (b := gs) rfl 0 _⟩
def Two (gs a b : Nat) (w : World) (e : Ending) (w' : World) : Prop := ∃ x y : Nat, ((x = a ∧ y = b) ∨ (x = b ∧ y = a)) ∧ e = .returned (.tuple #[.int .i64 x, .int .i64 y]) ∧ Counts gs w w'
theorem order2 (g gs : Nat) (t : TypeId) (c cap a b n : Nat) (s : Int) (d : Array Int) (w : World) (hn : d.size = n) (hR : Row w g t c d) (hs : w.heap[gs]? = some (.cells #[.int .i64 s] 3 (0, 0))) (ha : a < n) (hb : b < n) (hd : n ≤ 1152921504606846976) :
  Calls Tryz.prog 181 #[.slice (some ⟨g, 0, none⟩) n cap, .int .i64 a, .int .i64 b, .pointer (some ⟨gs, 0, none⟩)] w (Two gs a b w) := by
 have c1 := hR.cell (j := b) (by omega)
 have c2 := hR.cell (j := a) (by omega)
 have c3 := (blk_cell hs 0).trans rfl
 have f3 := blk_frozen hs 0
 have b1 : (0 : Int) ≤ (b : Int) := by omega
 have b2 : (b : Int) < (n : Int) := by omega
 have b3 : (0 : Int) ≤ (a : Int) := by omega
 have b4 : (a : Int) < (n : Int) := by omega
 obtain ⟨y1, hy1⟩ : ∃ y, d[b]! = y := ⟨_, rfl⟩
 obtain ⟨y2, hy2⟩ : ∃ y, d[a]! = y := ⟨_, rfl⟩
 rw [hy1] at c1
 rw [hy2] at c2
 obtain ⟨l, hl⟩ : ∃ l, Sort.ltInt y1 y2 = l := ⟨_, rfl⟩
 have HS := Aside0.mk hs
 have HL := Aside0.mk hl
 clear hy1 hy2 hR hn hs hl
 cases l with
 | true =>
  go_enter Tryz.func181, Tryz.ntmps181
  go_wp2
  go_quiet ((go_at_call 155; exact Calls.quiet_of_same (lessv HL.out _)))
  go_wp2
  go_ret2
  exact ⟨b, a, .inr ⟨rfl, rfl⟩, rfl, Counts.set HS.out nq _⟩
 | false =>
  go_enter Tryz.func181, Tryz.ntmps181
  go_wp2
  go_quiet ((go_at_call 155; exact Calls.quiet_of_same (lessv HL.out _)))
  go_wp2
  go_ret2
  exact ⟨a, b, .inl ⟨rfl, rfl⟩, rfl, ⟨s, HS.out⟩, (But.refl _ w).drewN nq⟩
def One (gs lo hi : Nat) (w : World) (e : Ending) (w' : World) : Prop := ∃ x : Nat, lo ≤ x ∧ x ≤ hi ∧ e = .returned (.int .i64 x) ∧ Counts gs w w'
theorem median (g gs : Nat) (t : TypeId) (c cap i j k n lo hi : Nat) (s : Int) (d : Array Int) (w : World) (hn : d.size = n) (hR : Row w g t c d) (hs : w.heap[gs]? = some (.cells #[.int .i64 s] 3 (0, 0))) (hne : g ≠ gs) (h1 : lo ≤ i ∧ i ≤ hi) (h2 : lo ≤ j ∧ j ≤ hi) (h3 : lo ≤ k ∧ k ≤ hi) (hh : hi < n) (hd : n ≤ 1152921504606846976) :
  Calls Tryz.prog 176 #[.slice (some ⟨g, 0, none⟩) n cap, .int .i64 i, .int .i64 j, .int .i64 k, .pointer (some ⟨gs, 0, none⟩)] w (One gs lo hi w) := by
 have HS := Aside0.mk (And.intro hs (And.intro hR (And.intro hn hne)))
 clear hs hR hn hne
 go_enter Tryz.func176, Tryz.ntmps176
 go_wp2_with fail
 refine (order2 g gs t c cap i j n s d w HS.out.2.2.1 HS.out.2.1 HS.out.1 (by omega) (by omega) hd).mono ?_
 rintro e w1 ⟨x1, y1, hxy1, rfl, hc1⟩
 have hx1 : lo ≤ x1 ∧ x1 ≤ hi ∧ lo ≤ y1 ∧ y1 ≤ hi := by omega
 have H1 := Aside0.mk hc1
 clear hxy1 hc1
 go_wp2_with fail
 obtain ⟨s1, hs1⟩ := H1.out.1
 refine (order2 g gs t c cap y1 k n s1 d w1 HS.out.2.2.1 (HS.out.2.1.but H1.out.2 HS.out.2.2.2) hs1 (by omega) (by omega) hd).mono ?_
 rintro e w2 ⟨x2, y2, hxy2, rfl, hc2⟩
 have hx2 : lo ≤ x2 ∧ x2 ≤ hi ∧ lo ≤ y2 ∧ y2 ≤ hi := by omega
 have H2 := Aside0.mk (H1.out.trans hc2)
 clear hxy2 hc2 hs1 H1
 go_wp2_with fail
 obtain ⟨s2, hs2⟩ := H2.out.1
 refine (order2 g gs t c cap x1 x2 n s2 d w2 HS.out.2.2.1 (HS.out.2.1.but H2.out.2 HS.out.2.2.2) hs2 (by omega) (by omega) hd).mono ?_
 rintro e w3 ⟨x3, y3, hxy3, rfl, hc3⟩
 have hx3 : lo ≤ y3 ∧ y3 ≤ hi := by omega
 have H3 := Aside0.mk (H2.out.trans hc3)
 clear hxy3 hc3 hs2 H2
 go_wp2
 go_ret
 exact ⟨y3, hx3.1, hx3.2, rfl, H3.out⟩
theorem medianAdjacent (g gs : Nat) (t : TypeId) (c cap i n lo hi : Nat) (s : Int) (d : Array Int) (w : World) (hn : d.size = n) (hR : Row w g t c d) (hs : w.heap[gs]? = some (.cells #[.int .i64 s] 3 (0, 0))) (hne : g ≠ gs) (h1 : lo + 1 ≤ i ∧ i + 1 ≤ hi) (hh : hi < n) (hd : n ≤ 1152921504606846976) :
  Calls Tryz.prog 175 #[.slice (some ⟨g, 0, none⟩) n cap, .int .i64 i, .pointer (some ⟨gs, 0, none⟩)] w (One gs lo hi w) := by
 obtain ⟨i0, hi0⟩ : ∃ i0, i0 = i - 1 := ⟨_, rfl⟩
 obtain ⟨i1, hi1⟩ : ∃ i1, i1 = i + 1 := ⟨_, rfl⟩
 have e0 : (i : Int) - 1 = (i0 : Int) := by omega
 have e1 : (i : Int) + 1 = (i1 : Int) := by omega
 have hh2 : lo ≤ i0 ∧ i0 ≤ hi ∧ lo ≤ i1 ∧ i1 ≤ hi := by omega
 have HS := Aside0.mk (And.intro hs (And.intro hR (And.intro hn hne)))
 clear hs hR hn hne hi0 hi1
 go_enter Tryz.func175, Tryz.ntmps175
 go_wp2_with fail
 refine (median g gs t c cap i0 i i1 n lo hi s d w HS.out.2.2.1 HS.out.2.1 HS.out.1 HS.out.2.2.2 (by omega) (by omega) (by omega) hh hd).mono ?_
 rintro e w1 ⟨x, q1, q2, rfl, hc⟩
 have HC := Aside0.mk hc
 clear hc
 go_wp2
 go_ret
 exact ⟨x, q1, q2, rfl, HC.out⟩
abbrev New (w w' : World) : Prop := But (fun _ => False) w w'
theorem Counts.new {w : World} {o : Obj} {w' : World} (h : But (fun k => k = w.heap.size) (w.alloc o) w') : New w w' :=
 ⟨h.os, h.tape, h.output, Nat.le_trans (by simp) h.size, fun k hk _ => (h.block k (by simp; omega) (by omega)).trans (Below.heap_alloc _ _ _ (by omega))⟩
def Pivot (a b : Nat) (w : World) (e : Ending) (w' : World) : Prop := ∃ (p : Nat) (h : Int), a ≤ p ∧ p < b ∧ (h = 0 ∨ h = 1 ∨ h = 2) ∧ e = .returned (.tuple #[.int .i64 p, .int .i64 h]) ∧ New w w'
theorem choosePivot (g : Nat) (t : TypeId) (c cap a b n : Nat) (d : Array Int) (w : World) (hn : d.size = n) (hR : Row w g t c d) (hab : a < b) (hb : b ≤ n) (hd : n ≤ 1152921504606846976) :
  Calls Tryz.prog 152 #[.slice (some ⟨g, 0, none⟩) n cap, .int .i64 a, .int .i64 b] w (Pivot a b w) := by
 obtain ⟨l, hl⟩ : ∃ l, l = b - a := ⟨_, rfl⟩
 obtain ⟨q, hq⟩ : ∃ q, q = l / 4 := ⟨_, rfl⟩
 obtain ⟨i, hi⟩ : ∃ i, i = a + q := ⟨_, rfl⟩
 obtain ⟨j, hj⟩ : ∃ j, j = a + q * 2 := ⟨_, rfl⟩
 obtain ⟨k, hk⟩ : ∃ k, k = a + q * 3 := ⟨_, rfl⟩
 have e0 : (b : Int) - (a : Int) = (l : Int) := by omega
 have e1 : (l : Int) / 4 = (q : Int) := by omega
 have e2 : (a : Int) + (q : Int) = (i : Int) := by omega
 have e3 : (a : Int) + (q : Int) * 2 = (j : Int) := by omega
 have e4 : (a : Int) + (q : Int) * 3 = (k : Int) := by omega
 have hI : a ≤ i ∧ i ≤ j ∧ j ≤ k ∧ k ≤ b - 1 ∧ a ≤ j ∧ j < b ∧ (8 ≤ l → a + 2 ≤ i) ∧ (50 ≤ l → a + 1 ≤ i ∧ k + 1 ≤ b - 1) ∧ l ≤ n := by omega
 have hg : g < w.heap.size := hR.lt
 have HS := Aside0.mk (And.intro hR (And.intro hn (And.intro hg hI)))
 obtain ⟨q1, hq1⟩ : ∃ z, decide ((8 : Int) ≤ (l : Int)) = z := ⟨_, rfl⟩
 obtain ⟨q2, hq2⟩ : ∃ z, decide ((50 : Int) ≤ (l : Int)) = z := ⟨_, rfl⟩
 have HQ := Aside0.mk (And.intro hq1 hq2)
 have hln : l ≤ n := hI.2.2.2.2.2.2.2.2
 have hqn : (0 : Int) ≤ (q : Int) := by omega
 have hqm : (q : Int) ≤ 1152921504606846976 := by omega
 clear hR hn hg hI hl hq hi hj hk
 go_enter Tryz.func152, Tryz.ntmps152
 go_upto_if 32 with (fail)
 go_cut [11] (fun s wx => ∃ p : Nat, s = .int .i64 p ∧ a ≤ p ∧ p < b ∧ Counts w.heap.size (w.alloc (.cells #[.int .i64 0] 3)) wx)
 case first =>
  have hK : Counts w.heap.size (w.alloc (.cells #[.int .i64 0] 3)) (w.alloc (.cells #[.int .i64 0] 3)) := ⟨⟨0, blk_new _ _⟩, But.refl _ _⟩
  have hN : New w (w.alloc (.cells #[.int .i64 0] 3)) := Counts.new (But.refl _ _)
  obtain ⟨hR, hn, hg, hI⟩ := HS.out
  have hR0 := hR.but hN (fun h => h)
  have HR := Aside0.mk (And.intro hR0 (And.intro hK (And.intro hn (And.intro hg hI))))
  clear hR hn hg hI hR0 hK hN
  cases q1
  case false =>
   go_wp2_with fail
   go_meet
   obtain ⟨hR0, hK, hn, hg, hI⟩ := HR.out
   exact ⟨j, rfl, by omega, by omega, hK⟩
  case true =>
   have h8 : 8 ≤ l := by have := of_decide_eq_true HQ.out.1; omega
   cases q2
   case false =>
    go_wp2_with fail
    obtain ⟨hR0, hK, hn, hg, hI⟩ := HR.out
    obtain ⟨s, hs⟩ := hK.1
    refine (median g w.heap.size t c cap i j k n a (b - 1) s d _ hn hR0 hs (by omega) (by omega) (by omega) (by omega) (by omega) hd).mono ?_
    rintro e w1 ⟨x, q3, q4, rfl, hc⟩
    have HC := Aside0.mk (hK.trans hc)
    clear hR0 hK hn hI hs hc
    go_wp2_with fail
    go_meet
    exact ⟨x, rfl, q3, by omega, HC.out⟩
   case true =>
    have h50 : 50 ≤ l := by have := of_decide_eq_true HQ.out.2; omega
    go_wp2_with fail
    obtain ⟨hR0, hK, hn, hg, hI⟩ := HR.out
    obtain ⟨s, hs⟩ := hK.1
    refine (medianAdjacent g w.heap.size t c cap i n a (b - 1) s d _ hn hR0 hs (by omega) (by omega) (by omega) hd).mono ?_
    rintro e w1 ⟨x1, q3, q4, rfl, hc⟩
    have HC := Aside0.mk (hK.trans hc)
    clear hR0 hK hn hI hs hc
    go_wp2_with fail
    obtain ⟨hR0, _, hn, _, hI⟩ := HR.out
    obtain ⟨s, hs⟩ := HC.out.1
    refine (medianAdjacent g w.heap.size t c cap j n a (b - 1) s d _ hn (hR0.but HC.out.2 (by omega)) hs (by omega) (by omega) (by omega) hd).mono ?_
    rintro e w2 ⟨x2, q5, q6, rfl, hc⟩
    have HC2 := Aside0.mk (HC.out.trans hc)
    clear hR0 hn hI hs hc HC
    go_wp2_with fail
    obtain ⟨hR0, _, hn, _, hI⟩ := HR.out
    obtain ⟨s, hs⟩ := HC2.out.1
    refine (medianAdjacent g w.heap.size t c cap k n a (b - 1) s d _ hn (hR0.but HC2.out.2 (by omega)) hs (by omega) (by omega) (by omega) hd).mono ?_
    rintro e w3 ⟨x3, q7, q8, rfl, hc⟩
    have HC3 := Aside0.mk (HC2.out.trans hc)
    clear hR0 hn hI hs hc HC2
    go_wp2_with fail
    obtain ⟨hR0, _, hn, _, hI⟩ := HR.out
    obtain ⟨s, hs⟩ := HC3.out.1
    refine (median g w.heap.size t c cap x1 x2 x3 n a (b - 1) s d _ hn (hR0.but HC3.out.2 (by omega)) hs (by omega) (by omega) (by omega) (by omega) (by omega) hd).mono ?_
    rintro e w4 ⟨x4, q9, q10, rfl, hc⟩
    have HC4 := Aside0.mk (HC3.out.trans hc)
    clear hR0 hn hI hs hc HC3
    go_wp2_with fail
    go_meet
    exact ⟨x4, rfl, q9, by omega, HC4.out⟩
 case rest =>
  obtain ⟨p, rfl, hp1, hp2, hC⟩ := hcut
  obtain ⟨⟨s, hs⟩, hB⟩ := hC
  have c1 := (blk_cell hs 0).trans rfl
  have HB := Aside0.mk (Counts.new hB)
  clear hs hB HQ HS
  by_cases h0 : s = 0
  ·have hs0 : (s == 0) = true := by simp [h0]
   clear h0
   go_wp2
   go_ret2
   exact ⟨p, 1, hp1, hp2, by omega, rfl, HB.out⟩
  ·have hs0 : (s == 0) = false := by simp [h0]
   by_cases h12 : s = 12
   ·have hs12 : (s == 12) = true := by simp [h12]
    clear h0 h12
    go_wp2
    go_ret2
    exact ⟨p, 2, hp1, hp2, by omega, rfl, HB.out⟩
   ·have hs12 : (s == 12) = false := by simp [h12]
    clear h0 h12
    go_wp2
    go_ret2
    exact ⟨p, 0, hp1, hp2, by omega, rfl, HB.out⟩
def tab8 : ByteArray := ⟨#[0, 1, 2, 2, 3, 3, 3, 3, 4, 4, 4, 4, 4, 4, 4, 4, 5, 5, 5, 5, 5, 5, 5, 5, 5, 5, 5, 5, 5, 5, 5, 5, 6, 6, 6, 6, 6, 6, 6, 6, 6, 6, 6, 6, 6, 6, 6, 6, 6, 6, 6, 6, 6, 6, 6, 6, 6, 6, 6, 6, 6, 6, 6, 6, 7, 7, 7, 7, 7, 7, 7, 7, 7, 7, 7, 7, 7, 7, 7, 7, 7, 7, 7, 7, 7, 7, 7, 7, 7, 7, 7, 7, 7, 7, 7, 7, 7, 7, 7, 7, 7, 7, 7, 7, 7, 7, 7, 7, 7, 7, 7, 7, 7, 7, 7, 7, 7, 7, 7, 7, 7, 7, 7, 7, 7, 7, 7, 7, 8, 8, 8, 8, 8, 8, 8, 8, 8, 8, 8, 8, 8, 8, 8, 8, 8, 8, 8, 8, 8, 8, 8, 8, 8, 8, 8, 8, 8, 8, 8, 8, 8, 8, 8, 8, 8, 8, 8, 8, 8, 8, 8, 8, 8, 8, 8, 8, 8, 8, 8, 8, 8, 8, 8, 8, 8, 8, 8, 8, 8, 8, 8, 8, 8, 8, 8, 8, 8, 8, 8, 8, 8, 8, 8, 8, 8, 8, 8, 8, 8, 8, 8, 8, 8, 8, 8, 8, 8, 8, 8, 8, 8, 8, 8, 8, 8, 8, 8, 8, 8, 8, 8, 8, 8, 8, 8, 8, 8, 8, 8, 8, 8, 8, 8, 8, 8, 8, 8, 8, 8, 8, 8, 8, 8, 8, 8, 8]⟩
theorem tab8_size : tab8.size = 256 := by decide +kernel
theorem tab8_len : ∀ i : Fin 256, (tab8[i.val]'(by rw [tab8_size]; exact i.isLt)).toNat ≤ 8 ∧ (1 ≤ i.val → 1 ≤ (tab8[i.val]'(by rw [tab8_size]; exact i.isLt)).toNat ∧ 2 ^ ((tab8[i.val]'(by rw [tab8_size]; exact i.isLt)).toNat - 1) ≤ i.val ∧ i.val < 2 ^ (tab8[i.val]'(by rw [tab8_size]; exact i.isLt)).toNat) := by decide +kernel
def Bits (m r : Nat) : Prop := r ≤ 64 ∧ (1 ≤ m → 1 ≤ r ∧ 2 ^ (r - 1) ≤ m ∧ m < 2 ^ r)
theorem Bits.of {m i l b : Nat} (hi : i = m / 2 ^ b) (h1 : 1 ≤ i ∨ b = 0) (hb : b ≤ 56) (hl : l ≤ 8 ∧ (1 ≤ i → 1 ≤ l ∧ 2 ^ (l - 1) ≤ i ∧ i < 2 ^ l)) : Bits m (b + l) := by
 refine ⟨by omega, fun hm => ?_⟩
 have hi1 : 1 ≤ i := by
  rcases h1 with h | h
  ·exact h
  ·subst h; simp at hi; omega
 obtain ⟨l1, l2, l3⟩ := hl.2 hi1
 have hp : 0 < 2 ^ b := Nat.two_pow_pos b
 have hd := Nat.div_add_mod m (2 ^ b)
 have hm2 := Nat.mod_lt m hp
 rw [← hi] at hd
 refine ⟨by omega, ?_, ?_⟩
 ·have e : b + l - 1 = b + (l - 1) := by omega
  rw [e, Nat.pow_add]
  have := Nat.mul_le_mul_left (2 ^ b) l2
  omega
 ·rw [Nat.pow_add]
  have := Nat.mul_le_mul_left (2 ^ b) (show i + 1 ≤ 2 ^ l from l3)
  rw [Nat.mul_add] at this
  omega
theorem len64_0 (m : Nat) (w : World) (h1 : m < 4294967296) (h2 : m < 65536) (h3 : m < 256) (hm : m ≤ 1152921504606846976) :
  Calls Tryz.prog 159 #[.int .u64 m] w fun e w' => ∃ r : Nat, Bits m r ∧ e = .returned (.int .i64 r) ∧ w' = w := by
 have d1 : decide ((4294967296 : Int) ≤ (m : Int)) = false := decide_eq_false (by omega)
 have p1 : (0 : Int) ≤ (m : Int) := by omega
 have d2 : decide ((65536 : Int) ≤ (m : Int)) = false := decide_eq_false (by omega)
 have p2 : (0 : Int) ≤ (m : Int) := by omega
 have d3 : decide ((256 : Int) ≤ (m : Int)) = false := decide_eq_false (by omega)
 have p3 : (0 : Int) ≤ (m : Int) := by omega
 have p4 : (0 : Int) ≤ (m : Int) := by omega
 have p5 : (m : Int) < 256 := by omega
 have hf : m < 256 := by omega
 have hx : m = m / 2 ^ 0 := by omega
 have hb := Bits.of (b := 0) hx (.inr rfl) (by omega) (tab8_len ⟨m, hf⟩)
 have hl := (tab8_len ⟨m, hf⟩).1
 have HB := Aside0.mk hb
 have HL := Aside0.mk hl
 clear hx hb hl
 go_enter Tryz.func159, Tryz.ntmps159
 go_wp2
 go_ret
 refine ⟨_, HB.out, ?_, rfl⟩
 have hl := HL.out
 show Ending.returned (.int .i64 (wrap64 ( wrap64 ((tab8[m]'(by rw [tab8_size]; exact hf)).toNat : Int)))) = _
 congr 2
 simp only [wrap64] at *
 omega
theorem len64_8 (m : Nat) (x3 : Nat) (w : World) (h1 : m < 4294967296) (h2 : m < 65536) (h3 : 256 ≤ m) (e3 : (m : Int) / 256 = (x3 : Int)) (hm : m ≤ 1152921504606846976) :
  Calls Tryz.prog 159 #[.int .u64 m] w fun e w' => ∃ r : Nat, Bits m r ∧ e = .returned (.int .i64 r) ∧ w' = w := by
 have d1 : decide ((4294967296 : Int) ≤ (m : Int)) = false := decide_eq_false (by omega)
 have p1 : (0 : Int) ≤ (m : Int) := by omega
 have d2 : decide ((65536 : Int) ≤ (m : Int)) = false := decide_eq_false (by omega)
 have p2 : (0 : Int) ≤ (m : Int) := by omega
 have d3 : decide ((256 : Int) ≤ (m : Int)) = true := decide_eq_true (by omega)
 have p3 : (0 : Int) ≤ (m : Int) := by omega
 have p4 : (0 : Int) ≤ (x3 : Int) := by omega
 have p5 : (x3 : Int) < 256 := by omega
 have hf : x3 < 256 := by omega
 have hx : x3 = m / 2 ^ 8 := by omega
 have hb := Bits.of (b := 8) hx (.inl (by omega)) (by omega) (tab8_len ⟨x3, hf⟩)
 have hl := (tab8_len ⟨x3, hf⟩).1
 have HB := Aside0.mk hb
 have HL := Aside0.mk hl
 clear hx hb hl
 go_enter Tryz.func159, Tryz.ntmps159
 go_wp2
 go_ret
 refine ⟨_, HB.out, ?_, rfl⟩
 have hl := HL.out
 show Ending.returned (.int .i64 (wrap64 (8 + wrap64 ((tab8[x3]'(by rw [tab8_size]; exact hf)).toNat : Int)))) = _
 congr 2
 simp only [wrap64] at *
 omega
theorem len64_16 (m : Nat) (x2 : Nat) (w : World) (h1 : m < 4294967296) (h2 : 65536 ≤ m) (e2 : (m : Int) / 65536 = (x2 : Int)) (h3 : x2 < 256) (hm : m ≤ 1152921504606846976) :
  Calls Tryz.prog 159 #[.int .u64 m] w fun e w' => ∃ r : Nat, Bits m r ∧ e = .returned (.int .i64 r) ∧ w' = w := by
 have d1 : decide ((4294967296 : Int) ≤ (m : Int)) = false := decide_eq_false (by omega)
 have p1 : (0 : Int) ≤ (m : Int) := by omega
 have d2 : decide ((65536 : Int) ≤ (m : Int)) = true := decide_eq_true (by omega)
 have p2 : (0 : Int) ≤ (m : Int) := by omega
 have d3 : decide ((256 : Int) ≤ (x2 : Int)) = false := decide_eq_false (by omega)
 have p3 : (0 : Int) ≤ (x2 : Int) := by omega
 have p4 : (0 : Int) ≤ (x2 : Int) := by omega
 have p5 : (x2 : Int) < 256 := by omega
 have hf : x2 < 256 := by omega
 have hx : x2 = m / 2 ^ 16 := by omega
 have hb := Bits.of (b := 16) hx (.inl (by omega)) (by omega) (tab8_len ⟨x2, hf⟩)
 have hl := (tab8_len ⟨x2, hf⟩).1
 have HB := Aside0.mk hb
 have HL := Aside0.mk hl
 clear hx hb hl
 go_enter Tryz.func159, Tryz.ntmps159
 go_wp2
 go_ret
 refine ⟨_, HB.out, ?_, rfl⟩
 have hl := HL.out
 show Ending.returned (.int .i64 (wrap64 (16 + wrap64 ((tab8[x2]'(by rw [tab8_size]; exact hf)).toNat : Int)))) = _
 congr 2
 simp only [wrap64] at *
 omega
theorem len64_24 (m : Nat) (x2 x3 : Nat) (w : World) (h1 : m < 4294967296) (h2 : 65536 ≤ m) (e2 : (m : Int) / 65536 = (x2 : Int)) (h3 : 256 ≤ x2) (e3 : (x2 : Int) / 256 = (x3 : Int)) (hm : m ≤ 1152921504606846976) :
  Calls Tryz.prog 159 #[.int .u64 m] w fun e w' => ∃ r : Nat, Bits m r ∧ e = .returned (.int .i64 r) ∧ w' = w := by
 have d1 : decide ((4294967296 : Int) ≤ (m : Int)) = false := decide_eq_false (by omega)
 have p1 : (0 : Int) ≤ (m : Int) := by omega
 have d2 : decide ((65536 : Int) ≤ (m : Int)) = true := decide_eq_true (by omega)
 have p2 : (0 : Int) ≤ (m : Int) := by omega
 have d3 : decide ((256 : Int) ≤ (x2 : Int)) = true := decide_eq_true (by omega)
 have p3 : (0 : Int) ≤ (x2 : Int) := by omega
 have p4 : (0 : Int) ≤ (x3 : Int) := by omega
 have p5 : (x3 : Int) < 256 := by omega
 have hf : x3 < 256 := by omega
 have hx : x3 = m / 2 ^ 24 := by omega
 have hb := Bits.of (b := 24) hx (.inl (by omega)) (by omega) (tab8_len ⟨x3, hf⟩)
 have hl := (tab8_len ⟨x3, hf⟩).1
 have HB := Aside0.mk hb
 have HL := Aside0.mk hl
 clear hx hb hl
 go_enter Tryz.func159, Tryz.ntmps159
 go_wp2
 go_ret
 refine ⟨_, HB.out, ?_, rfl⟩
 have hl := HL.out
 show Ending.returned (.int .i64 (wrap64 (24 + wrap64 ((tab8[x3]'(by rw [tab8_size]; exact hf)).toNat : Int)))) = _
 congr 2
 simp only [wrap64] at *
 omega
theorem len64_32 (m : Nat) (x1 : Nat) (w : World) (h1 : 4294967296 ≤ m) (e1 : (m : Int) / 4294967296 = (x1 : Int)) (h2 : x1 < 65536) (h3 : x1 < 256) (hm : m ≤ 1152921504606846976) :
  Calls Tryz.prog 159 #[.int .u64 m] w fun e w' => ∃ r : Nat, Bits m r ∧ e = .returned (.int .i64 r) ∧ w' = w := by
 have d1 : decide ((4294967296 : Int) ≤ (m : Int)) = true := decide_eq_true (by omega)
 have p1 : (0 : Int) ≤ (m : Int) := by omega
 have d2 : decide ((65536 : Int) ≤ (x1 : Int)) = false := decide_eq_false (by omega)
 have p2 : (0 : Int) ≤ (x1 : Int) := by omega
 have d3 : decide ((256 : Int) ≤ (x1 : Int)) = false := decide_eq_false (by omega)
 have p3 : (0 : Int) ≤ (x1 : Int) := by omega
 have p4 : (0 : Int) ≤ (x1 : Int) := by omega
 have p5 : (x1 : Int) < 256 := by omega
 have hf : x1 < 256 := by omega
 have hx : x1 = m / 2 ^ 32 := by omega
 have hb := Bits.of (b := 32) hx (.inl (by omega)) (by omega) (tab8_len ⟨x1, hf⟩)
 have hl := (tab8_len ⟨x1, hf⟩).1
 have HB := Aside0.mk hb
 have HL := Aside0.mk hl
 clear hx hb hl
 go_enter Tryz.func159, Tryz.ntmps159
 go_wp2
 go_ret
 refine ⟨_, HB.out, ?_, rfl⟩
 have hl := HL.out
 show Ending.returned (.int .i64 (wrap64 (32 + wrap64 ((tab8[x1]'(by rw [tab8_size]; exact hf)).toNat : Int)))) = _
 congr 2
 simp only [wrap64] at *
 omega
theorem len64_40 (m : Nat) (x1 x3 : Nat) (w : World) (h1 : 4294967296 ≤ m) (e1 : (m : Int) / 4294967296 = (x1 : Int)) (h2 : x1 < 65536) (h3 : 256 ≤ x1) (e3 : (x1 : Int) / 256 = (x3 : Int)) (hm : m ≤ 1152921504606846976) :
  Calls Tryz.prog 159 #[.int .u64 m] w fun e w' => ∃ r : Nat, Bits m r ∧ e = .returned (.int .i64 r) ∧ w' = w := by
 have d1 : decide ((4294967296 : Int) ≤ (m : Int)) = true := decide_eq_true (by omega)
 have p1 : (0 : Int) ≤ (m : Int) := by omega
 have d2 : decide ((65536 : Int) ≤ (x1 : Int)) = false := decide_eq_false (by omega)
 have p2 : (0 : Int) ≤ (x1 : Int) := by omega
 have d3 : decide ((256 : Int) ≤ (x1 : Int)) = true := decide_eq_true (by omega)
 have p3 : (0 : Int) ≤ (x1 : Int) := by omega
 have p4 : (0 : Int) ≤ (x3 : Int) := by omega
 have p5 : (x3 : Int) < 256 := by omega
 have hf : x3 < 256 := by omega
 have hx : x3 = m / 2 ^ 40 := by omega
 have hb := Bits.of (b := 40) hx (.inl (by omega)) (by omega) (tab8_len ⟨x3, hf⟩)
 have hl := (tab8_len ⟨x3, hf⟩).1
 have HB := Aside0.mk hb
 have HL := Aside0.mk hl
 clear hx hb hl
 go_enter Tryz.func159, Tryz.ntmps159
 go_wp2
 go_ret
 refine ⟨_, HB.out, ?_, rfl⟩
 have hl := HL.out
 show Ending.returned (.int .i64 (wrap64 (40 + wrap64 ((tab8[x3]'(by rw [tab8_size]; exact hf)).toNat : Int)))) = _
 congr 2
 simp only [wrap64] at *
 omega
theorem len64_48 (m : Nat) (x1 x2 : Nat) (w : World) (h1 : 4294967296 ≤ m) (e1 : (m : Int) / 4294967296 = (x1 : Int)) (h2 : 65536 ≤ x1) (e2 : (x1 : Int) / 65536 = (x2 : Int)) (h3 : x2 < 256) (hm : m ≤ 1152921504606846976) :
  Calls Tryz.prog 159 #[.int .u64 m] w fun e w' => ∃ r : Nat, Bits m r ∧ e = .returned (.int .i64 r) ∧ w' = w := by
 have d1 : decide ((4294967296 : Int) ≤ (m : Int)) = true := decide_eq_true (by omega)
 have p1 : (0 : Int) ≤ (m : Int) := by omega
 have d2 : decide ((65536 : Int) ≤ (x1 : Int)) = true := decide_eq_true (by omega)
 have p2 : (0 : Int) ≤ (x1 : Int) := by omega
 have d3 : decide ((256 : Int) ≤ (x2 : Int)) = false := decide_eq_false (by omega)
 have p3 : (0 : Int) ≤ (x2 : Int) := by omega
 have p4 : (0 : Int) ≤ (x2 : Int) := by omega
 have p5 : (x2 : Int) < 256 := by omega
 have hf : x2 < 256 := by omega
 have hx : x2 = m / 2 ^ 48 := by omega
 have hb := Bits.of (b := 48) hx (.inl (by omega)) (by omega) (tab8_len ⟨x2, hf⟩)
 have hl := (tab8_len ⟨x2, hf⟩).1
 have HB := Aside0.mk hb
 have HL := Aside0.mk hl
 clear hx hb hl
 go_enter Tryz.func159, Tryz.ntmps159
 go_wp2
 go_ret
 refine ⟨_, HB.out, ?_, rfl⟩
 have hl := HL.out
 show Ending.returned (.int .i64 (wrap64 (48 + wrap64 ((tab8[x2]'(by rw [tab8_size]; exact hf)).toNat : Int)))) = _
 congr 2
 simp only [wrap64] at *
 omega
theorem len64_56 (m : Nat) (x1 x2 x3 : Nat) (w : World) (h1 : 4294967296 ≤ m) (e1 : (m : Int) / 4294967296 = (x1 : Int)) (h2 : 65536 ≤ x1) (e2 : (x1 : Int) / 65536 = (x2 : Int)) (h3 : 256 ≤ x2) (e3 : (x2 : Int) / 256 = (x3 : Int)) (hm : m ≤ 1152921504606846976) :
  Calls Tryz.prog 159 #[.int .u64 m] w fun e w' => ∃ r : Nat, Bits m r ∧ e = .returned (.int .i64 r) ∧ w' = w := by
 have d1 : decide ((4294967296 : Int) ≤ (m : Int)) = true := decide_eq_true (by omega)
 have p1 : (0 : Int) ≤ (m : Int) := by omega
 have d2 : decide ((65536 : Int) ≤ (x1 : Int)) = true := decide_eq_true (by omega)
 have p2 : (0 : Int) ≤ (x1 : Int) := by omega
 have d3 : decide ((256 : Int) ≤ (x2 : Int)) = true := decide_eq_true (by omega)
 have p3 : (0 : Int) ≤ (x2 : Int) := by omega
 have p4 : (0 : Int) ≤ (x3 : Int) := by omega
 have p5 : (x3 : Int) < 256 := by omega
 have hf : x3 < 256 := by omega
 have hx : x3 = m / 2 ^ 56 := by omega
 have hb := Bits.of (b := 56) hx (.inl (by omega)) (by omega) (tab8_len ⟨x3, hf⟩)
 have hl := (tab8_len ⟨x3, hf⟩).1
 have HB := Aside0.mk hb
 have HL := Aside0.mk hl
 clear hx hb hl
 go_enter Tryz.func159, Tryz.ntmps159
 go_wp2
 go_ret
 refine ⟨_, HB.out, ?_, rfl⟩
 have hl := HL.out
 show Ending.returned (.int .i64 (wrap64 (56 + wrap64 ((tab8[x3]'(by rw [tab8_size]; exact hf)).toNat : Int)))) = _
 congr 2
 simp only [wrap64] at *
 omega
theorem len64 (m : Nat) (w : World) (hm : m ≤ 1152921504606846976) : Calls Tryz.prog 159 #[.int .u64 m] w fun e w' => ∃ r : Nat, Bits m r ∧ e = .returned (.int .i64 r) ∧ w' = w := by
 by_cases h1 : m < 4294967296
 ·by_cases h2 : m < 65536
  ·by_cases h3 : m < 256
   ·exact len64_0 m w h1 h2 h3 hm
   ·exact len64_8 m (m / 256) w h1 h2 (by omega) (by omega) hm
  ·by_cases h3 : m / 65536 < 256
   ·exact len64_16 m (m / 65536) w h1 (by omega) (by omega) h3 hm
   ·exact len64_24 m (m / 65536) (m / 65536 / 256) w h1 (by omega) (by omega) (by omega) (by omega) hm
 ·by_cases h2 : m / 4294967296 < 65536
  ·by_cases h3 : m / 4294967296 < 256
   ·exact len64_32 m (m / 4294967296) w (by omega) (by omega) h2 h3 hm
   ·exact len64_40 m (m / 4294967296) (m / 4294967296 / 256) w (by omega) (by omega) h2 (by omega) (by omega) hm
  ·by_cases h3 : m / 4294967296 / 65536 < 256
   ·exact len64_48 m (m / 4294967296) (m / 4294967296 / 65536) w (by omega) (by omega) (by omega) (by omega) h3 hm
   ·exact len64_56 m (m / 4294967296) (m / 4294967296 / 65536) (m / 4294967296 / 65536 / 256) w (by omega) (by omega) (by omega) (by omega) (by omega) (by omega) hm
theorem len (m : Nat) (w : World) (hm : m ≤ 1152921504606846976) : Calls Tryz.prog 131 #[.int .u64 m] w fun e w' => ∃ r : Nat, Bits m r ∧ e = .returned (.int .i64 r) ∧ w' = w := by
 go_enter Tryz.func131, Tryz.ntmps131
 go_wp2_with (go_at_call 159; refine (len64 m _ hm).mono ?_; rintro e w' ⟨r, hr, rfl, rfl⟩; have HR := Aside0.mk hr; clear hr)
 go_ret
 exact ⟨r, HR.out, rfl, rfl⟩
theorem reverseRange (g : Nat) (t : TypeId) (c cap a b : Nat) (d : Array Int) (w : World) (hR : Row w g t c d) (hb : b ≤ d.size) (hb0 : 1 ≤ b) (hd : d.size ≤ 1152921504606846976) :
  Calls Tryz.prog 153 #[.slice (some ⟨g, 0, none⟩) d.size cap, .int .i64 a, .int .i64 b] w (Left w g t c (Sort.reverseRange d a b)) := by
 obtain ⟨R, hRR⟩ : ∃ R, Sort.reverseRange d a b = R := ⟨_, rfl⟩
 rw [hRR]
 obtain ⟨n, hn⟩ : ∃ n, d.size = n := ⟨_, rfl⟩
 rw [hn] at hb hd ⊢
 have FF := Aside0.mk (And.intro hRR (And.intro hn (And.intro hR hb)))
 clear hRR hn hR
 go_enter Tryz.func153, Tryz.ntmps153
 go_wp2
 obtain ⟨hRR, hn, hR, _⟩ := FF.out
 go_loopg [6, 7] (b - 1 + 1 - a) (fun kk v6 v7 wr => ∃ (i j : Nat) (e : Array Int), v6 = .int .i64 i ∧ v7 = .int .i64 j ∧ kk = j + 1 - i ∧ j < n ∧ e.size = n ∧ Row wr g t c e ∧ But (fun k => k = g) w wr ∧ Sort.reverseLoop i j e = R)
 case atStart => exact ⟨a, b - 1, d, rfl, by congr 1; omega, rfl, by omega, hn, hR, But.refl _ _, hRR⟩
 obtain ⟨i, j, e, rfl, rfl, rfl, hj, he, hE, hB, hrest⟩ := hrel
 by_cases hlt : i < j
 ·have c1 := hE.cell (j := i) (by omega)
  have c2 := hE.cell (j := j) (by omega)
  have f1 := hE.free i
  have f2 := hE.free j
  rw [Sort.reverseLoop, if_pos hlt] at hrest
  have GG := Aside0.mk (And.intro hE (And.intro hB (And.intro hrest (And.intro he hRR))))
  clear hE hB hrest he hRR hR hn FF
  have b1 : (0 : Int) ≤ (i : Int) := by omega
  have b2 : (i : Int) < (n : Int) := by omega
  have b3 : (0 : Int) ≤ (j : Int) := by omega
  have b4 : (j : Int) < (n : Int) := by omega
  go_wp2
  go_region
  all_goals
   go_wp2
   go_roundg ((j - 1) + 1 - (i + 1))
   case measure => omega
   case rel =>
    obtain ⟨hE, hB, hrest, he, hRR⟩ := GG.out
    exact ⟨i + 1, j - 1, Sort.swp e i j, by go_num, by congr 1; omega, rfl, by omega, (swp_size _ _ _).trans he, (hE.swp (by omega) (by omega)).drew, (hB.trans (But.two _ _ _ _ _)).drew, hrest⟩
 ·have hlt' : decide ((i : Int) < (j : Int)) = false := decide_eq_false (by omega)
  rw [Sort.reverseLoop, if_neg hlt] at hrest
  subst hrest
  have GG := Aside0.mk (And.intro hE (And.intro hB he))
  clear hE hB he hRR hR hn FF
  go_wp2
  go_end0
  exact ⟨rfl, GG.out.1, GG.out.2.1⟩
theorem insInner_size (a : Nat) : ∀ (j : Nat) (d : Array Int), (Sort.insInner Sort.ltInt a j d).size = d.size
 | 0, d => rfl
 | j + 1, d => by
  unfold Sort.insInner
  split
  ·rw [insInner_size a j, swp_size]
  ·rfl
theorem insertionSort (g : Nat) (t : TypeId) (c cap a b : Nat) (d : Array Int) (w : World) (hR : Row w g t c d) (hb : b ≤ d.size) (hd : d.size ≤ 1152921504606846976) (ha : a ≤ b) :
  Calls Tryz.prog 149 #[.slice (some ⟨g, 0, none⟩) d.size cap, .int .i64 a, .int .i64 b] w (Left w g t c (Sort.insertionSort Sort.ltInt d a b)) := by
 obtain ⟨R, hRR⟩ : ∃ R, Sort.insertionSort Sort.ltInt d a b = R := ⟨_, rfl⟩
 rw [hRR]
 obtain ⟨n, hn⟩ : ∃ n, d.size = n := ⟨_, rfl⟩
 rw [hn] at hb hd ⊢
 have FF := Aside0.mk (And.intro hRR (And.intro hn (And.intro hR hb)))
 clear hRR hn hR
 go_enter Tryz.func149, Tryz.ntmps149
 go_wp2
 obtain ⟨hRR, hn, hR, _⟩ := FF.out
 go_loopg [6, 7] (b - (a + 1)) (fun kk v6 v7 wr => ∃ (i : Nat) (e : Array Int), v6 = .int .i64 i ∧ kk = b - i ∧ a < i ∧ i ≤ b + 1 ∧ e.size = n ∧ Row wr g t c e ∧ But (fun k => k = g) w wr ∧ Sort.insOuter Sort.ltInt a b i e = R)
 case atStart => exact ⟨a + 1, d, by go_num, rfl, by omega, by omega, hn, hR, But.refl _ _, hRR⟩
 obtain ⟨i, e, rfl, rfl, ha1, hi1, he, hE, hB, hrest⟩ := hrel
 clear hRR hn hR
 by_cases hlt : i < b
 ·rw [Sort.insOuter, if_pos hlt] at hrest
  obtain ⟨R1, hR1⟩ : ∃ R1, Sort.insInner Sort.ltInt a i e = R1 := ⟨_, rfl⟩
  have hs1 := insInner_size a i e
  rw [hR1] at hrest hs1
  have GG := Aside0.mk (And.intro hE (And.intro hB (And.intro hrest (And.intro he (And.intro hR1 hs1)))))
  clear hE hB hrest he hR1 hs1 FF
  go_wp2
  obtain ⟨hE, hB, hrest, he, hR1, hs1⟩ := GG.out
  obtain ⟨wo, hwo⟩ : ∃ wo : World, wo = wr := ⟨_, rfl⟩
  rw [← hwo] at GG
  clear hwo
  go_loopg [7] i (fun kk v7 wr => ∃ (j : Nat) (f : Array Int), v7 = .int .i64 j ∧ j = kk ∧ j ≤ i ∧ f.size = n ∧ Row wr g t c f ∧ But (fun k => k = g) w wr ∧ Sort.insInner Sort.ltInt a j f = R1)
  case atStart => exact ⟨i, e, rfl, rfl, Nat.le_refl _, he, hE, hB, hR1⟩
  obtain ⟨j, f, rfl, rfl, hj, hf, hF, hBf, hin⟩ := hrel
  clear hE hB hrest he hR1 hs1
  by_cases hja : a < j
  ·obtain ⟨m, rfl⟩ : ∃ m, j = m + 1 := ⟨j - 1, by omega⟩
   have c1 := hF.cell (j := m + 1) (by omega)
   have c2 := hF.cell (j := m) (by omega)
   have f1 := hF.free (m + 1)
   have f2 := hF.free m
   have b1 : (0 : Int) ≤ (m : Int) := by omega
   have b2 : (m : Int) < (n : Int) := by omega
   have b3 : (0 : Int) ≤ (m : Int) + 1 := by omega
   have b4 : (m : Int) + 1 < (n : Int) := by omega
   have hgt : decide ((a : Int) < (m : Int) + 1) = true := decide_eq_true (by omega)
   rw [Sort.insInner] at hin
   by_cases hl : Sort.ltInt f[m + 1]! f[m]! = true
   ·rw [if_pos (by simp only [hl, Bool.and_true]; exact decide_eq_true hja)] at hin
    have HH := Aside0.mk (And.intro hF (And.intro hBf (And.intro hin hf)))
    clear hF hBf hin hf
    go_wp2
    go_quiet ((go_at_call 155; exact Calls.quiet_of_same (less _ _ _)))
    go_wp2
    go_region
    all_goals
     go_wp2
     go_roundg m
     case measure => omega
     case rel =>
      obtain ⟨hF, hBf, hin, hf⟩ := HH.out
      exact ⟨m, Sort.swp f (m + 1) m, by go_num, rfl, by omega, (swp_size _ _ _).trans hf, (Row.swp (w := wr.drewN nq) hF (by omega) (by omega)).drew, ((hBf.drewN nq).trans (But.two _ _ _ _ _)).drew, hin⟩
   ·have hl' : Sort.ltInt f[m + 1]! f[m]! = false := by simpa using hl
    rw [if_neg (by simp [hl'])] at hin
    have HH := Aside0.mk (And.intro hF (And.intro hBf (And.intro hin hf)))
    clear hF hBf hin hf hl
    go_wp2
    go_quiet ((go_at_call 155; exact Calls.quiet_of_same (less _ _ _)))
    go_wp2
    go_roundg (b - (i + 1))
    case measure => omega
    case rel =>
     obtain ⟨hF, hBf, hin, hf⟩ := HH.out
     obtain ⟨_, _, hrest, _⟩ := GG.out
     exact ⟨i + 1, f, by go_num, rfl, by omega, by omega, hf, hF, hBf.drewN nq, by rw [hin]; exact hrest⟩
  ·have hgt : decide ((a : Int) < (j : Int)) = false := decide_eq_false (by omega)
   have hin' : f = R1 := by
    rw [← hin]
    cases j with
    | zero => rfl
    | succ m =>
     rw [Sort.insInner, if_neg]
     simp only [Bool.and_eq_true, decide_eq_true_eq, not_and]
     omega
   have HH := Aside0.mk (And.intro hF (And.intro hBf (And.intro hin' hf)))
   clear hF hBf hin hin' hf
   go_wp2
   go_quiet (fail)
   go_wp2
   go_roundg (b - (i + 1))
   case measure => omega
   case rel =>
    obtain ⟨hF, hBf, hin, hf⟩ := HH.out
    obtain ⟨_, _, hrest, _⟩ := GG.out
    exact ⟨i + 1, f, by go_num, rfl, by omega, by omega, hf, hF, hBf.drewN nq, by rw [hin]; exact hrest⟩
 ·have hlt' : decide ((i : Int) < (b : Int)) = false := decide_eq_false (by omega)
  rw [Sort.insOuter, if_neg hlt] at hrest
  subst hrest
  have GG := Aside0.mk (And.intro hE hB)
  clear hE hB he FF
  go_wp2
  go_end0
  exact ⟨rfl, GG.out.1, GG.out.2⟩
theorem siftDown_size (hi first : Nat) : ∀ (n root : Nat) (d : Array Int), hi - root ≤ n → (Sort.siftDown Sort.ltInt hi first root d).size = d.size := by
 intro n
 induction n with
 | zero =>
  intro root d h
  rw [Sort.siftDown, dif_pos (by omega)]
 | succ n ih =>
  intro root d h
  rw [Sort.siftDown]
  split
  ·rfl
  ·split
   ·split
    ·rfl
    ·split
     ·rw [ih _ _ (by omega), swp_size]
     ·rfl
   ·split
    ·rfl
    ·rw [ih _ _ (by omega), swp_size]
theorem siftDown (g : Nat) (t : TypeId) (c cap lo hi first : Nat) (d : Array Int) (w : World) (hR : Row w g t c d) (hb : first + hi ≤ d.size) (hlo : lo ≤ hi) (hd : d.size ≤ 1152921504606846976) :
  Calls Tryz.prog 172 #[.slice (some ⟨g, 0, none⟩) d.size cap, .int .i64 lo, .int .i64 hi, .int .i64 first] w (Left w g t c (Sort.siftDown Sort.ltInt hi first lo d)) := by
 obtain ⟨R, hRR⟩ : ∃ R, Sort.siftDown Sort.ltInt hi first lo d = R := ⟨_, rfl⟩
 rw [hRR]
 obtain ⟨n, hn⟩ : ∃ n, d.size = n := ⟨_, rfl⟩
 rw [hn] at hb hd ⊢
 have FF := Aside0.mk (And.intro hRR (And.intro hn hR))
 clear hRR hn hR
 go_enter Tryz.func172, Tryz.ntmps172
 go_wp2
 obtain ⟨hRR, hn, hR⟩ := FF.out
 go_loopg [8] (hi - lo) (fun kk v8 wr => ∃ (r : Nat) (e : Array Int), v8 = .int .i64 r ∧ kk = hi - r ∧ r ≤ hi ∧ e.size = n ∧ Row wr g t c e ∧ But (fun k => k = g) w wr ∧ Sort.siftDown Sort.ltInt hi first r e = R)
 case atStart => exact ⟨lo, d, rfl, rfl, hlo, hn, hR, But.refl _ _, hRR⟩
 obtain ⟨r, e, rfl, rfl, hr, he, hE, hB, hrest⟩ := hrel
 clear hRR hn hR FF
 by_cases hge : 2 * r + 1 ≥ hi
 ·rw [Sort.siftDown, dif_pos hge] at hrest
  subst hrest
  have hge' : decide ((hi : Int) ≤ 2 * (r : Int) + 1) = true := decide_eq_true (by omega)
  have GG := Aside0.mk (And.intro hE hB)
  clear hE hB he
  go_wp2
  go_end0
  exact ⟨rfl, GG.out.1, GG.out.2⟩
 ·rw [Sort.siftDown, dif_neg hge] at hrest
  have hge' : decide ((hi : Int) ≤ 2 * (r : Int) + 1) = false := decide_eq_false (by omega)
  obtain ⟨ch, hch⟩ : ∃ ch : Nat, ch = 2 * r + 1 := ⟨_, rfl⟩
  rw [← hch] at hrest hge
  have c0 := hE.cell (j := first + r) (by omega)
  have c1 := hE.cell (j := first + ch) (by omega)
  have f0 := hE.free (first + r)
  have f1 := hE.free (first + ch)
  have b0 : (0 : Int) ≤ (first : Int) + (r : Int) := by omega
  have b1 : (first : Int) + (r : Int) < (n : Int) := by omega
  have b2 : (0 : Int) ≤ (first : Int) + (ch : Int) := by omega
  have b3 : (first : Int) + (ch : Int) < (n : Int) := by omega
  have HC := Aside0.mk hch
  have hcI : 2 * (r : Int) + 1 = (ch : Int) := by omega
  have hge2 : decide (hi ≤ ch) = false := decide_eq_false (by omega)
  by_cases hnx : ch + 1 < hi
  ·obtain ⟨cc, hcc⟩ : ∃ cc, cc = ch + 1 := ⟨_, rfl⟩
   have hccI : (ch : Int) + 1 = (cc : Int) := by omega
   have hnx' : decide ((cc : Int) < (hi : Int)) = true := decide_eq_true (by omega)
   have hnx2 : decide (cc < hi) = true := decide_eq_true (by omega)
   have c2 := hE.cell (j := first + cc) (by omega)
   have c3 := hE.cell (j := first + ch + 1) (by omega)
   have f2 := hE.free (first + cc)
   have f3 := hE.free (first + ch + 1)
   have b4 : (0 : Int) ≤ (first : Int) + (ch : Int) + 1 := by omega
   have b5 : (first : Int) + (ch : Int) + 1 < (n : Int) := by omega
   have b6 : (0 : Int) ≤ (first : Int) + (cc : Int) := by omega
   have b7 : (first : Int) + (cc : Int) < (n : Int) := by omega
   by_cases hl : Sort.ltInt e[first + ch]! e[first + ch + 1]! = true
   ·rw [if_pos (by simp only [hl, Bool.and_true]; exact decide_eq_true hnx), show 2 * r + 2 = cc by omega] at hrest
    have hz : first + cc < n ∧ r < cc ∧ cc < hi ∧ first + r < n := by omega
    clear hnx hch hcc
    by_cases hl2 : Sort.ltInt e[first + r]! e[first + cc]! = true
    ·rw [if_neg (by simp [hl2])] at hrest
     rw [dif_pos (by omega)] at hrest
     have GG := Aside0.mk (And.intro hE (And.intro hB (And.intro hrest (And.intro he hz))))
     have w0 := i64w (x := (first : Int) + (r : Int)) (by omega)
     clear hE hB hrest he hz HC hge
     go_wp2
     go_quiet ((go_at_call 155; exact Calls.quiet_of_same (less _ _ _)))
     go_wp2
     go_quiet ((go_at_call 155; exact quiet2 (less _ _ _)))
     go_wp2
     go_region
     all_goals
      go_wp2
      go_roundg (hi - cc)
      case measure => have := GG.out.2.2.2.2; omega
      case rel =>
       obtain ⟨hE, hB, hrest, he, hz⟩ := GG.out
       exact ⟨cc, Sort.swp e (first + r) (first + cc), rfl, rfl, by omega, (swp_size _ _ _).trans he, (Row.swp (w := wr.drewN _) hE (by omega) (by omega)).drew, (by first | exact ((hB.drewN _).trans (But.two _ _ _ _ _)).drew | exact (hB.drewN _).trans (But.two _ _ _ _ _)), hrest⟩
    ·have hl2' : Sort.ltInt e[first + r]! e[first + cc]! = false := by simpa using hl2
     rw [if_pos (by simp [hl2'])] at hrest
     subst hrest
     have GG := Aside0.mk (And.intro hE hB)
     have w0 := i64w (x := (first : Int) + (r : Int)) (by omega)
     clear hE hB he hz HC hge hl2
     go_wp2
     go_quiet ((go_at_call 155; exact Calls.quiet_of_same (less _ _ _)))
     go_wp2
     go_quiet ((go_at_call 155; exact quiet2 (less _ _ _)))
     go_wp2
     go_end0
     exact ⟨rfl, GG.out.1, by first | exact GG.out.2.drewN _ | exact (GG.out.2.drewN _).drewN _⟩
   ·have hl' : Sort.ltInt e[first + ch]! e[first + ch + 1]! = false := by simpa using hl
    rw [if_neg (by simp [hl'])] at hrest
    have hz : first + ch < n ∧ r < ch ∧ ch < hi ∧ first + r < n := by omega
    clear hnx hch hcc hl
    by_cases hl2 : Sort.ltInt e[first + r]! e[first + ch]! = true
    ·rw [if_neg (by simp [hl2])] at hrest
     have GG := Aside0.mk (And.intro hE (And.intro hB (And.intro hrest (And.intro he hz))))
     have w0 := i64w (x := (first : Int) + (r : Int)) (by omega)
     clear hE hB hrest he hz HC hge
     go_wp2
     go_quiet ((go_at_call 155; exact Calls.quiet_of_same (less _ _ _)))
     go_wp2
     go_quiet ((go_at_call 155; exact quiet2 (less _ _ _)))
     go_wp2
     go_region
     all_goals
      go_wp2
      go_roundg (hi - ch)
      case measure => have := GG.out.2.2.2.2; omega
      case rel =>
       obtain ⟨hE, hB, hrest, he, hz⟩ := GG.out
       exact ⟨ch, Sort.swp e (first + r) (first + ch), rfl, rfl, by omega, (swp_size _ _ _).trans he, (Row.swp (w := wr.drewN _) hE (by omega) (by omega)).drew, (by first | exact ((hB.drewN _).trans (But.two _ _ _ _ _)).drew | exact (hB.drewN _).trans (But.two _ _ _ _ _)), hrest⟩
    ·have hl2' : Sort.ltInt e[first + r]! e[first + ch]! = false := by simpa using hl2
     rw [if_pos (by simp [hl2'])] at hrest
     subst hrest
     have GG := Aside0.mk (And.intro hE hB)
     have w0 := i64w (x := (first : Int) + (r : Int)) (by omega)
     clear hE hB he hz HC hge hl2
     go_wp2
     go_quiet ((go_at_call 155; exact Calls.quiet_of_same (less _ _ _)))
     go_wp2
     go_quiet ((go_at_call 155; exact quiet2 (less _ _ _)))
     go_wp2
     go_end0
     exact ⟨rfl, GG.out.1, by first | exact GG.out.2.drewN _ | exact (GG.out.2.drewN _).drewN _⟩
  ·have hnx' : decide ((ch : Int) + 1 < (hi : Int)) = false := decide_eq_false (by omega)
   rw [if_neg (by simp [hnx])] at hrest
   have hz : first + ch < n ∧ r < ch ∧ ch < hi ∧ first + r < n := by omega
   clear hnx hch
   by_cases hl2 : Sort.ltInt e[first + r]! e[first + ch]! = true
   ·rw [if_neg (by simp [hl2])] at hrest
    have GG := Aside0.mk (And.intro hE (And.intro hB (And.intro hrest (And.intro he hz))))
    have w0 := i64w (x := (first : Int) + (r : Int)) (by omega)
    clear hE hB hrest he hz HC hge
    go_wp2
    go_quiet (fail)
    go_wp2
    go_quiet ((go_at_call 155; exact quiet2 (less _ _ _)))
    go_wp2
    go_region
    all_goals
     go_wp2
     go_roundg (hi - ch)
     case measure => have := GG.out.2.2.2.2; omega
     case rel =>
      obtain ⟨hE, hB, hrest, he, hz⟩ := GG.out
      exact ⟨ch, Sort.swp e (first + r) (first + ch), rfl, rfl, by omega, (swp_size _ _ _).trans he, (Row.swp (w := wr.drewN _) hE (by omega) (by omega)).drew, (by first | exact ((hB.drewN _).trans (But.two _ _ _ _ _)).drew | exact (hB.drewN _).trans (But.two _ _ _ _ _)), hrest⟩
   ·have hl2' : Sort.ltInt e[first + r]! e[first + ch]! = false := by simpa using hl2
    rw [if_pos (by simp [hl2'])] at hrest
    subst hrest
    have GG := Aside0.mk (And.intro hE hB)
    have w0 := i64w (x := (first : Int) + (r : Int)) (by omega)
    clear hE hB he hz HC hge hl2
    go_wp2
    go_quiet (fail)
    go_wp2
    go_quiet ((go_at_call 155; exact quiet2 (less _ _ _)))
    go_wp2
    go_end0
    exact ⟨rfl, GG.out.1, by first | exact GG.out.2.drewN _ | exact (GG.out.2.drewN _).drewN _⟩
theorem siftDownN (g : Nat) (t : TypeId) (c cap lo hi first n : Nat) (d : Array Int) (w : World) (hn : d.size = n) (hR : Row w g t c d) (hb : first + hi ≤ n) (hlo : lo ≤ hi) (hd : n ≤ 1152921504606846976) :
  Calls Tryz.prog 172 #[.slice (some ⟨g, 0, none⟩) n cap, .int .i64 lo, .int .i64 hi, .int .i64 first] w (Left w g t c (Sort.siftDown Sort.ltInt hi first lo d)) := by
 subst hn
 exact siftDown g t c cap lo hi first d w hR hb hlo hd
theorem heapSort (g : Nat) (t : TypeId) (c cap a b : Nat) (d : Array Int) (w : World) (hR : Row w g t c d) (hb : b ≤ d.size) (ha : a < b) (hd : d.size ≤ 1152921504606846976) :
  Calls Tryz.prog 150 #[.slice (some ⟨g, 0, none⟩) d.size cap, .int .i64 a, .int .i64 b] w (Left w g t c (Sort.heapSort Sort.ltInt d a b)) := by
 obtain ⟨R, hRR⟩ : ∃ R, Sort.heapSort Sort.ltInt d a b = R := ⟨_, rfl⟩
 rw [hRR]
 unfold Sort.heapSort at hRR
 obtain ⟨hi, hhi⟩ : ∃ hi, b - a = hi := ⟨_, rfl⟩
 rw [hhi] at hRR
 obtain ⟨R1, hR1⟩ : ∃ R1, Sort.heapBuild Sort.ltInt hi a ((hi - 1) / 2 + 1) d = R1 := ⟨_, rfl⟩
 rw [hR1] at hRR
 obtain ⟨n, hn⟩ : ∃ n, d.size = n := ⟨_, rfl⟩
 rw [hn] at hb hd ⊢
 have hhiI : (b : Int) - (a : Int) = (hi : Int) := by omega
 have hq : Int.tdiv ((hi : Int) - 1) 2 = (((hi - 1) / 2 : Nat) : Int) := by rw [Int.tdiv_eq_ediv_of_nonneg (by omega)]; omega
 have FF := Aside0.mk (And.intro hRR (And.intro hn (And.intro hR (And.intro hR1 hq))))
 clear hRR hn hR hR1 hhi
 go_enter Tryz.func150, Tryz.ntmps150
 go_wp2
 obtain ⟨hRR, hn, hR, hR1, hq⟩ := FF.out
 have hq2 : ((hi - 1 : Nat) : Int) / 2 = (((hi - 1) / 2 : Nat) : Int) := by omega
 go_loopg [9] ((hi - 1) / 2 + 1) (fun kk v9 wr => ∃ (z : Int) (k : Nat) (e : Array Int), v9 = .int .i64 z ∧ k = kk ∧ z = (k : Int) - 1 ∧ k ≤ (hi - 1) / 2 + 1 ∧ e.size = n ∧ Row wr g t c e ∧ But (fun k => k = g) w wr ∧ Sort.heapBuild Sort.ltInt hi a k e = R1)
 case atStart => exact ⟨_, (hi - 1) / 2 + 1, d, rfl, rfl, by omega, Nat.le_refl _, hn, hR, But.refl _ _, hR1⟩
 obtain ⟨z, k, e, rfl, rfl, hz, hk, he, hE, hB, hrest⟩ := hrel
 clear hRR hn hR hR1 hq hq2
 by_cases hk0 : k = 0
 ·subst hk0
  have hz' : z = -1 := by omega
  subst hz'
  have hrest' : e = R1 := hrest
  subst hrest'
  have GG := Aside0.mk (And.intro hE (And.intro hB he))
  clear hE hB he hz hrest
  go_wp2
  obtain ⟨hE, hB, he⟩ := GG.out
  obtain ⟨hRR, _⟩ := FF.out
  go_loopg [10] hi (fun kk v10 wr => ∃ (z : Int) (k : Nat) (f : Array Int), v10 = .int .i64 z ∧ k = kk ∧ z = (k : Int) - 1 ∧ k ≤ hi ∧ f.size = n ∧ Row wr g t c f ∧ But (fun k => k = g) w wr ∧ Sort.heapPop Sort.ltInt a k f = R)
  case atStart => exact ⟨_, hi, e, rfl, rfl, by omega, Nat.le_refl _, he, hE, hB, hRR⟩
  obtain ⟨z, k, f, rfl, rfl, hz, hk, hf, hF, hB2, hrest⟩ := hrel
  clear hRR hE hB he
  by_cases hk0 : k = 0
  ·subst hk0
   have hz' : z = -1 := by omega
   subst hz'
   have hrest' : f = R := hrest
   subst hrest'
   have HH := Aside0.mk (And.intro hF hB2)
   clear hF hB2 hf hz hrest
   go_wp2
   go_end0
   exact ⟨rfl, HH.out.1, HH.out.2⟩
  ·obtain ⟨m, rfl⟩ : ∃ m, k = m + 1 := ⟨k - 1, by omega⟩
   have hz' : z = (m : Int) := by omega
   subst hz'
   have hge : decide ((0 : Int) ≤ (m : Int)) = true := decide_eq_true (by omega)
   have c1 := hF.cell (j := a) (by omega)
   have c2 := hF.cell (j := a + m) (by omega)
   have f1 := hF.free a
   have f2 := hF.free (a + m)
   have b1 : (0 : Int) ≤ (a : Int) := by omega
   have b2 : (a : Int) < (n : Int) := by omega
   have b3 : (0 : Int) ≤ (a : Int) + (m : Int) := by omega
   have b4 : (a : Int) + (m : Int) < (n : Int) := by omega
   have hrest' : Sort.heapPop Sort.ltInt a m (Sort.siftDown Sort.ltInt m a 0 (Sort.swp f a (a + m))) = R := hrest
   have hs := (siftDown_size m a (m - 0) 0 (Sort.swp f a (a + m)) (Nat.le_refl _)).trans ((swp_size f a (a + m)).trans hf)
   have h9 : a + m < n ∧ a + m < f.size ∧ a < f.size := by omega
   have HH := Aside0.mk (And.intro hF (And.intro hB2 (And.intro hrest' (And.intro hf (And.intro hs h9)))))
   obtain ⟨v9, hy9⟩ : ∃ v, (wr.setCell ⟨g, a, none⟩ (.int .u32 f[a + m]!)).cell? ⟨g, a + m, none⟩ = some v := ⟨_, (hF.set (by omega) _).cell (by simp; omega)⟩
   have w0 := i64w (x := (a : Int) + (m : Int)) (by omega)
   clear hF hB2 hrest hrest' hf hz hs h9 hk0
   go_wp2
   go_region
   all_goals
    go_wp2_with fail
    obtain ⟨hF, hB2, hrest', hf, hs, h9⟩ := HH.out
    have hF2 := Aside0.mk ((hF.swp h9.2.2 h9.2.1).drew)
    clear hF hB2 hrest' hf hs
    refine (siftDownN g t c cap 0 m a n (Sort.swp f a (a + m)) _ ((swp_size _ _ _).trans HH.out.2.2.2.1) hF2.out (by have := h9; omega) (by omega) hd).mono ?_
    rintro e9 w9 ⟨rfl, hF9, hB9⟩
    have HK := Aside0.mk (And.intro hF9 hB9)
    clear hF9 hB9 h9 hF2
    go_wp2
    go_roundg m
    case measure => omega
    case rel =>
     obtain ⟨hF, hB2, hrest', hf, hs, h9⟩ := HH.out
     exact ⟨_, m, _, rfl, rfl, rfl, by omega, hs, HK.out.1, ((hB2.trans (But.two _ _ _ _ _)).drew).trans HK.out.2, hrest'⟩
 ·obtain ⟨m, rfl⟩ : ∃ m, k = m + 1 := ⟨k - 1, by omega⟩
  have hz' : z = (m : Int) := by omega
  subst hz'
  have hge : decide ((0 : Int) ≤ (m : Int)) = true := decide_eq_true (by omega)
  have hrest' : Sort.heapBuild Sort.ltInt hi a m (Sort.siftDown Sort.ltInt hi a m e) = R1 := hrest
  have hs := (siftDown_size hi a (hi - m) m e (Nat.le_refl _)).trans he
  have GG := Aside0.mk (And.intro hE (And.intro hB (And.intro hrest' (And.intro he hs))))
  clear hE hB hrest hrest' he hz hs hk0
  go_wp2_with fail
  refine (siftDownN g t c cap m hi a n e _ GG.out.2.2.2.1 GG.out.1 (by omega) (by omega) hd).mono ?_
  rintro e9 w9 ⟨rfl, hF9, hB9⟩
  have HK := Aside0.mk (And.intro hF9 hB9)
  clear hF9 hB9
  go_wp2
  go_roundg m
  case measure => omega
  case rel =>
   obtain ⟨hE, hB, hrest', he, hs⟩ := GG.out
   exact ⟨_, m, _, rfl, rfl, rfl, by omega, hs, HK.out.1, hB.trans HK.out.2, hrest'⟩
end Go.Proofs.YthibppfdonepoaaGreat.Srt
