/- node.Table: sum, Total, Cap. -/
import Derived.Test.YthibppfdonepoaaCLedgerRoomsHNodeE
import Derived.Test.YthibppfdonepoaaCLedgerRoomsPNodePlaysx11
set_option linter.unusedVariables false
namespace Go.Proofs.Ythibppfdonepoaa.NodeT
open Go.RowKit Go.MapKept Go.Maps Go.ChangeMaps Go.Proofs.Ythibppfdonepoaa.XBut Go.Proofs.Ythibppfdonepoaa.XMap Go.Proofs.Ythibppfdonepoaa.PNodePlays Go.Proofs.Ythibppfdonepoaa.Srt Go.Proofs.YthibppfdonepoaaW.PrintWords Go.Proofs.YthibppfdonepoaaW.PrintLast
set_option maxHeartbeats 4000000 in
set_option maxRecDepth 100000 in
theorem total1 (k base b g bt : Nat) (u0 u1 : Int) (ns : List S39) (x : S39) (q z : Int) (w : World) (hT : TabAt w base b g u0 u1 ns) (hbt : w.heap[bt]? = some (.cells #[.pointer (some ⟨b, 0, none⟩)] 25 (0, 0))) (h : vec_Units.f k x.f1.f0 x.f1.f1 u0 u1 = some (q, z)) :
    Calls Try.prog 81 #[nv x, .pointer (some ⟨bt, 0, none⟩)] w fun e w' => e = .returned (.int .i64 q) ∧ Below w.heap.size w w' := by
  obtain ⟨x0, x1, x2⟩ := x
  have H := Aside0.mk (And.intro hT h)
  have cb : ∀ o, (w.alloc o).cell? ⟨bt, 0, none⟩ = some (.pointer (some ⟨b, 0, none⟩)) := fun o => pw_cell_below (below_alloc (Below.refl _ _) o) ((blk_cell hbt 0).trans rfl)
  have hu39 := Try.underlying39
  have hne : bt ≠ w.heap.size := by have := blk_lt hbt; omega
  have c0 := (blk_cell hbt 0).trans rfl
  clear hT h hbt
  unfold nv
  dsimp only
  go_enter Try.func81, Try.ntmps81
  go_wp2_with fail
  obtain ⟨hT, h⟩ := H.out
  refine (bears k base b g u0 u1 ns ⟨x0, x1, x2⟩ q z _ (hT.below (below_alloc (Below.refl _ _) _)) h).mono ?_
  rintro e w2 ⟨rfl, hb⟩
  have HB := Aside0.mk hb
  clear hT h hb
  dsimp only
  go_wp2
  go_ret
  exact ⟨rfl, below_then (below_alloc (Below.refl _ _) _) (by simp) HB.out⟩
/-- The units of all. -/
def sumU (U : S39 → Int) (ns : List S39) : Int := (ns.map U).sum
theorem sumU_step (U : S39 → Int) (ns : List S39) (k : Nat) (h : k < ns.length) : sumU U (ns.take (k + 1)) = sumU U (ns.take k) + U ns[k] := by
  unfold sumU
  rw [List.take_add_one, List.getElem?_eq_getElem h, List.map_append, List.sum_append]
  show _ + (U ns[k] + 0) = _
  omega
theorem sumU_le (U : S39 → Int) (ns : List S39) (hU : ∀ x ∈ ns, 0 ≤ U x ∧ U x ≤ 1073741824) : 0 ≤ sumU U ns ∧ sumU U ns ≤ 1073741824 * ns.length := by
  unfold sumU
  induction ns with
  | nil => simp
  | cons a l ih =>
    have h1 := ih fun x hx => hU x (by simp [hx])
    have h2 := hU a (by simp)
    simp only [List.map_cons, List.sum_cons, List.length_cons]
    omega
set_option maxHeartbeats 8000000 in
set_option maxRecDepth 100000 in
theorem sum (k base b g bt : Nat) (u0 u1 : Int) (ns : List S39) (U : S39 → Int) (z : S39 → Int) (w : World) (hT : TabAt w base b g u0 u1 ns) (hl : ns.length ≤ 1000000) (hbt : w.heap[bt]? = some (.cells #[.pointer (some ⟨b, 0, none⟩)] 25 (0, 0)))
    (h : ∀ x ∈ ns, vec_Units.f k x.f1.f0 x.f1.f1 u0 u1 = some (U x, z x)) (hU : ∀ x ∈ ns, 0 ≤ U x ∧ U x ≤ 1073741824) :
    Calls Try.prog 80 #[.pointer (some ⟨b, 0, none⟩), .func (.func 81) #[] #[.pointer (some ⟨bt, 0, none⟩)]] w fun e w' => e = .returned (.int .i64 (sumU U ns)) ∧ Below w.heap.size w w' := by
  have HH := Aside0.mk (And.intro hT (And.intro hl (And.intro hbt (And.intro h hU))))
  have N := Aside0.mk (nodes base b g u0 u1 ns w hT hl)
  clear hT hl hbt h hU
  go_enter Try.func80, Try.ntmps80
  go_wp2_with fail
  refine N.out.mono ?_
  rintro e w1 ⟨v, rfl, hR, hB⟩
  obtain ⟨A, c, rfl⟩ := Kd.R_slice hR
  obtain ⟨_, _, hC⟩ := Kd.R_reads' hR
  have X := Aside0.mk (And.intro hC hB)
  clear hR hC hB
  dsimp only
  go_wp2
  go_loopg [6, 12] ns.length (fun kk v6 v12 wr => ∃ j : Nat, kk = ns.length - j ∧ v12 = .int .i64 j ∧ v6 = .int .i64 (sumU U (ns.take j)) ∧ j ≤ ns.length ∧ Below w1.heap.size w1 wr)
  case atStart => exact ⟨0, rfl, rfl, by rw [List.take_zero]; rfl, Nat.zero_le _, Below.refl _ _⟩
  obtain ⟨j, rfl, rfl, rfl, hj, hB⟩ := hrel
  by_cases hlt : j < ns.length
  · obtain ⟨ad, rfl, d0, d1, d2⟩ := at_T39 (Kd.C_below X.out.1 hB) (j : Int) (by omega) (by omega)
    have ej : (j : Int).toNat = j := by simp
    have er : rd_T39 ns (j : Int) = ns[j] := by unfold rd_T39; rw [ej, List.getD_eq_getElem?_getD, List.getElem?_eq_getElem hlt]; rfl
    rw [er, ej] at d0 d1 d2
    obtain ⟨hT, hl, hbt, h, hU⟩ := HH.out
    have hl6 : (ns.length : Int) ≤ 1000000 := by omega
    have hB0 := below_step X.out.2 hB
    have hmem : ns[j] ∈ ns := List.getElem_mem hlt
    have TT := Aside0.mk (total1 k base b g bt u0 u1 ns ns[j] _ _ wr (hT.below hB0) (blk_below hbt hB0) (h _ hmem))
    have hstep := sumU_step U ns j hlt
    have hb1 := sumU_le U (ns.take j) (fun x hx => hU x (List.mem_of_mem_take hx))
    have hb2 := hU _ hmem
    have hlj : (ns.take j).length = j := by rw [List.length_take]; omega
    rw [hlj] at hb1
    obtain ⟨s, hs⟩ : ∃ s, sumU U (ns.take j) = s := ⟨_, rfl⟩
    obtain ⟨q, hq⟩ : ∃ q, U ns[j] = q := ⟨_, rfl⟩
    rw [hs] at hstep hb1 ⊢
    rw [hq] at hstep hb2 TT
    have b1 : -9223372036854775808 ≤ s + q := by omega
    have b2 : s + q ≤ 9223372036854775807 := by omega
    obtain ⟨x, hx⟩ : ∃ x, ns[j] = x := ⟨_, rfl⟩
    rw [hx] at d0 d1 d2 TT
    have hlt' : (j : Int) < (ns.length : Int) := by omega
    have hj0 : (0 : Int) ≤ (j : Int) := by omega
    have Y := Aside0.mk (And.intro hB hstep)
    obtain ⟨x0, x1, x2⟩ := x
    unfold nv at TT
    dsimp only at d0 d1 d2 TT
    clear hT hl hbt h hU hB0 hmem hB hstep hb1 hb2 hlj hs hq hx er
    go_wp2_with fail
    refine TT.out.mono ?_
    rintro e w2 ⟨rfl, hb⟩
    have Z := Aside0.mk hb
    clear hb d0 d1 d2
    dsimp only
    go_wp2
    go_roundg (ns.length - (j + 1))
    case measure => omega
    case rel => exact ⟨j + 1, rfl, by go_num, by rw [Y.out.2], by omega, below_step Y.out.1 Z.out⟩
  · have hlt' : ¬ (j : Int) < (ns.length : Int) := by omega
    have hje : ns.take j = ns := List.take_of_length_le (by omega)
    have Y := Aside0.mk hB
    rw [hje]
    clear hB hje
    go_wp2
    go_ret
    exact ⟨rfl, below_step X.out.2 Y.out⟩
set_option maxHeartbeats 8000000 in
set_option maxRecDepth 100000 in
theorem total (k base b g : Nat) (u0 u1 : Int) (ns : List S39) (U : S39 → Int) (z : S39 → Int) (w : World) (hT : TabAt w base b g u0 u1 ns) (hl : ns.length ≤ 1000000)
    (h : ∀ x ∈ ns, vec_Units.f k x.f1.f0 x.f1.f1 u0 u1 = some (U x, z x)) (hU : ∀ x ∈ ns, 0 ≤ U x ∧ U x ≤ 1073741824) :
    Calls Try.prog 28 #[.pointer (some ⟨b, 0, none⟩)] w fun e w' => e = .returned (.int .i64 (sumU U ns)) ∧ Below w.heap.size w w' := by
  have S := Aside0.mk (sum k base b g w.heap.size u0 u1 ns U z _ (hT.below (below_alloc (Below.refl _ _) (.cells #[.pointer (some ⟨b, 0, none⟩)] 25))) hl (blk_new _ _) h hU)
  clear hT hl h hU
  go_enter Try.func28, Try.ntmps28
  go_wp2_with fail
  refine S.out.mono ?_
  rintro e w1 ⟨rfl, hB⟩
  have X := Aside0.mk hB
  clear hB
  dsimp only
  go_wp2
  go_ret
  exact ⟨rfl, below_then (below_alloc (Below.refl _ _) _) (by simp) X.out⟩
set_option maxHeartbeats 8000000 in
set_option maxRecDepth 100000 in
theorem cap (k base b g : Nat) (u0 u1 : Int) (ns : List S39) (U : S39 → Int) (z : S39 → Int) (w : World) (hT : TabAt w base b g u0 u1 ns) (hl : ns.length ≤ 1000000)
    (h : ∀ x ∈ ns, vec_Units.f k x.f1.f0 x.f1.f1 u0 u1 = some (U x, z x)) (hU : ∀ x ∈ ns, 0 ≤ U x ∧ U x ≤ 1073741824) (r0 r1 r2 : Int) (hs : vec_Scale.f u0 u1 (sumU U ns) = some (r0, r1, r2)) :
    Calls Try.prog 27 #[.pointer (some ⟨b, 0, none⟩)] w fun e w' => e = .returned (.agg #[.int .i64 r0, .int .i64 r1]) ∧ Below w.heap.size w w' := by
  have HH := Aside0.mk (And.intro hT (And.intro hl (And.intro h (And.intro hU hs))))
  have hu23 := Try.underlying23
  clear hT hl h hU hs
  go_enter Try.func27, Try.ntmps27
  go_wp2_with fail
  obtain ⟨hT, hl, h, hU, hs⟩ := HH.out
  have hB0 := below_alloc (Below.refl w.heap.size w) (.cells #[.int .i64 0, .int .i64 0] 23)
  have hT0 := hT.below hB0
  refine (unit base b g u0 u1 ns _ hT0).mono ?_
  rintro e w1 ⟨rfl, hB1⟩
  have hT1 := hT0.below hB1
  have S := Aside0.mk (total k base b g u0 u1 ns U z _ hT1 hl h hU)
  have X := Aside0.mk (below_step hB0 hB1)
  have k0 := blk_below (blk_new w (.cells #[.int .i64 0, .int .i64 0] 23)) hB1
  have K0 := Aside0.mk k0
  have hs2 := Aside0.mk hs
  clear hT hl h hU hs hB0 hT0 hB1 hT1 k0
  dsimp only
  go_wp2_with fail
  refine S.out.mono ?_
  rintro e w2 ⟨rfl, hB2⟩
  have K1 := Aside0.mk (blk_below K0.out hB2)
  have X2 := Aside0.mk (below_step X.out hB2)
  clear hB2
  dsimp only
  go_wp2_with fail
  refine (vec_Scale.calls u0 u1 (sumU U ns) r0 r1 r2 _ hs2.out).mono ?_
  rintro e w3 ⟨rfl, hB3⟩
  have k3 := blk_below K1.out hB3
  have hlt := blk_lt k3
  have c0 := fun o => (blk_cell (blk_alloc k3 o) 0).trans rfl
  have c1 := fun o => (blk_cell (blk_alloc k3 o) 1).trans rfl
  have f0 := fun o => blk_frozen (blk_alloc k3 o) 0
  have f1 := fun o => blk_frozen (blk_alloc k3 o) 1
  have k4 : (w3.setCell ⟨w.heap.size, 0, none⟩ (.int .i64 r0)).heap[w.heap.size]? = some (.cells #[.int .i64 r0, .int .i64 0] 23 (0, 0)) := by simpa using blk_set k3 0 (.int .i64 r0)
  have d1 := fun o => (blk_cell (blk_alloc k4 o) 1).trans rfl
  have g1 := fun o => blk_frozen (blk_alloc k4 o) 1
  have k5 : ((w3.setCell ⟨w.heap.size, 0, none⟩ (.int .i64 r0)).setCell ⟨w.heap.size, 1, none⟩ (.int .i64 r1)).heap[w.heap.size]? = some (.cells #[.int .i64 r0, .int .i64 r1] 23 (0, 0)) := by simpa using blk_set k4 1 (.int .i64 r1)
  have e0 := fun o => (blk_cell (blk_alloc k5 o) 0).trans rfl
  have e1 := fun o => (blk_cell (blk_alloc k5 o) 1).trans rfl
  have X3 := Aside0.mk (below_step X2.out hB3)
  clear hB3 k3 k4 k5
  dsimp only
  go_wp2
  refine bodyPost_ret (v := .agg #[.int .i64 r0, .int .i64 r1]) (by simp [results, Try.results27, go_sem, e0, e1]) rfl ⟨rfl, ?_⟩
  exact ((X3.out.setCell (p := ⟨w.heap.size, 0, none⟩) (Nat.le_refl _) _).setCell (p := ⟨w.heap.size, 1, none⟩) (Nat.le_refl _) _).alloc (by simp; omega) _
end Go.Proofs.Ythibppfdonepoaa.NodeT
