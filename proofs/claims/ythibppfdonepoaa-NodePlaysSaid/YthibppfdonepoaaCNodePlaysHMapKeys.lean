/- maps.Keys: what its iterator hands over. -/
import Derived.Test.YthibppfdonepoaaCNodePlaysXBut
import Derived.Test.YthibppfdonepoaaCNodePlaysXMap
import Derived.Test.YthibppfdonepoaaCNodePlaysHSortW
set_option linter.unusedVariables false
namespace Go.Proofs.Ythibppfdonepoaa.Keys
open Go.RowKit Go.MapKept Go.Maps Go.Proofs.Ythibppfdonepoaa.XBut Go.Proofs.Ythibppfdonepoaa.XMap Go.Proofs.YthibppfdonepoaaW.PrintWords Go.Proofs.YthibppfdonepoaaW.PrintLast
def left (m : List (Int × Value)) (pre : List Int) : Nat := (m.filter fun p => !pre.contains p.1).length
theorem left_lt {m : List (Int × Value)} {pre : List Int} {p : Int × Value} (hp : p ∈ m) (hn : p.1 ∉ pre) : left m (pre ++ [p.1]) < left m pre := by
  unfold left
  have e : (m.filter fun r => !(pre ++ [p.1]).contains r.1) = (m.filter fun r => !pre.contains r.1).filter fun r => r.1 != p.1 := by
    rw [List.filter_filter]
    congr 1
    funext r
    by_cases h : r.1 ∈ pre <;> by_cases h2 : r.1 = p.1 <;> simp [h, h2]
  rw [e]
  exact List.length_filter_lt_length_iff_exists.2 ⟨p, List.mem_filter.2 ⟨hp, by simp [hn]⟩, by simp⟩
theorem told_fresh {w : World} {q : IntKind} {g r : Nat} {m : List (Int × Value)} {pre : List Int} (h : XMap.Told w q g r m pre) : pre.Nodup ∧ ∀ a ∈ pre, ∃ p ∈ m, p.1 = a := by
  obtain ⟨es, clock, since, seen, c0, h1, h2, h3, h4, h5, h6, h7, h8, h9⟩ := h
  exact ⟨h7, h9⟩
theorem und : Try.prog.underlying 61 = some (.map 37 39) := by kernel_rfl
theorem und37 : Try.prog.underlying 37 = some (.int .u32) := by kernel_rfl
set_option maxHeartbeats 8000000 in
set_option maxRecDepth 100000 in
theorem keys1 (n : Nat) (lr g bm : Nat) (t : TypeId) (m : List (Int × Value)) (own : Nat → Prop) (W : World)
    (hm : MapAt W .u32 g m) (b1 : W.heap[bm]? = some (.cells #[.map (some g)] t (0, 0))) (hown : ∀ k, own k ∨ k = lr → k ≠ g ∧ k ≠ bm ∧ k ≠ W.heap.size) :
    Hands Try.prog n 125 #[.pointer (some ⟨bm, 0, none⟩)] lr (fun x : Int => #[.int .u32 x]) (fun pre => pre.Nodup ∧ ∀ a ∈ pre, ∃ p ∈ m, p.1 = a) (fun pre => pre.Perm (m.map (·.1))) (fun k => k = W.heap.size) own (fun _ => True) W := by
  intro J Jx hJ hY h0
  refine callsIn_wide.2 ?_
  have c1 := (blk_cell b1 0).trans rfl
  obtain ⟨o, hr, hT⟩ := hm.range (P := Try.prog) (t := 61) (kt := 37) (et := 39) und
  have HH := Aside0.mk (And.intro hm (And.intro b1 (And.intro h0 (And.intro hY (And.intro hJ hT)))))
  clear hm b1 h0 hY hJ hT
  go_enter Try.func125, Try.ntmps125
  go_wp2
  go_loopg [] (left m []) (fun kk wr => ∃ pre : List Int, kk = left m pre ∧ XMap.Told wr .u32 g W.heap.size m pre ∧ J pre wr ∧ W.heap.size + 1 ≤ wr.heap.size)
  case atStart =>
    obtain ⟨hm, b1, h0, hY, hJ, hT⟩ := HH.out
    exact ⟨[], rfl, hT, hJ [] _ _ h0 ((But.refl _ _).alloc _), by simp⟩
  obtain ⟨pre, rfl, hT, hj, hsz⟩ := hrel
  have hgne : g ≠ W.heap.size := by have := HH.out.1.lt; omega
  rcases hT.next (P := Try.prog) hgne 0 with ⟨hn, hp⟩ | ⟨p, hp, hnew, w1, o2, hal, hn, hT2, he⟩
  · have X := Aside0.mk (And.intro hp hj)
    clear hp hj hT
    go_wp2
    go_end0
    exact ⟨⟨_, rfl⟩, .inl ⟨pre, X.out.1, X.out.2, trivial⟩⟩
  · have hB : But (fun k => k = W.heap.size) wr (ChangeMaps.setBlock w1 W.heap.size o2) := by
      rcases hal with rfl | rfl
      · exact But.put1 _ _ o2
      · exact (But.refl (fun k => k = W.heap.size) wr).drew.putObj (b := W.heap.size) rfl o2
    have hj2 := HH.out.2.2.2.2.1 _ _ _ hj hB
    have hyy := HH.out.2.2.2.1 pre p.1 _ (told_fresh hT2) hj2 (Nat.le_trans (by omega) hB.size)
    have hsz2 := Nat.le_trans hsz hB.size
    obtain ⟨fn, tmps, assign, body, hy, hR⟩ := hyy
    have RR := Aside0.mk (And.intro hR (And.intro hp (And.intro hnew (And.intro hT2 hsz2))))
    clear hT hj hj2 hB hal hR hp hnew hT2 hsz hsz2
    go_upto_region 3 with (fail)
    refine (wpIn_wide (n := n)).1 (wpIn_region_lit ?_)
    gi_wp2
    refine ⟨fun h => (by cases h), RR.out.1.mono ?_⟩
    rintro e W7 (⟨rfl, hJ7, hk7⟩ | ⟨rfl, hJx7⟩)
    · have G := Aside0.mk (And.intro hJ7 hk7)
      clear hJ7 hk7 hy
      gi_wp2
      go_wp2
      go_roundg (left m (pre ++ [p.1]))
      case measure => exact left_lt RR.out.2.1 RR.out.2.2.1
      case rel =>
        obtain ⟨hR, hp, hnew, hT2, hsz2⟩ := RR.out
        obtain ⟨hJ7, hk7⟩ := G.out
        have hown2 := hown
        exact ⟨pre ++ [p.1], rfl, hT2.of_blocks (hk7.block g hT2.map.lt (fun h => (hown _ h).1 rfl)) (hk7.block _ hT2.lt (fun h => (hown _ h).2.2 rfl)), hJ7, Nat.le_trans hsz2 hk7.size⟩
    · have G := Aside0.mk hJx7
      clear hJx7 hy
      gi_wp2
      go_wp2
      refine bodyPost_ret (results_none rfl _ _ _) rfl ?_
      exact ⟨⟨_, rfl⟩, .inr ⟨pre, p.1, told_fresh RR.out.2.2.2.1, G.out⟩⟩
set_option maxHeartbeats 8000000 in
theorem keys (g : Nat) (w : World) : Calls Try.prog 75 #[.map (some g)] w fun e w' => ∃ o, e = .returned (.func (.func 125) #[] #[.pointer (some ⟨w.heap.size, 0, none⟩)]) ∧ w' = w.alloc o ∧ ∃ t, o = .cells #[.map (some g)] t (0, 0) := by
  go_enter Try.func75, Try.ntmps75
  go_wp2
  go_ret
  exact ⟨_, rfl, rfl, _, rfl⟩
end Go.Proofs.Ythibppfdonepoaa.Keys
