/- maps.Keys: what its iterator hands over. slices.AppendSeq / Collect over a map's keys, slices.Sorted(maps.Keys(m)). slices.Sorted(maps.Keys(m)). -/
import Derived.Test.YthibppfdonepoaaCLedgerRoomsXBut
import Derived.Test.YthibppfdonepoaaCLedgerRoomsXMap
import Derived.Test.YthibppfdonepoaaCLedgerRoomsHSortB
import Derived.Test.YthibppfdonepoaaCLedgerRoomsHSortJ
import Derived.Shelf.Abstract
set_option linter.unusedVariables false
namespace Go.Proofs.Ythibppfdonepoaa.Keys
open Go.RowKit Go.MapKept Go.Maps Go.Proofs.Ythibppfdonepoaa.XBut Go.Proofs.Ythibppfdonepoaa.XMap Go.Proofs.YthibppfdonepoaaW.PrintWords Go.Proofs.YthibppfdonepoaaW.PrintLast
def left (m : List (Int × Value)) (pre : List Int) : Nat := (m.filter fun p => !pre.contains p.1).length
theorem left_lt {m : List (Int × Value)} {pre : List Int} {p : Int × Value} (hp : p ∈ m) (hn : p.1 ∉ pre) : left m (pre ++ [p.1]) < left m pre := by
  unfold left
  have e : (m.filter fun r => !(pre ++ [p.1]).contains r.1) = (m.filter fun r => !pre.contains r.1).filter fun r => r.1 != p.1 := by
    rw [List.filter_filter]
    congr 1
    funext r
    by_cases h : r.1 ∈ pre <;> by_cases h2 : r.1 = p.1 <;> simp [h, h2]
  rw [e]
  exact List.length_filter_lt_length_iff_exists.2 ⟨p, List.mem_filter.2 ⟨hp, by simp [hn]⟩, by simp⟩
theorem told_fresh {w : World} {q : IntKind} {g r : Nat} {m : List (Int × Value)} {pre : List Int} (h : XMap.Told w q g r m pre) : pre.Nodup ∧ ∀ a ∈ pre, ∃ p ∈ m, p.1 = a := by
  obtain ⟨es, clock, since, seen, c0, h1, h2, h3, h4, h5, h6, h7, h8, h9⟩ := h
  exact ⟨h7, h9⟩
theorem und : Try.prog.underlying 61 = some (.map 37 39) := by kernel_rfl
theorem und37 : Try.prog.underlying 37 = some (.int .u32) := by kernel_rfl
set_option maxHeartbeats 8000000 in
set_option maxRecDepth 100000 in
theorem keys1 (n : Nat) (lr g bm : Nat) (t : TypeId) (m : List (Int × Value)) (own : Nat → Prop) (W : World)
    (hm : MapAt W .u32 g m) (b1 : W.heap[bm]? = some (.cells #[.map (some g)] t (0, 0))) (hown : ∀ k, own k ∨ k = lr → k ≠ g ∧ k ≠ bm ∧ k ≠ W.heap.size) :
    Hands Try.prog n 125 #[.pointer (some ⟨bm, 0, none⟩)] lr (fun x : Int => #[.int .u32 x]) (fun pre => pre.Nodup ∧ ∀ a ∈ pre, ∃ p ∈ m, p.1 = a) (fun pre => pre.Perm (m.map (·.1))) (fun k => k = W.heap.size) own (fun _ => True) W := by
  intro J Jx hJ hY h0
  refine callsIn_wide.2 ?_
  have c1 := (blk_cell b1 0).trans rfl
  obtain ⟨o, hr, hT⟩ := hm.range (P := Try.prog) (t := 61) (kt := 37) (et := 39) und
  have HH := Aside0.mk (And.intro hm (And.intro b1 (And.intro h0 (And.intro hY (And.intro hJ hT)))))
  clear hm b1 h0 hY hJ hT
  go_enter Try.func125, Try.ntmps125
  go_wp2
  go_loopg [] (left m []) (fun kk wr => ∃ pre : List Int, kk = left m pre ∧ XMap.Told wr .u32 g W.heap.size m pre ∧ J pre wr ∧ W.heap.size + 1 ≤ wr.heap.size)
  case atStart =>
    obtain ⟨hm, b1, h0, hY, hJ, hT⟩ := HH.out
    exact ⟨[], rfl, hT, hJ [] _ _ h0 ((But.refl _ _).alloc _), by simp⟩
  obtain ⟨pre, rfl, hT, hj, hsz⟩ := hrel
  have hgne : g ≠ W.heap.size := by have := HH.out.1.lt; omega
  rcases hT.next (P := Try.prog) hgne 0 with ⟨hn, hp⟩ | ⟨p, hp, hnew, w1, o2, hal, hn, hT2, he⟩
  · have X := Aside0.mk (And.intro hp hj)
    clear hp hj hT
    go_wp2
    go_end0
    exact ⟨⟨_, rfl⟩, .inl ⟨pre, X.out.1, X.out.2, trivial⟩⟩
  · have hB : But (fun k => k = W.heap.size) wr (ChangeMaps.setBlock w1 W.heap.size o2) := by
      rcases hal with rfl | rfl
      · exact But.put1 _ _ o2
      · exact (But.refl (fun k => k = W.heap.size) wr).drew.putObj (b := W.heap.size) rfl o2
    have hj2 := HH.out.2.2.2.2.1 _ _ _ hj hB
    have hyy := HH.out.2.2.2.1 pre p.1 _ (told_fresh hT2) hj2 (Nat.le_trans (by omega) hB.size)
    have hsz2 := Nat.le_trans hsz hB.size
    obtain ⟨fn, tmps, assign, body, hy, hR⟩ := hyy
    have RR := Aside0.mk (And.intro hR (And.intro hp (And.intro hnew (And.intro hT2 hsz2))))
    clear hT hj hj2 hB hal hR hp hnew hT2 hsz hsz2
    go_upto_region 3 with (fail)
    refine (wpIn_wide (n := n)).1 (wpIn_region_lit ?_)
    gi_wp2
    refine ⟨fun h => (by cases h), RR.out.1.mono ?_⟩
    rintro e W7 (⟨rfl, hJ7, hk7⟩ | ⟨rfl, hJx7⟩)
    · have G := Aside0.mk (And.intro hJ7 hk7)
      clear hJ7 hk7 hy
      gi_wp2
      go_wp2
      go_roundg (left m (pre ++ [p.1]))
      case measure => exact left_lt RR.out.2.1 RR.out.2.2.1
      case rel =>
        obtain ⟨hR, hp, hnew, hT2, hsz2⟩ := RR.out
        obtain ⟨hJ7, hk7⟩ := G.out
        have hown2 := hown
        exact ⟨pre ++ [p.1], rfl, hT2.of_blocks (hk7.block g hT2.map.lt (fun h => (hown _ h).1 rfl)) (hk7.block _ hT2.lt (fun h => (hown _ h).2.2 rfl)), hJ7, Nat.le_trans hsz2 hk7.size⟩
    · have G := Aside0.mk hJx7
      clear hJx7 hy
      gi_wp2
      go_wp2
      refine bodyPost_ret (results_none rfl _ _ _) rfl ?_
      exact ⟨⟨_, rfl⟩, .inr ⟨pre, p.1, told_fresh RR.out.2.2.2.1, G.out⟩⟩
set_option maxHeartbeats 8000000 in
theorem keys (g : Nat) (w : World) : Calls Try.prog 75 #[.map (some g)] w fun e w' => ∃ o, e = .returned (.func (.func 125) #[] #[.pointer (some ⟨w.heap.size, 0, none⟩)]) ∧ w' = w.alloc o ∧ ∃ t, o = .cells #[.map (some g)] t (0, 0) := by
  go_enter Try.func75, Try.ntmps75
  go_wp2
  go_ret
  exact ⟨_, rfl, rfl, _, rfl⟩
end Go.Proofs.Ythibppfdonepoaa.Keys
set_option linter.unusedVariables false
namespace Go.Proofs.Ythibppfdonepoaa.Keys
open Go.RowKit Go.MapKept Go.Maps Go.Proofs.Ythibppfdonepoaa.XBut Go.Proofs.Ythibppfdonepoaa.XMap Go.Proofs.YthibppfdonepoaaW.PrintWords Go.Proofs.YthibppfdonepoaaW.PrintLast
attribute [local go_sem] Oper.semAt_some
theorem enters_ : ∀ (args : Array Value) (w : World), (callFunc 125 args).run Try.prog w = .ok (.enter 125 args) w :=
  enters_of Try.func125 (by kernel_rfl) rfl
theorem sub_len {xs : List Int} : ∀ {ys : List Int}, xs.Nodup → (∀ a ∈ xs, a ∈ ys) → xs.length ≤ ys.length := by
  induction xs with
  | nil => intros; simp
  | cons a xs ih =>
    intro ys hn hs
    obtain ⟨h1, h2⟩ := List.nodup_cons.1 hn
    have ha := hs a (by simp)
    have := ih (ys := ys.erase a) h2 (fun b hb => (List.mem_erase_of_ne (fun e : b = a => h1 (by rw [← e]; exact hb))).2 (hs b (by simp [hb])))
    rw [List.length_erase_of_mem ha] at this
    have := List.length_pos_of_mem ha
    simp only [List.length_cons]
    omega
theorem row_but {w w' : World} {base : Nat} {v : Value} {n : Nat} {xs : List Value} {T : Nat → Prop} (h : w.ownsRow base 37 1 v n xs) (hb : But T w w') (hT : ∀ k, T k → k < base) : w'.ownsRow base 37 1 v n xs := by
  refine ⟨h.1, h.2.imp id ?_⟩
  rintro ⟨g, cap, cur, h1, h2, h3, h4⟩
  exact ⟨g, cap, cur, h1, h2, hb.heap h3 (fun hk => by have := hT _ hk; omega), h4⟩
theorem info37 : (Try.prog.info? 37).map (fun i => (i.zero, i.size, i.bytes)) = some (some (.int .u32 0), 1, 4) := by kernel_rfl
theorem fold1 (p : Tmp) (v : Value) (t : Array Value) : ((#[p] : Array Tmp).zip #[v]).foldl (fun t (p, v) => t.setIfInBounds p v) t = t.setIfInBounds p v := by simp
theorem row_low {w : World} {base base' : Nat} {e : TypeId} {size : Nat} {v : Value} {n : Nat} {xs : List Value} (h : w.ownsRow base e size v n xs) (hb : base' ≤ base) : w.ownsRow base' e size v n xs :=
  ⟨h.1, h.2.imp id fun ⟨g, cap, cur, h1, h2, h3⟩ => ⟨g, cap, cur, h1, Nat.le_trans hb h2, h3⟩⟩
theorem row_base {w : World} {base e size n : Nat} {v : Value} {xs : List Value} (h : w.ownsRow base e size v n xs) : ∀ k, v.ownBlock = some k → base ≤ k := by
  rintro k hk
  rcases h.2 with ⟨rfl, _⟩ | ⟨g, cap, cur, rfl, hb, _⟩
  · simp [Value.ownBlock] at hk
  · simp [Value.ownBlock] at hk
    omega
set_option maxHeartbeats 8000000 in
set_option maxRecDepth 100000 in
theorem appendSeq (g bm : Nat) (t : TypeId) (m : List (Int × Value)) (w : World) (hm : MapAt w .u32 g m) (b1 : w.heap[bm]? = some (.cells #[.map (some g)] t (0, 0))) (hl : m.length ≤ 1152921504606) :
    Calls Try.prog 159 #[.slice none 0 0, .func (.func 125) #[] #[.pointer (some ⟨bm, 0, none⟩)]] w fun e w' => ∃ (v : Value) (xs : List Int), xs.Perm (m.map (·.1)) ∧ e = .returned v ∧ w'.ownsRow w.heap.size 37 1 v xs.length (xs.map (Value.int .u32)) ∧ Below w.heap.size w w' := by
  have l1 := blk_lt b1
  have l2 := hm.lt
  have HH := Aside0.mk (And.intro hm (And.intro b1 (And.intro hl (And.intro l1 l2))))
  clear hm b1 hl l1 l2
  refine callsIn_wide.1 (callsIn_of_wp_marks (F := Fence.wide) (n := 5) Try.func159 rfl trivial ?_)
  simp only [Try.ntmps159, List.size_toArray, List.length_cons, List.length_nil, Nat.reduceAdd, Nat.reduceSub, Array.replicate_succ, Array.replicate_zero, List.push_toArray, List.append_toArray, List.nil_append, List.cons_append]
  refine wpIn_wide.2 ?_
  go_wp2_with fail
  obtain ⟨hm, b1, hl, l1, l2⟩ := HH.out
  refine (wpIn_wide (n := 5)).1 (range_law w (encs := fun x : Int => #[.int .u32 x]) (Ok := fun pre => pre.Nodup ∧ ∀ a ∈ pre, ∃ p ∈ m, p.1 = a) (Fin := fun pre => pre.Perm (m.map (·.1))) (wrs := fun k => k = w.heap.size + 3) (own := fun k => k = w.heap.size ∨ w.heap.size + 4 ≤ k) (endW := fun _ => True) rfl enters_ (fun _ => rfl) ((Below.refl _ _).alloc (Nat.le_refl _) _)
    (fun k hk => by simp only [World.size_alloc]; omega) (fun k hk => by simp only [World.size_alloc]; omega) (fun _ _ _ _ => trivial)
    (fun W1 hB1 hs1 => ?_)
    (fun pre W => ∃ v, W.heap[w.heap.size]? = some (.cells #[v] 132 (0, 0)) ∧ W.ownsRow (w.heap.size + 4) 37 1 v pre.length (pre.map (Value.int .u32))) (fun _ _ _ => False) ?_ (fun _ _ _ _ h _ => h) ?_ ?_ ?_ (fun _ _ _ h => h.elim))
  · have hBw : But (fun _ => False) w W1 := ((But.refl (fun _ => False) w).alloc _).trans (But.of_below hB1)
    have e : W1.heap.size = w.heap.size + 3 := by rw [hs1]; simp
    have K := keys1 4 ((w.alloc (.cells #[.slice none 0 0] 132)).heap.size + 1) g bm t m (fun k => k = w.heap.size ∨ w.heap.size + 4 ≤ k) W1 (hm.of_block (hBw.block g l2 (fun h => h))) (hBw.heap b1 (fun h => h)) (fun k hk => by simp only [World.size_alloc] at hk; omega)
    rw [e] at K
    exact K
  · rintro s W W' ⟨v, h1, h2⟩ hb
    exact ⟨v, hb.heap h1 (by simp only [World.size_alloc]; omega), row_but h2 hb (fun k hk => by simp only [World.size_alloc] at hk; omega)⟩
  · exact ⟨_, blk_new w _, World.ownsRow_nil _ _ _ _⟩
  · rintro pre x W ⟨hnd, hin⟩ ⟨v, hv, hR⟩ hBw hsz
    have hlen : pre.length + 1 ≤ m.length := by
      have := sub_len (ys := m.map (·.1)) hnd (fun a ha => by obtain ⟨p, hp, rfl⟩ := hin a ha; exact List.mem_map.2 ⟨p, hp, rfl⟩)
      simpa using this
    simp only [World.size_alloc] at hsz
    have X := Aside0.mk (And.intro hv (And.intro hR (And.intro hBw (And.intro hsz (And.intro hlen hl)))))
    clear hnd hin hv hR hBw hsz hlen hm b1 hl l1 l2 HH
    rw [fold1]
    simp only [XPrint.pw]
    gi_wp2
    refine ⟨But.refl _ _, fun W2 hb2 => ?_⟩
    obtain ⟨hv, hR, hBw, hsz, hlen, hl⟩ := X.out
    simp only [World.size_alloc] at hb2
    have f2 : W2.heap[w.heap.size]? = some (.cells #[v] 132 (0, 0)) := hb2.heap hv (by omega)
    have hR2 := row_but hR hb2 (fun k hk => by omega)
    have s3 : W.heap.size ≤ W2.heap.size := hb2.size
    have c2_ := (blk_cell f2 0).trans rfl
    have g2_ := blk_frozen f2 0
    obtain ⟨i3, hi3, hzz⟩ := Option.map_eq_some_iff.1 info37
    simp only [Prod.mk.injEq] at hzz
    obtain ⟨hz0, hz1, hz2⟩ := hzz
    have Z := Aside0.mk (And.intro f2 hR2)
    clear f2 hR2 X hR hv hb2 hBw
    gi_wp2_with (refine wpListIn_append_own (W2.alloc (.cells #[.int .u32 x] 37)) rfl (.tmp 8) (.tmp 10) 132 rfl (w.heap.size + 4) 37 i3 (.int .u32 0) 1 4 Try.underlying132 hi3 hz0 hz1 hz2 rfl (by decide) v _ _ rfl (Z.out.2.alloc _) ⟨W2.heap.size, 0, none⟩ 1 1 [.int .u32 x] rfl rfl ?hnews ?hone ?hb1 ?hb2 ?hb3 ?_)
    case hnews =>
      intro j u hu
      cases j with
      | zero =>
        have hu2 : u = .int .u32 x := by simpa using hu.symm
        rw [hu2]
        exact (blk_cell (blk_new W2 _) 0).trans rfl
      | succ j => simp at hu
    case hone =>
      intro u hu
      rw [List.mem_singleton.1 hu]
      rfl
    case hb1 => simp only [maxLen]; omega
    case hb2 => omega
    case hb3 => simp only [World.size_alloc]; omega
    intro v1 W5 hown5 hg5 hnn
    obtain ⟨g5, cap5, e5⟩ : ∃ g5 cap5, v1 = .slice (some ⟨g5, 0, none⟩) (pre.length + 1) cap5 := by
      rcases hown5.2 with ⟨_, h0⟩ | ⟨g5, cap5, cur, h, _⟩
      · omega
      · exact ⟨_, _, h⟩
    subst e5
    have hR5 : W5.ownsRow (w.heap.size + 4) 37 1 (.slice (some ⟨g5, 0, none⟩) (pre.length + 1) cap5) (pre ++ [x]).length ((pre ++ [x]).map (Value.int .u32)) := by
      rw [List.length_append, List.length_singleton, List.map_append]
      exact hown5
    have hne : some w.heap.size ≠ v.ownBlock := fun h => by
      have := row_base Z.out.2 _ h.symm
      omega
    have f5 := blk_grown (blk_alloc Z.out.1 (.cells #[.int .u32 x] 37)) hg5 hne
    have c5 := (blk_cell f5 0).trans rfl
    have q5 := blk_frozen f5 0
    have Z5 := Aside0.mk (And.intro hg5 (And.intro f5 hR5))
    clear hown5 hg5 f5 hne hnn c2_ g2_ hR5
    gi_wp2
    obtain ⟨f2, hown⟩ := Z.out
    obtain ⟨hg5, f5, hR5⟩ := Z5.out
    have hrow : ∀ k, v.ownBlock = some k → w.heap.size + 4 ≤ k := fun k hk => row_base hown _ hk
    have hB5 : But (fun k => k = w.heap.size ∨ w.heap.size + 4 ≤ k) W2 (W5.setCell ⟨w.heap.size, 0, none⟩ (.slice (some ⟨g5, 0, none⟩) (pre.length + 1) cap5)) :=
      (((But.refl _ _).alloc _).trans (But.grown hg5 (fun k hk => .inr (hrow k hk)))).setCell (.inl rfl) 0 _
    refine ⟨hB5, _, by simpa using blk_set f5 0 (.slice (some ⟨g5, 0, none⟩) (pre.length + 1) cap5), ?_⟩
    exact row_but hR5 ((But.refl (fun k => k = w.heap.size) W5).setCell rfl 0 _) (fun k hk => by omega)
  · rintro xs W hp ⟨v, hv, hR⟩ _ hB h3
    have c1 := (blk_cell hv 0).trans rfl
    dsimp only
    go_wp2
    refine leave_mark v h3 (by simp [results, Try.f159, go_sem]) ⟨v, xs, hp, rfl, ?_, ?_⟩
    · exact row_low (row_but hR (But.put1 _ _ _) (fun k hk => by first | omega | (simp only [World.size_alloc] at hk; omega))) (by omega)
    · exact But.below hB (Nat.le_refl _) (But.put1 _ _ _) fun k h => by simp only [World.size_alloc] at h; omega
set_option maxHeartbeats 8000000 in
theorem collect (g bm : Nat) (t : TypeId) (m : List (Int × Value)) (w : World) (hm : MapAt w .u32 g m) (b1 : w.heap[bm]? = some (.cells #[.map (some g)] t (0, 0))) (hl : m.length ≤ 1152921504606) :
    Calls Try.prog 124 #[.func (.func 125) #[] #[.pointer (some ⟨bm, 0, none⟩)]] w fun e w' => ∃ (v : Value) (xs : List Int), xs.Perm (m.map (·.1)) ∧ e = .returned v ∧ w'.ownsRow w.heap.size 37 1 v xs.length (xs.map (Value.int .u32)) ∧ Below w.heap.size w w' := by
  have H := Aside0.mk (appendSeq g bm t m w hm b1 hl)
  clear hm b1 hl
  go_enter Try.func124, Try.ntmps124
  go_wp2_with (go_at_call 159; refine H.out.mono ?_; rintro e w1 ⟨v, xs, hp, rfl, hR, hb⟩)
  go_ret
  exact ⟨v, xs, hp, rfl, hR, hb⟩
end Go.Proofs.Ythibppfdonepoaa.Keys
set_option linter.unusedVariables false
namespace Go.Proofs.Ythibppfdonepoaa.Keys
open Go.RowKit Go.MapKept Go.Maps Go.Proofs.Ythibppfdonepoaa.XBut Go.Proofs.Ythibppfdonepoaa.XMap Go.Proofs.Ythibppfdonepoaa.Srt Go.Proofs.YthibppfdonepoaaW.PrintWords Go.Proofs.YthibppfdonepoaaW.PrintLast
/-- A row that was appended is a row to sort. -/
theorem row_of {w : World} {base : Nat} {v : Value} {xs : List Int} (h : w.ownsRow base 37 1 v xs.length (xs.map (Value.int .u32))) : (v = .slice none 0 0 ∧ xs = []) ∨ ∃ g cap, v = .slice (some ⟨g, 0, none⟩) xs.length cap ∧ base ≤ g ∧ Row w g 37 cap xs.toArray := by
  rcases h.2 with ⟨h1, h2⟩ | ⟨g, cap, cur, h1, h2, h3, h4, h5, h6, h7⟩
  · exact .inl ⟨h1, List.length_eq_zero_iff.1 h2⟩
  · refine .inr ⟨g, cap, h1, h2, cur, by omega, h3, by simpa using h4, fun j hj => ?_⟩
    have hj2 : j < xs.length := by simpa using hj
    have h8 : (cur.toList.take (xs.length * 1))[j]? = (xs.map (Value.int .u32))[j]? := by rw [h7]
    rw [List.getElem?_take_of_lt (by omega), List.getElem?_map, List.getElem?_eq_getElem hj2] at h8
    rw [← Array.getElem?_toList, h8]
    simp [hj2]
set_option maxHeartbeats 8000000 in
theorem sorted (g bm : Nat) (t : TypeId) (m : List (Int × Value)) (w : World) (hm : MapAt w .u32 g m) (b1 : w.heap[bm]? = some (.cells #[.map (some g)] t (0, 0))) (hl : m.length ≤ 1152921504606) :
    Calls Try.prog 74 #[.func (.func 125) #[] #[.pointer (some ⟨bm, 0, none⟩)]] w fun e w' => Below w.heap.size w w' ∧ ((e = .returned (.slice none 0 0) ∧ m = []) ∨ ∃ (r cap : Nat) (d : Array Int), e = .returned (.slice (some ⟨r, 0, none⟩) d.size cap) ∧ w.heap.size ≤ r ∧ Row w' r 37 cap d ∧ d.toList.Perm (m.map (·.1)) ∧ Sort.SortedIn Sort.ltInt 0 d.size d) := by
  have H := Aside0.mk (collect g bm t m w hm b1 hl)
  clear hm b1
  go_enter Try.func74, Try.ntmps74
  go_wp2_with fail
  refine H.out.mono ?_
  rintro e w1 ⟨v, xs, hp, rfl, hR, hb⟩
  rcases row_of hR with ⟨rfl, rfl⟩ | ⟨r, cap, rfl, hr, hRow⟩
  · have HB := Aside0.mk hb
    have HE := Aside0.mk hp
    clear hb hp hR
    go_wp2_with fail
    refine (sort_nil _).mono ?_
    rintro e w2 ⟨rfl, hB⟩
    have HB2 := Aside0.mk (But.below HB.out (Nat.le_refl _) hB (fun _ h => h.elim))
    clear hB
    go_wp2
    go_ret
    exact ⟨HB2.out, .inl ⟨rfl, by have := HE.out.length_eq; simp at this; exact List.eq_nil_of_length_eq_zero this.symm⟩⟩
  · have HB := Aside0.mk hb
    have HE := Aside0.mk hp
    have hlen : xs.length = m.length := by simpa using hp.length_eq
    have hlx : xs.length ≤ 1152921504606846976 := by omega
    have HR := Aside0.mk (And.intro hRow hlx)
    clear hb hp hR hRow hlen hlx
    go_wp2_with fail
    refine (sort r 37 cap cap xs.length xs.toArray _ (by simp) HR.out.1 HR.out.2).mono ?_
    rintro e w2 ⟨d, hP, hS, rfl, hR2, hB2⟩
    have hsz : d.size = xs.length := by simpa using hP.length_eq
    have hS2 : Sort.SortedIn Sort.ltInt 0 d.size d := by rw [hsz]; simpa using hS
    have HD := Aside0.mk (And.intro (But.below HB.out (Nat.le_refl _) hB2 (fun k hk => by omega)) (And.intro hR2 (And.intro ((show d.toList.Perm xs from hP).trans HE.out) (And.intro hS2 hsz))))
    clear hP hS hR2 hB2 hsz hS2
    go_wp2
    go_ret
    exact ⟨HD.out.1, .inr ⟨r, cap, d, by rw [HD.out.2.2.2.2]; rfl, hr, HD.out.2.1, HD.out.2.2.1, HD.out.2.2.2.1⟩⟩
theorem keys_eq {m : List (Int × Value)} (hr : Rising m) {d : Array Int} (hp : d.toList.Perm (m.map (·.1))) (hs : Sort.SortedIn Sort.ltInt 0 d.size d) : d.toList = m.map (·.1) := by
  have h1 : d.toList.Pairwise (fun a b : Int => a ≤ b) := by
    rw [List.pairwise_iff_getElem]
    intro i j hi hj hij
    have hi2 : i < d.size := by simpa using hi
    have hj2 : j < d.size := by simpa using hj
    have := hs i j (Nat.zero_le _) hij hj2
    simp only [Sort.ltInt, decide_eq_false_iff_not] at this
    rw [getElem!_pos d j hj2, getElem!_pos d i hi2] at this
    simp only [Array.getElem_toList]
    omega
  have h2 : (m.map (·.1)).Pairwise (fun a b : Int => a ≤ b) := List.pairwise_map.2 (hr.imp fun h => by omega)
  exact List.Perm.eq_of_pairwise (fun a b _ _ h h' => by omega) h1 h2 hp
end Go.Proofs.Ythibppfdonepoaa.Keys
