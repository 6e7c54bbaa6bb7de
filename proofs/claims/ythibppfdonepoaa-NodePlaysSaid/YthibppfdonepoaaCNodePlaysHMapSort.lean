/- slices.AppendSeq / Collect over a map's keys, slices.Sorted(maps.Keys(m)). -/
import Derived.Test.YthibppfdonepoaaCNodePlaysHMapKeys
import Derived.Test.YthibppfdonepoaaCNodePlaysHSortJ
import Derived.Shelf.Abstract
set_option linter.unusedVariables false
namespace Go.Proofs.Ythibppfdonepoaa.Keys
open Go.RowKit Go.MapKept Go.Maps Go.Proofs.Ythibppfdonepoaa.XBut Go.Proofs.Ythibppfdonepoaa.XMap Go.Proofs.YthibppfdonepoaaW.PrintWords Go.Proofs.YthibppfdonepoaaW.PrintLast
attribute [local go_sem] Oper.semAt_some
theorem enters_ : ∀ (args : Array Value) (w : World), (callFunc 125 args).run Try.prog w = .ok (.enter 125 args) w :=
  enters_of Try.func125 (by kernel_rfl) rfl
theorem sub_len {xs : List Int} : ∀ {ys : List Int}, xs.Nodup → (∀ a ∈ xs, a ∈ ys) → xs.length ≤ ys.length := by
  induction xs with
  | nil => intros; simp
  | cons a xs ih =>
    intro ys hn hs
    obtain ⟨h1, h2⟩ := List.nodup_cons.1 hn
    have ha := hs a (by simp)
    have := ih (ys := ys.erase a) h2 (fun b hb => (List.mem_erase_of_ne (fun e : b = a => h1 (by rw [← e]; exact hb))).2 (hs b (by simp [hb])))
    rw [List.length_erase_of_mem ha] at this
    have := List.length_pos_of_mem ha
    simp only [List.length_cons]
    omega
theorem row_but {w w' : World} {base : Nat} {v : Value} {n : Nat} {xs : List Value} {T : Nat → Prop} (h : w.ownsRow base 37 1 v n xs) (hb : But T w w') (hT : ∀ k, T k → k < base) : w'.ownsRow base 37 1 v n xs := by
  refine ⟨h.1, h.2.imp id ?_⟩
  rintro ⟨g, cap, cur, h1, h2, h3, h4⟩
  exact ⟨g, cap, cur, h1, h2, hb.heap h3 (fun hk => by have := hT _ hk; omega), h4⟩
theorem info37 : (Try.prog.info? 37).map (fun i => (i.zero, i.size, i.bytes)) = some (some (.int .u32 0), 1, 4) := by kernel_rfl
theorem fold1 (p : Tmp) (v : Value) (t : Array Value) : ((#[p] : Array Tmp).zip #[v]).foldl (fun t (p, v) => t.setIfInBounds p v) t = t.setIfInBounds p v := by simp
theorem row_low {w : World} {base base' : Nat} {e : TypeId} {size : Nat} {v : Value} {n : Nat} {xs : List Value} (h : w.ownsRow base e size v n xs) (hb : base' ≤ base) : w.ownsRow base' e size v n xs :=
  ⟨h.1, h.2.imp id fun ⟨g, cap, cur, h1, h2, h3⟩ => ⟨g, cap, cur, h1, Nat.le_trans hb h2, h3⟩⟩
theorem row_base {w : World} {base e size n : Nat} {v : Value} {xs : List Value} (h : w.ownsRow base e size v n xs) : ∀ k, v.ownBlock = some k → base ≤ k := by
  rintro k hk
  rcases h.2 with ⟨rfl, _⟩ | ⟨g, cap, cur, rfl, hb, _⟩
  · simp [Value.ownBlock] at hk
  · simp [Value.ownBlock] at hk
    omega
set_option maxHeartbeats 8000000 in
set_option maxRecDepth 100000 in
theorem appendSeq (g bm : Nat) (t : TypeId) (m : List (Int × Value)) (w : World) (hm : MapAt w .u32 g m) (b1 : w.heap[bm]? = some (.cells #[.map (some g)] t (0, 0))) (hl : m.length ≤ 1152921504606) :
    Calls Try.prog 159 #[.slice none 0 0, .func (.func 125) #[] #[.pointer (some ⟨bm, 0, none⟩)]] w fun e w' => ∃ (v : Value) (xs : List Int), xs.Perm (m.map (·.1)) ∧ e = .returned v ∧ w'.ownsRow w.heap.size 37 1 v xs.length (xs.map (Value.int .u32)) ∧ Below w.heap.size w w' := by
  have l1 := blk_lt b1
  have l2 := hm.lt
  have HH := Aside0.mk (And.intro hm (And.intro b1 (And.intro hl (And.intro l1 l2))))
  clear hm b1 hl l1 l2
  refine callsIn_wide.1 (callsIn_of_wp_marks (F := Fence.wide) (n := 5) Try.func159 rfl trivial ?_)
  simp only [Try.ntmps159, List.size_toArray, List.length_cons, List.length_nil, Nat.reduceAdd, Nat.reduceSub, Array.replicate_succ, Array.replicate_zero, List.push_toArray, List.append_toArray, List.nil_append, List.cons_append]
  refine wpIn_wide.2 ?_
  go_wp2_with fail
  obtain ⟨hm, b1, hl, l1, l2⟩ := HH.out
  refine (wpIn_wide (n := 5)).1 (range_law w (encs := fun x : Int => #[.int .u32 x]) (Ok := fun pre => pre.Nodup ∧ ∀ a ∈ pre, ∃ p ∈ m, p.1 = a) (Fin := fun pre => pre.Perm (m.map (·.1))) (wrs := fun k => k = w.heap.size + 3) (own := fun k => k = w.heap.size ∨ w.heap.size + 4 ≤ k) (endW := fun _ => True) rfl enters_ (fun _ => rfl) ((Below.refl _ _).alloc (Nat.le_refl _) _)
    (fun k hk => by simp only [World.size_alloc]; omega) (fun k hk => by simp only [World.size_alloc]; omega) (fun _ _ _ _ => trivial)
    (fun W1 hB1 hs1 => ?_)
    (fun pre W => ∃ v, W.heap[w.heap.size]? = some (.cells #[v] 132 (0, 0)) ∧ W.ownsRow (w.heap.size + 4) 37 1 v pre.length (pre.map (Value.int .u32))) (fun _ _ _ => False) ?_ (fun _ _ _ _ h _ => h) ?_ ?_ ?_ (fun _ _ _ h => h.elim))
  · have hBw : But (fun _ => False) w W1 := ((But.refl (fun _ => False) w).alloc _).trans (But.of_below hB1)
    have e : W1.heap.size = w.heap.size + 3 := by rw [hs1]; simp
    have K := keys1 4 ((w.alloc (.cells #[.slice none 0 0] 132)).heap.size + 1) g bm t m (fun k => k = w.heap.size ∨ w.heap.size + 4 ≤ k) W1 (hm.of_block (hBw.block g l2 (fun h => h))) (hBw.heap b1 (fun h => h)) (fun k hk => by simp only [World.size_alloc] at hk; omega)
    rw [e] at K
    exact K
  · rintro s W W' ⟨v, h1, h2⟩ hb
    exact ⟨v, hb.heap h1 (by simp only [World.size_alloc]; omega), row_but h2 hb (fun k hk => by simp only [World.size_alloc] at hk; omega)⟩
  · exact ⟨_, blk_new w _, World.ownsRow_nil _ _ _ _⟩
  · rintro pre x W ⟨hnd, hin⟩ ⟨v, hv, hR⟩ hBw hsz
    have hlen : pre.length + 1 ≤ m.length := by
      have := sub_len (ys := m.map (·.1)) hnd (fun a ha => by obtain ⟨p, hp, rfl⟩ := hin a ha; exact List.mem_map.2 ⟨p, hp, rfl⟩)
      simpa using this
    simp only [World.size_alloc] at hsz
    have X := Aside0.mk (And.intro hv (And.intro hR (And.intro hBw (And.intro hsz (And.intro hlen hl)))))
    clear hnd hin hv hR hBw hsz hlen hm b1 hl l1 l2 HH
    rw [fold1]
    simp only [XPrint.pw]
    gi_wp2
    refine ⟨But.refl _ _, fun W2 hb2 => ?_⟩
    obtain ⟨hv, hR, hBw, hsz, hlen, hl⟩ := X.out
    simp only [World.size_alloc] at hb2
    have f2 : W2.heap[w.heap.size]? = some (.cells #[v] 132 (0, 0)) := hb2.heap hv (by omega)
    have hR2 := row_but hR hb2 (fun k hk => by omega)
    have s3 : W.heap.size ≤ W2.heap.size := hb2.size
    have c2_ := (blk_cell f2 0).trans rfl
    have g2_ := blk_frozen f2 0
    obtain ⟨i3, hi3, hzz⟩ := Option.map_eq_some_iff.1 info37
    simp only [Prod.mk.injEq] at hzz
    obtain ⟨hz0, hz1, hz2⟩ := hzz
    have Z := Aside0.mk (And.intro f2 hR2)
    clear f2 hR2 X hR hv hb2 hBw
    gi_wp2_with (refine wpListIn_append_own (W2.alloc (.cells #[.int .u32 x] 37)) rfl (.tmp 8) (.tmp 10) 132 rfl (w.heap.size + 4) 37 i3 (.int .u32 0) 1 4 Try.underlying132 hi3 hz0 hz1 hz2 rfl (by decide) v _ _ rfl (Z.out.2.alloc _) ⟨W2.heap.size, 0, none⟩ 1 1 [.int .u32 x] rfl rfl ?hnews ?hone ?hb1 ?hb2 ?hb3 ?_)
    case hnews =>
      intro j u hu
      cases j with
      | zero =>
        have hu2 : u = .int .u32 x := by simpa using hu.symm
        rw [hu2]
        exact (blk_cell (blk_new W2 _) 0).trans rfl
      | succ j => simp at hu
    case hone =>
      intro u hu
      rw [List.mem_singleton.1 hu]
      rfl
    case hb1 => simp only [maxLen]; omega
    case hb2 => omega
    case hb3 => simp only [World.size_alloc]; omega
    intro v1 W5 hown5 hg5 hnn
    obtain ⟨g5, cap5, e5⟩ : ∃ g5 cap5, v1 = .slice (some ⟨g5, 0, none⟩) (pre.length + 1) cap5 := by
      rcases hown5.2 with ⟨_, h0⟩ | ⟨g5, cap5, cur, h, _⟩
      · omega
      · exact ⟨_, _, h⟩
    subst e5
    have hR5 : W5.ownsRow (w.heap.size + 4) 37 1 (.slice (some ⟨g5, 0, none⟩) (pre.length + 1) cap5) (pre ++ [x]).length ((pre ++ [x]).map (Value.int .u32)) := by
      rw [List.length_append, List.length_singleton, List.map_append]
      exact hown5
    have hne : some w.heap.size ≠ v.ownBlock := fun h => by
      have := row_base Z.out.2 _ h.symm
      omega
    have f5 := blk_grown (blk_alloc Z.out.1 (.cells #[.int .u32 x] 37)) hg5 hne
    have c5 := (blk_cell f5 0).trans rfl
    have q5 := blk_frozen f5 0
    have Z5 := Aside0.mk (And.intro hg5 (And.intro f5 hR5))
    clear hown5 hg5 f5 hne hnn c2_ g2_ hR5
    gi_wp2
    obtain ⟨f2, hown⟩ := Z.out
    obtain ⟨hg5, f5, hR5⟩ := Z5.out
    have hrow : ∀ k, v.ownBlock = some k → w.heap.size + 4 ≤ k := fun k hk => row_base hown _ hk
    have hB5 : But (fun k => k = w.heap.size ∨ w.heap.size + 4 ≤ k) W2 (W5.setCell ⟨w.heap.size, 0, none⟩ (.slice (some ⟨g5, 0, none⟩) (pre.length + 1) cap5)) :=
      (((But.refl _ _).alloc _).trans (But.grown hg5 (fun k hk => .inr (hrow k hk)))).setCell (.inl rfl) 0 _
    refine ⟨hB5, _, by simpa using blk_set f5 0 (.slice (some ⟨g5, 0, none⟩) (pre.length + 1) cap5), ?_⟩
    exact row_but hR5 ((But.refl (fun k => k = w.heap.size) W5).setCell rfl 0 _) (fun k hk => by omega)
  · rintro xs W hp ⟨v, hv, hR⟩ _ hB h3
    have c1 := (blk_cell hv 0).trans rfl
    dsimp only
    go_wp2
    refine leave_mark v h3 (by simp [results, Try.f159, go_sem]) ⟨v, xs, hp, rfl, ?_, ?_⟩
    · exact row_low (row_but hR (But.put1 _ _ _) (fun k hk => by first | omega | (simp only [World.size_alloc] at hk; omega))) (by omega)
    · exact But.below hB (Nat.le_refl _) (But.put1 _ _ _) fun k h => by simp only [World.size_alloc] at h; omega
set_option maxHeartbeats 8000000 in
theorem collect (g bm : Nat) (t : TypeId) (m : List (Int × Value)) (w : World) (hm : MapAt w .u32 g m) (b1 : w.heap[bm]? = some (.cells #[.map (some g)] t (0, 0))) (hl : m.length ≤ 1152921504606) :
    Calls Try.prog 124 #[.func (.func 125) #[] #[.pointer (some ⟨bm, 0, none⟩)]] w fun e w' => ∃ (v : Value) (xs : List Int), xs.Perm (m.map (·.1)) ∧ e = .returned v ∧ w'.ownsRow w.heap.size 37 1 v xs.length (xs.map (Value.int .u32)) ∧ Below w.heap.size w w' := by
  have H := Aside0.mk (appendSeq g bm t m w hm b1 hl)
  clear hm b1 hl
  go_enter Try.func124, Try.ntmps124
  go_wp2_with (go_at_call 159; refine H.out.mono ?_; rintro e w1 ⟨v, xs, hp, rfl, hR, hb⟩)
  go_ret
  exact ⟨v, xs, hp, rfl, hR, hb⟩
end Go.Proofs.Ythibppfdonepoaa.Keys
