/- slices.AppendSeq / Collect over a map's keys, slices.Sorted(maps.Keys(m)). slices.Sorted(maps.Keys(m)). node.Table: Unit, Nodes. node.Table: sum, Total, Cap. Vectors, in plain words (parts of tpl/pure Vec*). Tables that are as the document has them; acts on them. ledger.Ledger: what it is; none, may. ledger.picked. slices.Clone of boxes; the closures of ledger. slices.Clone of boxes; Boxes, Free. ledger.Ledger: Boxes, Nodes. Nodes' units, bounded. ledger.Ledger: Free. ledger.Ledger: Room. ledger: New. ledger: what is given, box by box; a ledger that is good. liverylaw22.NodeCaps: the acts. Facts about a node that came and went. ledger: nodes that come and go, boxes that are taken; plain. -/
import Derived.Test.YthibppfdonepoaaGreatCLedgerPlaysHSortC
import Derived.Test.YthibppfdonepoaaGreatCLedgerPlaysHSortJ
import Derived.Shelf.Abstract
import Derived.Test.YthibppfdonepoaaGreatCLedgerPlaysPNodePlaysx0
import Derived.Test.YthibppfdonepoaaGreatCLedgerPlaysPNodePlaysx1
import Derived.Test.YthibppfdonepoaaGreatCLedgerPlaysPNodePlaysx10
import Derived.Test.YthibppfdonepoaaGreatCLedgerPlaysPNodePlaysx11
import Derived.Test.YthibppfdonepoaaGreatCLedgerPlaysPNodePlaysx12
import Derived.Test.YthibppfdonepoaaGreatCLedgerPlaysPNodePlaysx13
import Derived.Test.YthibppfdonepoaaGreatCLedgerPlaysPNodePlaysx14
import Derived.Test.YthibppfdonepoaaGreatCLedgerPlaysPNodePlaysx16
import Derived.Test.YthibppfdonepoaaGreatCLedgerPlaysPNodePlaysx17
import Derived.Test.YthibppfdonepoaaGreatCLedgerPlaysPNodePlaysx2
import Derived.Test.YthibppfdonepoaaGreatCLedgerPlaysPNodePlaysx3
import Derived.Test.YthibppfdonepoaaGreatCLedgerPlaysPNodePlaysx4
import Derived.Test.YthibppfdonepoaaGreatCLedgerPlaysPNodePlaysx5
import Derived.Test.YthibppfdonepoaaGreatCLedgerPlaysPNodePlaysx7
import Derived.Test.YthibppfdonepoaaGreatCLedgerPlaysPNodePlaysx8
import Derived.Test.YthibppfdonepoaaGreatCLedgerPlaysPNodePlaysx9
import Derived.Test.YthibppfdonepoaaGreatCLedgerPlaysPLedLibx0
import Derived.Test.YthibppfdonepoaaGreatCLedgerPlaysPLedLibx1
import Derived.Test.YthibppfdonepoaaGreatCLedgerPlaysPLedLibx10
import Derived.Test.YthibppfdonepoaaGreatCLedgerPlaysPLedLibx11
import Derived.Test.YthibppfdonepoaaGreatCLedgerPlaysPLedLibx12
import Derived.Test.YthibppfdonepoaaGreatCLedgerPlaysPLedLibx13
import Derived.Test.YthibppfdonepoaaGreatCLedgerPlaysPLedLibx14
import Derived.Test.YthibppfdonepoaaGreatCLedgerPlaysPLedLibx16
import Derived.Test.YthibppfdonepoaaGreatCLedgerPlaysPLedLibx17
import Derived.Test.YthibppfdonepoaaGreatCLedgerPlaysPLedLibx2
import Derived.Test.YthibppfdonepoaaGreatCLedgerPlaysPLedLibx3
import Derived.Test.YthibppfdonepoaaGreatCLedgerPlaysPLedLibx4
import Derived.Test.YthibppfdonepoaaGreatCLedgerPlaysPLedLibx5
import Derived.Test.YthibppfdonepoaaGreatCLedgerPlaysPLedLibx7
import Derived.Test.YthibppfdonepoaaGreatCLedgerPlaysPLedLibx8
import Derived.Test.YthibppfdonepoaaGreatCLedgerPlaysPLedLibx9
import Derived.Test.YthibppfdonepoaaGreatCLedgerPlaysW
set_option maxHeartbeats 8000000
set_option maxRecDepth 100000
set_option linter.unusedVariables false
namespace Go.Proofs.YthibppfdonepoaaGreat.Keys
open Go.RowKit Go.MapKept Go.Maps Go.Proofs.YthibppfdonepoaaGreat.XBut Go.Proofs.YthibppfdonepoaaGreat.XMap Go.Proofs.YthibppfdonepoaaGreatW.PrintWords Go.Proofs.YthibppfdonepoaaGreatW.PrintLast
attribute [local go_sem] Oper.semAt_some
theorem enters_ : ∀ (args : Array Value) (w : World), (callFunc 146 args).run Tryz.prog w = .ok (.enter 146 args) w :=
 enters_of Tryz.func146 (by kernel_rfl) rfl
theorem sub_len {xs : List Int} : ∀ {ys : List Int}, xs.Nodup → (∀ a ∈ xs, a ∈ ys) → xs.length ≤ ys.length := by
 induction xs with
 | nil => intros; simp
 | cons a xs ih =>
  intro ys hn hs
  obtain ⟨h1, h2⟩ := List.nodup_cons.1 hn
  have ha := hs a (by simp)
  have := ih (ys := ys.erase a) h2 (fun b hb => (List.mem_erase_of_ne (fun e : b = a => h1 (by rw [← e]; exact hb))).2 (hs b (by simp [hb])))
  rw [List.length_erase_of_mem ha] at this
  have := List.length_pos_of_mem ha
  simp only [List.length_cons]
  omega
theorem row_but {w w' : World} {base : Nat} {v : Value} {n : Nat} {xs : List Value} {T : Nat → Prop} (h : w.ownsRow base 35 1 v n xs) (hb : But T w w') (hT : ∀ k, T k → k < base) : w'.ownsRow base 35 1 v n xs := by
 refine ⟨h.1, h.2.imp id ?_⟩
 rintro ⟨g, cap, cur, h1, h2, h3, h4⟩
 exact ⟨g, cap, cur, h1, h2, hb.heap h3 (fun hk => by have := hT _ hk; omega), h4⟩
theorem info37 : (Tryz.prog.info? 35).map (fun i => (i.zero, i.size, i.bytes)) = some (some (.int .u32 0), 1, 4) := by kernel_rfl
theorem fold1 (p : Tmp) (v : Value) (t : Array Value) : ((#[p] : Array Tmp).zip #[v]).foldl (fun t (p, v) => t.setIfInBounds p v) t = t.setIfInBounds p v := by simp
theorem row_low {w : World} {base base' : Nat} {e : TypeId} {size : Nat} {v : Value} {n : Nat} {xs : List Value} (h : w.ownsRow base e size v n xs) (hb : base' ≤ base) : w.ownsRow base' e size v n xs :=
 ⟨h.1, h.2.imp id fun ⟨g, cap, cur, h1, h2, h3⟩ => ⟨g, cap, cur, h1, Nat.le_trans hb h2, h3⟩⟩
theorem row_base {w : World} {base e size n : Nat} {v : Value} {xs : List Value} (h : w.ownsRow base e size v n xs) : ∀ k, v.ownBlock = some k → base ≤ k := by
 rintro k hk
 rcases h.2 with ⟨rfl, _⟩ | ⟨g, cap, cur, rfl, hb, _⟩
 ·simp [Value.ownBlock] at hk
 ·simp [Value.ownBlock] at hk
  omega
theorem appendSeq (g bm : Nat) (t : TypeId) (m : List (Int × Value)) (w : World) (hm : MapAt w .u32 g m) (b1 : w.heap[bm]? = some (.cells #[.map (some g)] t (0, 0))) (hl : m.length ≤ 1152921504606) :
  Calls Tryz.prog 170 #[.slice none 0 0, .func (.func 146) #[] #[.pointer (some ⟨bm, 0, none⟩)]] w fun e w' => ∃ (v : Value) (xs : List Int), xs.Perm (m.map (·.1)) ∧ e = .returned v ∧ w'.ownsRow w.heap.size 35 1 v xs.length (xs.map (Value.int .u32)) ∧ Below w.heap.size w w' := by
 have l1 := blk_lt b1
 have l2 := hm.lt
 have HH := Aside0.mk (And.intro hm (And.intro b1 (And.intro hl (And.intro l1 l2))))
 clear hm b1 hl l1 l2
 refine callsIn_wide.1 (callsIn_of_wp_marks (F := Fence.wide) (n := 5) Tryz.func170 rfl trivial ?_)
 simp only [Tryz.ntmps170, List.size_toArray, List.length_cons, List.length_nil, Nat.reduceAdd, Nat.reduceSub, Array.replicate_succ, Array.replicate_zero, List.push_toArray, List.append_toArray, List.nil_append, List.cons_append]
 refine wpIn_wide.2 ?_
 go_wp2_with fail
 obtain ⟨hm, b1, hl, l1, l2⟩ := HH.out
 refine (wpIn_wide (n := 5)).1 (range_law w (encs := fun x : Int => #[.int .u32 x]) (Ok := fun pre => pre.Nodup ∧ ∀ a ∈ pre, ∃ p ∈ m, p.1 = a) (Fin := fun pre => pre.Perm (m.map (·.1))) (wrs := fun k => k = w.heap.size + 3) (own := fun k => k = w.heap.size ∨ w.heap.size + 4 ≤ k) (endW := fun _ => True) rfl enters_ (fun _ => rfl) ((Below.refl _ _).alloc (Nat.le_refl _) _)
  (fun k hk => by simp only [World.size_alloc]; omega) (fun k hk => by simp only [World.size_alloc]; omega) (fun _ _ _ _ => trivial)
  (fun W1 hB1 hs1 => ?_)
  (fun pre W => ∃ v, W.heap[w.heap.size]? = some (.cells #[v] 43 (0, 0)) ∧ W.ownsRow (w.heap.size + 4) 35 1 v pre.length (pre.map (Value.int .u32))) (fun _ _ _ => False) ?_ (fun _ _ _ _ h _ => h) ?_ ?_ ?_ (fun _ _ _ h => h.elim))
 ·have hBw : But (fun _ => False) w W1 := ((But.refl (fun _ => False) w).alloc _).trans (But.of_below hB1)
  have e : W1.heap.size = w.heap.size + 3 := by rw [hs1]; simp
  have K := keys1 4 ((w.alloc (.cells #[.slice none 0 0] 43)).heap.size + 1) g bm t m (fun k => k = w.heap.size ∨ w.heap.size + 4 ≤ k) W1 (hm.of_block (hBw.block g l2 (fun h => h))) (hBw.heap b1 (fun h => h)) (fun k hk => by simp only [World.size_alloc] at hk; omega)
  rw [e] at K
  exact K
 ·rintro s W W' ⟨v, h1, h2⟩ hb
  exact ⟨v, hb.heap h1 (by simp only [World.size_alloc]; omega), row_but h2 hb (fun k hk => by simp only [World.size_alloc] at hk; omega)⟩
 ·exact ⟨_, blk_new w _, World.ownsRow_nil _ _ _ _⟩
 ·rintro pre x W ⟨hnd, hin⟩ ⟨v, hv, hR⟩ hBw hsz
  have hlen : pre.length + 1 ≤ m.length := by
   have := sub_len (ys := m.map (·.1)) hnd (fun a ha => by obtain ⟨p, hp, rfl⟩ := hin a ha; exact List.mem_map.2 ⟨p, hp, rfl⟩)
   simpa using this
  simp only [World.size_alloc] at hsz
  have X := Aside0.mk (And.intro hv (And.intro hR (And.intro hBw (And.intro hsz (And.intro hlen hl)))))
  clear hnd hin hv hR hBw hsz hlen hm b1 hl l1 l2 HH
  rw [fold1]
  simp only [XPrint.pw]
  gi_wp2
  refine ⟨But.refl _ _, fun W2 hb2 => ?_⟩
  obtain ⟨hv, hR, hBw, hsz, hlen, hl⟩ := X.out
  simp only [World.size_alloc] at hb2
  have f2 : W2.heap[w.heap.size]? = some (.cells #[v] 43 (0, 0)) := hb2.heap hv (by omega)
  have hR2 := row_but hR hb2 (fun k hk => by omega)
  have s3 : W.heap.size ≤ W2.heap.size := hb2.size
  have c2_ := (blk_cell f2 0).trans rfl
  have g2_ := blk_frozen f2 0
  obtain ⟨i3, hi3, hzz⟩ := Option.map_eq_some_iff.1 info37
  simp only [Prod.mk.injEq] at hzz
  obtain ⟨hz0, hz1, hz2⟩ := hzz
  have Z := Aside0.mk (And.intro f2 hR2)
  clear f2 hR2 X hR hv hb2 hBw
  gi_wp2_with (refine wpListIn_append_own (W2.alloc (.cells #[.int .u32 x] 35)) rfl (.tmp 8) (.tmp 10) 43 rfl (w.heap.size + 4) 35 i3 (.int .u32 0) 1 4 Tryz.underlying43 hi3 hz0 hz1 hz2 rfl (by decide) v _ _ rfl (Z.out.2.alloc _) ⟨W2.heap.size, 0, none⟩ 1 1 [.int .u32 x] rfl rfl ?hnews ?hone ?hb1 ?hb2 ?hb3 ?_)
  case hnews =>
   intro j u hu
   cases j with
   | zero =>
    have hu2 : u = .int .u32 x := by simpa using hu.symm
    rw [hu2]
    exact (blk_cell (blk_new W2 _) 0).trans rfl
   | succ j => simp at hu
  case hone =>
   intro u hu
   rw [List.mem_singleton.1 hu]
   rfl
  case hb1 => simp only [maxLen]; omega
  case hb2 => omega
  case hb3 => simp only [World.size_alloc]; omega
  intro v1 W5 hown5 hg5 hnn
  obtain ⟨g5, cap5, e5⟩ : ∃ g5 cap5, v1 = .slice (some ⟨g5, 0, none⟩) (pre.length + 1) cap5 := by
   rcases hown5.2 with ⟨_, h0⟩ | ⟨g5, cap5, cur, h, _⟩
   ·omega
   ·exact ⟨_, _, h⟩
  subst e5
  have hR5 : W5.ownsRow (w.heap.size + 4) 35 1 (.slice (some ⟨g5, 0, none⟩) (pre.length + 1) cap5) (pre ++ [x]).length ((pre ++ [x]).map (Value.int .u32)) := by
   rw [List.length_append, List.length_singleton, List.map_append]
   exact hown5
  have hne : some w.heap.size ≠ v.ownBlock := fun h => by
   have := row_base Z.out.2 _ h.symm
   omega
  have f5 := blk_grown (blk_alloc Z.out.1 (.cells #[.int .u32 x] 35)) hg5 hne
  have c5 := (blk_cell f5 0).trans rfl
  have q5 := blk_frozen f5 0
  have Z5 := Aside0.mk (And.intro hg5 (And.intro f5 hR5))
  clear hown5 hg5 f5 hne hnn c2_ g2_ hR5
  gi_wp2
  obtain ⟨f2, hown⟩ := Z.out
  obtain ⟨hg5, f5, hR5⟩ := Z5.out
  have hrow : ∀ k, v.ownBlock = some k → w.heap.size + 4 ≤ k := fun k hk => row_base hown _ hk
  have hB5 : But (fun k => k = w.heap.size ∨ w.heap.size + 4 ≤ k) W2 (W5.setCell ⟨w.heap.size, 0, none⟩ (.slice (some ⟨g5, 0, none⟩) (pre.length + 1) cap5)) :=
   (((But.refl _ _).alloc _).trans (But.grown hg5 (fun k hk => .inr (hrow k hk)))).setCell (.inl rfl) 0 _
  refine ⟨hB5, _, by simpa using blk_set f5 0 (.slice (some ⟨g5, 0, none⟩) (pre.length + 1) cap5), ?_⟩
  exact row_but hR5 ((But.refl (fun k => k = w.heap.size) W5).setCell rfl 0 _) (fun k hk => by omega)
 ·rintro xs W hp ⟨v, hv, hR⟩ _ hB h3
  have c1 := (blk_cell hv 0).trans rfl
  dsimp only
  go_wp2
  refine leave_mark v h3 (by simp [results, Tryz.f170, go_sem]) ⟨v, xs, hp, rfl, ?_, ?_⟩
  ·exact row_low (row_but hR (But.put1 _ _ _) (fun k hk => by first | omega | (simp only [World.size_alloc] at hk; omega))) (by omega)
  ·exact But.below hB (Nat.le_refl _) (But.put1 _ _ _) fun k h => by simp only [World.size_alloc] at h; omega
theorem collect (g bm : Nat) (t : TypeId) (m : List (Int × Value)) (w : World) (hm : MapAt w .u32 g m) (b1 : w.heap[bm]? = some (.cells #[.map (some g)] t (0, 0))) (hl : m.length ≤ 1152921504606) :
  Calls Tryz.prog 145 #[.func (.func 146) #[] #[.pointer (some ⟨bm, 0, none⟩)]] w fun e w' => ∃ (v : Value) (xs : List Int), xs.Perm (m.map (·.1)) ∧ e = .returned v ∧ w'.ownsRow w.heap.size 35 1 v xs.length (xs.map (Value.int .u32)) ∧ Below w.heap.size w w' := by
 have H := Aside0.mk (appendSeq g bm t m w hm b1 hl)
 clear hm b1 hl
 go_enter Tryz.func145, Tryz.ntmps145
 go_wp2_with (go_at_call 170; refine H.out.mono ?_; rintro e w1 ⟨v, xs, hp, rfl, hR, hb⟩)
 go_ret
 exact ⟨v, xs, hp, rfl, hR, hb⟩
end Go.Proofs.YthibppfdonepoaaGreat.Keys
set_option linter.unusedVariables false
namespace Go.Proofs.YthibppfdonepoaaGreat.Keys
open Go.RowKit Go.MapKept Go.Maps Go.Proofs.YthibppfdonepoaaGreat.XBut Go.Proofs.YthibppfdonepoaaGreat.XMap Go.Proofs.YthibppfdonepoaaGreat.Srt Go.Proofs.YthibppfdonepoaaGreatW.PrintWords Go.Proofs.YthibppfdonepoaaGreatW.PrintLast
theorem row_of {w : World} {base : Nat} {v : Value} {xs : List Int} (h : w.ownsRow base 35 1 v xs.length (xs.map (Value.int .u32))) : (v = .slice none 0 0 ∧ xs = []) ∨ ∃ g cap, v = .slice (some ⟨g, 0, none⟩) xs.length cap ∧ base ≤ g ∧ Row w g 35 cap xs.toArray := by
 rcases h.2 with ⟨h1, h2⟩ | ⟨g, cap, cur, h1, h2, h3, h4, h5, h6, h7⟩
 ·exact .inl ⟨h1, List.length_eq_zero_iff.1 h2⟩
 ·refine .inr ⟨g, cap, h1, h2, cur, by omega, h3, by simpa using h4, fun j hj => ?_⟩
  have hj2 : j < xs.length := by simpa using hj
  have h8 : (cur.toList.take (xs.length * 1))[j]? = (xs.map (Value.int .u32))[j]? := by rw [h7]
  rw [List.getElem?_take_of_lt (by omega), List.getElem?_map, List.getElem?_eq_getElem hj2] at h8
  rw [← Array.getElem?_toList, h8]
  simp [hj2]
theorem sorted (g bm : Nat) (t : TypeId) (m : List (Int × Value)) (w : World) (hm : MapAt w .u32 g m) (b1 : w.heap[bm]? = some (.cells #[.map (some g)] t (0, 0))) (hl : m.length ≤ 1152921504606) :
  Calls Tryz.prog 122 #[.func (.func 146) #[] #[.pointer (some ⟨bm, 0, none⟩)]] w fun e w' => Below w.heap.size w w' ∧ ((e = .returned (.slice none 0 0) ∧ m = []) ∨ ∃ (r cap : Nat) (d : Array Int), e = .returned (.slice (some ⟨r, 0, none⟩) d.size cap) ∧ w.heap.size ≤ r ∧ Row w' r 35 cap d ∧ d.toList.Perm (m.map (·.1)) ∧ Sort.SortedIn Sort.ltInt 0 d.size d) := by
 have H := Aside0.mk (collect g bm t m w hm b1 hl)
 clear hm b1
 go_enter Tryz.func122, Tryz.ntmps122
 go_wp2_with fail
 refine H.out.mono ?_
 rintro e w1 ⟨v, xs, hp, rfl, hR, hb⟩
 rcases row_of hR with ⟨rfl, rfl⟩ | ⟨r, cap, rfl, hr, hRow⟩
 ·have HB := Aside0.mk hb
  have HE := Aside0.mk hp
  clear hb hp hR
  go_wp2_with fail
  refine (sort_nil _).mono ?_
  rintro e w2 ⟨rfl, hB⟩
  have HB2 := Aside0.mk (But.below HB.out (Nat.le_refl _) hB (fun _ h => h.elim))
  clear hB
  go_wp2
  go_ret
  exact ⟨HB2.out, .inl ⟨rfl, by have := HE.out.length_eq; simp at this; exact List.eq_nil_of_length_eq_zero this.symm⟩⟩
 ·have HB := Aside0.mk hb
  have HE := Aside0.mk hp
  have hlen : xs.length = m.length := by simpa using hp.length_eq
  have hlx : xs.length ≤ 1152921504606846976 := by omega
  have HR := Aside0.mk (And.intro hRow hlx)
  clear hb hp hR hRow hlen hlx
  go_wp2_with fail
  refine (sort r 35 cap cap xs.length xs.toArray _ (by simp) HR.out.1 HR.out.2).mono ?_
  rintro e w2 ⟨d, hP, hS, rfl, hR2, hB2⟩
  have hsz : d.size = xs.length := by simpa using hP.length_eq
  have hS2 : Sort.SortedIn Sort.ltInt 0 d.size d := by rw [hsz]; simpa using hS
  have HD := Aside0.mk (And.intro (But.below HB.out (Nat.le_refl _) hB2 (fun k hk => by omega)) (And.intro hR2 (And.intro ((show d.toList.Perm xs from hP).trans HE.out) (And.intro hS2 hsz))))
  clear hP hS hR2 hB2 hsz hS2
  go_wp2
  go_ret
  exact ⟨HD.out.1, .inr ⟨r, cap, d, by rw [HD.out.2.2.2.2]; rfl, hr, HD.out.2.1, HD.out.2.2.1, HD.out.2.2.2.1⟩⟩
theorem keys_eq {m : List (Int × Value)} (hr : Rising m) {d : Array Int} (hp : d.toList.Perm (m.map (·.1))) (hs : Sort.SortedIn Sort.ltInt 0 d.size d) : d.toList = m.map (·.1) := by
 have h1 : d.toList.Pairwise (fun a b : Int => a ≤ b) := by
  rw [List.pairwise_iff_getElem]
  intro i j hi hj hij
  have hi2 : i < d.size := by simpa using hi
  have hj2 : j < d.size := by simpa using hj
  have := hs i j (Nat.zero_le _) hij hj2
  simp only [Sort.ltInt, decide_eq_false_iff_not] at this
  rw [getElem!_pos d j hj2, getElem!_pos d i hi2] at this
  simp only [Array.getElem_toList]
  omega
 have h2 : (m.map (·.1)).Pairwise (fun a b : Int => a ≤ b) := List.pairwise_map.2 (hr.imp fun h => by omega)
 exact List.Perm.eq_of_pairwise (fun a b _ _ h h' => by omega) h1 h2 hp
end Go.Proofs.YthibppfdonepoaaGreat.Keys
set_option linter.unusedVariables false
namespace Go.Proofs.YthibppfdonepoaaGreat.NodeT
open Go.RowKit Go.MapKept Go.Maps Go.ChangeMaps Go.Proofs.YthibppfdonepoaaGreat.XBut Go.Proofs.YthibppfdonepoaaGreat.XMap Go.Proofs.YthibppfdonepoaaGreat.PNodePlays Go.Proofs.YthibppfdonepoaaGreat.Srt Go.Proofs.YthibppfdonepoaaGreatW.PrintWords Go.Proofs.YthibppfdonepoaaGreatW.PrintLast
theorem rising_en {ns : List S59} : (ns.map en).map (·.1) = ns.map (·.f0) := by
 rw [List.map_map]; rfl
theorem nv_inj {x y : S59} (h : nv x = nv y) : x = y := by
 obtain ⟨x0, x1, x2⟩ := x
 obtain ⟨y0, y1, y2⟩ := y
 unfold nv at h
 simp at h
 obtain ⟨rfl, rfl, rfl⟩ := h
 rfl
theorem who_self {ns : List S59} (hr : Rising (ns.map en)) {x : S59} (hx : x ∈ ns) : who ns x.f0 = some x := by
 have h := look_mem hr (List.mem_map.2 ⟨x, hx, rfl⟩)
 have h2 : XMap.look (ns.map en) x.f0 = some (nv x) := h
 rw [look_en] at h2
 obtain ⟨y, hy, he⟩ := Option.map_eq_some_iff.1 h2
 rw [hy, nv_inj he]
theorem nodes (base b g : Nat) (u0 u1 : Int) (ns : List S59) (w : World) (hT : TabAt w base b g u0 u1 ns) (hl : ns.length ≤ 1000000) :
  Calls Tryz.prog 68 #[.pointer (some ⟨b, 0, none⟩)] w fun e w' => ∃ v, e = .returned v ∧ Kd.R k59 59 w' w.heap.size (fun _ => True) v ns ∧ Below w.heap.size w w' := by
 obtain ⟨_, _, c2⟩ := hT.set_cells
 have HT := Aside0.mk (And.intro hT hl)
 clear hT hl
 go_enter Tryz.func68, Tryz.ntmps68
 go_wp2_with fail
 refine (none_map b (some g) _ c2).mono ?_
 rintro e wz ⟨rfl, hz⟩
 obtain rfl := hz.symm
 clear hz
 simp only [Option.isNone]
 go_wp2_with fail
 refine (Keys.keys g _).mono ?_
 rintro e w1 ⟨o, rfl, rfl, t, rfl⟩
 dsimp only
 go_wp2_with fail
 have hT1 := HT.out.1.below (below_alloc (Below.refl _ _) (Obj.cells #[.map (some g)] t (0, 0)))
 refine (Keys.sorted g _ t _ _ hT1.map (blk_new _ _) (by rw [List.length_map]; have := HT.out.2; omega)).mono ?_
 rintro e w1 ⟨hB, hcase⟩
 have hB1 : Below w.heap.size w w1 := below_then (below_alloc (Below.refl _ _) _) (by simp) hB
 have hT2 := HT.out.1.below hB1
 have hris : Rising (ns.map en) := HT.out.1.map.rising
 have hlen := HT.out.2
 have hwf := HT.out.1.map.wf
 rcases hcase with ⟨rfl, hm⟩ | ⟨r, cap, d, rfl, hr, hRow, hP, hS⟩
 ·have hns : ns = [] := by simpa using hm
  subst hns
  have H := Aside0.mk hB1
  clear hB hT1 hB1 hT2 hris hm HT c2 hlen hwf
  dsimp only
  go_wp2
  go_loopg [3, 15] 0 (fun kk v3 v15 wr => v3 = .slice none 0 0 ∧ v15 = .int .i64 0 ∧ Below w.heap.size w wr)
  case atStart => exact ⟨rfl, rfl, H.out⟩
  obtain ⟨rfl, rfl, hB⟩ := hrel
  have H2 := Aside0.mk hB
  clear hB
  go_wp2
  go_ret
  exact ⟨_, rfl, Kd.R_nil _ _ _ _ _, H2.out⟩
 ·have hk := Keys.keys_eq hris hP hS
  rw [rising_en] at hk
  have hsz : d.size = ns.length := by rw [← Array.length_toList, hk, List.length_map]
  have X := Aside0.mk (And.intro hT2 (And.intro hRow (And.intro hk (And.intro hwf (And.intro hsz (And.intro hlen hB1))))))
  clear hB hT1 hB1 hT2 hris HT c2 hlen hwf hk hsz hRow hP hS
  dsimp only
  go_wp2
  go_loopg [3, 15] ns.length (fun kk v3 v15 wr => ∃ k : Nat, kk = ns.length - k ∧ v15 = .int .i64 k ∧ k ≤ ns.length ∧ Below w1.heap.size w1 wr ∧ Kd.R k59 59 wr w1.heap.size (fun _ => True) v3 (ns.take k))
  case atStart => exact ⟨0, rfl, rfl, Nat.zero_le _, Below.refl _ _, by rw [List.take_zero]; exact Kd.R_nil _ _ _ _ _⟩
  obtain ⟨k, rfl, rfl, hk, hB, hR⟩ := hrel
  have hle := X.out.2.2.2.2.2.1
  by_cases hlt : k < ns.length
  ·obtain ⟨x, hx⟩ : ∃ x, ns[k] = x := ⟨_, rfl⟩
   have hdk : d[k]! = x.f0 := by
    have h1 : d.toList[k]? = (ns.map (·.f0))[k]? := by rw [X.out.2.2.1]
    rw [List.getElem?_map, List.getElem?_eq_getElem hlt, Option.map_some, Array.getElem?_toList, hx] at h1
    rw [getElem!_def, h1]
   have hTr := X.out.1.below hB
   have hmem : x ∈ ns := hx ▸ List.getElem_mem hlt
   have L : (Instr.lookup 174 (.map (some g)) (.int .u32 x.f0) false).run Tryz.prog wr = .ok (nv x) wr := (hTr.found (X.out.2.2.2.1 (en x) (List.mem_map.2 ⟨x, hmem, rfl⟩)) (who_self hTr.map.rising hmem)).2
   have cd := (hB.cell (p := ⟨r, k, none⟩) X.out.2.1.lt).trans (X.out.2.1.cell (j := k) (by have := X.out.2.2.2.2.1; omega))
   rw [hdk] at cd
   have c2 := hTr.set_cells.2.2
   have htake : ns.take (k + 1) = ns.take k ++ [x] := by rw [List.take_add_one, List.getElem?_eq_getElem hlt, hx]; rfl
   have Y := Aside0.mk (And.intro hB (And.intro hR htake))
   obtain ⟨x0, x1, x2⟩ := x
   unfold nv at L
   have e0 : (en ⟨x0, ⟨x1, x2⟩⟩).1 = x0 := rfl
   dsimp only at L cd
   clear hB hR hdk hTr hmem htake hx
   have hlt' : (k : Int) < (d.size : Int) := by have := X.out.2.2.2.2.1; omega
   go_wp2_with (refine Kd.R_append k59 (w0 := w1) w1.heap.size (by rfl) (.tmp 19) (.tmp 26) 24 59 (.agg #[.int .u32 0, .int .i64 0, .int .i64 0]) 24 rfl Tryz.underlying24 info59 rfl (by decide) (by omega) u3 (ns.take k) ⟨x0, ⟨x1, x2⟩⟩ [.int .u32 x0, .int .i64 x1, .int .i64 x2] (fun _ => True) (fun _ => False) rfl rfl (k59_mkM _ _ _ _) (fun _ h => h.elim) (fun _ _ => trivial) Y.out.2.1 Y.out.1 Y.out.1.size ?hl ?_)
   case hl => rw [List.length_take]; omega
   intro v1 w2 hR2 hB2 hg2 hat2
   rw [← Y.out.2.2] at hR2
   have Z := Aside0.mk (And.intro hR2 hB2)
   clear hR2 hB2 hg2 hat2 cd c2 L
   go_wp2
   go_roundg (ns.length - (k + 1))
   case measure => omega
   case rel => exact ⟨k + 1, rfl, by go_num, by omega, Z.out.2, Z.out.1⟩
  ·have hlt' : ¬ (k : Int) < (d.size : Int) := by have := X.out.2.2.2.2.1; omega
   have Y := Aside0.mk (And.intro hB hR)
   have hke : ns.take k = ns := List.take_of_length_le (by omega)
   rw [hke] at Y
   clear hB hR
   go_wp2
   go_ret
   exact ⟨_, rfl, Kd.R_lower Y.out.2 X.out.2.2.2.2.2.2.size, below_step X.out.2.2.2.2.2.2 Y.out.1⟩
theorem total1 (k base b g bt : Nat) (u0 u1 : Int) (ns : List S59) (x : S59) (q z : Int) (w : World) (hT : TabAt w base b g u0 u1 ns) (hbt : w.heap[bt]? = some (.cells #[.pointer (some ⟨b, 0, none⟩)] 101 (0, 0))) (h : vec_Units.f k x.f1.f0 x.f1.f1 u0 u1 = some (q, z)) :
  Calls Tryz.prog 116 #[nv x, .pointer (some ⟨bt, 0, none⟩)] w fun e w' => e = .returned (.int .i64 q) ∧ Below w.heap.size w w' := by
 obtain ⟨x0, x1, x2⟩ := x
 have H := Aside0.mk (And.intro hT h)
 have cb : ∀ o, (w.alloc o).cell? ⟨bt, 0, none⟩ = some (.pointer (some ⟨b, 0, none⟩)) := fun o => pw_cell_below (below_alloc (Below.refl _ _) o) ((blk_cell hbt 0).trans rfl)
 have hu39 := Tryz.underlying59
 have hne : bt ≠ w.heap.size := by have := blk_lt hbt; omega
 have c0 := (blk_cell hbt 0).trans rfl
 clear hT h hbt
 unfold nv
 dsimp only
 go_enter Tryz.func116, Tryz.ntmps116
 go_wp2_with fail
 obtain ⟨hT, h⟩ := H.out
 refine (bears k base b g u0 u1 ns ⟨x0, x1, x2⟩ q z _ (hT.below (below_alloc (Below.refl _ _) _)) h).mono ?_
 rintro e w2 ⟨rfl, hb⟩
 have HB := Aside0.mk hb
 clear hT h hb
 dsimp only
 go_wp2
 go_ret
 exact ⟨rfl, below_then (below_alloc (Below.refl _ _) _) (by simp) HB.out⟩
def sumU (U : S59 → Int) (ns : List S59) : Int := (ns.map U).sum
theorem sumU_step (U : S59 → Int) (ns : List S59) (k : Nat) (h : k < ns.length) : sumU U (ns.take (k + 1)) = sumU U (ns.take k) + U ns[k] := by
 unfold sumU
 rw [List.take_add_one, List.getElem?_eq_getElem h, List.map_append, List.sum_append]
 show _ + (U ns[k] + 0) = _
 omega
theorem sumU_le (U : S59 → Int) (ns : List S59) (hU : ∀ x ∈ ns, 0 ≤ U x ∧ U x ≤ 1073741824) : 0 ≤ sumU U ns ∧ sumU U ns ≤ 1073741824 * ns.length := by
 unfold sumU
 induction ns with
 | nil => simp
 | cons a l ih =>
  have h1 := ih fun x hx => hU x (by simp [hx])
  have h2 := hU a (by simp)
  simp only [List.map_cons, List.sum_cons, List.length_cons]
  omega
theorem sum (k base b g bt : Nat) (u0 u1 : Int) (ns : List S59) (U : S59 → Int) (z : S59 → Int) (w : World) (hT : TabAt w base b g u0 u1 ns) (hl : ns.length ≤ 1000000) (hbt : w.heap[bt]? = some (.cells #[.pointer (some ⟨b, 0, none⟩)] 101 (0, 0)))
  (h : ∀ x ∈ ns, vec_Units.f k x.f1.f0 x.f1.f1 u0 u1 = some (U x, z x)) (hU : ∀ x ∈ ns, 0 ≤ U x ∧ U x ≤ 1073741824) :
  Calls Tryz.prog 115 #[.pointer (some ⟨b, 0, none⟩), .func (.func 116) #[] #[.pointer (some ⟨bt, 0, none⟩)]] w fun e w' => e = .returned (.int .i64 (sumU U ns)) ∧ Below w.heap.size w w' := by
 have HH := Aside0.mk (And.intro hT (And.intro hl (And.intro hbt (And.intro h hU))))
 have N := Aside0.mk (nodes base b g u0 u1 ns w hT hl)
 clear hT hl hbt h hU
 go_enter Tryz.func115, Tryz.ntmps115
 go_wp2_with fail
 refine N.out.mono ?_
 rintro e w1 ⟨v, rfl, hR, hB⟩
 obtain ⟨A, c, rfl⟩ := Kd.R_slice hR
 obtain ⟨_, _, hC⟩ := Kd.R_reads' hR
 have X := Aside0.mk (And.intro hC hB)
 clear hR hC hB
 dsimp only
 go_wp2
 go_loopg [6, 12] ns.length (fun kk v6 v12 wr => ∃ j : Nat, kk = ns.length - j ∧ v12 = .int .i64 j ∧ v6 = .int .i64 (sumU U (ns.take j)) ∧ j ≤ ns.length ∧ Below w1.heap.size w1 wr)
 case atStart => exact ⟨0, rfl, rfl, by rw [List.take_zero]; rfl, Nat.zero_le _, Below.refl _ _⟩
 obtain ⟨j, rfl, rfl, rfl, hj, hB⟩ := hrel
 by_cases hlt : j < ns.length
 ·obtain ⟨ad, rfl, d0, d1, d2⟩ := at_T59 (Kd.C_below X.out.1 hB) (j : Int) (by omega) (by omega)
  have ej : (j : Int).toNat = j := by simp
  have er : rd_T59 ns (j : Int) = ns[j] := by unfold rd_T59; rw [ej, List.getD_eq_getElem?_getD, List.getElem?_eq_getElem hlt]; rfl
  rw [er, ej] at d0 d1 d2
  obtain ⟨hT, hl, hbt, h, hU⟩ := HH.out
  have hl6 : (ns.length : Int) ≤ 1000000 := by omega
  have hB0 := below_step X.out.2 hB
  have hmem : ns[j] ∈ ns := List.getElem_mem hlt
  have TT := Aside0.mk (total1 k base b g bt u0 u1 ns ns[j] _ _ wr (hT.below hB0) (blk_below hbt hB0) (h _ hmem))
  have hstep := sumU_step U ns j hlt
  have hb1 := sumU_le U (ns.take j) (fun x hx => hU x (List.mem_of_mem_take hx))
  have hb2 := hU _ hmem
  have hlj : (ns.take j).length = j := by rw [List.length_take]; omega
  rw [hlj] at hb1
  obtain ⟨s, hs⟩ : ∃ s, sumU U (ns.take j) = s := ⟨_, rfl⟩
  obtain ⟨q, hq⟩ : ∃ q, U ns[j] = q := ⟨_, rfl⟩
  rw [hs] at hstep hb1 ⊢
  rw [hq] at hstep hb2 TT
  have b1 : -9223372036854775808 ≤ s + q := by omega
  have b2 : s + q ≤ 9223372036854775807 := by omega
  obtain ⟨x, hx⟩ : ∃ x, ns[j] = x := ⟨_, rfl⟩
  rw [hx] at d0 d1 d2 TT
  have hlt' : (j : Int) < (ns.length : Int) := by omega
  have hj0 : (0 : Int) ≤ (j : Int) := by omega
  have Y := Aside0.mk (And.intro hB hstep)
  obtain ⟨x0, x1, x2⟩ := x
  unfold nv at TT
  dsimp only at d0 d1 d2 TT
  clear hT hl hbt h hU hB0 hmem hB hstep hb1 hb2 hlj hs hq hx er
  go_wp2_with fail
  refine TT.out.mono ?_
  rintro e w2 ⟨rfl, hb⟩
  have Z := Aside0.mk hb
  clear hb d0 d1 d2
  dsimp only
  go_wp2
  go_roundg (ns.length - (j + 1))
  case measure => omega
  case rel => exact ⟨j + 1, rfl, by go_num, by rw [Y.out.2], by omega, below_step Y.out.1 Z.out⟩
 ·have hlt' : ¬ (j : Int) < (ns.length : Int) := by omega
  have hje : ns.take j = ns := List.take_of_length_le (by omega)
  have Y := Aside0.mk hB
  rw [hje]
  clear hB hje
  go_wp2
  go_ret
  exact ⟨rfl, below_step X.out.2 Y.out⟩
theorem total (k base b g : Nat) (u0 u1 : Int) (ns : List S59) (U : S59 → Int) (z : S59 → Int) (w : World) (hT : TabAt w base b g u0 u1 ns) (hl : ns.length ≤ 1000000)
  (h : ∀ x ∈ ns, vec_Units.f k x.f1.f0 x.f1.f1 u0 u1 = some (U x, z x)) (hU : ∀ x ∈ ns, 0 ≤ U x ∧ U x ≤ 1073741824) :
  Calls Tryz.prog 63 #[.pointer (some ⟨b, 0, none⟩)] w fun e w' => e = .returned (.int .i64 (sumU U ns)) ∧ Below w.heap.size w w' := by
 have S := Aside0.mk (sum k base b g w.heap.size u0 u1 ns U z _ (hT.below (below_alloc (Below.refl _ _) (.cells #[.pointer (some ⟨b, 0, none⟩)] 101))) hl (blk_new _ _) h hU)
 clear hT hl h hU
 go_enter Tryz.func63, Tryz.ntmps63
 go_wp2_with fail
 refine S.out.mono ?_
 rintro e w1 ⟨rfl, hB⟩
 have X := Aside0.mk hB
 clear hB
 dsimp only
 go_wp2
 go_ret
 exact ⟨rfl, below_then (below_alloc (Below.refl _ _) _) (by simp) X.out⟩
end Go.Proofs.YthibppfdonepoaaGreat.NodeT
set_option linter.unusedVariables false
namespace Go.Proofs.YthibppfdonepoaaGreat.NodeT
open Go.RowKit Go.Proofs.YthibppfdonepoaaGreat.PNodePlays Go.Proofs.YthibppfdonepoaaGreatW.PrintWords Go.Proofs.YthibppfdonepoaaGreatW.PrintLast
def inV (x y : Int) : Prop := (-1125899906842624 ≤ x ∧ x ≤ 1125899906842624) ∧ (-1125899906842624 ≤ y ∧ y ≤ 1125899906842624)
instance (x y : Int) : Decidable (inV x y) := inferInstanceAs (Decidable (_ ∧ _))
def b64 (x : Int) : Prop := -9223372036854775808 ≤ x ∧ x ≤ 9223372036854775807
theorem w64 {x : Int} (h : b64 x) : wrap64 x = x := by
 unfold b64 at h
 unfold wrap64
 omega
theorem May_ev (x y : Int) : Ev (fun k => vec_May.f k x y) (decide (inV x y)) := by
 refine Ev.of (vec_May.mono x y) (k := 3) ?_
 have e : wrap64 (0 + 1) = 1 := by unfold wrap64; omega
 have e2 : wrap64 (1 + 1) = 2 := by unfold wrap64; omega
 simp only [vec_May.f, vec_fits_int64.f, vec_fits_int64.l0, rd, e, e2]
 by_cases h1 : x < -1125899906842624
 ·rw [decide_eq_false (show ¬ inV x y by unfold inV; omega)]; simp [h1]
 ·by_cases h2 : x > 1125899906842624
  ·rw [decide_eq_false (show ¬ inV x y by unfold inV; omega)]; simp [h1, h2]
  ·by_cases h3 : y < -1125899906842624
   ·rw [decide_eq_false (show ¬ inV x y by unfold inV; omega)]; simp [h1, h2, h3]
   ·by_cases h4 : y > 1125899906842624
    ·rw [decide_eq_false (show ¬ inV x y by unfold inV; omega)]; simp [h1, h2, h3, h4]
    ·rw [decide_eq_true (show inV x y by unfold inV; omega)]; simp [h1, h2, h3, h4]
theorem told_nil (k : Nat) (l0 l : List S23) (n : Int) (i : Int) (h : ¬ i < n) (h0 : 0 < l0.length) : vec_told.l0 (k + 1) l0 l n i = some ((rd_T23 l0 0).f0, (rd_T23 l0 0).f1, 0) := by
 simp only [vec_told.l0]
 rw [if_neg h, if_pos (by omega)]
theorem told_cons (k : Nat) (l0 l : List S23) (n : Int) (i : Int) (b : Bool) (h : i < n) (hi : 0 ≤ i) (hl : i < l.length) (hb : vec_May.f k (rd_T23 l i).f0 (rd_T23 l i).f1 = some b) :
  vec_told.l0 (k + 1) l0 l n i = if b = true then vec_told.l0 k l0 l n (wrap64 (i + 1)) else some (0, 0, 10) := by
 simp only [vec_told.l0]
 rw [if_pos h, if_pos hi, if_pos hl, hb]
 rfl
theorem told2_ev (a b : S23) : Ev (fun k => vec_told.f k [a, b]) (if inV a.f0 a.f1 ∧ inV b.f0 b.f1 then (a.f0, a.f1, 0) else (0, 0, 10)) := by
 obtain ⟨K1, h1⟩ := May_ev a.f0 a.f1
 dsimp only at h1
 obtain ⟨K2, h2⟩ := May_ev b.f0 b.f1
 dsimp only at h2
 have e : wrap64 (0 + 1) = 1 := by unfold wrap64; omega
 have e2 : wrap64 (1 + 1) = 2 := by unfold wrap64; omega
 refine Ev.of (vec_told.mono _) (k := K1 + K2 + 2 + 1) ?_
 unfold vec_told.f
 rw [told_cons (K1 + K2 + 2) _ _ _ _ _ (by simp) (by omega) (by simp) (h1 _ (by omega)), e]
 by_cases ha : inV a.f0 a.f1
 ·rw [decide_eq_true ha, if_pos rfl, told_cons (K1 + K2 + 1) _ _ _ _ _ (by simp) (by omega) (by simp) (h2 _ (by omega)), e2]
  by_cases hb : inV b.f0 b.f1
  ·rw [decide_eq_true hb, if_pos rfl, told_nil _ _ _ _ _ (by simp) (by simp), if_pos ⟨ha, hb⟩]
   rfl
  ·rw [decide_eq_false hb, if_neg (by simp), if_neg (fun h => hb h.2)]
 ·rw [decide_eq_false ha, if_neg (by simp), if_neg (fun h => ha h.1)]
theorem LE_f (a b c d : Int) : vec_LE.f a b c d = some (decide (a ≤ c ∧ b ≤ d)) := by
 simp only [vec_LE.f, vec_both_bool_at_vec_LE_1.f, vec_LE_1.f, Option.bind_some]
 by_cases h : a ≤ c <;> simp [h]
def units (a b c d : Int) : Int × Int :=
 if ¬ (1 ≤ c ∧ 1 ≤ d) then (0, 2) else if ¬ (inV a b ∧ inV c d) then (0, 10) else if a < 0 ∨ b < 0 then (0, 0) else (mn (a / c) (b / d), 0)
theorem Units1_f (a c : Int) (ha : b64 a) (hc : 1 ≤ c) : vec_Units_1.f a c = some (if a < 0 then 0 else a / c) := by
 unfold vec_Units_1.f
 by_cases h : a < 0
 ·simp [h]
 ·rw [if_neg h, if_neg (by omega), if_neg h, Int.tdiv_eq_ediv_of_nonneg (by omega)]
  have h1 : 0 ≤ a / c := Int.ediv_nonneg (by omega) (by omega)
  have h2 : a / c ≤ a := Int.ediv_le_self _ (by omega)
  unfold b64 at ha
  rw [w64 (by unfold b64; omega)]
theorem Units_ev (a b c d : Int) (ha : b64 a) (hb : b64 b) : Ev (fun k => vec_Units.f k a b c d) (units a b c d) := by
 obtain ⟨K, hK⟩ := told2_ev ⟨a, b⟩ ⟨c, d⟩
 dsimp only at hK
 refine ⟨K, fun k hk => ?_⟩
 simp only [vec_Units.f, LE_f, Option.bind_some, hK k hk]
 unfold units
 by_cases h1 : 1 ≤ c ∧ 1 ≤ d
 ·rw [decide_eq_true h1, if_pos rfl, if_neg (show ¬ ¬ (1 ≤ c ∧ 1 ≤ d) from fun h => h h1)]
  by_cases h2 : inV a b ∧ inV c d
  ·rw [if_pos h2, if_neg (show ¬ ¬ (inV a b ∧ inV c d) from fun h => h h2)]
   simp only [vec_both_int64_at_vec_Units_1.f, Units1_f a c ha h1.1, Units1_f b d hb h1.2, Option.bind_some, if_true]
   have h3 : 0 ≤ a / c ∨ a < 0 := by
    by_cases h : a < 0
    ·exact .inr h
    ·exact .inl (Int.ediv_nonneg (by omega) (by omega))
   have h4 : 0 ≤ b / d ∨ b < 0 := by
    by_cases h : b < 0
    ·exact .inr h
    ·exact .inl (Int.ediv_nonneg (by omega) (by omega))
   by_cases h5 : a < 0
   ·by_cases h6 : b < 0 <;> simp [h5, h6, mn]; omega
   ·by_cases h6 : b < 0
    ·simp [h5, h6, mn]; omega
    ·simp [h5, h6]
  ·simp [h2]
 ·simp [h1]
end Go.Proofs.YthibppfdonepoaaGreat.NodeT
set_option linter.unusedVariables false
namespace Go.Proofs.YthibppfdonepoaaGreat.NodeT
open Go.RowKit Go.MapKept Go.Maps Go.ChangeMaps Go.Proofs.YthibppfdonepoaaGreat.XBut Go.Proofs.YthibppfdonepoaaGreat.XMap Go.Proofs.YthibppfdonepoaaGreat.PNodePlays Go.Proofs.YthibppfdonepoaaGreatW.PrintWords Go.Proofs.YthibppfdonepoaaGreatW.PrintLast
def okV (c : Int) (v : S23) : Prop := (c ≤ v.f0 ∧ c ≤ v.f1) ∧ (v.f0 ≤ 1073741824 ∧ v.f1 ≤ 1073741824)
instance (c : Int) (v : S23) : Decidable (okV c v) := inferInstanceAs (Decidable (_ ∧ _))
theorem in_f (a b c : Int) : node_in.f a b c = some (decide (okV c ⟨a, b⟩)) := by
 unfold node_in.f
 rw [LE_f, Option.bind_some, LE_f, Option.bind_some]
 by_cases h : c ≤ a ∧ c ≤ b
 ·rw [decide_eq_true h, if_pos rfl]
  congr 1
  exact decide_eq_decide.2 ⟨fun h2 => ⟨h, h2⟩, fun h2 => h2.2⟩
 ·rw [decide_eq_false h, if_neg (by decide), decide_eq_false (fun h2 : okV c ⟨a, b⟩ => h h2.1)]
def uns (u0 u1 : Int) (x : S59) : Int := mn (x.f1.f0 / u0) (x.f1.f1 / u1)
structure Good (u0 u1 : Int) (ns : List S59) : Prop where
 unit : okV 1 ⟨u0, u1⟩
 all : ∀ x ∈ ns, (1 ≤ x.f0 ∧ x.f0 ≤ 4294967295) ∧ okV 0 x.f1 ∧ uns u0 u1 x ≤ 4096
 rising : ns.Pairwise fun x y => x.f0 < y.f0
 len : ns.length ≤ 32
theorem uns_nonneg {u0 u1 : Int} {x : S59} (hu : okV 1 ⟨u0, u1⟩) (hx : okV 0 x.f1) : 0 ≤ uns u0 u1 x ∧ uns u0 u1 x ≤ 1073741824 := by
 unfold okV at hu hx
 dsimp only at hu
 have h1 : 0 ≤ x.f1.f0 / u0 := Int.ediv_nonneg (by omega) (by omega)
 have h2 : 0 ≤ x.f1.f1 / u1 := Int.ediv_nonneg (by omega) (by omega)
 have h3 : x.f1.f0 / u0 ≤ x.f1.f0 := Int.ediv_le_self _ (by omega)
 unfold uns mn
 split <;> omega
theorem units_uns {u0 u1 : Int} {x : S59} (hu : okV 1 ⟨u0, u1⟩) (hx : okV 0 x.f1) : units x.f1.f0 x.f1.f1 u0 u1 = (uns u0 u1 x, 0) := by
 unfold okV at hu hx
 dsimp only at hu
 unfold units inV
 rw [if_neg (by omega), if_neg (by omega), if_neg (by omega)]
 rfl
theorem units_at {u0 u1 : Int} {x : S59} (hu : okV 1 ⟨u0, u1⟩) (hx : okV 0 x.f1) : Ev (fun k => vec_Units.f k x.f1.f0 x.f1.f1 u0 u1) (uns u0 u1 x, 0) := by
 have h := Units_ev x.f1.f0 x.f1.f1 u0 u1 (by unfold okV at hx; unfold b64; omega) (by unfold okV at hx; unfold b64; omega)
 rwa [units_uns hu hx] at h
theorem units_all {u0 u1 : Int} (hu : okV 1 ⟨u0, u1⟩) : ∀ ns : List S59, (∀ x ∈ ns, okV 0 x.f1) → ∃ k, ∀ x ∈ ns, vec_Units.f k x.f1.f0 x.f1.f1 u0 u1 = some (uns u0 u1 x, 0) := by
 intro ns hx
 have : ∃ K, ∀ k, K ≤ k → ∀ x ∈ ns, vec_Units.f k x.f1.f0 x.f1.f1 u0 u1 = some (uns u0 u1 x, 0) := by
  induction ns with
  | nil => exact ⟨0, fun _ _ _ h => by cases h⟩
  | cons a l ih =>
   obtain ⟨K1, h1⟩ := ih fun x h => hx x (by simp [h])
   obtain ⟨K2, h2⟩ := units_at hu (hx a (by simp))
   refine ⟨K1 + K2, fun k hk x h => ?_⟩
   rcases List.mem_cons.1 h with rfl | h
   ·exact h2 k (by omega)
   ·exact h1 k (by omega) x h
 obtain ⟨K, h⟩ := this
 exact ⟨K, h K (Nat.le_refl _)⟩
def code (u0 u1 : Int) (ns : List S59) (x : S59) : Int := joins x.f0 (decide (okV 0 x.f1)) (uns u0 u1 x) (who ns x.f0).isSome ns.length
theorem joinC (base b g : Nat) (u0 u1 : Int) (ns : List S59) (x : S59) (w : World) (hT : TabAt w base b g u0 u1 ns) (hG : Good u0 u1 ns) (hi : (Lit.int .u32 x.f0).wf = true) :
  Calls Tryz.prog 87 #[.pointer (some ⟨b, 0, none⟩), nv x] w fun e w' =>
   e = .returned (.int .i64 (code u0 u1 ns x)) ∧ But (fun k => k = g) w w' ∧ TabAt w' base b g u0 u1 (joined (code u0 u1 ns x) ns x) := by
 have hl := hG.len
 by_cases h : okV 0 x.f1
 ·obtain ⟨K, hK⟩ := units_at hG.unit h
  exact join base b g u0 u1 x.f0 x.f1.f0 x.f1.f1 ns w hT hi (by omega) K (decide (okV 0 x.f1)) (uns u0 u1 x) 0 (fun _ => in_f _ _ _) (fun _ _ => hK K (Nat.le_refl _))
 ·exact join base b g u0 u1 x.f0 x.f1.f0 x.f1.f1 ns w hT hi (by omega) 0 (decide (okV 0 x.f1)) (uns u0 u1 x) 0 (fun _ => in_f _ _ _) (fun _ h2 => by rw [decide_eq_false h] at h2; cases h2)
theorem ins_mem {ns : List S59} {x y : S59} (h : y ∈ ins ns x) : y = x ∨ y ∈ ns := by
 induction ns with
 | nil => exact .inl (by simpa [ins] using h)
 | cons a l ih =>
  unfold ins at h
  split at h
  ·rcases List.mem_cons.1 h with h | h
   ·exact .inl h
   ·exact .inr h
  ·split at h
   ·rcases List.mem_cons.1 h with h | h
    ·exact .inl h
    ·exact .inr (by simp [h])
   ·rcases List.mem_cons.1 h with h | h
    ·exact .inr (by simp [h])
    ·exact (ih h).imp id fun h => by simp [h]
theorem ins_rising {ns : List S59} (x : S59) (hr : ns.Pairwise fun x y => x.f0 < y.f0) : (ins ns x).Pairwise fun x y => x.f0 < y.f0 := by
 induction ns with
 | nil => exact List.pairwise_singleton _ _
 | cons a l ih =>
  obtain ⟨h1, h2⟩ := List.pairwise_cons.1 hr
  unfold ins
  split
  ·rename_i h
   refine List.pairwise_cons.2 ⟨fun p hp => ?_, hr⟩
   rcases List.mem_cons.1 hp with rfl | hp
   ·exact h
   ·have := h1 p hp
    omega
  ·split
   ·rename_i _ h
    refine List.pairwise_cons.2 ⟨fun p hp => ?_, h2⟩
    have := h1 p hp
    omega
   ·rename_i h3 h4
    refine List.pairwise_cons.2 ⟨fun p hp => ?_, ih h2⟩
    rcases ins_mem hp with rfl | hp
    ·omega
    ·exact h1 p hp
theorem ins_len (ns : List S59) (x : S59) : (ins ns x).length ≤ ns.length + 1 := by
 induction ns with
 | nil => simp [ins]
 | cons a l ih =>
  unfold ins
  split
  ·simp
  ·split
   ·simp
   ·simp only [List.length_cons]; omega
theorem code_zero {u0 u1 : Int} {ns : List S59} {x : S59} (h : code u0 u1 ns x = 0) : x.f0 ≠ 0 ∧ okV 0 x.f1 ∧ uns u0 u1 x ≤ 4096 ∧ who ns x.f0 = none ∧ ns.length < 32 := by
 unfold code joins at h
 split at h
 ·omega
 ·rename_i h1
  split at h
  ·omega
  ·rename_i h2
   split at h
   ·omega
   ·rename_i h3
    split at h
    ·omega
    ·rename_i h4
     split at h
     ·omega
     ·rename_i h5
      exact ⟨h1, by simpa using h2, by omega, by simpa using h4, by omega⟩
theorem Good.join {u0 u1 : Int} {ns : List S59} (hG : Good u0 u1 ns) (x : S59) (hx : 0 ≤ x.f0 ∧ x.f0 ≤ 4294967295) : Good u0 u1 (joined (code u0 u1 ns x) ns x) := by
 unfold joined
 split
 ·rename_i h
  obtain ⟨h1, h2, h3, h4, h5⟩ := code_zero h
  refine ⟨hG.unit, fun y hy => ?_, ins_rising x hG.rising, by have := ins_len ns x; omega⟩
  rcases ins_mem hy with rfl | hy
  ·exact ⟨⟨by omega, hx.2⟩, h2, h3⟩
  ·exact hG.all y hy
 ·exact hG
theorem Good.less {u0 u1 : Int} {ns : List S59} (hG : Good u0 u1 ns) (i : Int) : Good u0 u1 (less ns i) :=
 ⟨hG.unit, fun y hy => hG.all y (List.mem_filter.1 hy).1, List.Pairwise.sublist List.filter_sublist hG.rising, Nat.le_trans (List.length_filter_le _ _) hG.len⟩
theorem less_none {ns : List S59} {i : Int} (h : who ns i = none) : less ns i = ns :=
 List.filter_eq_self.2 fun x hx => by
  have := List.find?_eq_none.1 h x hx
  simpa using this
def lost (ns : List S59) (i : Int) : S59 × Int := match who ns i with | some x => (x, 0) | none => (⟨0, ⟨0, 0⟩⟩, 7)
theorem loseC (base b g : Nat) (u0 u1 i : Int) (ns : List S59) (w : World) (hT : TabAt w base b g u0 u1 ns) (hi : (Lit.int .u32 i).wf = true) :
  Calls Tryz.prog 110 #[.pointer (some ⟨b, 0, none⟩), .int .u32 i] w fun e w' => e = .returned (.tuple #[nv (lost ns i).1, .int .i64 (lost ns i).2]) ∧ But (fun k => k = g) w w' ∧ TabAt w' base b g u0 u1 (less ns i) := by
 unfold lost
 cases h : who ns i with
 | some x => exact lose_yes base b g u0 u1 i ns x w hT hi h
 | none =>
  refine (lose_no base b g u0 u1 i ns w hT hi h).mono ?_
  rintro e w' ⟨rfl, hb⟩
  exact ⟨rfl, But.of_below hb, by rw [less_none h]; exact hT.below hb⟩
end Go.Proofs.YthibppfdonepoaaGreat.NodeT
set_option linter.unusedVariables false
namespace Go.Proofs.YthibppfdonepoaaGreat.LedT
open Go.RowKit Go.MapKept Go.Maps Go.ChangeMaps Go.Proofs.YthibppfdonepoaaGreat.XBut Go.Proofs.YthibppfdonepoaaGreat.XMap Go.Proofs.YthibppfdonepoaaGreat.NodeT Go.Proofs.YthibppfdonepoaaGreatW.PrintWords Go.Proofs.YthibppfdonepoaaGreatW.PrintLast
abbrev Bx := PLedLib.S100
abbrev Nd := PNodePlays.S59
structure LedAt (w : World) (base p b g : Nat) (u0 u1 : Int) (ns : List Nd) (v : Value) (bx : List Bx) (last : Int) : Prop where
 tab : TabAt w base b g u0 u1 ns
 blk : w.heap[p]? = some (.cells #[.pointer (some ⟨b, 0, none⟩), v, .int .u32 last] 107 (0, 0))
 row : Kd.R PLedLib.k100 100 w base (fun k => v.ownBlock = some k) v bx
 own : ∀ k, v.ownBlock = some k → k ≠ b ∧ k ≠ g ∧ k ≠ p
 ne : p ≠ b ∧ p ≠ g ∧ base ≤ p
theorem LedAt.but {w w' : World} {base p b g : Nat} {u0 u1 : Int} {ns : List Nd} {v : Value} {bx : List Bx} {last : Int} (h : LedAt w base p b g u0 u1 ns v bx last) {T : Nat → Prop} (hb : But T w w') (h1 : ¬ T p) (h2 : ¬ T b) (h3 : ¬ T g) (h4 : ∀ k, v.ownBlock = some k → ¬ T k) : LedAt w' base p b g u0 u1 ns v bx last :=
 ⟨h.tab.but hb h2 h3, hb.heap h.blk h1, Kd.R_step h.row (fun k hk hlt => hb.block k hlt (h4 k hk)), h.own, h.ne⟩
theorem LedAt.below {w w' : World} {base p b g : Nat} {u0 u1 : Int} {ns : List Nd} {v : Value} {bx : List Bx} {last : Int} (h : LedAt w base p b g u0 u1 ns v bx last) (hb : Below w.heap.size w w') : LedAt w' base p b g u0 u1 ns v bx last :=
 h.but (T := fun _ => False) (But.of_below hb) id id id (fun _ _ h => h)
theorem LedAt.cells {w : World} {base p b g : Nat} {u0 u1 : Int} {ns : List Nd} {v : Value} {bx : List Bx} {last : Int} (h : LedAt w base p b g u0 u1 ns v bx last) : w.cell? ⟨p, 0, none⟩ = some (.pointer (some ⟨b, 0, none⟩)) ∧ w.cell? ⟨p, 1, none⟩ = some v ∧ w.cell? ⟨p, 2, none⟩ = some (.int .u32 last) :=
 ⟨(blk_cell h.blk 0).trans rfl, (blk_cell h.blk 1).trans rfl, (blk_cell h.blk 2).trans rfl⟩
theorem none_at (p : Nat) (q : Option Addr) (w : World) (h : w.cell? ⟨p, 0, none⟩ = some (.pointer q)) : Calls Tryz.prog 43 #[.pointer (some ⟨p, 0, none⟩)] w fun e w' => e = .returned (.bool q.isNone) ∧ w' = w := by
 cases q
 ·go_enter Tryz.func43, Tryz.ntmps43
  go_wp2
  go_ret
  exact ⟨rfl, rfl⟩
 ·go_enter Tryz.func43, Tryz.ntmps43
  go_wp2
  go_ret
  exact ⟨rfl, rfl⟩
def bv (x : Bx) : Value := .agg #[.int .u32 x.f0, .int .u32 x.f1, .int .u32 x.f2, .bool x.f3]
abbrev RB (w : World) (N : Nat) (v : Value) (xs : List Bx) : Prop := Kd.R PLedLib.k100 100 w N (fun k => v.ownBlock = some k) v xs
theorem picked (gf : FuncId) (cap : Value) (q : Bx → Bool) (bx : List Bx) (A : Option Addr) (c : Nat) (w : World) (hC : Kd.C PLedLib.k100 w A bx.length bx) (hl : bx.length ≤ 1000000) (hent : ∀ args w, (callFunc gf args).run Tryz.prog w = .ok (.enter gf args) w)
  (hq : ∀ x ∈ bx, ∀ w', Below w.heap.size w w' → Calls Tryz.prog gf #[bv x, cap] w' fun e w'' => e = .returned (.bool (q x)) ∧ Below w'.heap.size w' w'') :
  Calls Tryz.prog 51 #[.slice A bx.length c, .func (.func gf) #[] #[cap]] w fun e w' => ∃ v1 v2, e = .returned (.tuple #[v1, v2]) ∧ RB w' w.heap.size v1 (bx.filter q) ∧ RB w' w.heap.size v2 (bx.filter fun x => !q x) ∧ (∀ k, v1.ownBlock = some k → v2.ownBlock ≠ some k) ∧ Below w.heap.size w w' := by
 have hu113 := Tryz.underlying100
 have H := Aside0.mk (And.intro hC (And.intro hl hq))
 have hl6 : (bx.length : Int) ≤ 1000000 := by omega
 clear hC hl hq
 go_enter Tryz.func51, Tryz.ntmps51
 go_wp2_with fail
 go_loopg [4, 5, 10] bx.length (fun kk v4 v5 v10 wr => ∃ j : Nat, kk = bx.length - j ∧ v10 = .int .i64 j ∧ j ≤ bx.length ∧ Below w.heap.size w wr ∧ RB wr w.heap.size v4 ((bx.take j).filter q) ∧ RB wr w.heap.size v5 ((bx.take j).filter fun x => !q x) ∧ (∀ k, v4.ownBlock = some k → v5.ownBlock ≠ some k))
 case atStart => exact ⟨0, rfl, rfl, Nat.zero_le _, Below.refl _ _, by rw [List.take_zero]; exact Kd.R_nil _ _ _ _ _, by rw [List.take_zero]; exact Kd.R_nil _ _ _ _ _, fun k hk => by simp [Value.ownBlock] at hk⟩
 obtain ⟨j, rfl, rfl, hj, hB, hR4, hR5, hne⟩ := hrel
 by_cases hlt : j < bx.length
 ·obtain ⟨ad, rfl, d0, d1, d2, d3⟩ := PLedLib.at_T100 (Kd.C_below H.out.1 hB) (j : Int) (by omega) (by omega)
  have ej : (j : Int).toNat = j := by simp
  have er : PLedLib.rd_T100 bx (j : Int) = bx[j] := by unfold PLedLib.rd_T100; rw [ej, List.getD_eq_getElem?_getD, List.getElem?_eq_getElem hlt]; rfl
  rw [er, ej] at d0 d1 d2 d3
  have hmem : bx[j] ∈ bx := List.getElem_mem hlt
  have htk : bx.take (j + 1) = bx.take j ++ [bx[j]] := by rw [List.take_add_one, List.getElem?_eq_getElem hlt]; rfl
  obtain ⟨x, hx⟩ : ∃ x, bx[j] = x := ⟨_, rfl⟩
  rw [hx] at d0 d1 d2 d3 hmem htk
  have f1 : (bx.take (j + 1)).filter q = (bx.take j).filter q ++ (if q x = true then [x] else []) := by rw [htk, List.filter_append]; congr 1; cases hqx : q x <;> simp [hqx]
  have f2 : (bx.take (j + 1)).filter (fun x => !q x) = (bx.take j).filter (fun x => !q x) ++ (if q x = true then [] else [x]) := by rw [htk, List.filter_append]; congr 1; cases hqx : q x <;> simp [hqx]
  have hcall := H.out.2.2 x hmem
  have hlt' : (j : Int) < (bx.length : Int) := by omega
  have l1 : ((bx.take j).filter q).length ≤ j := Nat.le_trans (List.length_filter_le _ _) (by rw [List.length_take]; omega)
  have l2 : ((bx.take j).filter fun x => !q x).length ≤ j := Nat.le_trans (List.length_filter_le _ _) (by rw [List.length_take]; omega)
  have Y := Aside0.mk (And.intro hB (And.intro hR4 (And.intro hR5 (And.intro hne (And.intro f1 (And.intro f2 (And.intro hcall (And.intro l1 l2))))))))
  obtain ⟨x0, x1, x2, x3⟩ := x
  dsimp only at d0 d1 d2 d3
  clear hB hR4 hR5 hne f1 f2 hcall l1 l2 hx hmem htk er
  go_wp2_with fail
  refine (Y.out.2.2.2.2.2.2.1 _ (below_step Y.out.1 (below_alloc (Below.refl _ _) _))).mono ?_
  rintro e wz ⟨rfl, hb⟩
  have X := Aside0.mk hb
  have kz := blk_below (blk_new wr (.cells #[.int .u32 x0, .int .u32 x1, .int .u32 x2, .bool x3] 100)) hb
  have z0 := (blk_cell kz 0).trans rfl
  have z1 := (blk_cell kz 1).trans rfl
  have z2 := (blk_cell kz 2).trans rfl
  have z3 := (blk_cell kz 3).trans rfl
  clear hb kz d0 d1 d2 d3
  dsimp only
  cases hqx : q ⟨x0, x1, x2, x3⟩
  ·go_wp2_with (refine Kd.R_append PLedLib.k100 (w0 := w) w.heap.size (by rfl) (.tmp 21) (.tmp 23) 34 100 (.agg #[.int .u32 0, .int .u32 0, .int .u32 0, .bool false]) 16 rfl Tryz.underlying34 PLedLib.info100 rfl (by decide) (by omega) u5 ((bx.take j).filter fun x => !q x) ⟨x0, x1, x2, x3⟩ [.int .u32 x0, .int .u32 x1, .int .u32 x2, .bool x3] (fun _ => True) (fun _ => False) rfl rfl (PLedLib.k100_mkM _ _ _ _) (fun _ h => h.elim) (fun _ _ => trivial) (Kd.R_mono (Kd.R_below Y.out.2.2.1 (below_step (below_alloc (Below.refl _ _) _) X.out)) (fun _ _ => trivial)) (below_step (below_step Y.out.1 (below_alloc (Below.refl _ _) _)) X.out) (below_step (below_step Y.out.1 (below_alloc (Below.refl _ _) _)) X.out).size ?hl ?_)
   case hl => have h := Y.out.2.2.2.2.2.2.2.2; have h2 := H.out.2.1; exact Nat.le_trans (Nat.mul_le_mul_right _ (Nat.add_le_add_right h 1)) (by omega)
   intro v1 w2 hR2 hB2 hg2 hat2
   have hbx : Below wr.heap.size wr wz := below_step (below_alloc (Below.refl _ _) _) X.out
   have ho : RB w2 w.heap.size u4 _ := Kd.R_grown (Kd.R_below Y.out.2.1 hbx) hg2 (fun k hk he => Y.out.2.2.2.1 k hk he.symm)
   have hm : RB w2 w.heap.size v1 _ := Kd.R_mono (Kd.R_tight (by rfl) hR2) (fun k hk => hk.symm)
   have hn : ∀ k, u4.ownBlock = some k → v1.ownBlock ≠ some k := by
    intro k hk hk2
    rcases hat2 with h3 | ⟨b3, h3, h4⟩
    ·exact Y.out.2.2.2.1 k hk (h3.symm.trans hk2)
    ·have h5 := Kd.R_lt Y.out.2.1 k hk
     have h6 : some b3 = some k := h3.symm.trans hk2
     have h7 : b3 = k := Option.some.inj h6
     have := hbx.size
     omega
   have Z := Aside0.mk (And.intro hm (And.intro ho (And.intro hn hB2)))
   clear hR2 hB2 hg2 hat2 hbx ho hm hn
   go_wp2
   go_roundg (bx.length - (j + 1))
   case measure => omega
   case rel => exact ⟨j + 1, rfl, by go_num, by omega, Z.out.2.2.2, by rw [Y.out.2.2.2.2.1, hqx, if_neg (by decide), List.append_nil]; exact Z.out.2.1, by rw [Y.out.2.2.2.2.2.1, hqx, if_neg (by decide)]; exact Z.out.1, Z.out.2.2.1⟩
  ·go_wp2_with (refine Kd.R_append PLedLib.k100 (w0 := w) w.heap.size (by rfl) (.tmp 17) (.tmp 19) 34 100 (.agg #[.int .u32 0, .int .u32 0, .int .u32 0, .bool false]) 16 rfl Tryz.underlying34 PLedLib.info100 rfl (by decide) (by omega) u4 ((bx.take j).filter q) ⟨x0, x1, x2, x3⟩ [.int .u32 x0, .int .u32 x1, .int .u32 x2, .bool x3] (fun _ => True) (fun _ => False) rfl rfl (PLedLib.k100_mkM _ _ _ _) (fun _ h => h.elim) (fun _ _ => trivial) (Kd.R_mono (Kd.R_below Y.out.2.1 (below_step (below_alloc (Below.refl _ _) _) X.out)) (fun _ _ => trivial)) (below_step (below_step Y.out.1 (below_alloc (Below.refl _ _) _)) X.out) (below_step (below_step Y.out.1 (below_alloc (Below.refl _ _) _)) X.out).size ?hl ?_)
   case hl => have h := Y.out.2.2.2.2.2.2.2.1; have h2 := H.out.2.1; exact Nat.le_trans (Nat.mul_le_mul_right _ (Nat.add_le_add_right h 1)) (by omega)
   intro v1 w2 hR2 hB2 hg2 hat2
   have hbx : Below wr.heap.size wr wz := below_step (below_alloc (Below.refl _ _) _) X.out
   have ho : RB w2 w.heap.size u5 _ := Kd.R_grown (Kd.R_below Y.out.2.2.1 hbx) hg2 (fun k hk he => Y.out.2.2.2.1 k he.symm hk)
   have hm : RB w2 w.heap.size v1 _ := Kd.R_mono (Kd.R_tight (by rfl) hR2) (fun k hk => hk.symm)
   have hn : ∀ k, v1.ownBlock = some k → u5.ownBlock ≠ some k := by
    intro k hk hk2
    rcases hat2 with h3 | ⟨b3, h3, h4⟩
    ·exact Y.out.2.2.2.1 k (h3.symm.trans hk) hk2
    ·have h5 := Kd.R_lt Y.out.2.2.1 k hk2
     have h6 : some b3 = some k := h3.symm.trans hk
     have h7 : b3 = k := Option.some.inj h6
     have := hbx.size
     omega
   have Z := Aside0.mk (And.intro hm (And.intro ho (And.intro hn hB2)))
   clear hR2 hB2 hg2 hat2 hbx ho hm hn
   go_wp2
   go_roundg (bx.length - (j + 1))
   case measure => omega
   case rel => exact ⟨j + 1, rfl, by go_num, by omega, Z.out.2.2.2, by rw [Y.out.2.2.2.2.1, hqx, if_pos rfl]; exact Z.out.1, by rw [Y.out.2.2.2.2.2.1, hqx, if_pos rfl, List.append_nil]; exact Z.out.2.1, Z.out.2.2.1⟩
 ·have hlt' : ¬ (j : Int) < (bx.length : Int) := by omega
  have htk : bx.take j = bx := List.take_of_length_le (by omega)
  rw [htk] at hR4 hR5
  have Y := Aside0.mk (And.intro hB (And.intro hR4 (And.intro hR5 hne)))
  clear hB hR4 hR5 hne htk
  go_wp2
  go_ret2
  exact ⟨_, _, rfl, Y.out.2.1, Y.out.2.2.1, Y.out.2.2.2, Y.out.1⟩
theorem lose1 (x : Bx) (p : Nat) (n : Int) (w : World) (h : w.cell? ⟨p, 0, none⟩ = some (.int .u32 n)) : Calls Tryz.prog 111 #[bv x, .pointer (some ⟨p, 0, none⟩)] w fun e w' => e = .returned (.bool (x.f1 == n)) ∧ Below w.heap.size w w' := by
 have hu113 := Tryz.underlying100
 obtain ⟨x0, x1, x2, x3⟩ := x
 have c0 : ∀ o, (w.alloc o).cell? ⟨p, 0, none⟩ = some (.int .u32 n) := fun o => pw_cell_below (below_alloc (Below.refl _ _) o) h
 clear h
 unfold bv
 dsimp only
 go_enter Tryz.func111, Tryz.ntmps111
 go_wp2
 go_ret
 exact ⟨rfl, below_alloc (Below.refl _ _) _⟩
theorem room1 (x : Bx) (p : Nat) (n : Int) (w : World) (h : w.cell? ⟨p, 0, none⟩ = some (.int .u32 n)) : Calls Tryz.prog 109 #[bv x, .pointer (some ⟨p, 0, none⟩)] w fun e w' => e = .returned (.bool (x.f1 == n)) ∧ Below w.heap.size w w' := by
 have hu113 := Tryz.underlying100
 obtain ⟨x0, x1, x2, x3⟩ := x
 have c0 : ∀ o, (w.alloc o).cell? ⟨p, 0, none⟩ = some (.int .u32 n) := fun o => pw_cell_below (below_alloc (Below.refl _ _) o) h
 clear h
 unfold bv
 dsimp only
 go_enter Tryz.func109, Tryz.ntmps109
 go_wp2
 go_ret
 exact ⟨rfl, below_alloc (Below.refl _ _) _⟩
def mayc (o n : Int) : Int := if o = 0 ∨ n < 0 ∨ 1048576 < n then 2 else 0
theorem may_at (p b : Nat) (o n : Int) (w : World) (h : w.cell? ⟨p, 0, none⟩ = some (.pointer (some ⟨b, 0, none⟩))) : Calls Tryz.prog 67 #[.pointer (some ⟨p, 0, none⟩), .int .u32 o, .int .i64 n] w fun e w' => e = .returned (.int .i64 (mayc o n)) ∧ w' = w := by
 by_cases h1 : o = 0
 ·have t1 : (o == 0) = true := by simp [h1]
  have E : Aside0 (mayc o n = 2) := ⟨if_pos (.inl h1)⟩
  clear h1
  go_enter Tryz.func67, Tryz.ntmps67
  go_wp2_with fail
  refine (none_at p _ _ h).mono ?_
  rintro e wz ⟨rfl, hz⟩
  obtain rfl := hz.symm
  clear hz
  simp only [Option.isNone]
  go_wp2
  go_ret
  exact ⟨by rw [E.out]; rfl, rfl⟩
 ·have t1 : (o == 0) = false := by simp [h1]
  by_cases h2 : n < 0
  ·have t2 : decide (n < 0) = true := decide_eq_true h2
   have E : Aside0 (mayc o n = 2) := ⟨if_pos (.inr (.inl h2))⟩
   clear h1
   go_enter Tryz.func67, Tryz.ntmps67
   go_wp2_with fail
   refine (none_at p _ _ h).mono ?_
   rintro e wz ⟨rfl, hz⟩
   obtain rfl := hz.symm
   clear hz
   simp only [Option.isNone]
   go_wp2
   go_ret
   exact ⟨by rw [E.out]; rfl, rfl⟩
  ·have t2 : decide (n < 0) = false := decide_eq_false h2
   by_cases h3 : 1048576 < n
   ·have t3 : decide ((1048576 : Int) < n) = true := decide_eq_true h3
    have E : Aside0 (mayc o n = 2) := ⟨if_pos (.inr (.inr h3))⟩
    clear h1
    go_enter Tryz.func67, Tryz.ntmps67
    go_wp2_with fail
    refine (none_at p _ _ h).mono ?_
    rintro e wz ⟨rfl, hz⟩
    obtain rfl := hz.symm
    clear hz
    simp only [Option.isNone]
    go_wp2
    go_ret
    exact ⟨by rw [E.out]; rfl, rfl⟩
   ·have t3 : decide ((1048576 : Int) < n) = false := decide_eq_false h3
    have E : Aside0 (mayc o n = 0) := ⟨if_neg (by omega)⟩
    clear h1
    go_enter Tryz.func67, Tryz.ntmps67
    go_wp2_with fail
    refine (none_at p _ _ h).mono ?_
    rintro e wz ⟨rfl, hz⟩
    obtain rfl := hz.symm
    clear hz
    simp only [Option.isNone]
    go_wp2
    go_ret
    exact ⟨by rw [E.out]; rfl, rfl⟩
theorem eq_slice_nil {P : Program} (w : World) (t e : TypeId) (a : Option Addr) (n c : Nat) (h : P.underlying t = some (.slice e)) : (binOp .eql t (.slice a n c) (.slice none 0 0)).run P w = .ok (.bool a.isNone) w := by
 have e0 : ∀ d, (Op.equalIn (d + 1) t (.slice a n c) (.slice none 0 0)).run P w = .ok a.isNone w := by
  intro d
  cases a <;> simp [Op.equalIn, run_underlying h]
 have e1 := e0 9999
 simp only [binOp]
 simp [show Op.equal t (.slice a n c) (.slice none 0 0) = Op.equalIn (9999 + 1) t (.slice a n c) (.slice none 0 0) from rfl, e1]
theorem clone (bx : List Bx) (A : Option Addr) (c : Nat) (w : World) (hC : Kd.C PLedLib.k100 w A bx.length bx) (hl : bx.length ≤ 1000000) :
  Calls Tryz.prog 44 #[.slice A bx.length c] w fun e w' => ∃ v, e = .returned v ∧ RB w' w.heap.size v bx ∧ Below w.heap.size w w' := by
 have H := Aside0.mk (And.intro hC hl)
 have hq := fun w => eq_slice_nil (P := Tryz.prog) w 34 _ A bx.length c Tryz.underlying34
 clear hC hl
 cases A with
 | none =>
  have h0 : bx = [] := by
   cases bx with
   | nil => rfl
   | cons a l => obtain ⟨ad, h, _⟩ := PLedLib.at_T100 H.out.1 0 (by omega) (by simp); cases h
  subst h0
  simp only [List.length_nil, Option.isNone] at hq
  go_enter Tryz.func44, Tryz.ntmps44
  go_wp2
  go_ret
  exact ⟨_, rfl, Kd.R_nil _ _ _ _ _, Below.refl _ _⟩
 | some ad =>
  simp only [Option.isNone] at hq
  go_enter Tryz.func44, Tryz.ntmps44
  go_upto_region 3 with (fail)
  have R0 : Kd.R PLedLib.k100 100 (w.alloc (.cells #[] 100)) w.heap.size (fun _ => True) (.slice (some ⟨w.heap.size, 0, none⟩) 0 0) [] :=
   ⟨fun _ _ => trivial, [], by have := World.ownsRow_lit (base := w.heap.size) (e := 100) (size := 4) w #[] 0 (Nat.le_refl _) (by decide) rfl; exact (show (w.alloc (.cells #[] 100)).ownsRow w.heap.size 100 4 (.slice (some ⟨w.heap.size, 0, none⟩) 0 0) 0 [] by simpa using this), Reps.none _ _⟩
  have R0 := Aside0.mk R0
  go_wp2_with (refine Kd.R_append_rows PLedLib.k100 (w0 := w) w.heap.size (by rfl) (.tmp 5) (.tmp 6) 34 100 (.agg #[.int .u32 0, .int .u32 0, .int .u32 0, .bool false]) 16 rfl Tryz.underlying34 PLedLib.info100 rfl (by decide) (by omega) _ [] bx (some ad) bx.length c (fun _ => True) (fun _ => False) rfl rfl R0.out (Kd.C_below H.out.1 (below_alloc (Below.refl _ _) _)) (fun _ _ h => h) (fun _ h => h.elim) (fun _ _ => trivial) (below_alloc (Below.refl _ _) _) (by simp) ?hl ?_)
  case hl => have := H.out.2; simp only [List.length_nil]; omega
  intro v1 w2 hR2 hB2 hg2 hat2
  have X := Aside0.mk (And.intro (show RB w2 w.heap.size v1 bx from Kd.R_mono (Kd.R_tight (by rfl) hR2) (fun k hk => hk.symm)) hB2)
  clear hR2 hB2 hg2 hat2
  go_wp2
  go_ret
  exact ⟨_, rfl, X.out.1, X.out.2⟩
theorem boxes {base p b g : Nat} {u0 u1 : Int} {ns : List Nd} {v : Value} {bx : List Bx} {last : Int} (w : World) (h : LedAt w base p b g u0 u1 ns v bx last) (hl : bx.length ≤ 1000000) :
  Calls Tryz.prog 13 #[.pointer (some ⟨p, 0, none⟩)] w fun e w' => ∃ v', e = .returned v' ∧ RB w' w.heap.size v' bx ∧ Below w.heap.size w w' := by
 obtain ⟨c0, c1, c2⟩ := h.cells
 obtain ⟨A, c, rfl⟩ := Kd.R_slice h.row
 obtain ⟨_, hc, hC⟩ := Kd.R_reads' h.row
 have CL := Aside0.mk (clone bx A c w hC hl)
 clear h hl hc hC
 go_enter Tryz.func13, Tryz.ntmps13
 go_wp2_with fail
 refine (none_at p _ _ c0).mono ?_
 rintro e wz ⟨rfl, hz⟩
 obtain rfl := hz.symm
 clear hz
 simp only [Option.isNone]
 go_wp2_with fail
 refine CL.out.mono ?_
 rintro e w1 ⟨v', rfl, hR, hb⟩
 have X := Aside0.mk (And.intro hR hb)
 clear hR hb c0 c1 c2
 dsimp only
 go_wp2
 go_ret
 exact ⟨_, rfl, X.out.1, X.out.2⟩
theorem lnodes {base p b g : Nat} {u0 u1 : Int} {ns : List Nd} {v : Value} {bx : List Bx} {last : Int} (w : World) (h : LedAt w base p b g u0 u1 ns v bx last) :
  Calls Tryz.prog 74 #[.pointer (some ⟨p, 0, none⟩)] w fun e w' => ∃ b' g', e = .returned (.pointer (some ⟨b', 0, none⟩)) ∧ Below w.heap.size w w' ∧ TabAt w' w.heap.size b' g' u0 u1 ns := by
 obtain ⟨c0, c1, c2⟩ := h.cells
 have CL := Aside0.mk (copy base b g u0 u1 ns w h.tab)
 clear h
 go_enter Tryz.func74, Tryz.ntmps74
 go_wp2_with fail
 refine (none_at p _ _ c0).mono ?_
 rintro e wz ⟨rfl, hz⟩
 obtain rfl := hz.symm
 clear hz
 simp only [Option.isNone]
 go_wp2_with fail
 refine CL.out.mono ?_
 rintro e w1 ⟨b', g', rfl, hb, hT⟩
 have X := Aside0.mk (And.intro hb hT)
 clear hb hT c0 c1 c2
 dsimp only
 go_wp2
 go_ret
 exact ⟨_, _, rfl, X.out.1, X.out.2⟩
end Go.Proofs.YthibppfdonepoaaGreat.LedT
set_option linter.unusedVariables false
namespace Go.Proofs.YthibppfdonepoaaGreat.NodeT
open Go.RowKit Go.Proofs.YthibppfdonepoaaGreat.PNodePlays Go.Proofs.YthibppfdonepoaaGreatW.PrintWords Go.Proofs.YthibppfdonepoaaGreatW.PrintLast
theorem sum_bound (F : S59 → Int) (ns : List S59) (h : ∀ x ∈ ns, 0 ≤ F x ∧ F x ≤ 4096) : 0 ≤ sumU F ns ∧ sumU F ns ≤ 4096 * ns.length := by
 unfold sumU
 induction ns with
 | nil => simp
 | cons a l ih =>
  have h1 := ih fun x hx => h x (by simp [hx])
  have h2 := h a (by simp)
  simp only [List.map_cons, List.sum_cons, List.length_cons]
  omega
theorem Good.units {u0 u1 : Int} {ns : List S59} (hG : Good u0 u1 ns) : ∀ x ∈ ns, 0 ≤ uns u0 u1 x ∧ uns u0 u1 x ≤ 4096 := fun x hx => ⟨(uns_nonneg hG.unit (hG.all x hx).2.1).1, (hG.all x hx).2.2⟩
theorem Good.total {u0 u1 : Int} {ns : List S59} (hG : Good u0 u1 ns) : 0 ≤ sumU (uns u0 u1) ns ∧ sumU (uns u0 u1) ns ≤ 131072 := by
 have := sum_bound (uns u0 u1) ns hG.units
 have := hG.len
 omega
end Go.Proofs.YthibppfdonepoaaGreat.NodeT
set_option linter.unusedVariables false
namespace Go.Proofs.YthibppfdonepoaaGreat.LedT
open Go.RowKit Go.MapKept Go.Maps Go.ChangeMaps Go.Proofs.YthibppfdonepoaaGreat.XBut Go.Proofs.YthibppfdonepoaaGreat.XMap Go.Proofs.YthibppfdonepoaaGreat.NodeT Go.Proofs.YthibppfdonepoaaGreatW.PrintWords Go.Proofs.YthibppfdonepoaaGreatW.PrintLast
def freeN (u0 u1 : Int) (ns : List Nd) (bx : List Bx) : Int := sumU (uns u0 u1) ns - bx.length
theorem free {base p b g : Nat} {u0 u1 : Int} {ns : List Nd} {v : Value} {bx : List Bx} {last : Int} (w : World) (h : LedAt w base p b g u0 u1 ns v bx last) (hG : NodeT.Good u0 u1 ns) (hl : bx.length ≤ 1000000) :
  Calls Tryz.prog 26 #[.pointer (some ⟨p, 0, none⟩)] w fun e w' => e = .returned (.int .i64 (freeN u0 u1 ns bx)) ∧ Below w.heap.size w w' := by
 obtain ⟨c0, c1, c2⟩ := h.cells
 obtain ⟨A, c, rfl⟩ := Kd.R_slice h.row
 obtain ⟨KA, hKA⟩ := units_all hG.unit ns (fun x hx => (hG.all x hx).2.1)
 have hsm : ∀ x ∈ ns, 0 ≤ uns u0 u1 x ∧ uns u0 u1 x ≤ 1073741824 := fun x hx => ⟨(hG.units x hx).1, by have := (hG.units x hx).2; omega⟩
 have hT := hG.total
 have hlen := hG.len
 obtain ⟨T, hTe⟩ : ∃ T, sumU (uns u0 u1) ns = T := ⟨_, rfl⟩
 have TC := Aside0.mk (fun w' (hw : Below w.heap.size w w') => total KA base b g u0 u1 ns (uns u0 u1) (fun _ => 0) w' (h.tab.below hw) (by omega) hKA hsm)
 rw [hTe] at TC hT
 have FE : Aside0 (freeN u0 u1 ns bx = T - bx.length) := ⟨by unfold freeN; rw [hTe]⟩
 obtain ⟨fr, hfr⟩ : ∃ fr, T - (bx.length : Int) = fr := ⟨_, rfl⟩
 have hr1 : IntKind.i64.wrap (T - (bx.length : Int)) = fr := by rw [IntKind.wrap_i64]; omega
 have H := Aside0.mk h
 rw [FE.out, hfr]
 clear h hG hl hKA hsm hT hlen hTe hfr FE
 go_enter Tryz.func26, Tryz.ntmps26
 go_wp2_with fail
 refine (none_at p _ _ c0).mono ?_
 rintro e wz ⟨rfl, hz⟩
 obtain rfl := hz.symm
 clear hz
 simp only [Option.isNone]
 go_upto_region 3 with (fail)
 refine XInv.region_tab [] [[], [0], [1], [2], [3], [], [5], [6], [7], [8], [4, 9], [10, 4, 0, 1, 2, 3, 4, 5, 6, 7, 8, 9, 10]] (fun bq jq => match jq with
   | 0 => .pointer (some ⟨p, 0, none⟩)
   | 1 => .pointer (some ⟨p, 0, none⟩)
   | 2 => .pointer (some ⟨p, 0, none⟩)
   | 3 => .pointer (some ⟨b, 0, none⟩)
   | 4 => .int .i64 T
   | 5 => .pointer (some ⟨p, 0, none⟩)
   | 6 => .pointer (some ⟨p, 0, none⟩)
   | 7 => .pointer (some ⟨p, 1, none⟩)
   | 8 => .slice A bx.length c
   | 9 => .int .i64 bx.length
   | 10 => .int .i64 fr
   | 11 => .int .i64 fr
   | _ => undef)
   (fun bq l w' => Below w.heap.size w w')
   (by kernel_rfl) rfl (by kernel_rfl) (by kernel_rfl) (by kernel_rfl) ⟨fun _ : Nat => (0 : Nat), below_drew (Below.refl _ _)⟩ ?_ ?_
 ·intro i1 hi1 hds oi hoi bq lb w' hW hlb hcl hneed hclo
  have hi1 : i1 < 12 := hi1
  have hcs : i1 = 0 ∨ i1 = 1 ∨ i1 = 2 ∨ i1 = 3 ∨ i1 = 4 ∨ i1 = 5 ∨ i1 = 6 ∨ i1 = 7 ∨ i1 = 8 ∨ i1 = 9 ∨ i1 = 10 ∨ i1 = 11 := by omega
  clear hi1 hcl hneed hclo
  obtain ⟨c0, c1, c2⟩ := (H.out.below hW).cells
  rcases hcs with rfl | rfl | rfl | rfl | rfl | rfl | rfl | rfl | rfl | rfl | rfl | rfl
  all_goals simp only [List.getElem?_toArray, List.getElem?_cons_succ, List.getElem?_cons_zero, Option.some.injEq] at hoi
  all_goals subst hoi
  ·refine XInv.yes_tab [] (by kernel_rfl) ?_
   intro Q2 K2 hK2
   simp only [XInv.puts, XPrint.pw]
   go_simp
   exact hK2.out (.pointer (some ⟨p, 0, none⟩)) w' ⟨bq, rfl, (by intros; first | rfl | trivial), hW⟩
  ·refine XInv.yes_tab [(5, 0)] (by kernel_rfl) ?_
   intro Q2 K2 hK2
   simp only [XInv.puts, XPrint.pw]
   go_simp
   exact hK2.out (.pointer (some ⟨p, 0, none⟩)) w' ⟨bq, rfl, (by intros; first | rfl | trivial), hW⟩
  ·refine XInv.yes_tab [(6, 1)] (by kernel_rfl) ?_
   intro Q2 K2 hK2
   simp only [XInv.puts, XPrint.pw]
   go_simp
   exact hK2.out (.pointer (some ⟨p, 0, none⟩)) w' ⟨bq, rfl, (by intros; first | rfl | trivial), hW⟩
  ·refine XInv.yes_tab [(7, 2)] (by kernel_rfl) ?_
   intro Q2 K2 hK2
   simp only [XInv.puts, XPrint.pw]
   go_simp
   exact hK2.out (.pointer (some ⟨b, 0, none⟩)) w' ⟨bq, rfl, (by intros; first | rfl | trivial), hW⟩
  ·refine XInv.yes_tab [(8, 3)] (by kernel_rfl) ?_
   intro Q2 K2 hK2
   simp only [XInv.puts, XPrint.pw]
   go_simp
   go_at_call 63
   (with_reducible refine (TC.out _ hW).mono ?_)
   rintro e wz ⟨rfl, hb⟩
   exact hK2.out (.int .i64 T) wz ⟨bq, rfl, (by intros; first | rfl | trivial), below_step hW hb⟩
  ·refine XInv.yes_tab [] (by kernel_rfl) ?_
   intro Q2 K2 hK2
   simp only [XInv.puts, XPrint.pw]
   go_simp
   exact hK2.out (.pointer (some ⟨p, 0, none⟩)) w' ⟨bq, rfl, (by intros; first | rfl | trivial), hW⟩
  ·refine XInv.yes_tab [(10, 5)] (by kernel_rfl) ?_
   intro Q2 K2 hK2
   simp only [XInv.puts, XPrint.pw]
   go_simp
   exact hK2.out (.pointer (some ⟨p, 0, none⟩)) w' ⟨bq, rfl, (by intros; first | rfl | trivial), hW⟩
  ·refine XInv.yes_tab [(11, 6)] (by kernel_rfl) ?_
   intro Q2 K2 hK2
   simp only [XInv.puts, XPrint.pw]
   go_simp
   exact hK2.out (.pointer (some ⟨p, 1, none⟩)) w' ⟨bq, rfl, (by intros; first | rfl | trivial), hW⟩
  ·refine XInv.yes_tab [(12, 7)] (by kernel_rfl) ?_
   intro Q2 K2 hK2
   simp only [XInv.puts, XPrint.pw]
   go_simp
   exact hK2.out (.slice A bx.length c) w' ⟨bq, rfl, (by intros; first | rfl | trivial), hW⟩
  ·refine XInv.yes_tab [(13, 8)] (by kernel_rfl) ?_
   intro Q2 K2 hK2
   simp only [XInv.puts, XPrint.pw]
   go_simp
   exact hK2.out (.int .i64 bx.length) w' ⟨bq, rfl, (by intros; first | rfl | trivial), hW⟩
  ·refine XInv.yes_tab [(14, 9), (9, 4)] (by kernel_rfl) ?_
   intro Q2 K2 hK2
   simp only [XInv.puts, XPrint.pw]
   go_simp
   exact hK2.out (.int .i64 fr) w' ⟨bq, rfl, (by intros; first | rfl | trivial), hW⟩
  ·refine XInv.yes_tab [(15, 10), (14, 9), (13, 8), (12, 7), (11, 6), (10, 5), (9, 4), (8, 3), (7, 2), (6, 1), (5, 0)] (by kernel_rfl) ?_
   intro Q2 K2 hK2
   simp only [XInv.puts, XPrint.pw] at hK2 ⊢
   go_simp
   exact hK2.out (.int .i64 fr) w' ⟨bq, rfl, (by intros; first | rfl | trivial), hW⟩
 ·intro bq w' hW
  refine XInv.end_nil [(2, 11), (15, 10), (14, 9), (13, 8), (12, 7), (11, 6), (10, 5), (9, 4), (8, 3), (7, 2), (6, 1), (5, 0)] (by kernel_rfl) (by kernel_rfl) ?_
  simp only [XInv.puts, XPrint.pw]
  go_wp2
  go_ret
  exact ⟨rfl, hW⟩
def onN (bx : List Bx) (i : Int) : List Bx := bx.filter fun x => x.f1 == i
def roomN (u0 u1 : Int) (ns : List Nd) (bx : List Bx) (i : Int) : Int := match who ns i with | some x => uns u0 u1 x - (onN bx i).length | none => 0
theorem who_in {ns : List Nd} {i : Int} {x : Nd} (h : who ns i = some x) : x ∈ ns := List.mem_of_find?_eq_some h
theorem room_yes {base p b g : Nat} {u0 u1 : Int} {ns : List Nd} {v : Value} {bx : List Bx} {last : Int} (w : World) (i : Int) (h : LedAt w base p b g u0 u1 ns v bx last) (hG : NodeT.Good u0 u1 ns) (hl : bx.length ≤ 1000000) (hi : (Lit.int .u32 i).wf = true) (x : Nd) (hw : who ns i = some x) :
  Calls Tryz.prog 58 #[.pointer (some ⟨p, 0, none⟩), .int .u32 i] w fun e w' => e = .returned (.int .i64 (roomN u0 u1 ns bx i)) ∧ Below w.heap.size w w' := by
 have hlt := blk_lt h.blk
 obtain ⟨A, c, rfl⟩ := Kd.R_slice h.row
 obtain ⟨_, hc, hC⟩ := Kd.R_reads' h.row
 obtain ⟨W0, hW0⟩ : ∃ W0, w.alloc (.cells #[.int .u32 i] 35) = W0 := ⟨_, rfl⟩
 have hB0 : Below w.heap.size w W0 := by rw [← hW0]; exact below_alloc (Below.refl _ _) _
 have k0 : W0.heap[w.heap.size]? = some (.cells #[.int .u32 i] 35 (0, 0)) := by rw [← hW0]; exact blk_new w _
 have HW := Aside0.mk hW0
 have hx := who_in hw
 obtain ⟨KA, hKA⟩ := units_at hG.unit (hG.all x hx).2.1
 have hun := hG.units x hx
 have HR : Aside0 (roomN u0 u1 ns bx i = uns u0 u1 x - (onN bx i).length) := ⟨by unfold roomN; rw [hw]⟩
 obtain ⟨q, hq⟩ : ∃ q, uns u0 u1 x = q := ⟨_, rfl⟩
 rw [hq] at hKA hun HR
 have UC := Aside0.mk (fun w' (h' : Below W0.heap.size W0 w') => units_yes KA base b g u0 u1 i ns x q 0 w' ((h.tab.below hB0).below h') hi hw (hKA KA (Nat.le_refl _)))
 have hlo : (onN bx i).length ≤ bx.length := List.length_filter_le _ _
 obtain ⟨m, hm⟩ : ∃ m, (onN bx i).length = m := ⟨_, rfl⟩
 rw [hm] at hlo HR
 obtain ⟨fr, hfr⟩ : ∃ fr, q - (m : Int) = fr := ⟨_, rfl⟩
 have hr1 : IntKind.i64.wrap (q - (m : Int)) = fr := by rw [IntKind.wrap_i64]; omega
 rw [hfr] at HR
 have M := Aside0.mk hm
 clear hx hKA hun hw hq hlo hfr hm
 have PK := Aside0.mk (fun w' (h' : Below W0.heap.size W0 w') => picked 109 (.pointer (some ⟨w.heap.size, 0, none⟩)) (fun x => x.f1 == i) bx A c w' (Kd.C_below (Kd.C_below hC hB0) h') hl (fun _ _ => rfl) (fun y hy wy hwy => room1 y w.heap.size i wy ((blk_cell (blk_below (blk_below k0 h') hwy) 0).trans rfl)))
 have H := Aside0.mk (And.intro (h.below hB0) (And.intro k0 hB0))
 have c0 := (h.below hB0).cells.1
 clear h hG hl hi hc hC hB0 k0 hW0
 rw [HR.out]
 go_enter Tryz.func58, Tryz.ntmps58
 go_wp2_with fail
 rw [HW.out]
 refine (none_at p _ _ c0).mono ?_
 rintro e wz ⟨rfl, hz⟩
 obtain rfl := hz.symm
 clear hz HW HR
 simp only [Option.isNone]
 go_upto_region 3 with (fail)
 refine XInv.region_tab [] [[], [0], [1], [2], [], [3, 4], [5], [6], [6], [7, 5, 0, 1, 2, 3, 4, 5, 6, 7], [8, 9, 0, 1, 2, 3, 4, 5, 6, 7, 8, 9]] (fun bq jq => match jq with
   | 0 => .pointer (some ⟨p, 0, none⟩)
   | 1 => .pointer (some ⟨p, 0, none⟩)
   | 2 => .pointer (some ⟨p, 0, none⟩)
   | 3 => .pointer (some ⟨b, 0, none⟩)
   | 4 => .int .u32 i
   | 5 => .tuple #[.int .i64 q, .int .i64 0]
   | 6 => .tuple #[.int .i64 q, .int .i64 0]
   | 7 => .int .i64 q
   | 8 => .int .i64 0
   | 9 => .int .i64 q
   | 10 => .int .i64 0
   | _ => undef)
   (fun bq l w' => Below W0.heap.size W0 w')
   (by kernel_rfl) rfl (by kernel_rfl) (by kernel_rfl) (by kernel_rfl) ⟨fun _ : Nat => (0 : Nat), below_drew (Below.refl _ _)⟩ ?_ ?_
 ·intro i1 hi1 hds oi hoi bq lb w' hW hlb hcl hneed hclo
  have hi1 : i1 < 11 := hi1
  have hcs : i1 = 0 ∨ i1 = 1 ∨ i1 = 2 ∨ i1 = 3 ∨ i1 = 4 ∨ i1 = 5 ∨ i1 = 6 ∨ i1 = 7 ∨ i1 = 8 ∨ i1 = 9 ∨ i1 = 10 := by omega
  clear hi1 hcl hneed hclo
  obtain ⟨c0, c1, c2⟩ := (H.out.1.below hW).cells
  have n0 := (blk_cell (blk_below H.out.2.1 hW) 0).trans rfl
  rcases hcs with rfl | rfl | rfl | rfl | rfl | rfl | rfl | rfl | rfl | rfl | rfl
  all_goals simp only [List.getElem?_toArray, List.getElem?_cons_succ, List.getElem?_cons_zero, Option.some.injEq] at hoi
  all_goals subst hoi
  ·refine XInv.yes_tab [] (by kernel_rfl) ?_
   intro Q2 K2 hK2
   simp only [XInv.puts, XPrint.pw]
   go_simp
   exact hK2.out (.pointer (some ⟨p, 0, none⟩)) w' ⟨bq, rfl, (by intros; first | rfl | trivial), hW⟩
  ·refine XInv.yes_tab [(12, 0)] (by kernel_rfl) ?_
   intro Q2 K2 hK2
   simp only [XInv.puts, XPrint.pw]
   go_simp
   exact hK2.out (.pointer (some ⟨p, 0, none⟩)) w' ⟨bq, rfl, (by intros; first | rfl | trivial), hW⟩
  ·refine XInv.yes_tab [(13, 1)] (by kernel_rfl) ?_
   intro Q2 K2 hK2
   simp only [XInv.puts, XPrint.pw]
   go_simp
   exact hK2.out (.pointer (some ⟨p, 0, none⟩)) w' ⟨bq, rfl, (by intros; first | rfl | trivial), hW⟩
  ·refine XInv.yes_tab [(14, 2)] (by kernel_rfl) ?_
   intro Q2 K2 hK2
   simp only [XInv.puts, XPrint.pw]
   go_simp
   exact hK2.out (.pointer (some ⟨b, 0, none⟩)) w' ⟨bq, rfl, (by intros; first | rfl | trivial), hW⟩
  ·refine XInv.yes_tab [] (by kernel_rfl) ?_
   intro Q2 K2 hK2
   simp only [XInv.puts, XPrint.pw]
   go_simp
   exact hK2.out (.int .u32 i) w' ⟨bq, rfl, (by intros; first | rfl | trivial), hW⟩
  ·refine XInv.yes_tab [(16, 4), (15, 3)] (by kernel_rfl) ?_
   intro Q2 K2 hK2
   simp only [XInv.puts, XPrint.pw]
   go_simp
   go_at_call 108
   (with_reducible refine (UC.out _ hW).mono ?_)
   rintro e wz ⟨rfl, hb⟩
   exact hK2.out (.tuple #[.int .i64 q, .int .i64 0]) wz ⟨bq, rfl, (by intros; first | rfl | trivial), below_step hW hb⟩
  ·refine XInv.yes_tab [(17, 5)] (by kernel_rfl) ?_
   intro Q2 K2 hK2
   simp only [XInv.puts, XPrint.pw]
   go_simp
   exact hK2.out (.tuple #[.int .i64 q, .int .i64 0]) w' ⟨bq, rfl, (by intros; first | rfl | trivial), hW⟩
  ·refine XInv.yes_tab [(11, 6)] (by kernel_rfl) ?_
   intro Q2 K2 hK2
   simp only [XInv.puts, XPrint.pw]
   go_simp
   exact hK2.out (.int .i64 q) w' ⟨bq, rfl, (by intros; first | rfl | trivial), hW⟩
  ·refine XInv.yes_tab [(11, 6)] (by kernel_rfl) ?_
   intro Q2 K2 hK2
   simp only [XInv.puts, XPrint.pw]
   go_simp
   exact hK2.out (.int .i64 0) w' ⟨bq, rfl, (by intros; first | rfl | trivial), hW⟩
  ·refine XInv.yes_tab [(18, 7), (11, 6), (17, 5), (16, 4), (15, 3), (14, 2), (13, 1), (12, 0)] (by kernel_rfl) ?_
   intro Q2 K2 hK2
   simp only [XInv.puts, XPrint.pw] at hK2 ⊢
   go_simp
   exact hK2.out (.int .i64 q) w' ⟨bq, rfl, (by intros; first | rfl | trivial), hW⟩
  ·refine XInv.yes_tab [(5, 9), (19, 8), (18, 7), (11, 6), (17, 5), (16, 4), (15, 3), (14, 2), (13, 1), (12, 0)] (by kernel_rfl) ?_
   intro Q2 K2 hK2
   simp only [XInv.puts, XPrint.pw] at hK2 ⊢
   go_simp
   exact hK2.out (.int .i64 0) w' ⟨bq, rfl, (by intros; first | rfl | trivial), hW⟩
 ·intro bq w' hW
  refine XInv.end_nil [(6, 10), (5, 9), (19, 8), (18, 7), (11, 6), (17, 5), (16, 4), (15, 3), (14, 2), (13, 1), (12, 0)] (by kernel_rfl) (by kernel_rfl) ?_
  simp only [XInv.puts, XPrint.pw]
  have X := Aside0.mk hW
  have c1 := (H.out.1.below hW).cells.2.1
  clear hW
  go_wp2_with fail
  refine (PK.out _ X.out).mono ?_
  rintro e w1 ⟨v1, v2, rfl, hR1, hR2, _, hb⟩
  obtain ⟨A1, n1, rfl⟩ := Kd.R_slice hR1
  have hm := M.out
  unfold onN at hm
  rw [hm]
  have Y := Aside0.mk hb
  clear hb hR1 hR2 hm c1
  dsimp only
  go_wp2
  go_ret
  exact ⟨rfl, below_then H.out.2.2 H.out.2.2.size (below_step X.out Y.out)⟩
theorem room_no {base p b g : Nat} {u0 u1 : Int} {ns : List Nd} {v : Value} {bx : List Bx} {last : Int} (w : World) (i : Int) (h : LedAt w base p b g u0 u1 ns v bx last) (hG : NodeT.Good u0 u1 ns) (hl : bx.length ≤ 1000000) (hi : (Lit.int .u32 i).wf = true) (hw : who ns i = none) :
  Calls Tryz.prog 58 #[.pointer (some ⟨p, 0, none⟩), .int .u32 i] w fun e w' => e = .returned (.int .i64 (roomN u0 u1 ns bx i)) ∧ Below w.heap.size w w' := by
 have hlt := blk_lt h.blk
 obtain ⟨A, c, rfl⟩ := Kd.R_slice h.row
 obtain ⟨_, hc, hC⟩ := Kd.R_reads' h.row
 obtain ⟨W0, hW0⟩ : ∃ W0, w.alloc (.cells #[.int .u32 i] 35) = W0 := ⟨_, rfl⟩
 have hB0 : Below w.heap.size w W0 := by rw [← hW0]; exact below_alloc (Below.refl _ _) _
 have k0 : W0.heap[w.heap.size]? = some (.cells #[.int .u32 i] 35 (0, 0)) := by rw [← hW0]; exact blk_new w _
 have HW := Aside0.mk hW0
 have HR : Aside0 (roomN u0 u1 ns bx i = 0) := ⟨by unfold roomN; rw [hw]⟩
 have UC := Aside0.mk (fun w' (h' : Below W0.heap.size W0 w') => units_no base b g u0 u1 i ns w' ((h.tab.below hB0).below h') hi hw)
 clear hw
 have PK := Aside0.mk (fun w' (h' : Below W0.heap.size W0 w') => picked 109 (.pointer (some ⟨w.heap.size, 0, none⟩)) (fun x => x.f1 == i) bx A c w' (Kd.C_below (Kd.C_below hC hB0) h') hl (fun _ _ => rfl) (fun y hy wy hwy => room1 y w.heap.size i wy ((blk_cell (blk_below (blk_below k0 h') hwy) 0).trans rfl)))
 have H := Aside0.mk (And.intro (h.below hB0) (And.intro k0 hB0))
 have c0 := (h.below hB0).cells.1
 clear h hG hl hi hc hC hB0 k0 hW0
 rw [HR.out]
 go_enter Tryz.func58, Tryz.ntmps58
 go_wp2_with fail
 rw [HW.out]
 refine (none_at p _ _ c0).mono ?_
 rintro e wz ⟨rfl, hz⟩
 obtain rfl := hz.symm
 clear hz HW HR
 simp only [Option.isNone]
 go_upto_region 3 with (fail)
 refine XInv.region_tab [] [[], [0], [1], [2], [], [3, 4], [5], [6], [6], [7, 5, 0, 1, 2, 3, 4, 5, 6, 7], [8, 9, 0, 1, 2, 3, 4, 5, 6, 7, 8, 9]] (fun bq jq => match jq with
   | 0 => .pointer (some ⟨p, 0, none⟩)
   | 1 => .pointer (some ⟨p, 0, none⟩)
   | 2 => .pointer (some ⟨p, 0, none⟩)
   | 3 => .pointer (some ⟨b, 0, none⟩)
   | 4 => .int .u32 i
   | 5 => .tuple #[.int .i64 0, .int .i64 7]
   | 6 => .tuple #[.int .i64 0, .int .i64 7]
   | 7 => .int .i64 0
   | 8 => .int .i64 7
   | 9 => .int .i64 0
   | 10 => .int .i64 7
   | _ => undef)
   (fun bq l w' => Below W0.heap.size W0 w')
   (by kernel_rfl) rfl (by kernel_rfl) (by kernel_rfl) (by kernel_rfl) ⟨fun _ : Nat => (0 : Nat), below_drew (Below.refl _ _)⟩ ?_ ?_
 ·intro i1 hi1 hds oi hoi bq lb w' hW hlb hcl hneed hclo
  have hi1 : i1 < 11 := hi1
  have hcs : i1 = 0 ∨ i1 = 1 ∨ i1 = 2 ∨ i1 = 3 ∨ i1 = 4 ∨ i1 = 5 ∨ i1 = 6 ∨ i1 = 7 ∨ i1 = 8 ∨ i1 = 9 ∨ i1 = 10 := by omega
  clear hi1 hcl hneed hclo
  obtain ⟨c0, c1, c2⟩ := (H.out.1.below hW).cells
  have n0 := (blk_cell (blk_below H.out.2.1 hW) 0).trans rfl
  rcases hcs with rfl | rfl | rfl | rfl | rfl | rfl | rfl | rfl | rfl | rfl | rfl
  all_goals simp only [List.getElem?_toArray, List.getElem?_cons_succ, List.getElem?_cons_zero, Option.some.injEq] at hoi
  all_goals subst hoi
  ·refine XInv.yes_tab [] (by kernel_rfl) ?_
   intro Q2 K2 hK2
   simp only [XInv.puts, XPrint.pw]
   go_simp
   exact hK2.out (.pointer (some ⟨p, 0, none⟩)) w' ⟨bq, rfl, (by intros; first | rfl | trivial), hW⟩
  ·refine XInv.yes_tab [(12, 0)] (by kernel_rfl) ?_
   intro Q2 K2 hK2
   simp only [XInv.puts, XPrint.pw]
   go_simp
   exact hK2.out (.pointer (some ⟨p, 0, none⟩)) w' ⟨bq, rfl, (by intros; first | rfl | trivial), hW⟩
  ·refine XInv.yes_tab [(13, 1)] (by kernel_rfl) ?_
   intro Q2 K2 hK2
   simp only [XInv.puts, XPrint.pw]
   go_simp
   exact hK2.out (.pointer (some ⟨p, 0, none⟩)) w' ⟨bq, rfl, (by intros; first | rfl | trivial), hW⟩
  ·refine XInv.yes_tab [(14, 2)] (by kernel_rfl) ?_
   intro Q2 K2 hK2
   simp only [XInv.puts, XPrint.pw]
   go_simp
   exact hK2.out (.pointer (some ⟨b, 0, none⟩)) w' ⟨bq, rfl, (by intros; first | rfl | trivial), hW⟩
  ·refine XInv.yes_tab [] (by kernel_rfl) ?_
   intro Q2 K2 hK2
   simp only [XInv.puts, XPrint.pw]
   go_simp
   exact hK2.out (.int .u32 i) w' ⟨bq, rfl, (by intros; first | rfl | trivial), hW⟩
  ·refine XInv.yes_tab [(16, 4), (15, 3)] (by kernel_rfl) ?_
   intro Q2 K2 hK2
   simp only [XInv.puts, XPrint.pw]
   go_simp
   go_at_call 108
   (with_reducible refine (UC.out _ hW).mono ?_)
   rintro e wz ⟨rfl, hb⟩
   exact hK2.out (.tuple #[.int .i64 0, .int .i64 7]) wz ⟨bq, rfl, (by intros; first | rfl | trivial), below_step hW hb⟩
  ·refine XInv.yes_tab [(17, 5)] (by kernel_rfl) ?_
   intro Q2 K2 hK2
   simp only [XInv.puts, XPrint.pw]
   go_simp
   exact hK2.out (.tuple #[.int .i64 0, .int .i64 7]) w' ⟨bq, rfl, (by intros; first | rfl | trivial), hW⟩
  ·refine XInv.yes_tab [(11, 6)] (by kernel_rfl) ?_
   intro Q2 K2 hK2
   simp only [XInv.puts, XPrint.pw]
   go_simp
   exact hK2.out (.int .i64 0) w' ⟨bq, rfl, (by intros; first | rfl | trivial), hW⟩
  ·refine XInv.yes_tab [(11, 6)] (by kernel_rfl) ?_
   intro Q2 K2 hK2
   simp only [XInv.puts, XPrint.pw]
   go_simp
   exact hK2.out (.int .i64 7) w' ⟨bq, rfl, (by intros; first | rfl | trivial), hW⟩
  ·refine XInv.yes_tab [(18, 7), (11, 6), (17, 5), (16, 4), (15, 3), (14, 2), (13, 1), (12, 0)] (by kernel_rfl) ?_
   intro Q2 K2 hK2
   simp only [XInv.puts, XPrint.pw] at hK2 ⊢
   go_simp
   exact hK2.out (.int .i64 0) w' ⟨bq, rfl, (by intros; first | rfl | trivial), hW⟩
  ·refine XInv.yes_tab [(5, 9), (19, 8), (18, 7), (11, 6), (17, 5), (16, 4), (15, 3), (14, 2), (13, 1), (12, 0)] (by kernel_rfl) ?_
   intro Q2 K2 hK2
   simp only [XInv.puts, XPrint.pw] at hK2 ⊢
   go_simp
   exact hK2.out (.int .i64 7) w' ⟨bq, rfl, (by intros; first | rfl | trivial), hW⟩
 ·intro bq w' hW
  refine XInv.end_nil [(6, 10), (5, 9), (19, 8), (18, 7), (11, 6), (17, 5), (16, 4), (15, 3), (14, 2), (13, 1), (12, 0)] (by kernel_rfl) (by kernel_rfl) ?_
  simp only [XInv.puts, XPrint.pw]
  have X := Aside0.mk hW
  clear hW
  go_wp2
  go_ret
  exact ⟨rfl, below_then H.out.2.2 H.out.2.2.size X.out⟩
theorem tab_low {w : World} {base base' b g : Nat} {u0 u1 : Int} {ns : List Nd} (h : TabAt w base b g u0 u1 ns) (hb : base' ≤ base) : TabAt w base' b g u0 u1 ns := ⟨h.blk, h.map, Nat.le_trans hb h.base1, Nat.le_trans hb h.base2⟩
theorem lnew_no (u0 u1 : Int) (w : World) (hu : ¬ okV 1 ⟨u0, u1⟩) :
  Calls Tryz.prog 21 #[.agg #[.int .i64 u0, .int .i64 u1]] w fun e w' => e = .returned (.tuple #[.pointer none, .int .i64 2]) ∧ Below w.heap.size w w' := by
 have hu23 := Tryz.underlying23
 have H := Aside0.mk hu
 clear hu
 go_enter Tryz.func21, Tryz.ntmps21
 go_wp2_with fail
 refine (new_no u0 u1 _ (by rw [in_f, decide_eq_false H.out])).mono ?_
 rintro e w1 ⟨rfl, hb⟩
 have X := Aside0.mk (below_then (below_alloc (Below.refl w.heap.size w) _) (by simp) hb)
 clear hb
 dsimp only
 go_wp2
 go_ret2
 exact ⟨rfl, X.out⟩
theorem lnew_yes (u0 u1 : Int) (w : World) (hu : okV 1 ⟨u0, u1⟩) :
  Calls Tryz.prog 21 #[.agg #[.int .i64 u0, .int .i64 u1]] w fun e w' => ∃ p b g, e = .returned (.tuple #[.pointer (some ⟨p, 0, none⟩), .int .i64 0]) ∧ Below w.heap.size w w' ∧ LedAt w' w.heap.size p b g u0 u1 [] (.slice none 0 0) [] 0 := by
 have hu23 := Tryz.underlying23
 have H := Aside0.mk hu
 clear hu
 go_enter Tryz.func21, Tryz.ntmps21
 go_wp2_with fail
 refine (new_yes u0 u1 _ (by rw [in_f, decide_eq_true H.out])).mono ?_
 rintro e w1 ⟨b, g, rfl, hb, hT⟩
 have X := Aside0.mk (And.intro (below_then (below_alloc (Below.refl w.heap.size w) _) (by simp) hb) hT)
 clear hb hT
 dsimp only
 go_wp2
 go_ret2
 have lt := X.out.2.lt
 have hs := X.out.1.size
 refine ⟨_, b, g, rfl, below_alloc X.out.1 _, ⟨tab_low (X.out.2.below (below_alloc (Below.refl _ _) _)) (by simp), blk_new _ _, Kd.R_nil _ _ _ _ _, fun k hk => by simp [Value.ownBlock] at hk, by omega, by omega, by omega⟩⟩
theorem who_of {ns : List Nd} (hr : ns.Pairwise fun x y => x.f0 < y.f0) {x : Nd} (hx : x ∈ ns) : who ns x.f0 = some x := by
 refine who_self ?_ hx
 unfold Rising
 rw [List.pairwise_map]
 exact hr
theorem onN_append (a c : List Bx) (i : Int) : onN (a ++ c) i = onN a i ++ onN c i := List.filter_append ..
theorem onN_one (y : Bx) (i : Int) : ((onN [y] i).length : Int) = if y.f1 = i then 1 else 0 := by
 unfold onN
 rw [List.filter_cons]
 by_cases h : y.f1 = i
 ·rw [if_pos h, if_pos (by simpa using h)]
  rfl
 ·rw [if_neg h, if_neg (by simpa using h)]
  rfl
theorem room_some {u0 u1 : Int} {ns : List Nd} {bx : List Bx} {i : Int} {x : Nd} (h : who ns i = some x) : roomN u0 u1 ns bx i = uns u0 u1 x - (onN bx i).length := by
 unfold roomN
 rw [h]
theorem room_none {u0 u1 : Int} {ns : List Nd} {bx : List Bx} {i : Int} (h : who ns i = none) : roomN u0 u1 ns bx i = 0 := by
 unfold roomN
 rw [h]
theorem room_put {u0 u1 : Int} {ns : List Nd} (bx : List Bx) (y : Bx) (i : Int) (h : (who ns i).isSome = true) : roomN u0 u1 ns (bx ++ [y]) i = roomN u0 u1 ns bx i - if y.f1 = i then 1 else 0 := by
 obtain ⟨x, hx⟩ := Option.isSome_iff_exists.1 h
 rw [room_some hx, room_some hx, onN_append, List.length_append, ← onN_one y i]
 omega
theorem sumU_cons (U : Nd → Int) (a : Nd) (l : List Nd) : sumU U (a :: l) = U a + sumU U l := by
 unfold sumU
 rw [List.map_cons, List.sum_cons]
theorem sumU_congr {U V : Nd → Int} {l : List Nd} (h : ∀ x ∈ l, U x = V x) : sumU U l = sumU V l := by
 unfold sumU
 rw [List.map_congr_left h]
theorem sumU_sub (U V : Nd → Int) (l : List Nd) : sumU (fun x => U x - V x) l = sumU U l - sumU V l := by
 induction l with
 | nil => rfl
 | cons a l ih => rw [sumU_cons, sumU_cons, sumU_cons, ih]; omega
theorem sumU_zero (l : List Nd) : sumU (fun _ => 0) l = 0 := by
 induction l with
 | nil => rfl
 | cons a l ih => rw [sumU_cons, ih]; rfl
theorem sumU_one {ns : List Nd} (hr : ns.Pairwise fun x y => x.f0 < y.f0) (i : Int) : sumU (fun x => if i = x.f0 then 1 else 0) ns = if (who ns i).isSome = true then 1 else 0 := by
 induction ns with
 | nil => rfl
 | cons a l ih =>
  obtain ⟨h1, h2⟩ := List.pairwise_cons.1 hr
  rw [sumU_cons, ih h2]
  unfold who
  rw [List.find?_cons]
  by_cases h : i = a.f0
  ·rw [if_pos h, show (a.f0 == i) = true by simpa using h.symm]
   have : l.find? (fun x => x.f0 == i) = none := List.find?_eq_none.2 fun x hx => by have := h1 x hx; simp; omega
   rw [this]
   rfl
  ·rw [if_neg h, show (a.f0 == i) = false by simpa using fun e => h e.symm]
   dsimp only
   omega
theorem sum_on {ns : List Nd} (hr : ns.Pairwise fun x y => x.f0 < y.f0) (bx : List Bx) (h : ∀ y ∈ bx, (who ns y.f1).isSome = true) : sumU (fun x => ((onN bx x.f0).length : Int)) ns = bx.length := by
 induction bx with
 | nil => exact (sumU_congr fun x _ => rfl).trans (sumU_zero ns)
 | cons y l ih =>
  have e : sumU (fun x => ((onN (y :: l) x.f0).length : Int)) ns = sumU (fun x => ((onN l x.f0).length : Int) - (0 - if y.f1 = x.f0 then 1 else 0)) ns := sumU_congr fun x _ => by
   show ((onN ([y] ++ l) x.f0).length : Int) = _
   rw [onN_append, List.length_append, ← onN_one]
   omega
  rw [e, sumU_sub, sumU_sub (fun _ => 0), sumU_zero, sumU_one hr, ih fun z hz => h z (List.mem_cons_of_mem _ hz), if_pos (h y (List.mem_cons_self ..)), List.length_cons]
  omega
structure LG (u0 u1 : Int) (ns : List Nd) (bx : List Bx) (last : Int) : Prop where
 nodes : NodeT.Good u0 u1 ns
 ids : bx.Pairwise fun a c => a.f0 < c.f0
 num : ∀ y ∈ bx, 1 ≤ y.f0 ∧ y.f0 ≤ last
 low : 0 ≤ last
 owner : ∀ y ∈ bx, y.f2 ≠ 0
 on : ∀ y ∈ bx, (who ns y.f1).isSome = true
 room : ∀ i, 0 ≤ roomN u0 u1 ns bx i
theorem LG.nil {u0 u1 : Int} (h : okV 1 ⟨u0, u1⟩) : LG u0 u1 [] [] 0 :=
 ⟨⟨h, (fun _ h => (List.not_mem_nil h).elim), List.Pairwise.nil, Nat.zero_le _⟩, List.Pairwise.nil, (fun _ h => (List.not_mem_nil h).elim), Int.le_refl _, (fun _ h => (List.not_mem_nil h).elim), (fun _ h => (List.not_mem_nil h).elim), fun i => Int.le_refl _⟩
theorem LG.free {u0 u1 : Int} {ns : List Nd} {bx : List Bx} {last : Int} (h : LG u0 u1 ns bx last) : sumU (fun x => roomN u0 u1 ns bx x.f0) ns = freeN u0 u1 ns bx := by
 rw [sumU_congr (V := fun x => uns u0 u1 x - ((onN bx x.f0).length : Int)) fun x hx => room_some (who_of h.nodes.rising hx), sumU_sub, sum_on h.nodes.rising bx h.on]
 rfl
theorem sumU_nonneg {U : Nd → Int} {l : List Nd} (h : ∀ x ∈ l, 0 ≤ U x) : 0 ≤ sumU U l := by
 induction l with
 | nil => exact Int.le_refl _
 | cons a l ih =>
  rw [sumU_cons]
  have := h a (List.mem_cons_self ..)
  have := ih fun x hx => h x (List.mem_cons_of_mem _ hx)
  omega
theorem sumU_nonpos {U : Nd → Int} {l : List Nd} (h : ∀ x ∈ l, U x ≤ 0) : sumU U l ≤ 0 := by
 induction l with
 | nil => exact Int.le_refl _
 | cons a l ih =>
  rw [sumU_cons]
  have := h a (List.mem_cons_self ..)
  have := ih fun x hx => h x (List.mem_cons_of_mem _ hx)
  omega
theorem LG.free_nonneg {u0 u1 : Int} {ns : List Nd} {bx : List Bx} {last : Int} (h : LG u0 u1 ns bx last) : 0 ≤ freeN u0 u1 ns bx := by
 rw [← h.free]
 exact sumU_nonneg fun x _ => h.room _
theorem LG.put {u0 u1 : Int} {ns : List Nd} {bx : List Bx} {last : Int} (h : LG u0 u1 ns bx last) (i o : Int) (s : Bool) (hi : 0 < roomN u0 u1 ns bx i) (ho : o ≠ 0) : LG u0 u1 ns (bx ++ [⟨last + 1, i, o, s⟩]) (last + 1) := by
 have hs : (who ns i).isSome = true := by
  cases hw : who ns i with
  | none => rw [room_none hw] at hi; omega
  | some x => rfl
 refine ⟨h.nodes, List.pairwise_append.2 ⟨h.ids, List.pairwise_singleton _ _, fun a ha c hc => ?_⟩, fun y hy => ?_, by have := h.low; omega, fun y hy => ?_, fun y hy => ?_, fun j => ?_⟩
 ·rw [List.mem_singleton.1 hc]
  have := (h.num a ha).2
  show a.f0 < last + 1
  omega
 ·rcases List.mem_append.1 hy with hy | hy
  ·have := h.num y hy
   omega
  ·rw [List.mem_singleton.1 hy]
   have := h.low
   show 1 ≤ last + 1 ∧ last + 1 ≤ last + 1
   omega
 ·rcases List.mem_append.1 hy with hy | hy
  ·exact h.owner y hy
  ·rw [List.mem_singleton.1 hy]
   exact ho
 ·rcases List.mem_append.1 hy with hy | hy
  ·exact h.on y hy
  ·rw [List.mem_singleton.1 hy]
   exact hs
 ·cases hw : who ns j with
  | none => rw [room_none hw]; omega
  | some x =>
   rw [room_put _ _ _ (by rw [hw]; rfl)]
   have := h.room j
   by_cases e : i = j
   ·rw [if_pos e]
    rw [e] at hi
    omega
   ·rw [if_neg e]
    omega
theorem LG.sub {u0 u1 : Int} {ns : List Nd} {bx bx' : List Bx} {last : Int} (h : LG u0 u1 ns bx last) (hs : bx'.Sublist bx) : LG u0 u1 ns bx' last := by
 refine ⟨h.nodes, h.ids.sublist hs, fun y hy => h.num y (hs.subset hy), h.low, fun y hy => h.owner y (hs.subset hy), fun y hy => h.on y (hs.subset hy), fun j => ?_⟩
 cases hw : who ns j with
 | none => rw [room_none hw]; omega
 | some x =>
  have h1 := h.room j
  rw [room_some hw] at h1 ⊢
  have h2 : (onN bx' j).length ≤ (onN bx j).length := (hs.filter _).length_le
  omega
def placeN (u0 u1 : Int) (ns : List Nd) (bx : List Bx) : Int := match ns.find? (fun x => decide (0 < roomN u0 u1 ns bx x.f0)) with | some x => x.f0 | none => 0
def grow (u0 u1 : Int) (ns : List Nd) (bx : List Bx) (last o : Int) (s : Bool) : Nat → List Bx
 | 0 => []
 | i + 1 => grow u0 u1 ns bx last o s i ++ [⟨last + i + 1, placeN u0 u1 ns (bx ++ grow u0 u1 ns bx last o s i), o, s⟩]
theorem grow_len (u0 u1 : Int) (ns : List Nd) (bx : List Bx) (last o : Int) (s : Bool) (i : Nat) : (grow u0 u1 ns bx last o s i).length = i := by
 induction i with
 | zero => rfl
 | succ i ih => rw [grow, List.length_append, ih]; rfl
theorem placeN_at {u0 u1 : Int} {ns : List Nd} {bx : List Bx} (j : Nat) (hj : j < ns.length) (h0 : ∀ x ∈ ns.take j, roomN u0 u1 ns bx x.f0 ≤ 0) (h1 : 0 < roomN u0 u1 ns bx ns[j].f0) : placeN u0 u1 ns bx = ns[j].f0 := by
 have e : ns = ns.take j ++ (ns[j] :: ns.drop (j + 1)) := by rw [← List.drop_eq_getElem_cons hj, List.take_append_drop]
 unfold placeN
 have : ns.find? (fun x => decide (0 < roomN u0 u1 ns bx x.f0)) = some ns[j] := by
  generalize hP : (fun x : Nd => decide (0 < roomN u0 u1 ns bx x.f0)) = P
  have h2 : (ns.take j).find? P = none := List.find?_eq_none.2 fun x hx => by rw [← hP]; have := h0 x hx; simp; omega
  have h3 : P ns[j] = true := by rw [← hP]; simpa using h1
  rw [show ns.find? P = (ns.take j ++ (ns[j] :: ns.drop (j + 1))).find? P from congrArg _ e, List.find?_append, h2, Option.none_or, List.find?_cons_of_pos h3]
 rw [this]
theorem placeN_room {u0 u1 : Int} {ns : List Nd} {bx : List Bx} (h : 0 < sumU (fun x => roomN u0 u1 ns bx x.f0) ns) : 0 < roomN u0 u1 ns bx (placeN u0 u1 ns bx) := by
 unfold placeN
 cases hf : ns.find? (fun x => decide (0 < roomN u0 u1 ns bx x.f0)) with
 | some x => simpa using List.find?_some hf
 | none =>
  have := sumU_nonpos (U := fun x => roomN u0 u1 ns bx x.f0) fun x hx => by have := List.find?_eq_none.1 hf x hx; simpa using this
  exact absurd (Int.lt_of_lt_of_le h this) (Int.lt_irrefl _)
theorem LG.grow {u0 u1 : Int} {ns : List Nd} {bx : List Bx} {last : Int} (h : LG u0 u1 ns bx last) (o : Int) (s : Bool) (ho : o ≠ 0) (i : Nat) (hi : (i : Int) ≤ freeN u0 u1 ns bx) : LG u0 u1 ns (bx ++ LedT.grow u0 u1 ns bx last o s i) (last + i) := by
 induction i with
 | zero => simpa [LedT.grow] using h
 | succ i ih =>
  have h1 := ih (by omega)
  have h2 : freeN u0 u1 ns (bx ++ LedT.grow u0 u1 ns bx last o s i) = freeN u0 u1 ns bx - i := by unfold freeN; rw [List.length_append, grow_len]; omega
  have h3 := h1.put (placeN u0 u1 ns (bx ++ LedT.grow u0 u1 ns bx last o s i)) o s (placeN_room (by rw [h1.free, h2]; omega)) ho
  rw [LedT.grow, ← List.append_assoc, show last + ((i + 1 : Nat) : Int) = last + i + 1 by omega]
  exact h3
end Go.Proofs.YthibppfdonepoaaGreat.LedT
set_option linter.unusedVariables false
namespace Go.Proofs.YthibppfdonepoaaGreat.NodeT
open Go.RowKit Go.MapKept Go.Maps Go.ChangeMaps Go.Proofs.YthibppfdonepoaaGreat.XBut Go.Proofs.YthibppfdonepoaaGreat.XMap Go.Proofs.YthibppfdonepoaaGreat.PNodePlays Go.Proofs.YthibppfdonepoaaGreatW.PrintWords Go.Proofs.YthibppfdonepoaaGreatW.PrintLast
theorem wf32 {n : Int} (h : (Lit.int .u32 n).wf = true) : 0 ≤ n ∧ n ≤ 4294967295 := by
 simp only [Lit.wf, IntKind.min, IntKind.max, IntKind.signed, IntKind.bits, Bool.and_eq_true] at h
 simp at h
 omega
theorem refMay2 (x y : Int) : PNodePlays.liveryref01_May.f x y = some (decide (inV x y)) := by
 unfold PNodePlays.liveryref01_May.f
 by_cases h1 : x ≥ -1125899906842624
 ·by_cases h2 : x ≤ 1125899906842624
  ·by_cases h3 : y ≥ -1125899906842624
   ·rw [if_pos h1, if_pos h2, if_pos h3]
    congr 1
    exact decide_eq_decide.2 ⟨fun h => ⟨⟨h1, h2⟩, h3, h⟩, fun h => h.2.2⟩
   ·rw [if_pos h1, if_pos h2, if_neg h3, decide_eq_false (fun h => h3 h.2.1)]
  ·rw [if_pos h1, if_neg h2, decide_eq_false (fun h => h2 h.1.2)]
 ·rw [if_neg h1, decide_eq_false (fun h => h1 h.1.1)]
theorem refUnits_ev (a b c d : Int) : Ev (fun k => liveryref01_Units.f k a b c d) (units a b c d) := by
 refine Ev.of (liveryref01_Units.mono _ _ _ _) (k := 2) ?_
 unfold liveryref01_Units.f units
 by_cases h1 : c < 1
 ·rw [if_pos h1, if_pos (by omega)]
  rfl
 ·by_cases h2 : d < 1
  ·rw [if_neg h1, decide_eq_true h2, if_pos (by omega)]
   rfl
  ·rw [if_neg h1, decide_eq_false h2, if_neg (by omega)]
   simp only [liveryref01_Units.j0, liveryref01_Units.j1, refMay2, Option.bind_some]
   rw [if_neg (by simp)]
   by_cases h3 : inV a b
   ·by_cases h4 : inV c d
    ·by_cases h5 : a < 0
     ·simp [h3, h4, h5]
     ·by_cases h6 : b < 0
      ·simp [h3, h4, h5, h6]
      ·have h3' := h3
       have h4' := h4
       unfold inV at h3' h4'
       have q1 : 0 ≤ a / c := Int.ediv_nonneg (by omega) (by omega)
       have q2 : a / c ≤ a := Int.ediv_le_self _ (by omega)
       have q3 : 0 ≤ b / d := Int.ediv_nonneg (by omega) (by omega)
       have q4 : b / d ≤ b := Int.ediv_le_self _ (by omega)
       have q5 : ¬ c = 0 := by omega
       have q6 : ¬ d = 0 := by omega
       rw [Int.tdiv_eq_ediv_of_nonneg (by omega), Int.tdiv_eq_ediv_of_nonneg (by omega), w64 (x := a / c) (by unfold b64; omega), w64 (x := b / d) (by unfold b64; omega)]
       simp [h3, h4, h5, h6, q5, q6]
    ·simp [h3, h4]
   ·simp [h3]
theorem refUnits_at {u0 u1 : Int} {x : S59} (hu : okV 1 ⟨u0, u1⟩) (hx : okV 0 x.f1) : Ev (fun k => liveryref01_Units.f k x.f1.f0 x.f1.f1 u0 u1) (uns u0 u1 x, 0) := by
 have h := refUnits_ev x.f1.f0 x.f1.f1 u0 u1
 rwa [units_uns hu hx] at h
theorem ins_who {ns : List S59} {x : S59} (h : who ns x.f0 = none) : who (ins ns x) x.f0 = some x := by
 replace h := List.find?_eq_none.1 h
 unfold who
 induction ns with
 | nil => simp [ins]
 | cons a l ih =>
  have h1 := h a (by simp)
  have i1 := ih fun y hy => h y (by simp [hy])
  unfold ins
  split
  ·simp
  ·split
   ·simp
   ·rw [List.find?_cons, show (a.f0 == x.f0) = false from by simpa using h1]
    exact i1
theorem same_l0 (ns : List S59) (hl : ns.length ≤ 1000000) : ∀ (d k i : Nat), i + d = ns.length → d < k → liveryref22_Same.l0 k ns ns i = some true
 | 0, k, i, h, hk => by
  obtain ⟨k, rfl⟩ : ∃ m, k = m + 1 := ⟨k - 1, by omega⟩
  simp only [liveryref22_Same.l0]
  rw [if_neg (by omega)]
 | d + 1, k, i, h, hk => by
  obtain ⟨k, rfl⟩ : ∃ m, k = m + 1 := ⟨k - 1, by omega⟩
  simp only [liveryref22_Same.l0]
  rw [if_pos (by omega), if_pos (by omega), if_pos (by omega), if_neg (by simp)]
  rw [show wrap64 ((i : Int) + 1) = ((i + 1 : Nat) : Int) by unfold wrap64; omega]
  exact same_l0 ns hl d k (i + 1) (by omega) (by omega)
theorem same_self (ns : List S59) (hl : ns.length ≤ 1000000) : ∀ k, ns.length < k → liveryref22_Same.f k ns ns = some true := by
 intro k hk
 unfold liveryref22_Same.f
 rw [if_pos rfl]
 exact same_l0 ns hl ns.length k 0 (by omega) hk
end Go.Proofs.YthibppfdonepoaaGreat.NodeT
set_option linter.unusedVariables false
namespace Go.Proofs.YthibppfdonepoaaGreat.LedT
open Go.RowKit Go.MapKept Go.Maps Go.ChangeMaps Go.Proofs.YthibppfdonepoaaGreat.XBut Go.Proofs.YthibppfdonepoaaGreat.XMap Go.Proofs.YthibppfdonepoaaGreat.NodeT Go.Proofs.YthibppfdonepoaaGreatW.PrintWords Go.Proofs.YthibppfdonepoaaGreatW.PrintLast
theorem who_ins {ns : List Nd} {x : Nd} {j : Int} (h : j ≠ x.f0) : who (ins ns x) j = who ns j := by
 unfold who
 induction ns with
 | nil =>
  rw [ins, List.find?_cons_of_neg (by simpa using fun e => h e.symm)]
 | cons y l ih =>
  rw [ins]
  split
  ·rw [List.find?_cons_of_neg (by simpa using fun e => h e.symm)]
  ·split
   ·rename_i h1 h2
    rw [List.find?_cons_of_neg (by simpa using fun e => h e.symm), List.find?_cons_of_neg (by simp; omega)]
   ·rw [List.find?_cons, List.find?_cons, ih]
theorem room_ins {u0 u1 : Int} {ns : List Nd} {x : Nd} {bx : List Bx} {j : Int} (h : j ≠ x.f0) : roomN u0 u1 (ins ns x) bx j = roomN u0 u1 ns bx j := by
 unfold roomN
 rw [who_ins h]
theorem onN_none {ns : List Nd} {bx : List Bx} {i : Int} (h : ∀ y ∈ bx, (who ns y.f1).isSome = true) (hw : who ns i = none) : onN bx i = [] :=
 List.filter_eq_nil_iff.2 fun y hy e => by
  have := h y hy
  rw [show y.f1 = i by simpa using e, hw] at this
  exact absurd this (by decide)
abbrev nsJ (u0 u1 : Int) (ns : List Nd) (x : Nd) : List Nd := joined (code u0 u1 ns x) ns x
theorem LG.join {u0 u1 : Int} {ns : List Nd} {bx : List Bx} {last : Int} (h : LG u0 u1 ns bx last) (x : Nd) (hx : 0 ≤ x.f0 ∧ x.f0 ≤ 4294967295) : LG u0 u1 (nsJ u0 u1 ns x) bx last := by
 have hg := h.nodes.join x hx
 unfold nsJ
 by_cases hc : code u0 u1 ns x = 0
 ·obtain ⟨h1, h2, h3, h4, h5⟩ := code_zero hc
  unfold joined at hg ⊢
  rw [if_pos hc] at hg ⊢
  refine ⟨hg, h.ids, h.num, h.low, h.owner, fun y hy => ?_, fun j => ?_⟩
  ·have := h.on y hy
   by_cases e : y.f1 = x.f0
   ·rw [e, h4] at this
    exact absurd this (by decide)
   ·rw [who_ins e]
    exact this
  ·by_cases e : j = x.f0
   ·subst e
    rw [room_some (ins_who h4), onN_none h.on h4]
    exact by have := (uns_nonneg h.nodes.unit h2).1; simp; omega
   ·rw [room_ins e]
    exact h.room j
 ·unfold joined
  rw [if_neg hc]
  exact h
theorem who_lessne {ns : List Nd} {i j : Int} (h : j ≠ i) : who (less ns i) j = who ns j := by
 unfold who less
 rw [List.find?_filter]
 congr 1
 funext x
 by_cases e : x.f0 = j
 ·simp [e, h]
 ·simp [e]
theorem who_lesseq (ns : List Nd) (i : Int) : who (less ns i) i = none := by
 unfold who less
 refine List.find?_eq_none.2 fun x hx => ?_
 have := (List.mem_filter.1 hx).2
 simpa using this
def offN (bx : List Bx) (i : Int) : List Bx := bx.filter fun x => !(x.f1 == i)
theorem onN_off {bx : List Bx} {i j : Int} (h : j ≠ i) : onN (offN bx i) j = onN bx j := by
 unfold onN offN
 rw [List.filter_filter]
 congr 1
 funext x
 by_cases e : x.f1 = j
 ·simp [e, h]
 ·simp [e]
theorem LG.lose {u0 u1 : Int} {ns : List Nd} {bx : List Bx} {last : Int} (h : LG u0 u1 ns bx last) (i : Int) : LG u0 u1 (less ns i) (offN bx i) last := by
 have hs : (offN bx i).Sublist bx := List.filter_sublist
 refine ⟨h.nodes.less i, h.ids.sublist hs, fun y hy => h.num y (hs.subset hy), h.low, fun y hy => h.owner y (hs.subset hy), fun y hy => ?_, fun j => ?_⟩
 ·have h1 := h.on y (hs.subset hy)
  have h2 := (List.mem_filter.1 hy).2
  rw [who_lessne (by simpa using h2)]
  exact h1
 ·by_cases e : j = i
  ·subst e
   rw [room_none (who_lesseq ns j)]
   omega
  ·have := h.room j
   unfold roomN at this ⊢
   rw [who_lessne e, onN_off e]
   exact this
theorem off_none {ns : List Nd} {bx : List Bx} {i : Int} (h : ∀ y ∈ bx, (who ns y.f1).isSome = true) (hw : who ns i = none) : offN bx i = bx :=
 List.filter_eq_self.2 fun y hy => by
  have := h y hy
  by_cases e : y.f1 = i
  ·rw [e, hw] at this
   exact absurd this (by decide)
  ·simpa using e
def ownN (bx : List Bx) (o : Int) (s : Bool) : List Bx := bx.filter fun x => x.f2 == o && x.f3 == s
def goneN (bx : List Bx) (o : Int) (s : Bool) (n : Nat) : List Bx := (ownN bx o s).drop ((ownN bx o s).length - n)
instance : DecidableEq Bx := fun a b => decidable_of_iff (a.f0 = b.f0 ∧ a.f1 = b.f1 ∧ a.f2 = b.f2 ∧ a.f3 = b.f3) (by
 obtain ⟨a0, a1, a2, a3⟩ := a
 obtain ⟨b0, b1, b2, b3⟩ := b
 simp)
def leftN (bx gone : List Bx) : List Bx := bx.filter fun x => !decide (x ∈ gone)
def gcode (u0 u1 : Int) (ns : List Nd) (bx : List Bx) (o n : Int) : Int := if mayc o n = 2 then 2 else if freeN u0 u1 ns bx < n then 6 else 0
def given (u0 u1 : Int) (ns : List Nd) (bx : List Bx) (last o : Int) (s : Bool) (n : Int) : List Bx := if gcode u0 u1 ns bx o n = 0 then grow u0 u1 ns bx last o s n.toNat else []
def tcode (bx : List Bx) (o : Int) (s : Bool) (n : Int) : Int := if mayc o n = 2 then 2 else if ((ownN bx o s).length : Int) < n then 7 else 0
def taken (bx : List Bx) (o : Int) (s : Bool) (n : Int) : List Bx := if tcode bx o s n = 0 then goneN bx o s n.toNat else []
theorem mayc_zero {o n : Int} (h : mayc o n ≠ 2) : o ≠ 0 ∧ 0 ≤ n ∧ n ≤ 1048576 := by
 unfold mayc at h
 split at h
 ·exact absurd rfl h
 ·omega
theorem mayc_cases (o n : Int) : mayc o n = 2 ∨ mayc o n = 0 := by
 unfold mayc
 split
 ·exact .inl rfl
 ·exact .inr rfl
theorem given_len {u0 u1 : Int} {ns : List Nd} {bx : List Bx} {last o : Int} {s : Bool} {n : Int} : (given u0 u1 ns bx last o s n).length = if gcode u0 u1 ns bx o n = 0 then n.toNat else 0 := by
 unfold given
 split
 ·exact grow_len ..
 ·rfl
theorem LG.give {u0 u1 : Int} {ns : List Nd} {bx : List Bx} {last : Int} (h : LG u0 u1 ns bx last) (o : Int) (s : Bool) (n : Int) : LG u0 u1 ns (bx ++ given u0 u1 ns bx last o s n) (last + (given u0 u1 ns bx last o s n).length) := by
 unfold given
 split
 ·rename_i hc
  unfold gcode at hc
  split at hc
  ·cases hc
  ·rename_i h1
   split at hc
   ·cases hc
   ·have h2 := mayc_zero h1
    rw [grow_len]
    exact h.grow o s h2.1 n.toNat (by omega)
 ·simpa using h
theorem LG.take {u0 u1 : Int} {ns : List Nd} {bx : List Bx} {last : Int} (h : LG u0 u1 ns bx last) (g : List Bx) : LG u0 u1 ns (leftN bx g) last := h.sub List.filter_sublist
theorem left_nil (bx : List Bx) : leftN bx [] = bx := List.filter_eq_self.2 fun y _ => by simp
structure Ac where
 what : Int
 n : Nd
 o : Int
 s : Bool
 many : Int
def acN (u0 u1 : Int) (ns : List Nd) (x : Ac) : List Nd := if x.what % 6 = 0 then nsJ u0 u1 ns x.n else if x.what % 6 = 1 then less ns x.n.f0 else ns
def acB (u0 u1 : Int) (ns : List Nd) (bx : List Bx) (last : Int) (x : Ac) : List Bx :=
 if x.what % 6 = 0 then bx else if x.what % 6 = 1 then offN bx x.n.f0 else if x.what % 6 = 2 ∨ x.what % 6 = 3 then bx ++ given u0 u1 ns bx last x.o x.s x.many else leftN bx (taken bx x.o x.s x.many)
def acL (u0 u1 : Int) (ns : List Nd) (bx : List Bx) (last : Int) (x : Ac) : Int := if x.what % 6 = 2 ∨ x.what % 6 = 3 then last + (given u0 u1 ns bx last x.o x.s x.many).length else last
end Go.Proofs.YthibppfdonepoaaGreat.LedT
