/- lex.Lex. -/
import Derived.Test.YtfpbapffdnochaaDoorCLexBackHLexC
import Derived.Maps.AppendAt
set_option linter.unusedVariables false
set_option linter.unusedSimpArgs false
namespace Go.Proofs.YtfpbapffdnochaaDoor.LexH
open Go.RowKit Go.Proofs.YtfpbapffdnochaaDoor.XBut Go.Proofs.YtfpbapffdnochaaDoorW.PrintWords Go.Proofs.YtfpbapffdnochaaDoorW.PrintLast Go.Proofs.YtfpbapffdnochaaDoor.LexM
attribute [local go_sem] Oper.semAt_some
theorem cover_in {p : Nat} {l : List UInt8} {B : List (Nat × List UInt8)} (h : Cover p l B) : ∀ x ∈ B, p ≤ x.1 ∧ x.1 + x.2.length ≤ p + l.length ∧ (l.drop (x.1 - p)).take x.2.length = x.2 := by
  induction h with
  | last p W hW => intro x hx; cases hx
  | piece p W b t B hW hb h ih =>
    intro x hx
    rcases List.mem_cons.1 hx with rfl | hx
    · refine ⟨by simp, by simp; omega, ?_⟩
      simp
    · obtain ⟨h1, h2, h3⟩ := ih x hx
      simp only [List.length_append] at h2 ⊢
      refine ⟨by omega, by omega, ?_⟩
      have e : x.1 - p = W.length + (b.length + (x.1 - (p + W.length + b.length))) := by omega
      rw [e, ← List.drop_drop, List.drop_left, ← List.drop_drop, List.drop_left]
      exact h3
theorem piece_at (s : ByteArray) : ∀ x ∈ piecesFrom s 0, x.1 + x.2.length ≤ s.size ∧ s.extract x.1 (x.1 + x.2.length) = ⟨x.2.toArray⟩ := by
  intro x hx
  have hc := LexM.cover s.data.toList 0
  obtain ⟨_, h2, h3⟩ := cover_in hc x (by simpa [piecesFrom] using hx)
  have h4 : s.data.toList.length = s.size := data_length s
  refine ⟨by omega, ?_⟩
  apply ByteArray.ext
  apply Array.toList_inj.1
  rw [Lib.extract_data]
  simp only [Nat.sub_zero, Nat.add_sub_cancel_left] at h3 ⊢
  exact h3
theorem row_but {w w' : World} {base e k : Nat} {v : Value} {n : Nat} {xs : List Value} {T : Nat → Prop} (h : w.ownsRow base e k v n xs) (hb : But T w w') (hT : ∀ k, T k → k < base) : w'.ownsRow base e k v n xs := by
  refine ⟨h.1, h.2.imp id ?_⟩
  rintro ⟨g, cap, cur, h1, h2, h3, h4⟩
  exact ⟨g, cap, cur, h1, h2, hb.heap h3 (fun hk => by have := hT _ hk; omega), h4⟩
theorem row_low {w : World} {base base' : Nat} {e : TypeId} {size : Nat} {v : Value} {n : Nat} {xs : List Value} (h : w.ownsRow base e size v n xs) (hb : base' ≤ base) : w.ownsRow base' e size v n xs :=
  ⟨h.1, h.2.imp id fun ⟨g, cap, cur, h1, h2, h3⟩ => ⟨g, cap, cur, h1, Nat.le_trans hb h2, h3⟩⟩
theorem row_slice {w : World} {base e size n : Nat} {v : Value} {xs : List Value} (h : w.ownsRow base e size v n xs) : ∃ A c, v = .slice A n c := by
  rcases h.2 with ⟨rfl, rfl⟩ | ⟨g, cap, cur, rfl, hb, _⟩
  · exact ⟨_, _, rfl⟩
  · exact ⟨_, _, rfl⟩
theorem row_base {w : World} {base e size n : Nat} {v : Value} {xs : List Value} (h : w.ownsRow base e size v n xs) : ∀ k, v.ownBlock = some k → base ≤ k := by
  rintro k hk
  rcases h.2 with ⟨rfl, _⟩ | ⟨g, cap, cur, rfl, hb, _⟩
  · simp [Value.ownBlock] at hk
  · simp [Value.ownBlock] at hk
    omega
def cellsOf (num : ByteArray → Int × Bool) : List (Nat × List UInt8) → List Value
  | [] => []
  | x :: r => (match tokV ⟨x.2.toArray⟩ (num ⟨x.2.toArray⟩) with
    | some (k, n) => [.int .u8 k, .string ⟨x.2.toArray⟩, .int .i64 n, .int .i64 (x.1 : Nat)]
    | none => []) ++ cellsOf num r
def goodV (num : ByteArray → Int × Bool) (x : Nat × List UInt8) : Bool := (tokV ⟨x.2.toArray⟩ (num ⟨x.2.toArray⟩)).isSome
theorem cells_snoc (num : ByteArray → Int × Bool) (pre : List (Nat × List UInt8)) (x : Nat × List UInt8) {k n : Int} (h : tokV ⟨x.2.toArray⟩ (num ⟨x.2.toArray⟩) = some (k, n)) : cellsOf num (pre ++ [x]) = cellsOf num pre ++ [.int .u8 k, .string ⟨x.2.toArray⟩, .int .i64 n, .int .i64 (x.1 : Nat)] := by
  induction pre with
  | nil => simp [cellsOf, h]
  | cons a pre ih => simp [cellsOf, ih]
theorem pieces_len (s : ByteArray) : (piecesFrom s 0).length ≤ s.size := by
  have H : ∀ (l : List UInt8) (p : Nat), (pcs p l).length ≤ l.length := by
    intro l p
    refine steps (Q := fun p l => (pcs p l).length ≤ l.length) (fun p => by simp [pcs_nil]) ?_ ?_ ?_ l p
    · intro p c t h ih
      rw [pcs_run h, List.length_cons, List.length_cons]
      have := dropWhile_len isRun t
      omega
    · intro p c t h h2 ih
      rw [pcs_white h h2, List.length_cons]
      omega
    · intro p c t h h2 ih
      rw [pcs_other h h2, List.length_cons, List.length_cons]
      omega
  have := H (s.data.toList.drop 0) 0
  rw [List.length_drop, data_length] at this
  exact this
theorem pieces_fn (s : ByteArray) (w : World) : Calls Tryd.prog 24 #[.string s] w fun e w' => e = .returned (.func (.func 37) #[] #[.pointer (some ⟨w.heap.size, 0, none⟩)]) ∧ w' = w.alloc (.cells #[.string s] 9) := by
  go_enter Tryd.func24, Tryd.ntmps24
  go_wp2_with fail
  go_ret
  exact ⟨rfl, rfl⟩
theorem fold2 (p q : Tmp) (v u : Value) (t : Array Value) : ((#[p, q] : Array Tmp).zip #[v, u]).foldl (fun t (p, v) => t.setIfInBounds p v) t = (t.setIfInBounds p v).setIfInBounds q u := by simp
theorem slice_str (s : ByteArray) (a b : Nat) (h1 : a ≤ b) (h2 : b ≤ s.size) (W : World) : (Instr.slice 9 (.string s) (some (.int .i64 a)) (some (.int .i64 b)) none).run Tryd.prog W = .ok (.string (s.extract a b)) W := by
  have e1 : (a : Int) ≤ (b : Int) := by omega
  have e2 : (b : Int) ≤ (s.size : Int) := by omega
  simp [Instr.slice, run_underlying Tryd.underlying9, Instr.sliceBounds, Instr.sliceBound, asIntOf, go_sem, e1, e2, h1, h2]
theorem inRoundS {n : Nat} {P : Program} {f : FuncId} {args : Array Value} {w : World} {R : Ending → World → Prop} {l : Nat} (h : Calls P f args w R) : CallsIn (Fence.wide.inRound l) n P f args w R := (callsIn_wide (n := n)).2 h
theorem infoT : (Tryd.prog.info? 30).map (fun i => (i.zero, i.size, i.bytes)) = some (some (.agg #[.int .u8 0, .string ⟨#[]⟩, .int .i64 0, .int .i64 0]), 4, 40) := by kernel_rfl
def LexR (num : ByteArray → Int × Bool) (s : ByteArray) (base : Nat) (e : Ending) (w' : World) : Prop :=
  ((∀ x ∈ piecesFrom s 0, goodV num x = true) ∧ ∃ v, e = .returned (.tuple #[v, .int .i64 0, .int .i64 0]) ∧ w'.ownsRow base 30 4 v (piecesFrom s 0).length (cellsOf num (piecesFrom s 0))) ∨
  ∃ pre x post, piecesFrom s 0 = pre ++ x :: post ∧ (∀ y ∈ pre, goodV num y = true) ∧ goodV num x = false ∧ e = .returned (.tuple #[.slice none 0 0, .int .i64 (x.1 : Nat), .int .i64 60])
theorem entersP : ∀ (args : Array Value) (w : World), (callFunc 37 args).run Tryd.prog w = .ok (.enter 37 args) w :=
  enters_of Tryd.func37 (by kernel_rfl) rfl
set_option maxHeartbeats 8000000 in
set_option maxRecDepth 100000 in
theorem lexW (num : ByteArray → Int × Bool) (s : ByteArray) (w : World) (hs : s.size ≤ maxLen)
    (hN : ∀ (t : ByteArray) (w : World), t.size ≤ maxLen → Calls Tryd.prog 15 #[.string t] w fun e w' => e = .returned (.tuple #[.int .i64 (num t).1, .bool (num t).2]) ∧ Below w.heap.size w w') :
    Calls Tryd.prog 9 #[.string s] w fun e w' => (if 4096 < s.size then e = .returned (.tuple #[.slice none 0 0, .int .i64 0, .int .i64 3]) else LexR num s w.heap.size e w') ∧ Below w.heap.size w w' := by
  have HN := Aside0.mk hN
  have hs2 := hs
  unfold maxLen at hs2
  have HS := Aside0.mk hs
  clear hs hN
  by_cases hlong : 4096 < s.size
  · simp only [if_pos hlong]
    have hl2 : (4096 : Int) < (s.size : Int) := by omega
    refine callsIn_wide.1 (callsIn_of_wp_marks (F := Fence.wide) (n := 5) Tryd.func9 rfl trivial ?_)
    simp only [Tryd.ntmps9, List.size_toArray, List.length_cons, List.length_nil, Nat.reduceAdd, Nat.reduceSub, Array.replicate_succ, Array.replicate_zero, List.push_toArray, List.append_toArray, List.nil_append, List.cons_append]
    refine wpIn_wide.2 ?_
    go_wp2_with fail
    exact ⟨.tuple #[.slice none 0 0, .int .i64 0, .int .i64 3], by simp [results, Tryd.f9, go_sem], rfl, below_alloc (below_alloc (below_alloc (below_alloc (Below.refl _ _) _) _) _) _⟩
  · simp only [if_neg hlong]
    have hl2 : (s.size : Int) ≤ 4096 := by omega
    refine callsIn_wide.1 (callsIn_of_wp_marks (F := Fence.wide) (n := 5) Tryd.func9 rfl trivial ?_)
    simp only [Tryd.ntmps9, List.size_toArray, List.length_cons, List.length_nil, Nat.reduceAdd, Nat.reduceSub, Array.replicate_succ, Array.replicate_zero, List.push_toArray, List.append_toArray, List.nil_append, List.cons_append]
    refine wpIn_wide.2 ?_
    go_wp2_with (go_at_call 24; refine (pieces_fn _ _).mono ?_; rintro e w1 ⟨rfl, rfl⟩)
    refine (wpIn_wide (n := 5)).1 (range_law w (encs := fun x : Nat × List UInt8 => #[.int .i64 (x.1 : Nat), .int .i64 ((x.1 + x.2.length : Nat) : Int)]) (Ok := fun pre => ∃ post, piecesFrom s 0 = pre ++ post) (Fin := fun pre => pre = piecesFrom s 0) (wrs := fun _ => False)
      (own := fun k => (k = w.heap.size + 1 ∨ k = w.heap.size + 1 + 1 ∨ k = w.heap.size + 1 + 1 + 1 ∨ k = w.heap.size + 1 + 1 + 1 + 1) ∨ w.heap.size + 1 + 1 + 1 + 1 + 1 + 1 + 1 + 1 ≤ k) (endW := fun _ => True) rfl entersP (fun _ => rfl)
      (below_alloc (below_alloc (below_alloc (below_alloc (below_alloc (below_alloc (Below.refl _ _) _) _) _) _) _) _)
      (fun k hk => hk.elim) (fun k hk => by simp only [World.size_alloc]; omega) (fun _ _ _ _ => trivial)
      (fun W1 hB1 hs1 => ?_)
      (fun pre W => (∀ y ∈ pre, goodV num y = true) ∧ W.heap[w.heap.size]? = some (.cells #[.string s] 9 (0, 0)) ∧ W.heap[w.heap.size + 1]? = some (.cells #[.slice none 0 0] 22 (0, 0)) ∧ W.heap[w.heap.size + 1 + 1]? = some (.cells #[.int .i64 0] 3 (0, 0)) ∧ W.heap[w.heap.size + 1 + 1 + 1]? = some (.cells #[.int .i64 0] 23 (0, 0)) ∧
        ∃ v, W.heap[w.heap.size + 1 + 1 + 1 + 1]? = some (.cells #[v] 22 (0, 0)) ∧ W.ownsRow (w.heap.size + 1 + 1 + 1 + 1 + 1 + 1 + 1 + 1) 30 4 v pre.length (cellsOf num pre))
      (fun c pre W => c = .ret ∧ ∃ pre' x post, piecesFrom s 0 = pre' ++ x :: post ∧ (∀ y ∈ pre', goodV num y = true) ∧ goodV num x = false ∧ W.heap[w.heap.size + 1]? = some (.cells #[.slice none 0 0] 22 (0, 0)) ∧ W.heap[w.heap.size + 1 + 1]? = some (.cells #[.int .i64 (x.1 : Nat)] 3 (0, 0)) ∧ W.heap[w.heap.size + 1 + 1 + 1]? = some (.cells #[.int .i64 60] 23 (0, 0)))
      ?_ ?_ ?_ ?_ ?_ ?_)
    · simp only [World.size_alloc]
      refine pieces1 4 _ _ 9 s _ W1 HS.out (blk_below (blk_new_at (by simp) _) hB1) (fun k hk => ?_)
      omega
    · rintro q W W' ⟨h0, h1, h2, h3, h4, v, h5, h6⟩ hb
      simp only [World.size_alloc] at hb
      replace hb : But (fun k => k = w.heap.size + 1 + 1 + 1 + 1 + 1 + 1 ∨ k = w.heap.size + 1 + 1 + 1 + 1 + 1 + 1 + 1) W W' := hb.mono fun k h => h.elim (fun h => h.elim) id
      exact ⟨h0, hb.heap h1 (by omega), hb.heap h2 (by omega), hb.heap h3 (by omega), hb.heap h4 (by omega), v, hb.heap h5 (by omega), row_but h6 hb (fun k hk => by omega)⟩
    · rintro x q W W' ⟨rfl, pre', y, post, g1, g2, g3, h2, h3, h4⟩ hb
      simp only [World.size_alloc] at hb
      exact ⟨rfl, pre', y, post, g1, g2, g3, hb.heap h2 (by omega), hb.heap h3 (by omega), hb.heap h4 (by omega)⟩
    · refine ⟨by simp, ?_, ?_, ?_, ?_, _, blk_alloc (blk_new_at (by simp) _) _, World.ownsRow_nil _ _ _ _⟩
      · exact blk_alloc (blk_alloc (blk_alloc (blk_alloc (blk_alloc (blk_new _ _) _) _) _) _) _
      · exact blk_alloc (blk_alloc (blk_alloc (blk_alloc (blk_new_at (by simp) _) _) _) _) _
      · exact blk_alloc (blk_alloc (blk_alloc (blk_new_at (by simp) _) _) _) _
      · exact blk_alloc (blk_alloc (blk_new_at (by simp) _) _) _
    · rintro pre x W ⟨post, hpost⟩ ⟨h0, h1, h2, h3, h4, v, h5, h6⟩ hBw hsz
      simp only [World.size_alloc] at hsz
      obtain ⟨hx1, hx2⟩ := piece_at s x (by rw [hpost]; simp)
      have hlen : pre.length + 1 ≤ 4096 := by
        have := pieces_len s
        rw [hpost] at this
        simp at this
        omega
      have hxs : (⟨x.2.toArray⟩ : ByteArray).size ≤ maxLen := by
        have : (⟨x.2.toArray⟩ : ByteArray).size = x.2.length := by simp [ByteArray.size]
        unfold maxLen
        omega
      obtain ⟨xp, xb⟩ := x
      simp only at hx1 hx2 hxs
      have T := fun W => token ⟨xb.toArray⟩ (xp : Nat) (num ⟨xb.toArray⟩) W hxs (fun w => HN.out _ w hxs)
      have X := Aside0.mk (And.intro h0 (And.intro h1 (And.intro h2 (And.intro h3 (And.intro h4 (And.intro h5 (And.intro h6 (And.intro hBw (And.intro hsz (And.intro hpost (And.intro hx2 (And.intro hlen T))))))))))))
      clear h0 h1 h2 h3 h4 h5 h6 hBw hsz hpost hx2 hlen T hxs
      rw [fold2]
      simp only [XPrint.pw]
      gi_wp2
      refine ⟨But.refl _ _, fun W2 hb2 => ?_⟩
      simp only [World.size_alloc] at hb2 ⊢
      obtain ⟨h0, h1, h2, h3, h4, h5, h6, hBw, hsz, hpost, hx2, hlen, T⟩ := X.out
      have f1 := hb2.heap h1 (by omega)
      have f2 := hb2.heap h2 (by omega)
      have f3 := hb2.heap h3 (by omega)
      have f4 := hb2.heap h4 (by omega)
      have f5 := hb2.heap h5 (by omega)
      have hR2 := row_but h6 hb2 (fun k hk => by omega)
      have s3 : W.heap.size ≤ W2.heap.size := hb2.size
      obtain ⟨A5, p5, e5⟩ := row_slice h6
      subst e5
      have hsl := slice_str s xp (xp + xb.length) (by omega) hx1
      rw [hx2] at hsl
      simp only [Int.natCast_add] at hsl
      have c0_ := (blk_cell f1 0).trans rfl
      have c1_ := (blk_cell f2 0).trans rfl
      have q1_ := blk_frozen f2 0
      have c5_ := (blk_cell f5 0).trans rfl
      have q5_ := blk_frozen f5 0
      have hx1' : (xp : Int) + (xb.length : Int) ≤ (s.size : Int) := by omega
      have Z := Aside0.mk (And.intro f1 (And.intro f2 (And.intro f3 (And.intro f4 (And.intro f5 (And.intro hR2 (And.intro T (And.intro h0 hlen))))))))
      have hpostE := Aside0.mk hpost
      clear f1 f2 f3 f4 f5 hR2 T h0 h1 h2 h3 h4 h5 h6 hBw hpost hlen hx1 hx2
      cases htk : tokV ⟨xb.toArray⟩ (num ⟨xb.toArray⟩) with
      | none =>
        have T := Z.out.2.2.2.2.2.2.1 W2
        simp only [htk] at T
        have TT := Aside0.mk T
        have HTK := Aside0.mk htk
        clear T htk c0_ c1_ q1_ c5_ q5_
        have c0_ := (blk_cell Z.out.1 0).trans rfl
        gi_wp2_with (fail)
        refine ⟨trivial, (inRoundS TT.out).mono ?_⟩
        rintro e W3 ⟨rfl, hB3⟩
        have f2 := blk_below Z.out.2.1 hB3
        have f3 := blk_below Z.out.2.2.1 hB3
        have f4 := blk_below Z.out.2.2.2.1 hB3
        have l2 := blk_lt f2
        have l3 := blk_lt f3
        have l4 := blk_lt f4
        have c2_ := (blk_cell f2 0).trans rfl
        have q2_ := blk_frozen f2 0
        have f3' : ∀ u, (W3.setCell ⟨w.heap.size + 1, 0, none⟩ u).heap[w.heap.size + 1 + 1]? = some (.cells #[.int .i64 0] 3 (0, 0)) := fun u => blk_far f3 (by simp <;> omega) u
        have c3_ := fun u => (blk_cell (f3' u) 0).trans rfl
        have q3_ := fun u => blk_frozen (f3' u) 0
        have f4' : ∀ u u2, ((W3.setCell ⟨w.heap.size + 1, 0, none⟩ u).setCell ⟨w.heap.size + 1 + 1, 0, none⟩ u2).heap[w.heap.size + 1 + 1 + 1]? = some (.cells #[.int .i64 0] 23 (0, 0)) := fun u u2 => blk_far (blk_far f4 (by simp <;> omega) u) (by simp <;> omega) u2
        have c4_ := fun u u2 => (blk_cell (f4' u u2) 0).trans rfl
        have q4_ := fun u u2 => blk_frozen (f4' u u2) 0
        have Y := Aside0.mk (And.intro hB3 (And.intro f2 (And.intro f3' (And.intro f4' (And.intro l2 (And.intro l3 l4))))))
        clear hB3 f2 f3 f4 f3' f4' c0_
        dsimp only
        gi_wp2
        obtain ⟨hB3, f2, f3', f4', l2, l3, l4⟩ := Y.out
        have m1 : (((W3.setCell ⟨w.heap.size + 1, 0, none⟩ (.slice none 0 0)).setCell ⟨w.heap.size + 1 + 1, 0, none⟩ (.int .i64 xp)).setCell ⟨w.heap.size + 1 + 1 + 1, 0, none⟩ (.int .i64 60)).heap[w.heap.size + 1]? = some (.cells #[.slice none 0 0] 22 (0, 0)) := blk_far (blk_far (by simpa using blk_set f2 0 (.slice none 0 0)) (by simp <;> omega) _) (by simp <;> omega) _
        have m2 : (((W3.setCell ⟨w.heap.size + 1, 0, none⟩ (.slice none 0 0)).setCell ⟨w.heap.size + 1 + 1, 0, none⟩ (.int .i64 xp)).setCell ⟨w.heap.size + 1 + 1 + 1, 0, none⟩ (.int .i64 60)).heap[w.heap.size + 1 + 1]? = some (.cells #[.int .i64 xp] 3 (0, 0)) := blk_far (by simpa using blk_set (f3' (.slice none 0 0)) 0 (.int .i64 xp)) (by simp <;> omega) _
        have m3 : (((W3.setCell ⟨w.heap.size + 1, 0, none⟩ (.slice none 0 0)).setCell ⟨w.heap.size + 1 + 1, 0, none⟩ (.int .i64 xp)).setCell ⟨w.heap.size + 1 + 1 + 1, 0, none⟩ (.int .i64 60)).heap[w.heap.size + 1 + 1 + 1]? = some (.cells #[.int .i64 60] 23 (0, 0)) := by simpa using blk_set (f4' (.slice none 0 0) (.int .i64 xp)) 0 (.int .i64 60)
        obtain ⟨post, hpost⟩ : ∃ post, piecesFrom s 0 = pre ++ (xp, xb) :: post := ⟨post, by rw [hpostE.out]; simp⟩
        refine ⟨?_, rfl, pre, (xp, xb), post, hpost, Z.out.2.2.2.2.2.2.2.1, by unfold goodV; simp only [HTK.out]; rfl, blk_alloc m1 _, blk_alloc m2 _, blk_alloc m3 _⟩
        exact ((((But.of_below hB3).setCell (.inl (.inl rfl)) 0 _).setCell (.inl (.inr (.inl rfl))) 0 _).setCell (.inl (.inr (.inr (.inl rfl)))) 0 _).alloc _
      | some kn =>
        obtain ⟨k, n⟩ := kn
        have T := Z.out.2.2.2.2.2.2.1 W2
        simp only [htk] at T
        have TT := Aside0.mk T
        have HTK := Aside0.mk htk
        clear T htk c0_ c1_ q1_ c5_ q5_
        have c0_ := (blk_cell Z.out.1 0).trans rfl
        gi_wp2_with (fail)
        refine ⟨trivial, (inRoundS TT.out).mono ?_⟩
        rintro e W3 ⟨rfl, hB3⟩
        obtain ⟨f1, f2, f3, f4, f5, hR2, _, h0, hlen⟩ := Z.out
        have hBB : But (fun _ => False) W2 W3 := But.of_below hB3
        replace f1 := hBB.heap f1 id
        replace f2 := hBB.heap f2 id
        replace f3 := hBB.heap f3 id
        replace f4 := hBB.heap f4 id
        replace f5 := hBB.heap f5 id
        replace hR2 := row_but hR2 hBB (fun k hk => hk.elim)
        have l5 := blk_lt f5
        have s4 : W2.heap.size ≤ W3.heap.size := hB3.size
        have c5_ := (blk_cell f5 0).trans rfl
        have q5_ := blk_frozen f5 0
        obtain ⟨i3, hi3, hzz⟩ := Option.map_eq_some_iff.1 infoT
        simp only [Prod.mk.injEq] at hzz
        obtain ⟨hz0, hz1, hz2⟩ := hzz
        have Y := Aside0.mk (And.intro hBB (And.intro f1 (And.intro f2 (And.intro f3 (And.intro f4 (And.intro f5 (And.intro hR2 (And.intro h0 hlen))))))))
        clear hBB hB3 f1 f2 f3 f4 f5 hR2 h0 hlen c0_
        dsimp only
        gi_wp2_with (refine wpListIn_append_own ((W3.alloc (.cells #[.int .u8 k, .string ⟨xb.toArray⟩, .int .i64 n, .int .i64 xp] 30)).alloc (.cells #[.int .u8 k, .string ⟨xb.toArray⟩, .int .i64 n, .int .i64 xp] 30)) rfl (.tmp 29) (.tmp 31) 22 rfl (w.heap.size + 1 + 1 + 1 + 1 + 1 + 1 + 1 + 1) 30 i3 (.agg #[.int .u8 0, .string ⟨#[]⟩, .int .i64 0, .int .i64 0]) 4 40 Tryd.underlying22 hi3 hz0 hz1 hz2 rfl (by decide) (.slice A5 pre.length p5) _ _ rfl ((Y.out.2.2.2.2.2.2.1.alloc _).alloc _) ⟨W3.heap.size + 1, 0, none⟩ 1 1 [.int .u8 k, .string ⟨xb.toArray⟩, .int .i64 n, .int .i64 xp] rfl rfl ?hnews ?hone ?hb1 ?hb2 ?hb3 ?_)
        case hnews =>
          intro j u hu
          have hblk : ((W3.alloc (.cells #[.int .u8 k, .string ⟨xb.toArray⟩, .int .i64 n, .int .i64 xp] 30)).alloc (.cells #[.int .u8 k, .string ⟨xb.toArray⟩, .int .i64 n, .int .i64 xp] 30)).heap[W3.heap.size + 1]? = some (.cells #[.int .u8 k, .string ⟨xb.toArray⟩, .int .i64 n, .int .i64 xp] 30 (0, 0)) := blk_new_at (by simp) _
          have ha : (Addr.add ⟨W3.heap.size + 1, 0, none⟩ j) = ⟨W3.heap.size + 1, j, none⟩ := by
            unfold Addr.add
            by_cases hj : j = 0
            · subst hj; rfl
            · rw [if_neg hj]; simp
          rw [ha, blk_cell hblk j]
          rw [← hu, ← Array.getElem?_toList]
        case hone =>
          intro u hu
          simp only [List.mem_cons, List.mem_nil_iff, or_false] at hu
          rcases hu with rfl | rfl | rfl | rfl <;> rfl
        case hb1 => have := Y.out.2.2.2.2.2.2.2.2; simp only [maxLen]; omega
        case hb2 => have := Y.out.2.2.2.2.2.2.2.2; omega
        case hb3 => simp only [World.size_alloc]; omega
        intro v1 W5 hown5 hg5 hnn
        obtain ⟨A6, p6, e6⟩ := row_slice hown5
        subst e6
        have hne : some (w.heap.size + 1 + 1 + 1 + 1) ≠ (Value.slice A5 pre.length p5).ownBlock := fun h => by
          have := row_base Y.out.2.2.2.2.2.2.1 _ h.symm
          omega
        have f5 := blk_grown (blk_alloc (blk_alloc Y.out.2.2.2.2.2.1 (.cells #[.int .u8 k, .string ⟨xb.toArray⟩, .int .i64 n, .int .i64 xp] 30)) (.cells #[.int .u8 k, .string ⟨xb.toArray⟩, .int .i64 n, .int .i64 xp] 30)) hg5 hne
        have c5 := (blk_cell f5 0).trans rfl
        have q5 := blk_frozen f5 0
        have Z5 := Aside0.mk (And.intro hg5 (And.intro f5 hown5))
        clear hown5 hg5 f5 hne hnn c5_ q5_
        gi_wp2
        obtain ⟨hBB, f1, f2, f3, f4, f5, hR2, h0, hlen⟩ := Y.out
        obtain ⟨hg5, g5, hown5⟩ := Z5.out
        have hrow : ∀ j, (Value.slice A5 pre.length p5).ownBlock = some j → w.heap.size + 1 + 1 + 1 + 1 + 1 + 1 + 1 + 1 ≤ j := fun j hj => row_base hR2 _ hj
        have hB5 : But (fun j => j = w.heap.size + 1 + 1 + 1 + 1 ∨ w.heap.size + 1 + 1 + 1 + 1 + 1 + 1 + 1 + 1 ≤ j) W3 (W5.setCell ⟨w.heap.size + 1 + 1 + 1 + 1, 0, none⟩ (.slice A6 (pre.length + 1) p6)) :=
          ((((But.refl _ W3).alloc _).alloc _).trans (But.grown hg5 (fun j hj => .inr (hrow j hj)))).setCell (.inl rfl) 0 _
        refine ⟨(hBB.mono (fun j hj => hj.elim)).trans (hB5.mono fun j hj => by omega), ?_, hB5.heap f1 (by omega), hB5.heap f2 (by omega), hB5.heap f3 (by omega), hB5.heap f4 (by omega), _, by simpa using blk_set g5 0 (.slice A6 (pre.length + 1) p6), ?_⟩
        · intro y hy
          rcases List.mem_append.1 hy with hy | hy
          · exact h0 y hy
          · obtain rfl := List.mem_singleton.1 hy
            unfold goodV
            simp only [HTK.out]
            rfl
        · rw [cells_snoc num pre (xp, xb) HTK.out, List.length_append, List.length_singleton]
          exact row_but hown5 ((But.refl (fun j => j = w.heap.size + 1 + 1 + 1 + 1) W5).setCell rfl 0 _) (fun j hj => by omega)
    · rintro xs W rfl ⟨h0, h1, h2, h3, h4, v, h5, h6⟩ _ hB hm
      simp only [World.size_alloc] at hm
      obtain ⟨A5, p5, e5⟩ := row_slice h6
      subst e5
      have c5 := (blk_cell h5 0).trans rfl
      have c1 := (blk_cell h2 0).trans rfl
      have q1 := blk_frozen h2 0
      have k3 : ∀ u, (W.setCell ⟨w.heap.size + 1, 0, none⟩ u).heap[w.heap.size + 1 + 1]? = some (.cells #[.int .i64 0] 3 (0, 0)) := fun u => blk_far h3 (by simp <;> omega) u
      have c2 := fun u => (blk_cell (k3 u) 0).trans rfl
      have q2 := fun u => blk_frozen (k3 u) 0
      have k4 : ∀ u u2, ((W.setCell ⟨w.heap.size + 1, 0, none⟩ u).setCell ⟨w.heap.size + 1 + 1, 0, none⟩ u2).heap[w.heap.size + 1 + 1 + 1]? = some (.cells #[.int .i64 0] 23 (0, 0)) := fun u u2 => blk_far (blk_far h4 (by simp <;> omega) u) (by simp <;> omega) u2
      have c3 := fun u u2 => (blk_cell (k4 u u2) 0).trans rfl
      have q3 := fun u u2 => blk_frozen (k4 u u2) 0
      dsimp only
      go_wp2
      simp only [World.size_alloc]
      have hW : But (fun k => k = w.heap.size + 1 ∨ k = w.heap.size + 1 + 1 ∨ k = w.heap.size + 1 + 1 + 1) W (((W.setCell ⟨w.heap.size + 1, 0, none⟩ (.slice A5 (piecesFrom s 0).length p5)).setCell ⟨w.heap.size + 1 + 1, 0, none⟩ (.int .i64 0)).setCell ⟨w.heap.size + 1 + 1 + 1, 0, none⟩ (.int .i64 0)) := (((But.refl _ _).setCell (.inl rfl) 0 _).setCell (.inr (.inl rfl)) 0 _).setCell (.inr (.inr rfl)) 0 _
      have m1 : (((W.setCell ⟨w.heap.size + 1, 0, none⟩ (.slice A5 (piecesFrom s 0).length p5)).setCell ⟨w.heap.size + 1 + 1, 0, none⟩ (.int .i64 0)).setCell ⟨w.heap.size + 1 + 1 + 1, 0, none⟩ (.int .i64 0)).heap[w.heap.size + 1]? = some (.cells #[.slice A5 (piecesFrom s 0).length p5] 22 (0, 0)) := blk_far (blk_far (by simpa using blk_set h2 0 (.slice A5 (piecesFrom s 0).length p5)) (by simp <;> omega) _) (by simp <;> omega) _
      have m2 : (((W.setCell ⟨w.heap.size + 1, 0, none⟩ (.slice A5 (piecesFrom s 0).length p5)).setCell ⟨w.heap.size + 1 + 1, 0, none⟩ (.int .i64 0)).setCell ⟨w.heap.size + 1 + 1 + 1, 0, none⟩ (.int .i64 0)).heap[w.heap.size + 1 + 1]? = some (.cells #[.int .i64 0] 3 (0, 0)) := blk_far (by simpa using blk_set (k3 (.slice A5 (piecesFrom s 0).length p5)) 0 (.int .i64 0)) (by simp <;> omega) _
      have m3 : (((W.setCell ⟨w.heap.size + 1, 0, none⟩ (.slice A5 (piecesFrom s 0).length p5)).setCell ⟨w.heap.size + 1 + 1, 0, none⟩ (.int .i64 0)).setCell ⟨w.heap.size + 1 + 1 + 1, 0, none⟩ (.int .i64 0)).heap[w.heap.size + 1 + 1 + 1]? = some (.cells #[.int .i64 0] 23 (0, 0)) := by simpa using blk_set (k4 (.slice A5 (piecesFrom s 0).length p5) (.int .i64 0)) 0 (.int .i64 0)
      have hm2 := hW.heap hm (by omega)
      have hrow := row_but h6 hW (fun k hk => by omega)
      generalize ((W.setCell ⟨w.heap.size + 1, 0, none⟩ (.slice A5 (piecesFrom s 0).length p5)).setCell ⟨w.heap.size + 1 + 1, 0, none⟩ (.int .i64 0)).setCell ⟨w.heap.size + 1 + 1 + 1, 0, none⟩ (.int .i64 0) = W9 at hW m1 m2 m3 hm2 hrow ⊢
      have hp := But.put1 (w.heap.size + 1 + 1 + 1 + 1 + 1 + 1) W9 (.deferred none)
      have A0 := (blk_cell (hp.heap m1 (by omega)) 0).trans rfl
      have A1 := (blk_cell (hp.heap m2 (by omega)) 0).trans rfl
      have A2 := (blk_cell (hp.heap m3 (by omega)) 0).trans rfl
      refine leave_mark (.tuple #[.slice A5 (piecesFrom s 0).length p5, .int .i64 0, .int .i64 0]) hm2 (by simp [results, Tryd.f9, go_sem, A0, A1, A2]) ⟨.inl ⟨h0, _, rfl, row_low (row_but hrow hp (fun k hk => by omega)) (by omega)⟩, ?_⟩
      exact But.below (But.below hB (Nat.le_refl _) hW (fun k h => by omega)) (Nat.le_refl _) hp (fun k h => by omega)
    · rintro x pre W ⟨rfl, pre', y, post, g1, g2, g3, h2, h3, h4⟩ hB hm
      simp only [World.size_alloc] at hm
      dsimp only
      gi_wp2
      simp only [World.size_alloc]
      have hp := But.put1 (w.heap.size + 1 + 1 + 1 + 1 + 1 + 1) W (.deferred none)
      have A0 := (blk_cell (hp.heap h2 (by omega)) 0).trans rfl
      have A1 := (blk_cell (hp.heap h3 (by omega)) 0).trans rfl
      have A2 := (blk_cell (hp.heap h4 (by omega)) 0).trans rfl
      refine leave_mark (.tuple #[.slice none 0 0, .int .i64 (y.1 : Nat), .int .i64 60]) hm (by simp [results, Tryd.f9, go_sem, A0, A1, A2]) ⟨.inr ⟨pre', y, post, g1, g2, g3, rfl⟩, But.below hB (Nat.le_refl _) hp fun k h => by omega⟩
end Go.Proofs.YtfpbapffdnochaaDoor.LexH
