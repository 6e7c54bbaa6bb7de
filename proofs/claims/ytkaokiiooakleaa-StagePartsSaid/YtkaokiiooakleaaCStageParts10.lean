-- printed by this session's own driver over the kit's printer: Lean checks it
import Derived.Test.YtkaokiiooakleaaCStageParts0
import Derived.Test.YtkaokiiooakleaaCStageParts4
import Derived.Test.YtkaokiiooakleaaCStageParts6
import Derived.Test.YtkaokiiooakleaaCStageParts8
namespace Go.Proofs.Ytkaokiiooakleaa.PStageParts
open Go.RowKit Go.Proofs.YtkaokiiooakleaaW.PrintWords Go.Proofs.YtkaokiiooakleaaW.PrintLast Go.Proofs.YtkaokiiooakleaaW.PrintMore
attribute [local go_sem] max2_int min2_int max_two min_two max_three min_three max_four min_four   -- for this text's walks alone
set_option linter.unusedVariables false
set_option linter.unusedSimpArgs false

/-! GIVEN -/
/-! ### sat_term_short: function 79 -/
namespace St
section
theorem ButS_cell {T : Nat → Prop} {w w' : World} (h : ButS T w w') {p : Addr} {v : Value} (hc : w.cell? p = some v) (hn : ¬ T p.block) : w'.cell? p = some v :=
  (World.cell?_of_block (w := w) (h.block p.block (World.block_lt_of_cell? w p hc) hn)).trans hc
theorem intS_at {w : World} {A : Option Addr} {n : Nat} {xs : List Int} (h : Kd.C (Kd.int .i64) w A n xs) (i : Nat) (h1 : i < n) : ∃ ad x, A = some ad ∧ xs[i]? = some x ∧ w.cell? (ad.add i) = some (.int .i64 x) := by
  have hlen : xs.length = n := h.1
  obtain ⟨ad, c, e, _, hK, hc⟩ := Kd.C_get h 0 (i : Int) (by omega) (by omega)
  obtain rfl : c = [.int .i64 (xs.getD ((i : Nat) : Int).toNat 0)] := hK
  refine ⟨ad, xs[i], e, List.getElem?_eq_getElem (by omega), ?_⟩
  have := hc 0 _ rfl
  rw [show ((i : Nat) : Int).toNat = i from rfl, List.getD_eq_getElem?_getD, List.getElem?_eq_getElem (show i < xs.length by omega)] at this
  have e1 : i * (Kd.int .i64).sz + 0 = i := by
    show i * 1 + 0 = i
    omega
  rw [e1] at this
  exact this
/-- The iterator over a term's children. -/
structure MidK (w0 w1 : World) (bt : Nat) (T : Nat → Prop) (ks : List Int) (J : List Int → World → Prop) (i : Nat) (pre : List Int) (W : World) : Prop where
  but : ButS T w1 W
  j : J pre W
  left : pre ++ ks.drop i = ks
  low : i ≤ ks.length
set_option maxHeartbeats 8000000 in
set_option maxRecDepth 100000 in
theorem kidsIt (n : Nat) (w0 : World) (lr bt : Nat) (A : Option Addr) (c : Nat) (l : List S65) (B : Option Addr) (n2 c2 : Nat) (at_ : Int) (ks : List Int) (e : Int) (own : Nat → Prop) (W : World)
    (hw : Below w0.heap.size w0 W) (hC : Kd.C k65 w0 A l.length l) (hc : l.length ≤ c) (hk : shape_Kids.f l at_ = some (ks, e)) (hks : ks.length ≤ 1000)
    (b1 : W.heap[bt]? = some (.cells #[.slice A l.length c, .slice B n2 c2, .int .i64 at_] 124 (0, 0)))
    (hown : ∀ k, own k ∨ k = lr → w0.heap.size ≤ k ∧ k ≠ bt ∧ k < W.heap.size) :
    HandsS n 96 #[.pointer (some ⟨bt, 0, none⟩)] lr (fun k : Int => #[.agg #[.slice A l.length c, .slice B n2 c2, .int .i64 k]]) ks (fun _ => False) own (fun _ => True) W := by
  intro J Jx hJ hY h0
  refine callsIn_wide.2 ?_
  have HK := Aside0.mk (And.intro hw (And.intro hC (And.intro hc hk)))
  have H2 := Aside0.mk (And.intro hks (And.intro hown (And.intro hJ (And.intro hY h0))))
  have c1 := (blk_cell b1 0).trans rfl
  have c2_ := (blk_cell b1 1).trans rfl
  have c3 := (blk_cell b1 2).trans rfl
  have HB := Aside0.mk b1
  clear hw hC hc hk hks hown hJ hY h0 b1
  go_enter Try.func96, Try.ntmps96
  go_wp2_with (go_at_call 38; refine (shape_Kids.calls A c l at_ ks e W (Kd.C_below HK.out.2.1 HK.out.1) HK.out.2.2.1 HK.out.2.2.2).mono ?_; rintro e' w1 ⟨v, rfl, hR, hb⟩; obtain ⟨Ak, ck, ek⟩ := Kd.R_slice hR; subst ek; have hR := Aside0.mk hR; have hb := Aside0.mk hb)
  obtain ⟨hks, hown, hJ, hY, h0⟩ := H2.out
  go_loopg [17] (ks.length + 1) (fun kk v17 wr => ∃ (i : Nat) (pre : List Int), v17 = .int .i64 i ∧ kk = ks.length + 1 - i ∧ MidK w0 w1 bt (fun k => own k ∨ k = lr) ks J i pre wr)
  case atStart =>
    exact ⟨0, [], rfl, by omega, { but := ButS.refl _ _, j := hJ _ _ _ h0 (ButS.of_below hb.out), left := rfl, low := Nat.zero_le _ }⟩
  obtain ⟨i, pre, rfl, rfl, M⟩ := hrel
  have hsz := hb.out.size
  have hnt : ¬ (own bt ∨ bt = lr) := fun h => (hown bt h).2.1 rfl
  have r1 := ButS_cell M.but ((hb.out.cell (p := ⟨bt, 0, none⟩) (blk_lt HB.out)).trans c1) hnt
  have r2 := ButS_cell M.but ((hb.out.cell (p := ⟨bt, 1, none⟩) (blk_lt HB.out)).trans c2_) hnt
  have r3 := ButS_cell M.but ((hb.out.cell (p := ⟨bt, 2, none⟩) (blk_lt HB.out)).trans c3) hnt
  by_cases hi : i < ks.length
  · have hlt : decide ((i : Int) < (ks.length : Int)) = true := decide_eq_true (by omega)
    obtain ⟨ad, x, hA, hx, hcell⟩ := intS_at (Kd.R_reads' hR.out).2.2 i hi
    subst hA
    have hbase : W.heap.size ≤ ad.block := by
      obtain ⟨_, inner, hown', _⟩ := hR.out
      exact own_base hown' _ rfl
    have hcell2 := ButS_cell M.but hcell (fun h => by have := (hown _ h).2.2; rw [add_block] at this; omega)
    obtain ⟨z, hz⟩ : ∃ z : Int, (i : Int) = z := ⟨_, rfl⟩
    have h0z : (0 : Int) ≤ z := by omega
    have hzl : z < (ks.length : Int) := by omega
    have hzn : z.toNat = i := by omega
    rw [← hzn] at hcell2
    rw [hz] at hlt ⊢
    have hl := M.left
    rw [List.drop_eq_getElem_cons hi] at hl
    have hxi : ks[i] = x := by
      have := List.getElem?_eq_getElem hi
      rw [hx] at this
      simpa using this.symm
    rw [hxi] at hl
    have hsz2 : W.heap.size ≤ wr.heap.size := Nat.le_trans hsz M.but.size
    obtain ⟨fn, tmps, assign, body, hy, hRr⟩ := hY pre x _ wr hl.symm M.j hsz2
    have hRR := Aside0.mk hRr
    have FF := Aside0.mk (And.intro hl (And.intro hz (And.intro hi (And.intro M (And.intro hks hown)))))
    clear hx hz hi M hJ hY h0 hl hxi hRr hcell hbase hnt c1 c2_ c3 hsz hsz2 hzn hown hks
    repeat ((fail_if_success (refine wp_region_lit (id := 4) ?_)); (first | go_values | go_skip | go_guarded | go_step | go_upon))
    refine (wpIn_wide (n := n)).1 (wpIn_region_lit ?_)
    gi_wp2
    refine ⟨fun h => (by cases h), hRR.out.mono ?_⟩
    rintro e W7 (⟨rfl, hJ7, hk7⟩ | ⟨rfl, hJx7⟩)
    · have G := Aside0.mk (And.intro hJ7 hk7)
      clear hJ7 hk7 hRR hy
      gi_wp2
      go_wp2
      go_roundg (ks.length + 1 - (i + 1))
      case measure => have := FF.out.2.2.1; omega
      case rel =>
        obtain ⟨hl, hz, hi, M, hks, hown⟩ := FF.out
        obtain ⟨hJ7, hk7⟩ := G.out
        exact ⟨i + 1, pre ++ [x], (by congr 1; unfold wrap64; omega), rfl, { but := M.but.trans hk7, j := hJ7, left := by rw [List.append_assoc]; exact hl, low := hi }⟩
    · have G := Aside0.mk hJx7
      clear hJx7 hRR hy
      gi_wp2
      go_wp2
      refine bodyPost_ret (results_none rfl _ _ _) rfl ?_
      exact ⟨⟨_, rfl⟩, .inr ⟨pre, _, _, FF.out.1.symm, G.out⟩⟩
  · have hlt : decide ((i : Int) < (ks.length : Int)) = false := decide_eq_false (by omega)
    have M := Aside0.mk M
    clear hJ hY h0 hown
    go_wp2_with fail
    go_end0
    refine ⟨⟨_, rfl⟩, .inl ⟨?_, trivial⟩⟩
    have := M.out.left
    rw [List.drop_eq_nil_of_le (by omega), List.append_nil] at this
    rw [← this]
    exact M.out.j
set_option maxHeartbeats 4000000 in
theorem kidsFn (x y z : Value) (hx : ∃ A n c, x = .slice A n c) (hy : ∃ A n c, y = .slice A n c) (hz : ∃ i, z = .int .i64 i) (w : World) :
    Calls Try.prog 93 #[.agg #[x, y, z]] w fun e w' => e = .returned (.func (.func 96) #[] #[.pointer (some ⟨w.heap.size, 0, none⟩)]) ∧ Below w.heap.size w w' ∧ w'.heap[w.heap.size]? = some (.cells #[x, y, z] 124 (0, 0)) ∧ w'.heap.size = w.heap.size + 1 := by
  obtain ⟨A, n, c, rfl⟩ := hx
  obtain ⟨B, n2, c2, rfl⟩ := hy
  obtain ⟨i, rfl⟩ := hz
  go_enter Try.func93, Try.ntmps93
  go_wp2
  go_ret
  exact ⟨rfl, below_alloc (Below.refl _ _) _, blk_new _ _, by simp⟩
end
section
attribute [local go_sem] Oper.semAt_some max2_int min2_int max_two min_two
theorem foldK (p : Tmp) (v : Value) (t : Array Value) : ((#[p] : Array Tmp).zip #[v]).foldl (fun t (p, v) => t.setIfInBounds p v) t = t.setIfInBounds p v := by simp
theorem inRoundS {n : Nat} {P : Program} {f : FuncId} {args : Array Value} {w : World} {R : Ending → World → Prop} {l : Nat} (h : Calls P f args w R) : CallsIn (Fence.wide.inRound l) n P f args w R := (callsIn_wide (n := n)).2 h
/-- One child more. -/
def shortN (kd n : Int) (fi : Bool) (v : Int) : Int := if fi = true then v else if kd = 3 then (if v < n then v else n) else if kd = 4 then (if n < v then v else n) else wrap64 (n + v)
def shortL (g : Int → Option Int) (kd : Int) : List Int → Int → Bool → Option Int
  | [], n, _ => some n
  | k :: ks, n, fi => (g k).bind fun v => shortL g kd ks (shortN kd n fi v) false
def shortF : Nat → List S65 → Int → Option Int
  | 0, _, _ => none
  | f + 1, l, at_ => if 0 ≤ at_ ∧ at_ < l.length then (shape_Kids.f l at_).bind fun r => if r.1.length ≤ 1000 then shortL (shortF f l) (rd_T65 l at_).f0 r.1 (rd_T65 l at_).f3 true else none else none
theorem shortL_mono {g g' : Int → Option Int} (hg : ∀ x, LeO (g x) (g' x)) (kd : Int) : ∀ (ks : List Int) (n : Int) (fi : Bool), LeO (shortL g kd ks n fi) (shortL g' kd ks n fi)
  | [], _, _ => LeO.refl _
  | k :: ks, n, fi => LeO.bind (hg k) fun v => shortL_mono hg kd ks _ _
theorem shortF_mono : ∀ (f : Nat) (l : List S65) (at_ : Int), LeO (shortF f l at_) (shortF (f + 1) l at_)
  | 0, _, _ => fun _ h => by cases h
  | f + 1, l, at_ => by
    rw [shortF, shortF]
    by_cases h : 0 ≤ at_ ∧ at_ < l.length
    · rw [if_pos h, if_pos h]
      refine LeO.bind (LeO.refl _) fun r => ?_
      by_cases h2 : r.1.length ≤ 1000
      · rw [if_pos h2, if_pos h2]
        exact shortL_mono (fun x => shortF_mono f l x) _ _ _ _
      · rw [if_neg h2, if_neg h2]
        exact LeO.refl _
    · rw [if_neg h, if_neg h]
      exact LeO.refl _
set_option maxHeartbeats 8000000 in
set_option maxRecDepth 100000 in
theorem shortW : ∀ (f : Nat) (A : Option Addr) (c : Nat) (l : List S65) (B : Option Addr) (n2 c2 : Nat) (at_ r : Int) (w : World), Kd.C k65 w A l.length l → l.length ≤ c → shortF f l at_ = some r →
    Calls Try.prog 79 #[.agg #[.slice A l.length c, .slice B n2 c2, .int .i64 at_]] w fun e w' => e = .returned (.int .i64 r) ∧ Below w.heap.size w w'
  | 0, _, _, _, _, _, _, _, _, _, _, _, h => by cases h
  | f + 1, A, c, l, B, n2, c2, at_, r, w, hC, hc, h => by
    have IH := Aside0.mk (shortW f)
    unfold shortF at h
    split at h
    · rename_i hat
      obtain ⟨⟨ks, e⟩, hk, h⟩ := Option.bind_eq_some_iff.1 h
      simp only at h
      split at h
      · rename_i hks
        obtain ⟨h0, h1⟩ := hat
        obtain ⟨ad, hA, k0, k1, k2, k3, k4⟩ := at_T65 hC at_ h0 h1
        subst hA
        obtain ⟨y0, hy0⟩ : ∃ y, (rd_T65 l at_).f0 = y := ⟨_, rfl⟩
        obtain ⟨y1, hy1⟩ : ∃ y, (rd_T65 l at_).f1 = y := ⟨_, rfl⟩
        obtain ⟨y2, hy2⟩ : ∃ y, (rd_T65 l at_).f2 = y := ⟨_, rfl⟩
        obtain ⟨y3, hy3⟩ : ∃ y, (rd_T65 l at_).f3 = y := ⟨_, rfl⟩
        obtain ⟨y4, hy4⟩ : ∃ y, (rd_T65 l at_).f4 = y := ⟨_, rfl⟩
        rw [hy0] at k0 h
        rw [hy1] at k1
        rw [hy2] at k2
        rw [hy3] at k3 h
        rw [hy4] at k4
        have bk := World.block_lt_of_cell? w _ k1
        have HH := Aside0.mk (And.intro h (And.intro hks (And.intro hk (And.intro hC hc))))
        clear h hks hk hC hc hy0 hy1 hy2 hy3 hy4
        refine callsIn_wide.1 (callsIn_of_wp_marks (F := Fence.wide) (n := 5) Try.func79 rfl trivial ?_)
        simp only [Try.ntmps79, List.size_toArray, List.length_cons, List.length_nil, Nat.reduceAdd, Nat.reduceSub, Array.replicate_succ, Array.replicate_zero, List.push_toArray, List.append_toArray, List.nil_append, List.cons_append]
        refine wpIn_wide.2 ?_
        go_wp2_with (go_at_call 93; refine (kidsFn _ _ _ ⟨_, _, _, rfl⟩ ⟨_, _, _, rfl⟩ ⟨_, rfl⟩ _).mono ?_; rintro e' w1 ⟨rfl, hb, b1, hs1⟩)
        obtain ⟨h, hks, hk, hC, hc⟩ := HH.out
        have hz : ((((w.alloc (Obj.cells #[Value.slice (some ad) l.length c, Value.slice B n2 c2, Value.int IntKind.i64 at_] 124)).alloc (Obj.cells #[Value.int IntKind.u8 y0, Value.int IntKind.u32 y1, Value.int IntKind.u32 y2, Value.int IntKind.i64 y3, Value.int IntKind.i64 y4] 65)).alloc (Obj.cells #[Value.int IntKind.i64 y3] 2)).alloc (Obj.cells #[Value.bool true] 4)).heap.size = w.heap.size + 4 := by simp
        have hb0 : Below w.heap.size w w1 := below_step (below_alloc (below_alloc (below_alloc (below_alloc (Below.refl _ _) _) _) _) _) hb
        have t1 : w1.heap[w.heap.size + 1]? = some (.cells #[.int .u8 y0, .int .u32 y1, .int .u32 y2, .int .i64 y3, .int .i64 y4] 65 (0, 0)) := blk_below (blk_alloc (blk_alloc (by simpa using blk_new (w.alloc (Obj.cells #[Value.slice (some ad) l.length c, Value.slice B n2 c2, Value.int IntKind.i64 at_] 124)) (Obj.cells #[Value.int IntKind.u8 y0, Value.int IntKind.u32 y1, Value.int IntKind.u32 y2, Value.int IntKind.i64 y3, Value.int IntKind.i64 y4] 65)) _) _) hb
        have t2 : w1.heap[w.heap.size + 2]? = some (.cells #[.int .i64 y3] 2 (0, 0)) := blk_below (blk_alloc (by simpa using blk_new ((w.alloc (Obj.cells #[Value.slice (some ad) l.length c, Value.slice B n2 c2, Value.int IntKind.i64 at_] 124)).alloc (Obj.cells #[Value.int IntKind.u8 y0, Value.int IntKind.u32 y1, Value.int IntKind.u32 y2, Value.int IntKind.i64 y3, Value.int IntKind.i64 y4] 65)) (Obj.cells #[Value.int IntKind.i64 y3] 2)) _) hb
        have t3 : w1.heap[w.heap.size + 3]? = some (.cells #[.bool true] 4 (0, 0)) := blk_below (by simpa using blk_new (((w.alloc (Obj.cells #[Value.slice (some ad) l.length c, Value.slice B n2 c2, Value.int IntKind.i64 at_] 124)).alloc (Obj.cells #[Value.int IntKind.u8 y0, Value.int IntKind.u32 y1, Value.int IntKind.u32 y2, Value.int IntKind.i64 y3, Value.int IntKind.i64 y4] 65)).alloc (Obj.cells #[Value.int IntKind.i64 y3] 2)) (Obj.cells #[Value.bool true] 4)) hb
        rw [hz] at b1 hs1
        clear hb hz k0 k1 k2 k3 k4 bk
        refine (wpIn_wide (n := 5)).1 (range_lawS w (xs := ks) (encs := fun k : Int => #[.agg #[.slice (some ad) l.length c, .slice B n2 c2, .int .i64 k]]) (wrs := fun _ => False) (own := fun k => k = w.heap.size + 2 ∨ k = w.heap.size + 3) (endW := fun _ => True) rfl (enters_ Try.func96 (by kernel_rfl) rfl) (fun _ => rfl) hb0
          (fun k hk => hk.elim) (fun k hk => by omega) (fun _ _ _ _ => trivial)
          (fun W1 hB1 hsz1 => kidsIt 4 w _ (w.heap.size + 4) (some ad) c l B n2 c2 at_ ks e _ W1 (hb0.trans (hB1.mono hb0.size)) hC hc hk hks (blk_below b1 hB1) (fun k hk => by omega))
          (fun pre W => ∃ (n : Int) (fi : Bool), W.heap[w.heap.size + 1]? = some (.cells #[.int .u8 y0, .int .u32 y1, .int .u32 y2, .int .i64 y3, .int .i64 y4] 65 (0, 0)) ∧ W.heap[w.heap.size + 2]? = some (.cells #[.int .i64 n] 2 (0, 0)) ∧ W.heap[w.heap.size + 3]? = some (.cells #[.bool fi] 4 (0, 0)) ∧ ∀ rest, ks = pre ++ rest → shortL (shortF f l) y0 rest n fi = some r) (fun _ _ _ => False) ?_ (fun _ _ _ _ h _ => h) ?_ ?_ ?_ (fun _ _ _ h => h.elim))
        · rintro s W W' ⟨n, fi, a1, a2, a3, a4⟩ hB
          exact ⟨n, fi, hB.heap a1 (by rintro (h | h | h) <;> first | exact h.elim | omega), hB.heap a2 (by rintro (h | h | h) <;> first | exact h.elim | omega), hB.heap a3 (by rintro (h | h | h) <;> first | exact h.elim | omega), a4⟩
        · exact ⟨y3, true, t1, t2, t3, fun rest hr => by
            have hr' : ks = rest := hr
            rw [← hr']
            exact h⟩
        · rintro pre x post W hwk ⟨n, fi, a1, a2, a3, a4⟩ hBw hsz
          have a5 := a4 _ hwk
          simp only [shortL] at a5
          obtain ⟨v, hv, a5⟩ := Option.bind_eq_some_iff.1 a5
          have X := Aside0.mk (And.intro hwk (And.intro a1 (And.intro a2 (And.intro a3 (And.intro hv (And.intro a5 (And.intro hBw (And.intro hsz (And.intro hC hc)))))))))
          clear hwk a1 a2 a3 a4 a5 hv hBw hsz h hks hk hC hc t1 t2 t3 b1 hb0 HH
          rw [foldK]
          simp only [XPrint.pw]
          gi_wp2
          refine ⟨(ButS.refl _ _).alloc _, fun W2 hb2 => ?_⟩
          obtain ⟨hwk, a1, a2, a3, hv, a5, hBw, hsz, hC, hc⟩ := X.out
          have f0 := hb2.heap (blk_new W (.cells #[.slice (some ad) l.length c, .slice B n2 c2, .int .i64 x] 124)) (by omega)
          have f1 := hb2.heap (blk_alloc a1 (.cells #[.slice (some ad) l.length c, .slice B n2 c2, .int .i64 x] 124)) (by omega)
          have f2 := hb2.heap (blk_alloc a2 (.cells #[.slice (some ad) l.length c, .slice B n2 c2, .int .i64 x] 124)) (by omega)
          have f3 := hb2.heap (blk_alloc a3 (.cells #[.slice (some ad) l.length c, .slice B n2 c2, .int .i64 x] 124)) (by omega)
          have D2 : Below w.heap.size w W2 := ButS.below (hBw.alloc hBw.size _) (Nat.le_refl _) hb2 (fun k hk => by have := hBw.size; omega)
          have q0 := (blk_cell f0 0).trans rfl
          have q1 := (blk_cell f0 1).trans rfl
          have q2 := (blk_cell f0 2).trans rfl
          have CALL := Aside0.mk (IH.out (some ad) c l B n2 c2 x v W2 (Kd.C_below hC D2) hc hv)
          have Z := Aside0.mk (And.intro f1 (And.intro f2 (And.intro f3 (And.intro hwk a5))))
          clear f0 f1 f2 f3 hwk a1 a2 a3 hv a5 hBw hsz hC hc D2 hb2 X IH
          cases fi with
          | true =>
            obtain ⟨nv, hnv⟩ : ∃ nv, shortN y0 n true v = nv := ⟨_, rfl⟩
            have hnv2 : v = nv := by rw [← hnv]; simp [shortN]
            have V := Aside0.mk hnv
            clear hnv
            gi_wp2_with ((first | (refine ⟨trivial, ?_⟩) | skip); gi_at_call 79; refine inRoundS (CALL.out.mono ?_); rintro e' w9 ⟨rfl, hb9⟩; have g1 := blk_below Z.out.1 hb9; have g2 := blk_below Z.out.2.1 hb9; have g3 := blk_below Z.out.2.2.1 hb9; have p0 := (blk_cell g1 0).trans rfl; have p2 := (blk_cell g2 0).trans rfl; have p3 := (blk_cell g3 0).trans rfl; have r2 := blk_frozen g2 0; have r3 := blk_frozen g3 0; have g4 := blk_far g3 (p := ⟨w.heap.size + 2, 0, none⟩) (by simp) (.int .i64 nv); have r4 := blk_frozen g4 0; have p4 := (blk_cell g4 0).trans rfl; have GG := Aside0.mk (And.intro g1 (And.intro g2 (And.intro g3 hb9))); clear g1 g2 g3 g4 hb9)
            obtain ⟨g1, g2, g3, hb9⟩ := GG.out
            obtain ⟨_, _, _, hwk, a5⟩ := Z.out
            rw [V.out] at a5
            have hfin : ButS (fun k => k = w.heap.size + 2 ∨ k = w.heap.size + 3) W2 ((w9.setCell ⟨w.heap.size + 2, 0, none⟩ (.int .i64 nv)).setCell ⟨w.heap.size + 3, 0, none⟩ (.bool false)) := ((ButS.of_below hb9).setCell (.inl rfl) 0 _).setCell (.inr rfl) 0 _
            refine ⟨hfin, nv, false, ?_, ?_, ?_, ?_⟩
            · exact blk_far (blk_far g1 (p := ⟨w.heap.size + 2, 0, none⟩) (by simp) _) (p := ⟨w.heap.size + 3, 0, none⟩) (by simp) _
            · exact blk_far (by simpa using blk_set g2 0 (.int .i64 nv)) (p := ⟨w.heap.size + 3, 0, none⟩) (by simp) _
            · simpa using blk_set (blk_far g3 (p := ⟨w.heap.size + 2, 0, none⟩) (by simp) (.int .i64 nv)) 0 (.bool false)
            · intro rest hrest
              have : rest = post := by
                have h9 := hwk.symm.trans hrest
                simpa using h9.symm
              rw [this]
              exact a5
          | false =>
            by_cases h3 : y0 = 3
            · have h3b : (y0 == 3) = true := by simp [h3]
              obtain ⟨nv, hnv⟩ : ∃ nv, shortN y0 n false v = nv := ⟨_, rfl⟩
              have hnv2 : (if v < n then v else n) = nv := by rw [← hnv]; simp [shortN, h3]
              have V := Aside0.mk hnv
              clear hnv
              gi_wp2_with ((first | (refine ⟨trivial, ?_⟩) | skip); gi_at_call 79; refine inRoundS (CALL.out.mono ?_); rintro e' w9 ⟨rfl, hb9⟩; have g1 := blk_below Z.out.1 hb9; have g2 := blk_below Z.out.2.1 hb9; have g3 := blk_below Z.out.2.2.1 hb9; have p0 := (blk_cell g1 0).trans rfl; have p2 := (blk_cell g2 0).trans rfl; have p3 := (blk_cell g3 0).trans rfl; have r2 := blk_frozen g2 0; have r3 := blk_frozen g3 0; have g4 := blk_far g3 (p := ⟨w.heap.size + 2, 0, none⟩) (by simp) (.int .i64 nv); have r4 := blk_frozen g4 0; have p4 := (blk_cell g4 0).trans rfl; have GG := Aside0.mk (And.intro g1 (And.intro g2 (And.intro g3 hb9))); clear g1 g2 g3 g4 hb9)
              obtain ⟨g1, g2, g3, hb9⟩ := GG.out
              obtain ⟨_, _, _, hwk, a5⟩ := Z.out
              rw [V.out] at a5
              have hfin : ButS (fun k => k = w.heap.size + 2 ∨ k = w.heap.size + 3) W2 ((w9.setCell ⟨w.heap.size + 2, 0, none⟩ (.int .i64 nv)).setCell ⟨w.heap.size + 3, 0, none⟩ (.bool false)) := ((ButS.of_below hb9).setCell (.inl rfl) 0 _).setCell (.inr rfl) 0 _
              refine ⟨hfin, nv, false, ?_, ?_, ?_, ?_⟩
              · exact blk_far (blk_far g1 (p := ⟨w.heap.size + 2, 0, none⟩) (by simp) _) (p := ⟨w.heap.size + 3, 0, none⟩) (by simp) _
              · exact blk_far (by simpa using blk_set g2 0 (.int .i64 nv)) (p := ⟨w.heap.size + 3, 0, none⟩) (by simp) _
              · simpa using blk_set (blk_far g3 (p := ⟨w.heap.size + 2, 0, none⟩) (by simp) (.int .i64 nv)) 0 (.bool false)
              · intro rest hrest
                have : rest = post := by
                  have h9 := hwk.symm.trans hrest
                  simpa using h9.symm
                rw [this]
                exact a5
            · have h3b : (y0 == 3) = false := by simp [h3]
              by_cases h4 : y0 = 4
              · have h4b : (y0 == 4) = true := by simp [h4]
                obtain ⟨nv, hnv⟩ : ∃ nv, shortN y0 n false v = nv := ⟨_, rfl⟩
                have hnv2 : (if n < v then v else n) = nv := by rw [← hnv]; simp [shortN, h4]
                have V := Aside0.mk hnv
                clear hnv
                gi_wp2_with ((first | (refine ⟨trivial, ?_⟩) | skip); gi_at_call 79; refine inRoundS (CALL.out.mono ?_); rintro e' w9 ⟨rfl, hb9⟩; have g1 := blk_below Z.out.1 hb9; have g2 := blk_below Z.out.2.1 hb9; have g3 := blk_below Z.out.2.2.1 hb9; have p0 := (blk_cell g1 0).trans rfl; have p2 := (blk_cell g2 0).trans rfl; have p3 := (blk_cell g3 0).trans rfl; have r2 := blk_frozen g2 0; have r3 := blk_frozen g3 0; have g4 := blk_far g3 (p := ⟨w.heap.size + 2, 0, none⟩) (by simp) (.int .i64 nv); have r4 := blk_frozen g4 0; have p4 := (blk_cell g4 0).trans rfl; have GG := Aside0.mk (And.intro g1 (And.intro g2 (And.intro g3 hb9))); clear g1 g2 g3 g4 hb9)
                obtain ⟨g1, g2, g3, hb9⟩ := GG.out
                obtain ⟨_, _, _, hwk, a5⟩ := Z.out
                rw [V.out] at a5
                have hfin : ButS (fun k => k = w.heap.size + 2 ∨ k = w.heap.size + 3) W2 ((w9.setCell ⟨w.heap.size + 2, 0, none⟩ (.int .i64 nv)).setCell ⟨w.heap.size + 3, 0, none⟩ (.bool false)) := ((ButS.of_below hb9).setCell (.inl rfl) 0 _).setCell (.inr rfl) 0 _
                refine ⟨hfin, nv, false, ?_, ?_, ?_, ?_⟩
                · exact blk_far (blk_far g1 (p := ⟨w.heap.size + 2, 0, none⟩) (by simp) _) (p := ⟨w.heap.size + 3, 0, none⟩) (by simp) _
                · exact blk_far (by simpa using blk_set g2 0 (.int .i64 nv)) (p := ⟨w.heap.size + 3, 0, none⟩) (by simp) _
                · simpa using blk_set (blk_far g3 (p := ⟨w.heap.size + 2, 0, none⟩) (by simp) (.int .i64 nv)) 0 (.bool false)
                · intro rest hrest
                  have : rest = post := by
                    have h9 := hwk.symm.trans hrest
                    simpa using h9.symm
                  rw [this]
                  exact a5
              · have h4b : (y0 == 4) = false := by simp [h4]
                obtain ⟨nv, hnv⟩ : ∃ nv, shortN y0 n false v = nv := ⟨_, rfl⟩
                have hnv2 : wrap64 (n + v) = nv := by rw [← hnv]; simp [shortN, h3, h4]
                have V := Aside0.mk hnv
                clear hnv
                gi_wp2_with ((first | (refine ⟨trivial, ?_⟩) | skip); gi_at_call 79; refine inRoundS (CALL.out.mono ?_); rintro e' w9 ⟨rfl, hb9⟩; have g1 := blk_below Z.out.1 hb9; have g2 := blk_below Z.out.2.1 hb9; have g3 := blk_below Z.out.2.2.1 hb9; have p0 := (blk_cell g1 0).trans rfl; have p2 := (blk_cell g2 0).trans rfl; have p3 := (blk_cell g3 0).trans rfl; have r2 := blk_frozen g2 0; have r3 := blk_frozen g3 0; have g4 := blk_far g3 (p := ⟨w.heap.size + 2, 0, none⟩) (by simp) (.int .i64 nv); have r4 := blk_frozen g4 0; have p4 := (blk_cell g4 0).trans rfl; have GG := Aside0.mk (And.intro g1 (And.intro g2 (And.intro g3 hb9))); clear g1 g2 g3 g4 hb9)
                obtain ⟨g1, g2, g3, hb9⟩ := GG.out
                obtain ⟨_, _, _, hwk, a5⟩ := Z.out
                rw [V.out] at a5
                have hfin : ButS (fun k => k = w.heap.size + 2 ∨ k = w.heap.size + 3) W2 ((w9.setCell ⟨w.heap.size + 2, 0, none⟩ (.int .i64 nv)).setCell ⟨w.heap.size + 3, 0, none⟩ (.bool false)) := ((ButS.of_below hb9).setCell (.inl rfl) 0 _).setCell (.inr rfl) 0 _
                refine ⟨hfin, nv, false, ?_, ?_, ?_, ?_⟩
                · exact blk_far (blk_far g1 (p := ⟨w.heap.size + 2, 0, none⟩) (by simp) _) (p := ⟨w.heap.size + 3, 0, none⟩) (by simp) _
                · exact blk_far (by simpa using blk_set g2 0 (.int .i64 nv)) (p := ⟨w.heap.size + 3, 0, none⟩) (by simp) _
                · simpa using blk_set (blk_far g3 (p := ⟨w.heap.size + 2, 0, none⟩) (by simp) (.int .i64 nv)) 0 (.bool false)
                · intro rest hrest
                  have : rest = post := by
                    have h9 := hwk.symm.trans hrest
                    simpa using h9.symm
                  rw [this]
                  exact a5
        · rintro W ⟨n, fi, a1, a2, a3, a4⟩ _ hB h3
          have a5 := a4 [] (by simp)
          have hn : n = r := by simpa [shortL] using a5
          subst hn
          have c1 := (blk_cell a2 0).trans rfl
          dsimp only
          go_wp2
          refine leave_markS (.int .i64 n) h3 (by simp [results, Try.f79, go_sem]) ⟨rfl, ButS.below hB (Nat.le_refl _) (ButS.put1 _ _ _) fun k h => by omega⟩
      · cases h
    · cases h
end
end St
def sat_term_short.f (k : Nat) (l0_0 : List (S65)) (l0_1 : List (S139)) (a0_2 : Int) : Option (Int) := St.shortF k l0_0 a0_2
theorem sat_term_short.mono : ∀ a0 a1 a2 k, LeO (sat_term_short.f k a0 a1 a2) (sat_term_short.f (k + 1) a0 a1 a2) := by
  intro a0 a1 a2 k
  exact St.shortF_mono k a0 a2
theorem sat_term_short.calls (k : Nat) (A0_0 : Option Addr) (c0_0 : Nat) (l0_0 : List (S65)) (A0_1 : Option Addr) (c0_1 : Nat) (l0_1 : List (S139)) (a0_2 : Int) (r : Int) (w : World) (hr0_0 : Kd.C k65 w A0_0 l0_0.length l0_0) (hc0_0 : l0_0.length ≤ c0_0) (hr0_1 : Kd.C k139 w A0_1 l0_1.length l0_1) (hc0_1 : l0_1.length ≤ c0_1) (h : sat_term_short.f k l0_0 l0_1 a0_2 = some r) :
    Calls Try.prog 79 #[.agg #[.slice A0_0 l0_0.length c0_0, .slice A0_1 l0_1.length c0_1, .int .i64 a0_2]] w fun e w' => e = .returned (.int .i64 r) ∧ Below w.heap.size w w' :=
  St.shortW k A0_0 c0_0 l0_0 A0_1 l0_1.length c0_1 a0_2 r w hr0_0 hc0_0 h


end Go.Proofs.Ytkaokiiooakleaa.PStageParts
