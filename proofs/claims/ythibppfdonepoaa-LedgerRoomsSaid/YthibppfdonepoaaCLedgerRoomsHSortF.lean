/- Sorting in place: the choice of a pivot. -/
import Derived.Test.YthibppfdonepoaaCLedgerRoomsHSortB
import Derived.RegionTactic
import Derived.Deep.DeepCutAuto
import Derived.Outline
set_option linter.unusedVariables false
namespace Go.Proofs.Ythibppfdonepoaa.Srt
open Go.RowKit Go.Proofs.Ythibppfdonepoaa.XBut Go.Proofs.YthibppfdonepoaaW.PrintWords Go.Proofs.YthibppfdonepoaaW.PrintLast
/-- What a function leaves that counts at block gs. -/
def Counts (gs : Nat) (w w' : World) : Prop := (∃ s' : Int, w'.heap[gs]? = some (.cells #[.int .i64 s'] 3 (0, 0))) ∧ But (fun k => k = gs) w w'
theorem Counts.trans {gs : Nat} {w1 w2 w3 : World} (h : Counts gs w1 w2) (k : Counts gs w2 w3) : Counts gs w1 w3 := ⟨k.1, h.2.trans k.2⟩
theorem Counts.set {gs : Nat} {w : World} {s : Int} (hs : w.heap[gs]? = some (.cells #[.int .i64 s] 3 (0, 0))) (n : Nat) (s' : Int) : Counts gs w ((w.drewN n).setCell ⟨gs, 0, none⟩ (.int .i64 s')) :=
  ⟨⟨s', by simpa using blk_set (w := w.drewN n) (g := gs) hs 0 (.int .i64 s')⟩, ((But.refl (fun k => k = gs) w).drewN n).setCell (b := gs) rfl 0 _⟩
def Two (gs a b : Nat) (w : World) (e : Ending) (w' : World) : Prop := ∃ x y : Nat, ((x = a ∧ y = b) ∨ (x = b ∧ y = a)) ∧ e = .returned (.tuple #[.int .i64 x, .int .i64 y]) ∧ Counts gs w w'
set_option maxHeartbeats 4000000 in
theorem order2 (g gs : Nat) (t : TypeId) (c cap a b n : Nat) (s : Int) (d : Array Int) (w : World) (hn : d.size = n) (hR : Row w g t c d) (hs : w.heap[gs]? = some (.cells #[.int .i64 s] 3 (0, 0))) (ha : a < n) (hb : b < n) (hd : n ≤ 1152921504606846976) :
    Calls Try.prog 190 #[.slice (some ⟨g, 0, none⟩) n cap, .int .i64 a, .int .i64 b, .pointer (some ⟨gs, 0, none⟩)] w (Two gs a b w) := by
  have c1 := hR.cell (j := b) (by omega)
  have c2 := hR.cell (j := a) (by omega)
  have c3 := (blk_cell hs 0).trans rfl
  have f3 := blk_frozen hs 0
  have b1 : (0 : Int) ≤ (b : Int) := by omega
  have b2 : (b : Int) < (n : Int) := by omega
  have b3 : (0 : Int) ≤ (a : Int) := by omega
  have b4 : (a : Int) < (n : Int) := by omega
  obtain ⟨y1, hy1⟩ : ∃ y, d[b]! = y := ⟨_, rfl⟩
  obtain ⟨y2, hy2⟩ : ∃ y, d[a]! = y := ⟨_, rfl⟩
  rw [hy1] at c1
  rw [hy2] at c2
  obtain ⟨l, hl⟩ : ∃ l, Sort.ltInt y1 y2 = l := ⟨_, rfl⟩
  have HS := Aside0.mk hs
  have HL := Aside0.mk hl
  clear hy1 hy2 hR hn hs hl
  cases l with
  | true =>
    go_enter Try.func190, Try.ntmps190
    go_wp2
    go_quiet ((go_at_call 174; exact Calls.quiet_of_same (lessv HL.out _)))
    go_wp2
    go_ret2
    exact ⟨b, a, .inr ⟨rfl, rfl⟩, rfl, Counts.set HS.out nq _⟩
  | false =>
    go_enter Try.func190, Try.ntmps190
    go_wp2
    go_quiet ((go_at_call 174; exact Calls.quiet_of_same (lessv HL.out _)))
    go_wp2
    go_ret2
    exact ⟨a, b, .inl ⟨rfl, rfl⟩, rfl, ⟨s, HS.out⟩, (But.refl _ w).drewN nq⟩
def One (gs lo hi : Nat) (w : World) (e : Ending) (w' : World) : Prop := ∃ x : Nat, lo ≤ x ∧ x ≤ hi ∧ e = .returned (.int .i64 x) ∧ Counts gs w w'
set_option maxHeartbeats 4000000 in
theorem median (g gs : Nat) (t : TypeId) (c cap i j k n lo hi : Nat) (s : Int) (d : Array Int) (w : World) (hn : d.size = n) (hR : Row w g t c d) (hs : w.heap[gs]? = some (.cells #[.int .i64 s] 3 (0, 0))) (hne : g ≠ gs) (h1 : lo ≤ i ∧ i ≤ hi) (h2 : lo ≤ j ∧ j ≤ hi) (h3 : lo ≤ k ∧ k ≤ hi) (hh : hi < n) (hd : n ≤ 1152921504606846976) :
    Calls Try.prog 186 #[.slice (some ⟨g, 0, none⟩) n cap, .int .i64 i, .int .i64 j, .int .i64 k, .pointer (some ⟨gs, 0, none⟩)] w (One gs lo hi w) := by
  have HS := Aside0.mk (And.intro hs (And.intro hR (And.intro hn hne)))
  clear hs hR hn hne
  go_enter Try.func186, Try.ntmps186
  go_wp2_with fail
  refine (order2 g gs t c cap i j n s d w HS.out.2.2.1 HS.out.2.1 HS.out.1 (by omega) (by omega) hd).mono ?_
  rintro e w1 ⟨x1, y1, hxy1, rfl, hc1⟩
  have hx1 : lo ≤ x1 ∧ x1 ≤ hi ∧ lo ≤ y1 ∧ y1 ≤ hi := by omega
  have H1 := Aside0.mk hc1
  clear hxy1 hc1
  go_wp2_with fail
  obtain ⟨s1, hs1⟩ := H1.out.1
  refine (order2 g gs t c cap y1 k n s1 d w1 HS.out.2.2.1 (HS.out.2.1.but H1.out.2 HS.out.2.2.2) hs1 (by omega) (by omega) hd).mono ?_
  rintro e w2 ⟨x2, y2, hxy2, rfl, hc2⟩
  have hx2 : lo ≤ x2 ∧ x2 ≤ hi ∧ lo ≤ y2 ∧ y2 ≤ hi := by omega
  have H2 := Aside0.mk (H1.out.trans hc2)
  clear hxy2 hc2 hs1 H1
  go_wp2_with fail
  obtain ⟨s2, hs2⟩ := H2.out.1
  refine (order2 g gs t c cap x1 x2 n s2 d w2 HS.out.2.2.1 (HS.out.2.1.but H2.out.2 HS.out.2.2.2) hs2 (by omega) (by omega) hd).mono ?_
  rintro e w3 ⟨x3, y3, hxy3, rfl, hc3⟩
  have hx3 : lo ≤ y3 ∧ y3 ≤ hi := by omega
  have H3 := Aside0.mk (H2.out.trans hc3)
  clear hxy3 hc3 hs2 H2
  go_wp2
  go_ret
  exact ⟨y3, hx3.1, hx3.2, rfl, H3.out⟩
set_option maxHeartbeats 4000000 in
theorem medianAdjacent (g gs : Nat) (t : TypeId) (c cap i n lo hi : Nat) (s : Int) (d : Array Int) (w : World) (hn : d.size = n) (hR : Row w g t c d) (hs : w.heap[gs]? = some (.cells #[.int .i64 s] 3 (0, 0))) (hne : g ≠ gs) (h1 : lo + 1 ≤ i ∧ i + 1 ≤ hi) (hh : hi < n) (hd : n ≤ 1152921504606846976) :
    Calls Try.prog 185 #[.slice (some ⟨g, 0, none⟩) n cap, .int .i64 i, .pointer (some ⟨gs, 0, none⟩)] w (One gs lo hi w) := by
  obtain ⟨i0, hi0⟩ : ∃ i0, i0 = i - 1 := ⟨_, rfl⟩
  obtain ⟨i1, hi1⟩ : ∃ i1, i1 = i + 1 := ⟨_, rfl⟩
  have e0 : (i : Int) - 1 = (i0 : Int) := by omega
  have e1 : (i : Int) + 1 = (i1 : Int) := by omega
  have hh2 : lo ≤ i0 ∧ i0 ≤ hi ∧ lo ≤ i1 ∧ i1 ≤ hi := by omega
  have HS := Aside0.mk (And.intro hs (And.intro hR (And.intro hn hne)))
  clear hs hR hn hne hi0 hi1
  go_enter Try.func185, Try.ntmps185
  go_wp2_with fail
  refine (median g gs t c cap i0 i i1 n lo hi s d w HS.out.2.2.1 HS.out.2.1 HS.out.1 HS.out.2.2.2 (by omega) (by omega) (by omega) hh hd).mono ?_
  rintro e w1 ⟨x, q1, q2, rfl, hc⟩
  have HC := Aside0.mk hc
  clear hc
  go_wp2
  go_ret
  exact ⟨x, q1, q2, rfl, HC.out⟩
/-- The world is as it was, but for new blocks. -/
abbrev New (w w' : World) : Prop := But (fun _ => False) w w'
theorem Counts.new {w : World} {o : Obj} {w' : World} (h : But (fun k => k = w.heap.size) (w.alloc o) w') : New w w' :=
  ⟨h.os, h.tape, h.output, Nat.le_trans (by simp) h.size, fun k hk _ => (h.block k (by simp; omega) (by omega)).trans (Below.heap_alloc _ _ _ (by omega))⟩
def Pivot (a b : Nat) (w : World) (e : Ending) (w' : World) : Prop := ∃ (p : Nat) (h : Int), a ≤ p ∧ p < b ∧ (h = 0 ∨ h = 1 ∨ h = 2) ∧ e = .returned (.tuple #[.int .i64 p, .int .i64 h]) ∧ New w w'
set_option maxHeartbeats 16000000 in
theorem choosePivot (g : Nat) (t : TypeId) (c cap a b n : Nat) (d : Array Int) (w : World) (hn : d.size = n) (hR : Row w g t c d) (hab : a < b) (hb : b ≤ n) (hd : n ≤ 1152921504606846976) :
    Calls Try.prog 171 #[.slice (some ⟨g, 0, none⟩) n cap, .int .i64 a, .int .i64 b] w (Pivot a b w) := by
  obtain ⟨l, hl⟩ : ∃ l, l = b - a := ⟨_, rfl⟩
  obtain ⟨q, hq⟩ : ∃ q, q = l / 4 := ⟨_, rfl⟩
  obtain ⟨i, hi⟩ : ∃ i, i = a + q := ⟨_, rfl⟩
  obtain ⟨j, hj⟩ : ∃ j, j = a + q * 2 := ⟨_, rfl⟩
  obtain ⟨k, hk⟩ : ∃ k, k = a + q * 3 := ⟨_, rfl⟩
  have e0 : (b : Int) - (a : Int) = (l : Int) := by omega
  have e1 : (l : Int) / 4 = (q : Int) := by omega
  have e2 : (a : Int) + (q : Int) = (i : Int) := by omega
  have e3 : (a : Int) + (q : Int) * 2 = (j : Int) := by omega
  have e4 : (a : Int) + (q : Int) * 3 = (k : Int) := by omega
  have hI : a ≤ i ∧ i ≤ j ∧ j ≤ k ∧ k ≤ b - 1 ∧ a ≤ j ∧ j < b ∧ (8 ≤ l → a + 2 ≤ i) ∧ (50 ≤ l → a + 1 ≤ i ∧ k + 1 ≤ b - 1) ∧ l ≤ n := by omega
  have hg : g < w.heap.size := hR.lt
  have HS := Aside0.mk (And.intro hR (And.intro hn (And.intro hg hI)))
  obtain ⟨q1, hq1⟩ : ∃ z, decide ((8 : Int) ≤ (l : Int)) = z := ⟨_, rfl⟩
  obtain ⟨q2, hq2⟩ : ∃ z, decide ((50 : Int) ≤ (l : Int)) = z := ⟨_, rfl⟩
  have HQ := Aside0.mk (And.intro hq1 hq2)
  have hln : l ≤ n := hI.2.2.2.2.2.2.2.2
  have hqn : (0 : Int) ≤ (q : Int) := by omega
  have hqm : (q : Int) ≤ 1152921504606846976 := by omega
  clear hR hn hg hI hl hq hi hj hk
  go_enter Try.func171, Try.ntmps171
  go_upto_if 32 with (fail)
  go_cut [11] (fun s wx => ∃ p : Nat, s = .int .i64 p ∧ a ≤ p ∧ p < b ∧ Counts w.heap.size (w.alloc (.cells #[.int .i64 0] 3)) wx)
  case first =>
    have hK : Counts w.heap.size (w.alloc (.cells #[.int .i64 0] 3)) (w.alloc (.cells #[.int .i64 0] 3)) := ⟨⟨0, blk_new _ _⟩, But.refl _ _⟩
    have hN : New w (w.alloc (.cells #[.int .i64 0] 3)) := Counts.new (But.refl _ _)
    obtain ⟨hR, hn, hg, hI⟩ := HS.out
    have hR0 := hR.but hN (fun h => h)
    have HR := Aside0.mk (And.intro hR0 (And.intro hK (And.intro hn (And.intro hg hI))))
    clear hR hn hg hI hR0 hK hN
    cases q1
    case false =>
      go_wp2_with fail
      go_meet
      obtain ⟨hR0, hK, hn, hg, hI⟩ := HR.out
      exact ⟨j, rfl, by omega, by omega, hK⟩
    case true =>
      have h8 : 8 ≤ l := by have := of_decide_eq_true HQ.out.1; omega
      cases q2
      case false =>
        go_wp2_with fail
        obtain ⟨hR0, hK, hn, hg, hI⟩ := HR.out
        obtain ⟨s, hs⟩ := hK.1
        refine (median g w.heap.size t c cap i j k n a (b - 1) s d _ hn hR0 hs (by omega) (by omega) (by omega) (by omega) (by omega) hd).mono ?_
        rintro e w1 ⟨x, q3, q4, rfl, hc⟩
        have HC := Aside0.mk (hK.trans hc)
        clear hR0 hK hn hI hs hc
        go_wp2_with fail
        go_meet
        exact ⟨x, rfl, q3, by omega, HC.out⟩
      case true =>
        have h50 : 50 ≤ l := by have := of_decide_eq_true HQ.out.2; omega
        go_wp2_with fail
        obtain ⟨hR0, hK, hn, hg, hI⟩ := HR.out
        obtain ⟨s, hs⟩ := hK.1
        refine (medianAdjacent g w.heap.size t c cap i n a (b - 1) s d _ hn hR0 hs (by omega) (by omega) (by omega) hd).mono ?_
        rintro e w1 ⟨x1, q3, q4, rfl, hc⟩
        have HC := Aside0.mk (hK.trans hc)
        clear hR0 hK hn hI hs hc
        go_wp2_with fail
        obtain ⟨hR0, _, hn, _, hI⟩ := HR.out
        obtain ⟨s, hs⟩ := HC.out.1
        refine (medianAdjacent g w.heap.size t c cap j n a (b - 1) s d _ hn (hR0.but HC.out.2 (by omega)) hs (by omega) (by omega) (by omega) hd).mono ?_
        rintro e w2 ⟨x2, q5, q6, rfl, hc⟩
        have HC2 := Aside0.mk (HC.out.trans hc)
        clear hR0 hn hI hs hc HC
        go_wp2_with fail
        obtain ⟨hR0, _, hn, _, hI⟩ := HR.out
        obtain ⟨s, hs⟩ := HC2.out.1
        refine (medianAdjacent g w.heap.size t c cap k n a (b - 1) s d _ hn (hR0.but HC2.out.2 (by omega)) hs (by omega) (by omega) (by omega) hd).mono ?_
        rintro e w3 ⟨x3, q7, q8, rfl, hc⟩
        have HC3 := Aside0.mk (HC2.out.trans hc)
        clear hR0 hn hI hs hc HC2
        go_wp2_with fail
        obtain ⟨hR0, _, hn, _, hI⟩ := HR.out
        obtain ⟨s, hs⟩ := HC3.out.1
        refine (median g w.heap.size t c cap x1 x2 x3 n a (b - 1) s d _ hn (hR0.but HC3.out.2 (by omega)) hs (by omega) (by omega) (by omega) (by omega) (by omega) hd).mono ?_
        rintro e w4 ⟨x4, q9, q10, rfl, hc⟩
        have HC4 := Aside0.mk (HC3.out.trans hc)
        clear hR0 hn hI hs hc HC3
        go_wp2_with fail
        go_meet
        exact ⟨x4, rfl, q9, by omega, HC4.out⟩
  case rest =>
    obtain ⟨p, rfl, hp1, hp2, hC⟩ := hcut
    obtain ⟨⟨s, hs⟩, hB⟩ := hC
    have c1 := (blk_cell hs 0).trans rfl
    have HB := Aside0.mk (Counts.new hB)
    clear hs hB HQ HS
    by_cases h0 : s = 0
    · have hs0 : (s == 0) = true := by simp [h0]
      clear h0
      go_wp2
      go_ret2
      exact ⟨p, 1, hp1, hp2, by omega, rfl, HB.out⟩
    · have hs0 : (s == 0) = false := by simp [h0]
      by_cases h12 : s = 12
      · have hs12 : (s == 12) = true := by simp [h12]
        clear h0 h12
        go_wp2
        go_ret2
        exact ⟨p, 2, hp1, hp2, by omega, rfl, HB.out⟩
      · have hs12 : (s == 12) = false := by simp [h12]
        clear h0 h12
        go_wp2
        go_ret2
        exact ⟨p, 0, hp1, hp2, by omega, rfl, HB.out⟩
end Go.Proofs.Ythibppfdonepoaa.Srt
