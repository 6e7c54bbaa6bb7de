/- Words on rows of numbers that a function sorts in place. No condition. Sorting in place: the reversal of a range. Sorting in place: insertion. -/
import Derived.Test.YthibppfdonepoaaCLedgerRoomsXBut
import Derived.Sort.Statements
import Derived.IntWalk
import Derived.Test.YthibppfdonepoaaProg
import Derived.RegionTactic
import Derived.Outline
set_option linter.unusedVariables false
namespace Go.Proofs.Ythibppfdonepoaa.Srt
open Go.RowKit Go.Proofs.Ythibppfdonepoaa.XBut Go.Proofs.YthibppfdonepoaaW.PrintWords Go.Proofs.YthibppfdonepoaaW.PrintLast
/-- Block g holds the numbers d from its head on. -/
def Row (w : World) (g : Nat) (t : TypeId) (c : Nat) (d : Array Int) : Prop := ∃ cs : Array Value, cs.size = c ∧ w.heap[g]? = some (.cells cs t (0, 0)) ∧ d.size ≤ c ∧ ∀ j, j < d.size → cs[j]? = some (.int .u32 d[j]!)
theorem Row.lt {w : World} {g : Nat} {t : TypeId} {c : Nat} {d : Array Int} (h : Row w g t c d) : g < w.heap.size := by
  obtain ⟨cs, _, h1, _⟩ := h
  exact blk_lt h1
theorem Row.cell {w : World} {g : Nat} {t : TypeId} {c : Nat} {d : Array Int} (h : Row w g t c d) {j : Nat} (hj : j < d.size) : w.cell? ⟨g, j, none⟩ = some (.int .u32 d[j]!) := by
  obtain ⟨cs, _, h1, _, h2⟩ := h
  exact (blk_cell h1 j).trans (h2 j hj)
theorem Row.free {w : World} {g : Nat} {t : TypeId} {c : Nat} {d : Array Int} (h : Row w g t c d) (j : Nat) : w.frozen? ⟨g, j, none⟩ = false := by
  obtain ⟨cs, _, h1, _⟩ := h
  exact blk_frozen h1 j
theorem Row.but {w w' : World} {g : Nat} {t : TypeId} {c : Nat} {d : Array Int} {T : Nat → Prop} (h : Row w g t c d) (hb : But T w w') (hg : ¬ T g) : Row w' g t c d := by
  obtain ⟨cs, h0, h1, h2⟩ := h
  exact ⟨cs, h0, hb.heap h1 hg, h2⟩
theorem Row.drew {w : World} {g : Nat} {t : TypeId} {c : Nat} {d : Array Int} (h : Row w g t c d) : Row w.drew g t c d := h
theorem Row.set {w : World} {g : Nat} {t : TypeId} {c : Nat} {d : Array Int} (h : Row w g t c d) {j : Nat} (hj : j < d.size) (x : Int) : Row (w.setCell ⟨g, j, none⟩ (.int .u32 x)) g t c (d.setIfInBounds j x) := by
  obtain ⟨cs, h0, h1, h2, h3⟩ := h
  refine ⟨cs.setIfInBounds j (.int .u32 x), by simpa using h0, by simpa using blk_set h1 j (.int .u32 x), by simpa using h2, fun k hk => ?_⟩
  have hk' : k < d.size := by simpa using hk
  have hc : j < cs.size := by omega
  by_cases e : j = k
  · subst e
    rw [Array.getElem?_setIfInBounds_self_of_lt hc]
    simp [hj]
  · rw [Array.getElem?_setIfInBounds_ne e, h3 k hk']
    have : (d.setIfInBounds j x)[k]! = d[k]! := by
      rw [getElem!_pos _ k hk, getElem!_pos _ k hk', Array.getElem_setIfInBounds_ne hk' e]
    rw [this]
theorem Row.swp {w : World} {g : Nat} {t : TypeId} {c : Nat} {d : Array Int} (h : Row w g t c d) {i j : Nat} (hi : i < d.size) (hj : j < d.size) : Row ((w.setCell ⟨g, i, none⟩ (.int .u32 d[j]!)).setCell ⟨g, j, none⟩ (.int .u32 d[i]!)) g t c (Sort.swp d i j) :=
  (h.set hi _).set (by simpa using hj) _
theorem swp_comm (d : Array Int) (i j : Nat) (hi : i < d.size) (hj : j < d.size) : (d.setIfInBounds j d[i]!).setIfInBounds i d[j]! = Sort.swp d i j := by
  unfold Sort.swp
  by_cases e : i = j
  · subst e; rfl
  · exact Array.setIfInBounds_comm _ _ (fun h => e h.symm)
theorem Row.swp' {w : World} {g : Nat} {t : TypeId} {c : Nat} {d : Array Int} (h : Row w g t c d) {i j : Nat} (hi : i < d.size) (hj : j < d.size) : Row ((w.setCell ⟨g, j, none⟩ (.int .u32 d[i]!)).setCell ⟨g, i, none⟩ (.int .u32 d[j]!)) g t c (Sort.swp d i j) := by
  rw [← swp_comm d i j hi hj]
  exact (h.set hj _).set (by simpa using hi) _
theorem swp_size (d : Array Int) (i j : Nat) : (Sort.swp d i j).size = d.size := by simp [Sort.swp]
theorem But.two {g : Nat} (w : World) (i j : Nat) (x y : Value) : But (fun k => k = g) w ((w.setCell ⟨g, i, none⟩ x).setCell ⟨g, j, none⟩ y) := ((But.refl (fun k => k = g) w).setCell (b := g) rfl i x).setCell (b := g) rfl j y
theorem i64w {x : Int} (h : -9223372036854775808 ≤ x ∧ x ≤ 9223372036854775807) : IntKind.i64.wrap x = x := IntWalk.i64_in _ (by omega)
/-- A quiet call behind a quiet region. -/
theorem quiet2 {P : Program} {f : FuncId} {args : Array Value} {w : World} {a n : Nat} {v : Value} (h : Calls P f args (w.drewN (a + n)) fun e w' => e = .returned v ∧ w' = w.drewN (a + n)) :
    Calls P f args (w.drewN (a + n)) fun e w'' => e = .returned v ∧ ∃ m, w'' = w.drewN (a + m) := h.mono fun _ _ ⟨he, hm⟩ => ⟨he, n, hm⟩
/-- What a function that sorts in place leaves. -/
def Left (w : World) (g : Nat) (t : TypeId) (c : Nat) (d : Array Int) (e : Ending) (w' : World) : Prop := e = .returned (.tuple #[]) ∧ Row w' g t c d ∧ But (fun k => k = g) w w'
set_option maxHeartbeats 4000000 in
theorem isNaN (x : Int) (w : World) : Calls Try.prog 187 #[.int .u32 x] w fun e w' => e = .returned (.bool false) ∧ w' = w := by
  have h : (x != x) = false := by simp
  go_enter Try.func187, Try.ntmps187
  go_wp2
  go_ret
  exact ⟨rfl, rfl⟩
set_option maxHeartbeats 4000000 in
theorem less (x y : Int) (w : World) : Calls Try.prog 174 #[.int .u32 x, .int .u32 y] w fun e w' => e = .returned (.bool (Sort.ltInt x y)) ∧ w' = w := by
  obtain ⟨b, hb⟩ : ∃ b, decide (x < y) = b := ⟨_, rfl⟩
  have H := Aside0.mk hb
  have e : Sort.ltInt x y = b := hb
  rw [e]
  clear e
  cases b
  all_goals
    go_enter Try.func174, Try.ntmps174
    go_wp2_with (go_at_call 187; refine (isNaN _ _).mono ?_; rintro e w' ⟨rfl, rfl⟩)
    go_ret
    exact ⟨rfl, rfl⟩
theorem lessv {x y : Int} {l : Bool} (h : Sort.ltInt x y = l) (w : World) : Calls Try.prog 174 #[.int .u32 x, .int .u32 y] w fun e w' => e = .returned (.bool l) ∧ w' = w := by
  subst h
  exact less x y w
end Go.Proofs.Ythibppfdonepoaa.Srt
set_option linter.unusedVariables false
namespace Go.Proofs.Ythibppfdonepoaa.Srt
open Go.RowKit Go.Proofs.Ythibppfdonepoaa.XBut Go.Proofs.YthibppfdonepoaaW.PrintWords Go.Proofs.YthibppfdonepoaaW.PrintLast
set_option maxHeartbeats 4000000 in
theorem reverseRange (g : Nat) (t : TypeId) (c cap a b : Nat) (d : Array Int) (w : World) (hR : Row w g t c d) (hb : b ≤ d.size) (hb0 : 1 ≤ b) (hd : d.size ≤ 1152921504606846976) :
    Calls Try.prog 172 #[.slice (some ⟨g, 0, none⟩) d.size cap, .int .i64 a, .int .i64 b] w (Left w g t c (Sort.reverseRange d a b)) := by
  obtain ⟨R, hRR⟩ : ∃ R, Sort.reverseRange d a b = R := ⟨_, rfl⟩
  rw [hRR]
  obtain ⟨n, hn⟩ : ∃ n, d.size = n := ⟨_, rfl⟩
  rw [hn] at hb hd ⊢
  have FF := Aside0.mk (And.intro hRR (And.intro hn (And.intro hR hb)))
  clear hRR hn hR
  go_enter Try.func172, Try.ntmps172
  go_wp2
  obtain ⟨hRR, hn, hR, _⟩ := FF.out
  go_loopg [6, 7] (b - 1 + 1 - a) (fun kk v6 v7 wr => ∃ (i j : Nat) (e : Array Int), v6 = .int .i64 i ∧ v7 = .int .i64 j ∧ kk = j + 1 - i ∧ j < n ∧ e.size = n ∧ Row wr g t c e ∧ But (fun k => k = g) w wr ∧ Sort.reverseLoop i j e = R)
  case atStart => exact ⟨a, b - 1, d, rfl, by congr 1; omega, rfl, by omega, hn, hR, But.refl _ _, hRR⟩
  obtain ⟨i, j, e, rfl, rfl, rfl, hj, he, hE, hB, hrest⟩ := hrel
  by_cases hlt : i < j
  · have c1 := hE.cell (j := i) (by omega)
    have c2 := hE.cell (j := j) (by omega)
    have f1 := hE.free i
    have f2 := hE.free j
    rw [Sort.reverseLoop, if_pos hlt] at hrest
    have GG := Aside0.mk (And.intro hE (And.intro hB (And.intro hrest (And.intro he hRR))))
    clear hE hB hrest he hRR hR hn FF
    have b1 : (0 : Int) ≤ (i : Int) := by omega
    have b2 : (i : Int) < (n : Int) := by omega
    have b3 : (0 : Int) ≤ (j : Int) := by omega
    have b4 : (j : Int) < (n : Int) := by omega
    go_wp2
    go_region
    all_goals
      go_wp2
      go_roundg ((j - 1) + 1 - (i + 1))
      case measure => omega
      case rel =>
        obtain ⟨hE, hB, hrest, he, hRR⟩ := GG.out
        exact ⟨i + 1, j - 1, Sort.swp e i j, by go_num, by congr 1; omega, rfl, by omega, (swp_size _ _ _).trans he, (hE.swp (by omega) (by omega)).drew, (hB.trans (But.two _ _ _ _ _)).drew, hrest⟩
  · have hlt' : decide ((i : Int) < (j : Int)) = false := decide_eq_false (by omega)
    rw [Sort.reverseLoop, if_neg hlt] at hrest
    subst hrest
    have GG := Aside0.mk (And.intro hE (And.intro hB he))
    clear hE hB he hRR hR hn FF
    go_wp2
    go_end0
    exact ⟨rfl, GG.out.1, GG.out.2.1⟩
end Go.Proofs.Ythibppfdonepoaa.Srt
set_option linter.unusedVariables false
namespace Go.Proofs.Ythibppfdonepoaa.Srt
open Go.RowKit Go.Proofs.Ythibppfdonepoaa.XBut Go.Proofs.YthibppfdonepoaaW.PrintWords Go.Proofs.YthibppfdonepoaaW.PrintLast
theorem insInner_size (a : Nat) : ∀ (j : Nat) (d : Array Int), (Sort.insInner Sort.ltInt a j d).size = d.size
  | 0, d => rfl
  | j + 1, d => by
    unfold Sort.insInner
    split
    · rw [insInner_size a j, swp_size]
    · rfl
set_option maxHeartbeats 4000000 in
theorem insertionSort (g : Nat) (t : TypeId) (c cap a b : Nat) (d : Array Int) (w : World) (hR : Row w g t c d) (hb : b ≤ d.size) (hd : d.size ≤ 1152921504606846976) (ha : a ≤ b) :
    Calls Try.prog 168 #[.slice (some ⟨g, 0, none⟩) d.size cap, .int .i64 a, .int .i64 b] w (Left w g t c (Sort.insertionSort Sort.ltInt d a b)) := by
  obtain ⟨R, hRR⟩ : ∃ R, Sort.insertionSort Sort.ltInt d a b = R := ⟨_, rfl⟩
  rw [hRR]
  obtain ⟨n, hn⟩ : ∃ n, d.size = n := ⟨_, rfl⟩
  rw [hn] at hb hd ⊢
  have FF := Aside0.mk (And.intro hRR (And.intro hn (And.intro hR hb)))
  clear hRR hn hR
  go_enter Try.func168, Try.ntmps168
  go_wp2
  obtain ⟨hRR, hn, hR, _⟩ := FF.out
  go_loopg [6, 7] (b - (a + 1)) (fun kk v6 v7 wr => ∃ (i : Nat) (e : Array Int), v6 = .int .i64 i ∧ kk = b - i ∧ a < i ∧ i ≤ b + 1 ∧ e.size = n ∧ Row wr g t c e ∧ But (fun k => k = g) w wr ∧ Sort.insOuter Sort.ltInt a b i e = R)
  case atStart => exact ⟨a + 1, d, by go_num, rfl, by omega, by omega, hn, hR, But.refl _ _, hRR⟩
  obtain ⟨i, e, rfl, rfl, ha1, hi1, he, hE, hB, hrest⟩ := hrel
  clear hRR hn hR
  by_cases hlt : i < b
  · rw [Sort.insOuter, if_pos hlt] at hrest
    obtain ⟨R1, hR1⟩ : ∃ R1, Sort.insInner Sort.ltInt a i e = R1 := ⟨_, rfl⟩
    have hs1 := insInner_size a i e
    rw [hR1] at hrest hs1
    have GG := Aside0.mk (And.intro hE (And.intro hB (And.intro hrest (And.intro he (And.intro hR1 hs1)))))
    clear hE hB hrest he hR1 hs1 FF
    go_wp2
    obtain ⟨hE, hB, hrest, he, hR1, hs1⟩ := GG.out
    obtain ⟨wo, hwo⟩ : ∃ wo : World, wo = wr := ⟨_, rfl⟩
    rw [← hwo] at GG
    clear hwo
    go_loopg [7] i (fun kk v7 wr => ∃ (j : Nat) (f : Array Int), v7 = .int .i64 j ∧ j = kk ∧ j ≤ i ∧ f.size = n ∧ Row wr g t c f ∧ But (fun k => k = g) w wr ∧ Sort.insInner Sort.ltInt a j f = R1)
    case atStart => exact ⟨i, e, rfl, rfl, Nat.le_refl _, he, hE, hB, hR1⟩
    obtain ⟨j, f, rfl, rfl, hj, hf, hF, hBf, hin⟩ := hrel
    clear hE hB hrest he hR1 hs1
    by_cases hja : a < j
    · obtain ⟨m, rfl⟩ : ∃ m, j = m + 1 := ⟨j - 1, by omega⟩
      have c1 := hF.cell (j := m + 1) (by omega)
      have c2 := hF.cell (j := m) (by omega)
      have f1 := hF.free (m + 1)
      have f2 := hF.free m
      have b1 : (0 : Int) ≤ (m : Int) := by omega
      have b2 : (m : Int) < (n : Int) := by omega
      have b3 : (0 : Int) ≤ (m : Int) + 1 := by omega
      have b4 : (m : Int) + 1 < (n : Int) := by omega
      have hgt : decide ((a : Int) < (m : Int) + 1) = true := decide_eq_true (by omega)
      rw [Sort.insInner] at hin
      by_cases hl : Sort.ltInt f[m + 1]! f[m]! = true
      · rw [if_pos (by simp only [hl, Bool.and_true]; exact decide_eq_true hja)] at hin
        have HH := Aside0.mk (And.intro hF (And.intro hBf (And.intro hin hf)))
        clear hF hBf hin hf
        go_wp2
        go_quiet ((go_at_call 174; exact Calls.quiet_of_same (less _ _ _)))
        go_wp2
        go_region
        all_goals
          go_wp2
          go_roundg m
          case measure => omega
          case rel =>
            obtain ⟨hF, hBf, hin, hf⟩ := HH.out
            exact ⟨m, Sort.swp f (m + 1) m, by go_num, rfl, by omega, (swp_size _ _ _).trans hf, (Row.swp (w := wr.drewN nq) hF (by omega) (by omega)).drew, ((hBf.drewN nq).trans (But.two _ _ _ _ _)).drew, hin⟩
      · have hl' : Sort.ltInt f[m + 1]! f[m]! = false := by simpa using hl
        rw [if_neg (by simp [hl'])] at hin
        have HH := Aside0.mk (And.intro hF (And.intro hBf (And.intro hin hf)))
        clear hF hBf hin hf hl
        go_wp2
        go_quiet ((go_at_call 174; exact Calls.quiet_of_same (less _ _ _)))
        go_wp2
        go_roundg (b - (i + 1))
        case measure => omega
        case rel =>
          obtain ⟨hF, hBf, hin, hf⟩ := HH.out
          obtain ⟨_, _, hrest, _⟩ := GG.out
          exact ⟨i + 1, f, by go_num, rfl, by omega, by omega, hf, hF, hBf.drewN nq, by rw [hin]; exact hrest⟩
    · have hgt : decide ((a : Int) < (j : Int)) = false := decide_eq_false (by omega)
      have hin' : f = R1 := by
        rw [← hin]
        cases j with
        | zero => rfl
        | succ m =>
          rw [Sort.insInner, if_neg]
          simp only [Bool.and_eq_true, decide_eq_true_eq, not_and]
          omega
      have HH := Aside0.mk (And.intro hF (And.intro hBf (And.intro hin' hf)))
      clear hF hBf hin hin' hf
      go_wp2
      go_quiet (fail)
      go_wp2
      go_roundg (b - (i + 1))
      case measure => omega
      case rel =>
        obtain ⟨hF, hBf, hin, hf⟩ := HH.out
        obtain ⟨_, _, hrest, _⟩ := GG.out
        exact ⟨i + 1, f, by go_num, rfl, by omega, by omega, hf, hF, hBf.drewN nq, by rw [hin]; exact hrest⟩
  · have hlt' : decide ((i : Int) < (b : Int)) = false := decide_eq_false (by omega)
    rw [Sort.insOuter, if_neg hlt] at hrest
    subst hrest
    have GG := Aside0.mk (And.intro hE hB)
    clear hE hB he FF
    go_wp2
    go_end0
    exact ⟨rfl, GG.out.1, GG.out.2⟩
end Go.Proofs.Ythibppfdonepoaa.Srt
