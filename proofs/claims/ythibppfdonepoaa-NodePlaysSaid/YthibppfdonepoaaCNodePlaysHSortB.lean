/- Sorting in place: insertion. -/
import Derived.Test.YthibppfdonepoaaCNodePlaysHSortW
import Derived.RegionTactic
import Derived.Outline
set_option linter.unusedVariables false
namespace Go.Proofs.Ythibppfdonepoaa.Srt
open Go.RowKit Go.Proofs.Ythibppfdonepoaa.XBut Go.Proofs.YthibppfdonepoaaW.PrintWords Go.Proofs.YthibppfdonepoaaW.PrintLast
theorem insInner_size (a : Nat) : ∀ (j : Nat) (d : Array Int), (Sort.insInner Sort.ltInt a j d).size = d.size
  | 0, d => rfl
  | j + 1, d => by
    unfold Sort.insInner
    split
    · rw [insInner_size a j, swp_size]
    · rfl
set_option maxHeartbeats 4000000 in
theorem insertionSort (g : Nat) (t : TypeId) (c cap a b : Nat) (d : Array Int) (w : World) (hR : Row w g t c d) (hb : b ≤ d.size) (hd : d.size ≤ 1152921504606846976) (ha : a ≤ b) :
    Calls Try.prog 168 #[.slice (some ⟨g, 0, none⟩) d.size cap, .int .i64 a, .int .i64 b] w (Left w g t c (Sort.insertionSort Sort.ltInt d a b)) := by
  obtain ⟨R, hRR⟩ : ∃ R, Sort.insertionSort Sort.ltInt d a b = R := ⟨_, rfl⟩
  rw [hRR]
  obtain ⟨n, hn⟩ : ∃ n, d.size = n := ⟨_, rfl⟩
  rw [hn] at hb hd ⊢
  have FF := Aside0.mk (And.intro hRR (And.intro hn (And.intro hR hb)))
  clear hRR hn hR
  go_enter Try.func168, Try.ntmps168
  go_wp2
  obtain ⟨hRR, hn, hR, _⟩ := FF.out
  go_loopg [6, 7] (b - (a + 1)) (fun kk v6 v7 wr => ∃ (i : Nat) (e : Array Int), v6 = .int .i64 i ∧ kk = b - i ∧ a < i ∧ i ≤ b + 1 ∧ e.size = n ∧ Row wr g t c e ∧ But (fun k => k = g) w wr ∧ Sort.insOuter Sort.ltInt a b i e = R)
  case atStart => exact ⟨a + 1, d, by go_num, rfl, by omega, by omega, hn, hR, But.refl _ _, hRR⟩
  obtain ⟨i, e, rfl, rfl, ha1, hi1, he, hE, hB, hrest⟩ := hrel
  clear hRR hn hR
  by_cases hlt : i < b
  · rw [Sort.insOuter, if_pos hlt] at hrest
    obtain ⟨R1, hR1⟩ : ∃ R1, Sort.insInner Sort.ltInt a i e = R1 := ⟨_, rfl⟩
    have hs1 := insInner_size a i e
    rw [hR1] at hrest hs1
    have GG := Aside0.mk (And.intro hE (And.intro hB (And.intro hrest (And.intro he (And.intro hR1 hs1)))))
    clear hE hB hrest he hR1 hs1 FF
    go_wp2
    obtain ⟨hE, hB, hrest, he, hR1, hs1⟩ := GG.out
    obtain ⟨wo, hwo⟩ : ∃ wo : World, wo = wr := ⟨_, rfl⟩
    rw [← hwo] at GG
    clear hwo
    go_loopg [7] i (fun kk v7 wr => ∃ (j : Nat) (f : Array Int), v7 = .int .i64 j ∧ j = kk ∧ j ≤ i ∧ f.size = n ∧ Row wr g t c f ∧ But (fun k => k = g) w wr ∧ Sort.insInner Sort.ltInt a j f = R1)
    case atStart => exact ⟨i, e, rfl, rfl, Nat.le_refl _, he, hE, hB, hR1⟩
    obtain ⟨j, f, rfl, rfl, hj, hf, hF, hBf, hin⟩ := hrel
    clear hE hB hrest he hR1 hs1
    by_cases hja : a < j
    · obtain ⟨m, rfl⟩ : ∃ m, j = m + 1 := ⟨j - 1, by omega⟩
      have c1 := hF.cell (j := m + 1) (by omega)
      have c2 := hF.cell (j := m) (by omega)
      have f1 := hF.free (m + 1)
      have f2 := hF.free m
      have b1 : (0 : Int) ≤ (m : Int) := by omega
      have b2 : (m : Int) < (n : Int) := by omega
      have b3 : (0 : Int) ≤ (m : Int) + 1 := by omega
      have b4 : (m : Int) + 1 < (n : Int) := by omega
      have hgt : decide ((a : Int) < (m : Int) + 1) = true := decide_eq_true (by omega)
      rw [Sort.insInner] at hin
      by_cases hl : Sort.ltInt f[m + 1]! f[m]! = true
      · rw [if_pos (by simp only [hl, Bool.and_true]; exact decide_eq_true hja)] at hin
        have HH := Aside0.mk (And.intro hF (And.intro hBf (And.intro hin hf)))
        clear hF hBf hin hf
        go_wp2
        go_quiet ((go_at_call 174; exact Calls.quiet_of_same (less _ _ _)))
        go_wp2
        go_region
        all_goals
          go_wp2
          go_roundg m
          case measure => omega
          case rel =>
            obtain ⟨hF, hBf, hin, hf⟩ := HH.out
            exact ⟨m, Sort.swp f (m + 1) m, by go_num, rfl, by omega, (swp_size _ _ _).trans hf, (Row.swp (w := wr.drewN nq) hF (by omega) (by omega)).drew, ((hBf.drewN nq).trans (But.two _ _ _ _ _)).drew, hin⟩
      · have hl' : Sort.ltInt f[m + 1]! f[m]! = false := by simpa using hl
        rw [if_neg (by simp [hl'])] at hin
        have HH := Aside0.mk (And.intro hF (And.intro hBf (And.intro hin hf)))
        clear hF hBf hin hf hl
        go_wp2
        go_quiet ((go_at_call 174; exact Calls.quiet_of_same (less _ _ _)))
        go_wp2
        go_roundg (b - (i + 1))
        case measure => omega
        case rel =>
          obtain ⟨hF, hBf, hin, hf⟩ := HH.out
          obtain ⟨_, _, hrest, _⟩ := GG.out
          exact ⟨i + 1, f, by go_num, rfl, by omega, by omega, hf, hF, hBf.drewN nq, by rw [hin]; exact hrest⟩
    · have hgt : decide ((a : Int) < (j : Int)) = false := decide_eq_false (by omega)
      have hin' : f = R1 := by
        rw [← hin]
        cases j with
        | zero => rfl
        | succ m =>
          rw [Sort.insInner, if_neg]
          simp only [Bool.and_eq_true, decide_eq_true_eq, not_and]
          omega
      have HH := Aside0.mk (And.intro hF (And.intro hBf (And.intro hin' hf)))
      clear hF hBf hin hin' hf
      go_wp2
      go_quiet (fail)
      go_wp2
      go_roundg (b - (i + 1))
      case measure => omega
      case rel =>
        obtain ⟨hF, hBf, hin, hf⟩ := HH.out
        obtain ⟨_, _, hrest, _⟩ := GG.out
        exact ⟨i + 1, f, by go_num, rfl, by omega, by omega, hf, hF, hBf.drewN nq, by rw [hin]; exact hrest⟩
  · have hlt' : decide ((i : Int) < (b : Int)) = false := decide_eq_false (by omega)
    rw [Sort.insOuter, if_neg hlt] at hrest
    subst hrest
    have GG := Aside0.mk (And.intro hE hB)
    clear hE hB he FF
    go_wp2
    go_end0
    exact ⟨rfl, GG.out.1, GG.out.2⟩
end Go.Proofs.Ythibppfdonepoaa.Srt
