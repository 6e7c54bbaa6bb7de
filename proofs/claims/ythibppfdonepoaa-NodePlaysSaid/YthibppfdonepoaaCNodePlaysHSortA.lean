/- Sorting in place: the reversal of a range. -/
import Derived.Test.YthibppfdonepoaaCNodePlaysHSortW
import Derived.RegionTactic
import Derived.Outline
set_option linter.unusedVariables false
namespace Go.Proofs.Ythibppfdonepoaa.Srt
open Go.RowKit Go.Proofs.Ythibppfdonepoaa.XBut Go.Proofs.YthibppfdonepoaaW.PrintWords Go.Proofs.YthibppfdonepoaaW.PrintLast
set_option maxHeartbeats 4000000 in
theorem reverseRange (g : Nat) (t : TypeId) (c cap a b : Nat) (d : Array Int) (w : World) (hR : Row w g t c d) (hb : b ≤ d.size) (hb0 : 1 ≤ b) (hd : d.size ≤ 1152921504606846976) :
    Calls Try.prog 172 #[.slice (some ⟨g, 0, none⟩) d.size cap, .int .i64 a, .int .i64 b] w (Left w g t c (Sort.reverseRange d a b)) := by
  obtain ⟨R, hRR⟩ : ∃ R, Sort.reverseRange d a b = R := ⟨_, rfl⟩
  rw [hRR]
  obtain ⟨n, hn⟩ : ∃ n, d.size = n := ⟨_, rfl⟩
  rw [hn] at hb hd ⊢
  have FF := Aside0.mk (And.intro hRR (And.intro hn (And.intro hR hb)))
  clear hRR hn hR
  go_enter Try.func172, Try.ntmps172
  go_wp2
  obtain ⟨hRR, hn, hR, _⟩ := FF.out
  go_loopg [6, 7] (b - 1 + 1 - a) (fun kk v6 v7 wr => ∃ (i j : Nat) (e : Array Int), v6 = .int .i64 i ∧ v7 = .int .i64 j ∧ kk = j + 1 - i ∧ j < n ∧ e.size = n ∧ Row wr g t c e ∧ But (fun k => k = g) w wr ∧ Sort.reverseLoop i j e = R)
  case atStart => exact ⟨a, b - 1, d, rfl, by congr 1; omega, rfl, by omega, hn, hR, But.refl _ _, hRR⟩
  obtain ⟨i, j, e, rfl, rfl, rfl, hj, he, hE, hB, hrest⟩ := hrel
  by_cases hlt : i < j
  · have c1 := hE.cell (j := i) (by omega)
    have c2 := hE.cell (j := j) (by omega)
    have f1 := hE.free i
    have f2 := hE.free j
    rw [Sort.reverseLoop, if_pos hlt] at hrest
    have GG := Aside0.mk (And.intro hE (And.intro hB (And.intro hrest (And.intro he hRR))))
    clear hE hB hrest he hRR hR hn FF
    have b1 : (0 : Int) ≤ (i : Int) := by omega
    have b2 : (i : Int) < (n : Int) := by omega
    have b3 : (0 : Int) ≤ (j : Int) := by omega
    have b4 : (j : Int) < (n : Int) := by omega
    go_wp2
    go_region
    all_goals
      go_wp2
      go_roundg ((j - 1) + 1 - (i + 1))
      case measure => omega
      case rel =>
        obtain ⟨hE, hB, hrest, he, hRR⟩ := GG.out
        exact ⟨i + 1, j - 1, Sort.swp e i j, by go_num, by congr 1; omega, rfl, by omega, (swp_size _ _ _).trans he, (hE.swp (by omega) (by omega)).drew, (hB.trans (But.two _ _ _ _ _)).drew, hrest⟩
  · have hlt' : decide ((i : Int) < (j : Int)) = false := decide_eq_false (by omega)
    rw [Sort.reverseLoop, if_neg hlt] at hrest
    subst hrest
    have GG := Aside0.mk (And.intro hE (And.intro hB he))
    clear hE hB he hRR hR hn FF
    go_wp2
    go_end0
    exact ⟨rfl, GG.out.1, GG.out.2.1⟩
end Go.Proofs.Ythibppfdonepoaa.Srt
