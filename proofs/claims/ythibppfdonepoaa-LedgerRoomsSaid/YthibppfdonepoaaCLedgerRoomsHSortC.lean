/- Sorting in place: heaps. -/
import Derived.Test.YthibppfdonepoaaCLedgerRoomsHSortB
import Derived.RegionTactic
import Derived.Outline
set_option linter.unusedVariables false
namespace Go.Proofs.Ythibppfdonepoaa.Srt
open Go.RowKit Go.Proofs.Ythibppfdonepoaa.XBut Go.Proofs.YthibppfdonepoaaW.PrintWords Go.Proofs.YthibppfdonepoaaW.PrintLast
theorem siftDown_size (hi first : Nat) : ∀ (n root : Nat) (d : Array Int), hi - root ≤ n → (Sort.siftDown Sort.ltInt hi first root d).size = d.size := by
  intro n
  induction n with
  | zero =>
    intro root d h
    rw [Sort.siftDown, dif_pos (by omega)]
  | succ n ih =>
    intro root d h
    rw [Sort.siftDown]
    split
    · rfl
    · split
      · split
        · rfl
        · split
          · rw [ih _ _ (by omega), swp_size]
          · rfl
      · split
        · rfl
        · rw [ih _ _ (by omega), swp_size]
set_option maxHeartbeats 8000000 in
theorem siftDown (g : Nat) (t : TypeId) (c cap lo hi first : Nat) (d : Array Int) (w : World) (hR : Row w g t c d) (hb : first + hi ≤ d.size) (hlo : lo ≤ hi) (hd : d.size ≤ 1152921504606846976) :
    Calls Try.prog 182 #[.slice (some ⟨g, 0, none⟩) d.size cap, .int .i64 lo, .int .i64 hi, .int .i64 first] w (Left w g t c (Sort.siftDown Sort.ltInt hi first lo d)) := by
  obtain ⟨R, hRR⟩ : ∃ R, Sort.siftDown Sort.ltInt hi first lo d = R := ⟨_, rfl⟩
  rw [hRR]
  obtain ⟨n, hn⟩ : ∃ n, d.size = n := ⟨_, rfl⟩
  rw [hn] at hb hd ⊢
  have FF := Aside0.mk (And.intro hRR (And.intro hn hR))
  clear hRR hn hR
  go_enter Try.func182, Try.ntmps182
  go_wp2
  obtain ⟨hRR, hn, hR⟩ := FF.out
  go_loopg [8] (hi - lo) (fun kk v8 wr => ∃ (r : Nat) (e : Array Int), v8 = .int .i64 r ∧ kk = hi - r ∧ r ≤ hi ∧ e.size = n ∧ Row wr g t c e ∧ But (fun k => k = g) w wr ∧ Sort.siftDown Sort.ltInt hi first r e = R)
  case atStart => exact ⟨lo, d, rfl, rfl, hlo, hn, hR, But.refl _ _, hRR⟩
  obtain ⟨r, e, rfl, rfl, hr, he, hE, hB, hrest⟩ := hrel
  clear hRR hn hR FF
  by_cases hge : 2 * r + 1 ≥ hi
  · rw [Sort.siftDown, dif_pos hge] at hrest
    subst hrest
    have hge' : decide ((hi : Int) ≤ 2 * (r : Int) + 1) = true := decide_eq_true (by omega)
    have GG := Aside0.mk (And.intro hE hB)
    clear hE hB he
    go_wp2
    go_end0
    exact ⟨rfl, GG.out.1, GG.out.2⟩
  · rw [Sort.siftDown, dif_neg hge] at hrest
    have hge' : decide ((hi : Int) ≤ 2 * (r : Int) + 1) = false := decide_eq_false (by omega)
    obtain ⟨ch, hch⟩ : ∃ ch : Nat, ch = 2 * r + 1 := ⟨_, rfl⟩
    rw [← hch] at hrest hge
    have c0 := hE.cell (j := first + r) (by omega)
    have c1 := hE.cell (j := first + ch) (by omega)
    have f0 := hE.free (first + r)
    have f1 := hE.free (first + ch)
    have b0 : (0 : Int) ≤ (first : Int) + (r : Int) := by omega
    have b1 : (first : Int) + (r : Int) < (n : Int) := by omega
    have b2 : (0 : Int) ≤ (first : Int) + (ch : Int) := by omega
    have b3 : (first : Int) + (ch : Int) < (n : Int) := by omega
    have HC := Aside0.mk hch
    have hcI : 2 * (r : Int) + 1 = (ch : Int) := by omega
    have hge2 : decide (hi ≤ ch) = false := decide_eq_false (by omega)
    by_cases hnx : ch + 1 < hi
    · obtain ⟨cc, hcc⟩ : ∃ cc, cc = ch + 1 := ⟨_, rfl⟩
      have hccI : (ch : Int) + 1 = (cc : Int) := by omega
      have hnx' : decide ((cc : Int) < (hi : Int)) = true := decide_eq_true (by omega)
      have hnx2 : decide (cc < hi) = true := decide_eq_true (by omega)
      have c2 := hE.cell (j := first + cc) (by omega)
      have c3 := hE.cell (j := first + ch + 1) (by omega)
      have f2 := hE.free (first + cc)
      have f3 := hE.free (first + ch + 1)
      have b4 : (0 : Int) ≤ (first : Int) + (ch : Int) + 1 := by omega
      have b5 : (first : Int) + (ch : Int) + 1 < (n : Int) := by omega
      have b6 : (0 : Int) ≤ (first : Int) + (cc : Int) := by omega
      have b7 : (first : Int) + (cc : Int) < (n : Int) := by omega
      by_cases hl : Sort.ltInt e[first + ch]! e[first + ch + 1]! = true
      · rw [if_pos (by simp only [hl, Bool.and_true]; exact decide_eq_true hnx), show 2 * r + 2 = cc by omega] at hrest
        have hz : first + cc < n ∧ r < cc ∧ cc < hi ∧ first + r < n := by omega
        clear hnx hch hcc
        by_cases hl2 : Sort.ltInt e[first + r]! e[first + cc]! = true
        · rw [if_neg (by simp [hl2])] at hrest
          rw [dif_pos (by omega)] at hrest
          have GG := Aside0.mk (And.intro hE (And.intro hB (And.intro hrest (And.intro he hz))))
          have w0 := i64w (x := (first : Int) + (r : Int)) (by omega)
          clear hE hB hrest he hz HC hge
          go_wp2
          go_quiet ((go_at_call 174; exact Calls.quiet_of_same (less _ _ _)))
          go_wp2
          go_quiet ((go_at_call 174; exact quiet2 (less _ _ _)))
          go_wp2
          go_region
          all_goals
            go_wp2
            go_roundg (hi - cc)
            case measure => have := GG.out.2.2.2.2; omega
            case rel =>
              obtain ⟨hE, hB, hrest, he, hz⟩ := GG.out
              exact ⟨cc, Sort.swp e (first + r) (first + cc), rfl, rfl, by omega, (swp_size _ _ _).trans he, (Row.swp (w := wr.drewN _) hE (by omega) (by omega)).drew, (by first | exact ((hB.drewN _).trans (But.two _ _ _ _ _)).drew | exact (hB.drewN _).trans (But.two _ _ _ _ _)), hrest⟩
        · have hl2' : Sort.ltInt e[first + r]! e[first + cc]! = false := by simpa using hl2
          rw [if_pos (by simp [hl2'])] at hrest
          subst hrest
          have GG := Aside0.mk (And.intro hE hB)
          have w0 := i64w (x := (first : Int) + (r : Int)) (by omega)
          clear hE hB he hz HC hge hl2
          go_wp2
          go_quiet ((go_at_call 174; exact Calls.quiet_of_same (less _ _ _)))
          go_wp2
          go_quiet ((go_at_call 174; exact quiet2 (less _ _ _)))
          go_wp2
          go_end0
          exact ⟨rfl, GG.out.1, by first | exact GG.out.2.drewN _ | exact (GG.out.2.drewN _).drewN _⟩
      · have hl' : Sort.ltInt e[first + ch]! e[first + ch + 1]! = false := by simpa using hl
        rw [if_neg (by simp [hl'])] at hrest
        have hz : first + ch < n ∧ r < ch ∧ ch < hi ∧ first + r < n := by omega
        clear hnx hch hcc hl
        by_cases hl2 : Sort.ltInt e[first + r]! e[first + ch]! = true
        · rw [if_neg (by simp [hl2])] at hrest
          have GG := Aside0.mk (And.intro hE (And.intro hB (And.intro hrest (And.intro he hz))))
          have w0 := i64w (x := (first : Int) + (r : Int)) (by omega)
          clear hE hB hrest he hz HC hge
          go_wp2
          go_quiet ((go_at_call 174; exact Calls.quiet_of_same (less _ _ _)))
          go_wp2
          go_quiet ((go_at_call 174; exact quiet2 (less _ _ _)))
          go_wp2
          go_region
          all_goals
            go_wp2
            go_roundg (hi - ch)
            case measure => have := GG.out.2.2.2.2; omega
            case rel =>
              obtain ⟨hE, hB, hrest, he, hz⟩ := GG.out
              exact ⟨ch, Sort.swp e (first + r) (first + ch), rfl, rfl, by omega, (swp_size _ _ _).trans he, (Row.swp (w := wr.drewN _) hE (by omega) (by omega)).drew, (by first | exact ((hB.drewN _).trans (But.two _ _ _ _ _)).drew | exact (hB.drewN _).trans (But.two _ _ _ _ _)), hrest⟩
        · have hl2' : Sort.ltInt e[first + r]! e[first + ch]! = false := by simpa using hl2
          rw [if_pos (by simp [hl2'])] at hrest
          subst hrest
          have GG := Aside0.mk (And.intro hE hB)
          have w0 := i64w (x := (first : Int) + (r : Int)) (by omega)
          clear hE hB he hz HC hge hl2
          go_wp2
          go_quiet ((go_at_call 174; exact Calls.quiet_of_same (less _ _ _)))
          go_wp2
          go_quiet ((go_at_call 174; exact quiet2 (less _ _ _)))
          go_wp2
          go_end0
          exact ⟨rfl, GG.out.1, by first | exact GG.out.2.drewN _ | exact (GG.out.2.drewN _).drewN _⟩
    · have hnx' : decide ((ch : Int) + 1 < (hi : Int)) = false := decide_eq_false (by omega)
      rw [if_neg (by simp [hnx])] at hrest
      have hz : first + ch < n ∧ r < ch ∧ ch < hi ∧ first + r < n := by omega
      clear hnx hch
      by_cases hl2 : Sort.ltInt e[first + r]! e[first + ch]! = true
      · rw [if_neg (by simp [hl2])] at hrest
        have GG := Aside0.mk (And.intro hE (And.intro hB (And.intro hrest (And.intro he hz))))
        have w0 := i64w (x := (first : Int) + (r : Int)) (by omega)
        clear hE hB hrest he hz HC hge
        go_wp2
        go_quiet (fail)
        go_wp2
        go_quiet ((go_at_call 174; exact quiet2 (less _ _ _)))
        go_wp2
        go_region
        all_goals
          go_wp2
          go_roundg (hi - ch)
          case measure => have := GG.out.2.2.2.2; omega
          case rel =>
            obtain ⟨hE, hB, hrest, he, hz⟩ := GG.out
            exact ⟨ch, Sort.swp e (first + r) (first + ch), rfl, rfl, by omega, (swp_size _ _ _).trans he, (Row.swp (w := wr.drewN _) hE (by omega) (by omega)).drew, (by first | exact ((hB.drewN _).trans (But.two _ _ _ _ _)).drew | exact (hB.drewN _).trans (But.two _ _ _ _ _)), hrest⟩
      · have hl2' : Sort.ltInt e[first + r]! e[first + ch]! = false := by simpa using hl2
        rw [if_pos (by simp [hl2'])] at hrest
        subst hrest
        have GG := Aside0.mk (And.intro hE hB)
        have w0 := i64w (x := (first : Int) + (r : Int)) (by omega)
        clear hE hB he hz HC hge hl2
        go_wp2
        go_quiet (fail)
        go_wp2
        go_quiet ((go_at_call 174; exact quiet2 (less _ _ _)))
        go_wp2
        go_end0
        exact ⟨rfl, GG.out.1, by first | exact GG.out.2.drewN _ | exact (GG.out.2.drewN _).drewN _⟩
theorem siftDownN (g : Nat) (t : TypeId) (c cap lo hi first n : Nat) (d : Array Int) (w : World) (hn : d.size = n) (hR : Row w g t c d) (hb : first + hi ≤ n) (hlo : lo ≤ hi) (hd : n ≤ 1152921504606846976) :
    Calls Try.prog 182 #[.slice (some ⟨g, 0, none⟩) n cap, .int .i64 lo, .int .i64 hi, .int .i64 first] w (Left w g t c (Sort.siftDown Sort.ltInt hi first lo d)) := by
  subst hn
  exact siftDown g t c cap lo hi first d w hR hb hlo hd
set_option maxHeartbeats 8000000 in
theorem heapSort (g : Nat) (t : TypeId) (c cap a b : Nat) (d : Array Int) (w : World) (hR : Row w g t c d) (hb : b ≤ d.size) (ha : a < b) (hd : d.size ≤ 1152921504606846976) :
    Calls Try.prog 169 #[.slice (some ⟨g, 0, none⟩) d.size cap, .int .i64 a, .int .i64 b] w (Left w g t c (Sort.heapSort Sort.ltInt d a b)) := by
  obtain ⟨R, hRR⟩ : ∃ R, Sort.heapSort Sort.ltInt d a b = R := ⟨_, rfl⟩
  rw [hRR]
  unfold Sort.heapSort at hRR
  obtain ⟨hi, hhi⟩ : ∃ hi, b - a = hi := ⟨_, rfl⟩
  rw [hhi] at hRR
  obtain ⟨R1, hR1⟩ : ∃ R1, Sort.heapBuild Sort.ltInt hi a ((hi - 1) / 2 + 1) d = R1 := ⟨_, rfl⟩
  rw [hR1] at hRR
  obtain ⟨n, hn⟩ : ∃ n, d.size = n := ⟨_, rfl⟩
  rw [hn] at hb hd ⊢
  have hhiI : (b : Int) - (a : Int) = (hi : Int) := by omega
  have hq : Int.tdiv ((hi : Int) - 1) 2 = (((hi - 1) / 2 : Nat) : Int) := by rw [Int.tdiv_eq_ediv_of_nonneg (by omega)]; omega
  have FF := Aside0.mk (And.intro hRR (And.intro hn (And.intro hR (And.intro hR1 hq))))
  clear hRR hn hR hR1 hhi
  go_enter Try.func169, Try.ntmps169
  go_wp2
  obtain ⟨hRR, hn, hR, hR1, hq⟩ := FF.out
  have hq2 : ((hi - 1 : Nat) : Int) / 2 = (((hi - 1) / 2 : Nat) : Int) := by omega
  go_loopg [9] ((hi - 1) / 2 + 1) (fun kk v9 wr => ∃ (z : Int) (k : Nat) (e : Array Int), v9 = .int .i64 z ∧ k = kk ∧ z = (k : Int) - 1 ∧ k ≤ (hi - 1) / 2 + 1 ∧ e.size = n ∧ Row wr g t c e ∧ But (fun k => k = g) w wr ∧ Sort.heapBuild Sort.ltInt hi a k e = R1)
  case atStart => exact ⟨_, (hi - 1) / 2 + 1, d, rfl, rfl, by omega, Nat.le_refl _, hn, hR, But.refl _ _, hR1⟩
  obtain ⟨z, k, e, rfl, rfl, hz, hk, he, hE, hB, hrest⟩ := hrel
  clear hRR hn hR hR1 hq hq2
  by_cases hk0 : k = 0
  · subst hk0
    have hz' : z = -1 := by omega
    subst hz'
    have hrest' : e = R1 := hrest
    subst hrest'
    have GG := Aside0.mk (And.intro hE (And.intro hB he))
    clear hE hB he hz hrest
    go_wp2
    obtain ⟨hE, hB, he⟩ := GG.out
    obtain ⟨hRR, _⟩ := FF.out
    go_loopg [10] hi (fun kk v10 wr => ∃ (z : Int) (k : Nat) (f : Array Int), v10 = .int .i64 z ∧ k = kk ∧ z = (k : Int) - 1 ∧ k ≤ hi ∧ f.size = n ∧ Row wr g t c f ∧ But (fun k => k = g) w wr ∧ Sort.heapPop Sort.ltInt a k f = R)
    case atStart => exact ⟨_, hi, e, rfl, rfl, by omega, Nat.le_refl _, he, hE, hB, hRR⟩
    obtain ⟨z, k, f, rfl, rfl, hz, hk, hf, hF, hB2, hrest⟩ := hrel
    clear hRR hE hB he
    by_cases hk0 : k = 0
    · subst hk0
      have hz' : z = -1 := by omega
      subst hz'
      have hrest' : f = R := hrest
      subst hrest'
      have HH := Aside0.mk (And.intro hF hB2)
      clear hF hB2 hf hz hrest
      go_wp2
      go_end0
      exact ⟨rfl, HH.out.1, HH.out.2⟩
    · obtain ⟨m, rfl⟩ : ∃ m, k = m + 1 := ⟨k - 1, by omega⟩
      have hz' : z = (m : Int) := by omega
      subst hz'
      have hge : decide ((0 : Int) ≤ (m : Int)) = true := decide_eq_true (by omega)
      have c1 := hF.cell (j := a) (by omega)
      have c2 := hF.cell (j := a + m) (by omega)
      have f1 := hF.free a
      have f2 := hF.free (a + m)
      have b1 : (0 : Int) ≤ (a : Int) := by omega
      have b2 : (a : Int) < (n : Int) := by omega
      have b3 : (0 : Int) ≤ (a : Int) + (m : Int) := by omega
      have b4 : (a : Int) + (m : Int) < (n : Int) := by omega
      have hrest' : Sort.heapPop Sort.ltInt a m (Sort.siftDown Sort.ltInt m a 0 (Sort.swp f a (a + m))) = R := hrest
      have hs := (siftDown_size m a (m - 0) 0 (Sort.swp f a (a + m)) (Nat.le_refl _)).trans ((swp_size f a (a + m)).trans hf)
      have h9 : a + m < n ∧ a + m < f.size ∧ a < f.size := by omega
      have HH := Aside0.mk (And.intro hF (And.intro hB2 (And.intro hrest' (And.intro hf (And.intro hs h9)))))
      obtain ⟨v9, hy9⟩ : ∃ v, (wr.setCell ⟨g, a, none⟩ (.int .u32 f[a + m]!)).cell? ⟨g, a + m, none⟩ = some v := ⟨_, (hF.set (by omega) _).cell (by simp; omega)⟩
      have w0 := i64w (x := (a : Int) + (m : Int)) (by omega)
      clear hF hB2 hrest hrest' hf hz hs h9 hk0
      go_wp2
      go_region
      all_goals
        go_wp2_with fail
        obtain ⟨hF, hB2, hrest', hf, hs, h9⟩ := HH.out
        have hF2 := Aside0.mk ((hF.swp h9.2.2 h9.2.1).drew)
        clear hF hB2 hrest' hf hs
        refine (siftDownN g t c cap 0 m a n (Sort.swp f a (a + m)) _ ((swp_size _ _ _).trans HH.out.2.2.2.1) hF2.out (by have := h9; omega) (by omega) hd).mono ?_
        rintro e9 w9 ⟨rfl, hF9, hB9⟩
        have HK := Aside0.mk (And.intro hF9 hB9)
        clear hF9 hB9 h9 hF2
        go_wp2
        go_roundg m
        case measure => omega
        case rel =>
          obtain ⟨hF, hB2, hrest', hf, hs, h9⟩ := HH.out
          exact ⟨_, m, _, rfl, rfl, rfl, by omega, hs, HK.out.1, ((hB2.trans (But.two _ _ _ _ _)).drew).trans HK.out.2, hrest'⟩
  · obtain ⟨m, rfl⟩ : ∃ m, k = m + 1 := ⟨k - 1, by omega⟩
    have hz' : z = (m : Int) := by omega
    subst hz'
    have hge : decide ((0 : Int) ≤ (m : Int)) = true := decide_eq_true (by omega)
    have hrest' : Sort.heapBuild Sort.ltInt hi a m (Sort.siftDown Sort.ltInt hi a m e) = R1 := hrest
    have hs := (siftDown_size hi a (hi - m) m e (Nat.le_refl _)).trans he
    have GG := Aside0.mk (And.intro hE (And.intro hB (And.intro hrest' (And.intro he hs))))
    clear hE hB hrest hrest' he hz hs hk0
    go_wp2_with fail
    refine (siftDownN g t c cap m hi a n e _ GG.out.2.2.2.1 GG.out.1 (by omega) (by omega) hd).mono ?_
    rintro e9 w9 ⟨rfl, hF9, hB9⟩
    have HK := Aside0.mk (And.intro hF9 hB9)
    clear hF9 hB9
    go_wp2
    go_roundg m
    case measure => omega
    case rel =>
      obtain ⟨hE, hB, hrest', he, hs⟩ := GG.out
      exact ⟨_, m, _, rfl, rfl, rfl, by omega, hs, HK.out.1, hB.trans HK.out.2, hrest'⟩
end Go.Proofs.Ythibppfdonepoaa.Srt
