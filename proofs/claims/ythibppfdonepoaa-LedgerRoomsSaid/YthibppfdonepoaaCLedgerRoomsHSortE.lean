/- Sorting in place: a part of insertion. (Printed by wip/tool/gensort2.py.) -/
import Derived.Test.YthibppfdonepoaaCLedgerRoomsHSortB
import Derived.RegionTactic
import Derived.Deep.DeepCutAuto
import Derived.Outline
set_option linter.unusedVariables false
namespace Go.Proofs.Ythibppfdonepoaa.Srt
open Go.RowKit Go.Proofs.Ythibppfdonepoaa.XBut Go.Proofs.YthibppfdonepoaaW.PrintWords Go.Proofs.YthibppfdonepoaaW.PrintLast
theorem scanSorted_ge (d : Array Int) (b : Nat) : ∀ (n i : Nat), b - i ≤ n → i ≤ Sort.scanSorted Sort.ltInt d b i ∧ (i ≤ b → Sort.scanSorted Sort.ltInt d b i ≤ b) := by
  intro n
  induction n with
  | zero => intro i h; rw [Sort.scanSorted, if_neg (by simp; omega)]; exact ⟨Nat.le_refl _, id⟩
  | succ n ih =>
    intro i h
    rw [Sort.scanSorted]
    split
    · rename_i h1
      simp only [Bool.and_eq_true, decide_eq_true_eq] at h1
      have := ih (i + 1) (by omega)
      omega
    · omega
theorem shiftDown_size : ∀ (j : Nat) (d : Array Int), (Sort.shiftDown Sort.ltInt j d).size = d.size
  | 0, d => rfl
  | j + 1, d => by
    unfold Sort.shiftDown
    split
    · rfl
    · rw [shiftDown_size j, swp_size]
theorem shiftUp_size (b : Nat) : ∀ (n j : Nat) (d : Array Int), b - j ≤ n → (Sort.shiftUp Sort.ltInt b j d).size = d.size := by
  intro n
  induction n with
  | zero => intro j d h; rw [Sort.shiftUp, if_neg (by omega)]
  | succ n ih =>
    intro j d h
    rw [Sort.shiftUp]
    split
    · split
      · rfl
      · rw [ih _ _ (by omega), swp_size]
    · rfl
set_option maxHeartbeats 64000000 in
set_option maxRecDepth 100000 in
theorem partialInsertionSort (g : Nat) (t : TypeId) (c cap a b n : Nat) (d : Array Int) (w : World) (hn : d.size = n) (hR : Row w g t c d) (hb : b ≤ n) (hab : a < b) (hd : n ≤ 1152921504606846976) :
    Calls Try.prog 173 #[.slice (some ⟨g, 0, none⟩) n cap, .int .i64 a, .int .i64 b] w fun e w' => e = .returned (.bool (Sort.partialInsertionSort Sort.ltInt d a b).2) ∧ Row w' g t c (Sort.partialInsertionSort Sort.ltInt d a b).1 ∧ But (fun k => k = g) w w' := by
  obtain ⟨R, hRR⟩ : ∃ R, Sort.partialInsertionSort Sort.ltInt d a b = R := ⟨_, rfl⟩
  rw [hRR]
  unfold Sort.partialInsertionSort at hRR
  have HRR := Aside0.mk (And.intro hRR (And.intro hR hn))
  clear hRR hR hn
  go_enter Try.func173, Try.ntmps173
  go_wp2
  obtain ⟨hRR, hR, hn⟩ := HRR.out
  go_loopg [7, 8] 5 (fun kk v7 v8 wr => ∃ (s z i : Nat) (e : Array Int), v7 = .int .i64 i ∧ v8 = .int .i64 z ∧ s = kk ∧ z + s = 5 ∧ a + 1 ≤ i ∧ i ≤ b ∧ e.size = n ∧ Row wr g t c e ∧ But (fun k => k = g) w wr ∧ Sort.partialIns Sort.ltInt a b s i e = R)
  case atStart => exact ⟨5, 0, a + 1, d, by go_num, rfl, rfl, rfl, Nat.le_refl _, by omega, hn, hR, But.refl _ _, hRR⟩
  obtain ⟨s, z, i0, e1, rfl, rfl, rfl, hz, hi1, hi2, hS, hE, hB, hrest⟩ := hrel
  clear hRR hR hn HRR
  by_cases hs0 : s = 0
  · subst hs0
    have hz5 : decide ((z : Int) < 5) = false := decide_eq_false (by omega)
    have hfin : R = (e1, false) := hrest.symm
    subst hfin
    have HD := Aside0.mk (And.intro hE hB)
    clear hE hB hrest hS
    go_wp2
    go_ret
    exact ⟨rfl, HD.out.1, HD.out.2⟩
  · obtain ⟨s, rfl⟩ : ∃ s', s = s' + 1 := ⟨s - 1, by omega⟩
    have hz5 : decide ((z : Int) < 5) = true := decide_eq_true (by omega)
    obtain ⟨i, hi⟩ : ∃ i, Sort.scanSorted Sort.ltInt e1 b i0 = i := ⟨_, rfl⟩
    have ri : i0 ≤ i ∧ i ≤ b := by
      rw [← hi]
      have := scanSorted_ge e1 b _ i0 (Nat.le_refl _)
      exact ⟨this.1, this.2 hi2⟩
    have hrest2 : (if i = b then (e1, true) else if b - a < 50 then (e1, false) else Sort.partialIns Sort.ltInt a b s i (if b - i ≥ 2 then Sort.shiftUp Sort.ltInt b (i + 1) (if i - a ≥ 2 then Sort.shiftDown Sort.ltInt (i - 1) (Sort.swp e1 i (i - 1)) else Sort.swp e1 i (i - 1)) else (if i - a ≥ 2 then Sort.shiftDown Sort.ltInt (i - 1) (Sort.swp e1 i (i - 1)) else Sort.swp e1 i (i - 1)))) = R := by
      rw [← hrest, Sort.partialIns]
      dsimp only
      rw [hi]
    have HR := Aside0.mk hrest2
    have HI := Aside0.mk hi
    clear hrest hrest2 hi hs0
    go_wp2
    have hi := HI.out
    go_loopg [7] (b - i0) (fun kk v wr => ∃ x : Nat, v = .int .i64 x ∧ kk = b - x ∧ i0 ≤ x ∧ x ≤ b ∧ Row wr g t c e1 ∧ But (fun k => k = g) w wr ∧ Sort.scanSorted Sort.ltInt e1 b x = i)
    case atStart => exact ⟨i0, rfl, rfl, Nat.le_refl _, hi2, hE, hB, hi⟩
    obtain ⟨x, rfl, rfl, hx1, hx2, hE, hB, hi⟩ := hrel
    rw [Sort.scanSorted] at hi
    obtain ⟨xm, hxm⟩ : ∃ xm, x = xm + 1 := ⟨x - 1, by omega⟩
    have hxI : (x : Int) - 1 = (xm : Int) := by omega
    have hxle : xm + 1 ≤ x ∧ x ≤ xm + 1 := by omega
    have hxs : x - 1 = xm := by omega
    obtain ⟨bb, hbb⟩ : ∃ bb, (decide (x < b) && !Sort.ltInt e1[x]! e1[x - 1]!) = bb := ⟨_, rfl⟩
    have hcase : (bb = true ∧ x < b ∧ Sort.scanSorted Sort.ltInt e1 b (x + 1) = i) ∨ (bb = false ∧ x = i) := by
      rw [hbb] at hi
      cases bb with
      | true => exact .inl ⟨rfl, by simp only [Bool.and_eq_true, decide_eq_true_eq] at hbb; exact hbb.1, by simpa using hi⟩
      | false => exact .inr ⟨rfl, by simpa using hi⟩
    rw [hxs] at hbb
    have HS := Aside0.mk (And.intro hE (And.intro hB hcase))
    have HBB := Aside0.mk hbb
    clear hE hB hcase hbb hi hxm hxs
    go_upto_region 5 with (fail)
    go_cut [32] (fun s wx => s = .bool bb ∧ ∃ nq, wx = wr.drewN nq)
    case first =>
      by_cases hin : x < b
      · have hg1 : decide ((x : Int) < (b : Int)) = true := decide_eq_true (by omega)
        have hg2 : decide (x < b) = true := decide_eq_true (by omega)
        have b1 : (0 : Int) ≤ (x : Int) := by omega
        have b2 : (x : Int) < (n : Int) := by omega
        have b3 : (0 : Int) ≤ (xm : Int) := by omega
        have b4 : (xm : Int) < (n : Int) := by omega
        have c1 := HS.out.1.cell (j := x) (by omega)
        have c2 := HS.out.1.cell (j := xm) (by omega)
        have f1 := HS.out.1.free x
        have f2 := HS.out.1.free xm
        have hbb := HBB.out
        obtain ⟨y1, hy1⟩ : ∃ y, e1[x]! = y := ⟨_, rfl⟩
        obtain ⟨y2, hy2⟩ : ∃ y, e1[xm]! = y := ⟨_, rfl⟩
        rw [hy1] at c1 hbb
        rw [hy2] at c2 hbb
        clear hy1 hy2
        obtain ⟨l, hl⟩ : ∃ l, Sort.ltInt y1 y2 = l := ⟨_, rfl⟩
        rw [hl, hg2] at hbb
        have hbv : bb = !l := by rw [← hbb]; simp
        have HV := Aside0.mk hbv
        have w0 := i64w (x := (xm : Int)) (by omega)
        clear hbb hbv hin hx1 hx2
        cases l
        all_goals
          go_quiet ((go_at_call 174; exact Calls.quiet_of_same (less _ _ _)))
          go_wp2_with fail
          go_meet
          exact ⟨by first | (rw [HV.out]; done) | (rw [HV.out]; rfl), nq, rfl⟩
      · have hg1 : decide ((x : Int) < (b : Int)) = false := decide_eq_false (by omega)
        have hg2 : decide (x < b) = false := decide_eq_false (by omega)
        have hbv : bb = false := by rw [← HBB.out, hg2]; rfl
        have HV := Aside0.mk hbv
        clear hbv hin
        go_quiet (fail)
        go_wp2_with fail
        go_meet
        exact ⟨by rw [HV.out], nq, rfl⟩
    case rest =>
      obtain ⟨rfl, nq, rfl⟩ := hcut
      cases bb with
      | true =>
        have hx3 : x < b := by
          obtain ⟨_, _, (⟨_, q1, _⟩ | ⟨q, _⟩)⟩ := HS.out
          · exact q1
          · cases q
        go_wp2
        go_roundg (b - (x + 1))
        case measure => omega
        case rel =>
          obtain ⟨hE, hB, (⟨_, q1, q2⟩ | ⟨q, _⟩)⟩ := HS.out
          · exact ⟨x + 1, by go_num, rfl, by omega, by omega, hE, hB.drewN nq, q2⟩
          · cases q
      | false =>
        have hE := HS.out.1
        have hB := HS.out.2.1.drewN nq
        have hx : i = x := by
          obtain ⟨_, _, (⟨q, _⟩ | ⟨_, q⟩)⟩ := HS.out
          · cases q
          · exact q.symm
        replace hE : Row (wr.drewN nq) g t c e1 := hE
        generalize wr.drewN nq = wr at hE hB ⊢
        have hR2 := HR.out
        clear HS HBB HR HI hx1 hx2
        subst hx
        have him : i - 1 = xm := by omega
        rw [him] at hR2
        clear him
        by_cases hib : i = b
        · have heq : ((i : Int) == (b : Int)) = true := by simp [hib]
          have hfin : R = (e1, true) := by rw [← hR2, if_pos hib]
          have HF := Aside0.mk (And.intro hE (And.intro hB hfin))
          clear hE hB hfin hR2 hib
          go_wp2
          go_ret
          exact ⟨by rw [HF.out.2.2]; rfl, by rw [HF.out.2.2]; exact HF.out.1, HF.out.2.1⟩
        · have heq : ((i : Int) == (b : Int)) = false := by simp; omega
          rw [if_neg hib] at hR2
          by_cases h50 : b - a < 50
          · have hlt50 : decide ((b : Int) - (a : Int) < 50) = true := decide_eq_true (by omega)
            have hfin : R = (e1, false) := by rw [← hR2, if_pos h50]
            have HF := Aside0.mk (And.intro hE (And.intro hB hfin))
            clear hE hB hfin hR2 hib h50
            go_wp2
            go_ret
            exact ⟨by rw [HF.out.2.2]; rfl, by rw [HF.out.2.2]; exact HF.out.1, HF.out.2.1⟩
          · have hlt50 : decide ((b : Int) - (a : Int) < 50) = false := decide_eq_false (by omega)
            rw [if_neg h50] at hR2
            have HF := Aside0.mk hR2
            have hlt : i < n := by omega
            clear hR2 hib h50
            obtain ⟨v9, hy9⟩ : ∃ v, (wr.setCell ⟨g, i, none⟩ (.int .u32 e1[xm]!)).cell? ⟨g, xm, none⟩ = some v := ⟨_, (hE.set (by omega) _).cell (by simp; omega)⟩
            have c1 := hE.cell (j := i) (by omega)
            have c2 := hE.cell (j := xm) (by omega)
            have f1 := hE.free (i)
            have f2 := hE.free (xm)
            have hN : i < e1.size ∧ xm < e1.size := by omega
            have hsw := (hE.swp hN.1 hN.2).drew
            have hbt := (hB.trans (But.two _ i xm (.int .u32 e1[xm]!) (.int .u32 e1[i]!))).drew
            have hS2 : (Sort.swp e1 i xm).size = n := by rw [swp_size]; omega
            obtain ⟨y1, hy1⟩ : ∃ y, e1[i]! = y := ⟨_, rfl⟩
            obtain ⟨y2, hy2⟩ : ∃ y, e1[xm]! = y := ⟨_, rfl⟩
            rw [hy1] at c1 hsw hbt
            rw [hy2] at c2 hsw hbt hy9
            have b1 : (0 : Int) ≤ ((i : Nat) : Int) := by omega
            have b2 : ((i : Nat) : Int) < (n : Int) := by omega
            have b3 : (0 : Int) ≤ ((xm : Nat) : Int) := by omega
            have b4 : ((xm : Nat) : Int) < (n : Int) := by omega
            have HW := Aside0.mk (And.intro hsw (And.intro hbt hS2))
            clear hE hB hN hy1 hy2 hsw hbt hS2
            go_wp2
            go_region
            all_goals
              obtain ⟨hE, hB, hS⟩ := HW.out
              clear c1 c2 f1 f2 b1 b2 b3 b4 hy9 HW
              generalize ((wr.setCell ⟨g, i, none⟩ (.int .u32 y2)).setCell ⟨g, xm, none⟩ (.int .u32 y1)).drew = wr at hE hB ⊢
              obtain ⟨e2, he2⟩ : ∃ z, Sort.swp e1 i xm = z := ⟨_, rfl⟩
              rw [he2] at hE hS
              have hR2 := HF.out
              rw [he2] at hR2
              clear HF he2
              obtain ⟨D1, hD1⟩ : ∃ D1, (if i - a ≥ 2 then Sort.shiftDown Sort.ltInt xm e2 else e2) = D1 := ⟨_, rfl⟩
              rw [hD1] at hR2
              have hsD1 : D1.size = n := by
                rw [← hD1]
                split
                · rw [shiftDown_size, hS]
                · exact hS
              obtain ⟨D2, hD2⟩ : ∃ D2, (if b - i ≥ 2 then Sort.shiftUp Sort.ltInt b (i + 1) D1 else D1) = D2 := ⟨_, rfl⟩
              rw [hD2] at hR2
              have hsD2 : D2.size = n := by
                rw [← hD2]
                split
                · rw [shiftUp_size b _ _ _ (Nat.le_refl _), hsD1]
                · exact hsD1
              have HF := Aside0.mk (And.intro hR2 (And.intro hsD1 (And.intro hsD2 hD2)))
              have HD1 := Aside0.mk hD1
              have HE2 := Aside0.mk (And.intro hE (And.intro hB hS))
              clear hR2 hD1 hD2 hE hB hS hsD1 hsD2
              obtain ⟨q1, hq1⟩ : ∃ q, decide ((2 : Int) ≤ (i : Int) - (a : Int)) = q := ⟨_, rfl⟩
              obtain ⟨q2, hq2⟩ : ∃ q, decide ((2 : Int) ≤ (b : Int) - (i : Int)) = q := ⟨_, rfl⟩
              go_upto_if 61 with (fail)
              go_cut [] (fun wx => Row wx g t c D1 ∧ But (fun k => k = g) w wx)
              case first =>
                obtain ⟨hE, hB, hS⟩ := HE2.out
                have hD1 := HD1.out
                obtain ⟨im, him⟩ : ∃ im, im = xm := ⟨_, rfl⟩
                subst him
                cases q1
                case true =>
                  have h2 : i - a ≥ 2 := by have := of_decide_eq_true hq1; omega
                  rw [if_pos h2] at hD1
                  clear h2 HD1
                  have HD1 := Aside0.mk hD1
                  clear hD1
                  go_wp2
                  have hD1 := HD1.out
                  clear HD1
                  go_loopg [9] (im) (fun kk v wr => ∃ (j : Nat) (f : Array Int), v = .int .i64 j ∧ j = kk ∧ j ≤ im ∧ f.size = n ∧ Row wr g t c f ∧ But (fun k => k = g) w wr ∧ Sort.shiftDown Sort.ltInt j f = D1)
                  case atStart => exact ⟨im, e2, by go_num, rfl, Nat.le_refl _, hS, hE, hB, hD1⟩
                  obtain ⟨j, f, rfl, rfl, hj, hS, hE, hB, hD1⟩ := hrel
                  by_cases hjok : 0 < j
                  · obtain ⟨jm, rfl⟩ : ∃ jm, j = jm + 1 := ⟨j - 1, by omega⟩
                    have hjI : ((jm + 1 : Nat) : Int) - 1 = (jm : Int) := by omega
                    have hjI2 : (jm : Int) + 1 - 1 = (jm : Int) := by omega
                    have hge : decide ((1 : Int) ≤ ((jm + 1 : Nat) : Int)) = true := decide_eq_true (by omega)
                    have hge2 : decide ((1 : Int) ≤ (jm : Int) + 1) = true := decide_eq_true (by omega)
                    have c1 := hE.cell (j := jm + 1) (by omega)
                    have c2 := hE.cell (j := jm) (by omega)
                    have f1 := hE.free (jm + 1)
                    have f2 := hE.free (jm)
                    have b1 : (0 : Int) ≤ ((jm + 1 : Nat) : Int) := by omega
                    have b2 : ((jm + 1 : Nat) : Int) < (n : Int) := by omega
                    have b3 : (0 : Int) ≤ ((jm : Nat) : Int) := by omega
                    have b4 : ((jm : Nat) : Int) < (n : Int) := by omega
                    rw [Sort.shiftDown] at hD1
                    obtain ⟨y1, hy1⟩ : ∃ y, f[jm + 1]! = y := ⟨_, rfl⟩
                    obtain ⟨y2, hy2⟩ : ∃ y, f[jm]! = y := ⟨_, rfl⟩
                    rw [hy1, hy2] at hD1
                    rw [hy1] at c1
                    rw [hy2] at c2
                    by_cases hl : Sort.ltInt y1 y2 = true
                    · rw [if_neg (by simp [hl])] at hD1
                      have HD := Aside0.mk hD1
                      have hN : jm + 1 < f.size ∧ jm < f.size := by omega
                      have hsw := hE.swp hN.1 hN.2
                      have hS2 : (Sort.swp f (jm + 1) (jm)).size = n := by rw [swp_size]; omega
                      rw [hy1, hy2] at hsw
                      have HW := Aside0.mk (And.intro hsw (And.intro hB hS2))
                      clear hD1 hE hB hS hN hsw hS2 hy1 hy2
                      go_wp2
                      go_quiet ((go_at_call 174; exact Calls.quiet_of_same (less _ _ _)))
                      go_wp2
                      go_region
                      all_goals
                        go_wp2
                        obtain ⟨hsw, hB, hS⟩ := HW.out
                        have hE := hsw
                        have hB := (hB.drewN nq).trans (But.two _ (jm + 1) (jm) (.int .u32 y2) (.int .u32 y1))
                        clear hsw
                        go_roundg (jm)
                        case measure => omega
                        case rel => exact ⟨jm, _, by go_num, rfl, by omega, hS, by first | exact hE | exact hE.drew, by first | exact hB | exact hB.drew, HD.out⟩
                    · have hl' : Sort.ltInt y1 y2 = false := by simpa using hl
                      rw [if_pos (by simp [hl'])] at hD1
                      have HD := Aside0.mk (And.intro hE (And.intro hB hD1))
                      clear hD1 hE hB hS hy1 hy2 hl
                      go_wp2
                      go_quiet ((go_at_call 174; exact Calls.quiet_of_same (less _ _ _)))
                      go_wp2_with fail
                      go_meet
                      exact ⟨by rw [← HD.out.2.2]; exact HD.out.1, HD.out.2.1.drewN nq⟩
                  · have hge : decide ((1 : Int) ≤ (j : Int)) = false := decide_eq_false (by omega)
                    have hj0 : j = 0 := by omega
                    subst hj0
                    have hD2 : f = D1 := hD1
                    have HD := Aside0.mk (And.intro hE (And.intro hB hD2))
                    clear hD1 hD2 hE hB hS
                    go_wp2_with fail
                    go_meet
                    exact ⟨by rw [← HD.out.2.2]; exact HD.out.1, HD.out.2.1⟩
                case false =>
                  have h2 : ¬ i - a ≥ 2 := by have := of_decide_eq_false hq1; omega
                  rw [if_neg h2] at hD1
                  subst hD1
                  have HD := Aside0.mk (And.intro hE hB)
                  clear hE hB hS h2 HD1
                  go_wp2_with fail
                  go_meet
                  exact HD.out
              case rest =>
                obtain ⟨hE, hB⟩ := hcut
                have HE3 := Aside0.mk (And.intro hE hB)
                clear hE hB HE2 HD1
                obtain ⟨hE, hB⟩ := HE3.out
                obtain ⟨_, hS, _, hD2⟩ := HF.out
                obtain ⟨e3, he3⟩ : ∃ e3, e3 = D1 := ⟨_, rfl⟩
                subst he3
                clear HE3
                cases q2
                case true =>
                  have h2 : b - i ≥ 2 := by have := of_decide_eq_true hq2; omega
                  rw [if_pos h2] at hD2
                  clear h2
                  have HD2 := Aside0.mk hD2
                  clear hD2
                  go_wp2
                  have hD2 := HD2.out
                  clear HD2
                  go_loopg [10] (b - (i + 1)) (fun kk v wr => ∃ (j : Nat) (f : Array Int), v = .int .i64 j ∧ kk = b - j ∧ 1 ≤ j ∧ f.size = n ∧ Row wr g t c f ∧ But (fun k => k = g) w wr ∧ Sort.shiftUp Sort.ltInt b j f = D2)
                  case atStart => exact ⟨i + 1, e3, by go_num, rfl, by omega, hS, hE, hB, hD2⟩
                  obtain ⟨j, f, rfl, rfl, hj, hS, hE, hB, hD1⟩ := hrel
                  by_cases hjok : j < b
                  · obtain ⟨jm, rfl⟩ : ∃ jm, j = jm + 1 := ⟨j - 1, by omega⟩
                    have hjI : ((jm + 1 : Nat) : Int) - 1 = (jm : Int) := by omega
                    have hjI2 : (jm : Int) + 1 - 1 = (jm : Int) := by omega
                    have hge : decide (((jm + 1 : Nat) : Int) < (b : Int)) = true := decide_eq_true (by omega)
                    have hge2 : decide ((jm : Int) + 1 < (b : Int)) = true := decide_eq_true (by omega)
                    have c1 := hE.cell (j := jm + 1) (by omega)
                    have c2 := hE.cell (j := jm) (by omega)
                    have f1 := hE.free (jm + 1)
                    have f2 := hE.free (jm)
                    have b1 : (0 : Int) ≤ ((jm + 1 : Nat) : Int) := by omega
                    have b2 : ((jm + 1 : Nat) : Int) < (n : Int) := by omega
                    have b3 : (0 : Int) ≤ ((jm : Nat) : Int) := by omega
                    have b4 : ((jm : Nat) : Int) < (n : Int) := by omega
                    rw [Sort.shiftUp, if_pos hjok, Nat.add_sub_cancel] at hD1
                    obtain ⟨y1, hy1⟩ : ∃ y, f[jm + 1]! = y := ⟨_, rfl⟩
                    obtain ⟨y2, hy2⟩ : ∃ y, f[jm]! = y := ⟨_, rfl⟩
                    rw [hy1, hy2] at hD1
                    rw [hy1] at c1
                    rw [hy2] at c2
                    by_cases hl : Sort.ltInt y1 y2 = true
                    · rw [if_neg (by simp [hl])] at hD1
                      have HD := Aside0.mk hD1
                      have hN : jm + 1 < f.size ∧ jm < f.size := by omega
                      have hsw := hE.swp hN.1 hN.2
                      have hS2 : (Sort.swp f (jm + 1) (jm)).size = n := by rw [swp_size]; omega
                      rw [hy1, hy2] at hsw
                      have HW := Aside0.mk (And.intro hsw (And.intro hB hS2))
                      clear hD1 hE hB hS hN hsw hS2 hy1 hy2
                      go_wp2
                      go_quiet ((go_at_call 174; exact Calls.quiet_of_same (less _ _ _)))
                      go_wp2
                      go_region
                      all_goals
                        go_wp2
                        obtain ⟨hsw, hB, hS⟩ := HW.out
                        have hE := hsw
                        have hB := (hB.drewN nq).trans (But.two _ (jm + 1) (jm) (.int .u32 y2) (.int .u32 y1))
                        clear hsw
                        go_roundg (b - (jm + 1 + 1))
                        case measure => omega
                        case rel => exact ⟨jm + 1 + 1, _, by go_num, rfl, by omega, hS, by first | exact hE | exact hE.drew, by first | exact hB | exact hB.drew, HD.out⟩
                    · have hl' : Sort.ltInt y1 y2 = false := by simpa using hl
                      rw [if_pos (by simp [hl'])] at hD1
                      have HD := Aside0.mk (And.intro hE (And.intro hB hD1))
                      clear hD1 hE hB hS hy1 hy2 hl
                      go_wp2
                      go_quiet ((go_at_call 174; exact Calls.quiet_of_same (less _ _ _)))
                      have HD9 : Aside0 (Row (wr.drewN nq) g t c D2 ∧ But (fun k => k = g) w (wr.drewN nq)) := Aside0.mk ⟨by rw [← HD.out.2.2]; exact HD.out.1, HD.out.2.1.drewN nq⟩
                      go_wp2
                      go_roundg s
                      case measure => omega
                      case rel =>
                        obtain ⟨hR2, _, hsD2, _⟩ := HF.out
                        obtain ⟨hE, hB⟩ := HD9.out
                        exact ⟨s, z + 1, i, D2, by first | rfl | go_num, by go_num, rfl, by omega, by omega, by omega, hsD2, hE, hB, hR2⟩
                  · have hge : decide ((j : Int) < (b : Int)) = false := decide_eq_false (by omega)
                    rw [Sort.shiftUp, if_neg hjok] at hD1
                    have hD2 : f = D2 := hD1
                    have HD := Aside0.mk (And.intro hE (And.intro hB hD2))
                    clear hD1 hD2 hE hB hS
                    have HD9 : Aside0 (Row wr g t c D2 ∧ But (fun k => k = g) w wr) := Aside0.mk ⟨by rw [← HD.out.2.2]; exact HD.out.1, HD.out.2.1⟩
                    go_wp2
                    go_roundg s
                    case measure => omega
                    case rel =>
                      obtain ⟨hR2, _, hsD2, _⟩ := HF.out
                      obtain ⟨hE, hB⟩ := HD9.out
                      exact ⟨s, z + 1, i, D2, by first | rfl | go_num, by go_num, rfl, by omega, by omega, by omega, hsD2, hE, hB, hR2⟩
                case false =>
                  have h2 : ¬ b - i ≥ 2 := by have := of_decide_eq_false hq2; omega
                  rw [if_neg h2] at hD2
                  have HD9 : Aside0 (Row wc g t c D2 ∧ But (fun k => k = g) w wc) := Aside0.mk ⟨by rw [← hD2]; exact hE, hB⟩
                  clear hE hB hS h2 hD2
                  go_wp2
                  go_roundg s
                  case measure => omega
                  case rel =>
                    obtain ⟨hR2, _, hsD2, _⟩ := HF.out
                    obtain ⟨hE, hB⟩ := HD9.out
                    exact ⟨s, z + 1, i, D2, by first | rfl | go_num, by go_num, rfl, by omega, by omega, by omega, hsD2, hE, hB, hR2⟩
end Go.Proofs.Ythibppfdonepoaa.Srt
