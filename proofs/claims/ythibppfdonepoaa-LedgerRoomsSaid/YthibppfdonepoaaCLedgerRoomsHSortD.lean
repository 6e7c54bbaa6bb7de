/- Sorting in place: partitions. (Printed by wip/tool/gensort.py.) -/
import Derived.Test.YthibppfdonepoaaCLedgerRoomsHSortB
import Derived.RegionTactic
import Derived.Deep.DeepCutAuto
import Derived.Outline
set_option linter.unusedVariables false
namespace Go.Proofs.Ythibppfdonepoaa.Srt
open Go.RowKit Go.Proofs.Ythibppfdonepoaa.XBut Go.Proofs.YthibppfdonepoaaW.PrintWords Go.Proofs.YthibppfdonepoaaW.PrintLast
theorem scanDown_step (p : Int → Bool) (d : Array Int) (i j : Nat) (hi : 1 ≤ i) : Sort.scanDown p d i j = if (decide (i ≤ j) && p d[j]!) = true then Sort.scanDown p d i (j - 1) else j := by
  cases j with
  | zero => rw [if_neg (by simp; omega)]; rfl
  | succ j => rfl
theorem scanUp_ge (p : Int → Bool) (d : Array Int) (j : Nat) : ∀ (n i : Nat), j + 1 - i ≤ n → i ≤ Sort.scanUp p d j i ∧ (i ≤ j + 1 → Sort.scanUp p d j i ≤ j + 1) := by
  intro n
  induction n with
  | zero => intro i h; rw [Sort.scanUp, if_neg (by simp; omega)]; exact ⟨Nat.le_refl _, id⟩
  | succ n ih =>
    intro i h
    rw [Sort.scanUp]
    split
    · rename_i h1
      simp only [Bool.and_eq_true, decide_eq_true_eq] at h1
      have := ih (i + 1) (by omega)
      omega
    · omega
theorem scanDown_le (p : Int → Bool) (d : Array Int) (i : Nat) (hi : 1 ≤ i) : ∀ j : Nat, Sort.scanDown p d i j ≤ j ∧ (i ≤ j + 1 → i ≤ Sort.scanDown p d i j + 1) := by
  intro j
  induction j with
  | zero => rw [scanDown_step _ _ _ _ hi, if_neg (by simp; omega)]; exact ⟨Nat.le_refl _, id⟩
  | succ j ih =>
    rw [scanDown_step _ _ _ _ hi]
    split
    · rename_i h1
      simp only [Bool.and_eq_true, decide_eq_true_eq] at h1
      have e : j + 1 - 1 = j := rfl
      rw [e]
      omega
    · omega
set_option maxHeartbeats 64000000 in
set_option maxRecDepth 100000 in
theorem partition (g : Nat) (t : TypeId) (c cap a b p n : Nat) (d : Array Int) (w : World) (hn : d.size = n) (hR : Row w g t c d) (hb : b ≤ n) (hap : a ≤ p) (hpb : p < b) (hd : n ≤ 1152921504606846976) :
    Calls Try.prog 176 #[.slice (some ⟨g, 0, none⟩) n cap, .int .i64 a, .int .i64 b, .int .i64 p] w fun e w' => e = .returned (.tuple #[.int .i64 ((Sort.partition Sort.ltInt d a b p).1 : Nat), .bool (Sort.partition Sort.ltInt d a b p).2.1]) ∧ Row w' g t c (Sort.partition Sort.ltInt d a b p).2.2 ∧ But (fun k => k = g) w w' := by
  obtain ⟨R, hRR⟩ : ∃ R, Sort.partition Sort.ltInt d a b p = R := ⟨_, rfl⟩
  rw [hRR]
  have hE := hR
  have hB := But.refl (fun k => k = g) w
  obtain ⟨ia, hia⟩ : ∃ ia, ia = a + 1 := ⟨_, rfl⟩
  obtain ⟨jb, hjb⟩ : ∃ jb, jb = b - 1 := ⟨_, rfl⟩
  have hiaI : (a : Int) + 1 = (ia : Int) := by omega
  have hjbI : (b : Int) - 1 = (jb : Int) := by omega
  have hlet : (a + 1 ≤ ia ∧ ia ≤ a + 1) ∧ (jb + 1 ≤ b ∧ b ≤ jb + 1) ∧ a < n ∧ jb < n ∧ a ≤ jb := by omega
  obtain ⟨e1, he1⟩ : ∃ z, Sort.swp d a p = z := ⟨_, rfl⟩
  have hse1 : e1.size = n := by rw [← he1, swp_size, hn]
  obtain ⟨I1, hI1⟩ : ∃ z, Sort.scanUp (fun x => Sort.ltInt x e1[a]!) e1 jb ia = z := ⟨_, rfl⟩
  obtain ⟨J1, hJ1⟩ : ∃ z, Sort.scanDown (fun x => !Sort.ltInt x e1[a]!) e1 I1 jb = z := ⟨_, rfl⟩
  have rI1 : ia ≤ I1 ∧ (I1 ≤ jb + 1 ∨ I1 = ia) := by
    rw [← hI1]
    have := scanUp_ge (fun x => Sort.ltInt x e1[a]!) e1 jb _ ia (Nat.le_refl _)
    by_cases h : ia ≤ jb + 1
    · exact ⟨this.1, .inl (this.2 h)⟩
    · rw [Sort.scanUp, if_neg (by simp; omega)]
      exact ⟨Nat.le_refl _, .inr rfl⟩
  have rJ1 : J1 ≤ jb ∧ (I1 ≤ jb + 1 → I1 ≤ J1 + 1) := by
    rw [← hJ1]
    exact scanDown_le (fun x => !Sort.ltInt x e1[a]!) e1 I1 (by omega) jb
  have hRR2 : (if I1 > J1 then (J1, true, Sort.swp e1 J1 a) else ((Sort.partLoop Sort.ltInt a (I1 + 1) (J1 - 1) (Sort.swp e1 I1 J1)).1, false, Sort.swp (Sort.partLoop Sort.ltInt a (I1 + 1) (J1 - 1) (Sort.swp e1 I1 J1)).2 (Sort.partLoop Sort.ltInt a (I1 + 1) (J1 - 1) (Sort.swp e1 I1 J1)).1 a)) = R := by
    rw [← hRR]
    unfold Sort.partition
    dsimp only
    rw [he1, ← hia, ← hjb, hI1, hJ1]
  replace hRR := hRR2
  clear hRR2
  have HRR := Aside0.mk hRR
  have HJ1 := Aside0.mk hJ1
  have HI1 := Aside0.mk hI1
  have HE1 := Aside0.mk he1
  have HLET := Aside0.mk hlet
  clear hRR hR he1 hia hjb hlet hJ1 hI1

  go_enter Try.func176, Try.ntmps176
  obtain ⟨v9, hy9⟩ : ∃ v, (w.setCell ⟨g, a, none⟩ (.int .u32 d[p]!)).cell? ⟨g, p, none⟩ = some v := ⟨_, (hE.set (by omega) _).cell (by simp; omega)⟩
  have c1 := hE.cell (j := a) (by omega)
  have c2 := hE.cell (j := p) (by omega)
  have f1 := hE.free (a)
  have f2 := hE.free (p)
  have hN : a < d.size ∧ p < d.size := by omega
  have hsw := (hE.swp hN.1 hN.2).drew
  have hbt := (hB.trans (But.two _ a p (.int .u32 d[p]!) (.int .u32 d[a]!))).drew
  have hS2 : (Sort.swp d a p).size = n := by rw [swp_size]; omega
  obtain ⟨y1, hy1⟩ : ∃ y, d[a]! = y := ⟨_, rfl⟩
  obtain ⟨y2, hy2⟩ : ∃ y, d[p]! = y := ⟨_, rfl⟩
  rw [hy1] at c1 hsw hbt
  rw [hy2] at c2 hsw hbt hy9
  have b1 : (0 : Int) ≤ ((a : Nat) : Int) := by omega
  have b2 : ((a : Nat) : Int) < (n : Int) := by omega
  have b3 : (0 : Int) ≤ ((p : Nat) : Int) := by omega
  have b4 : ((p : Nat) : Int) < (n : Int) := by omega
  have HW := Aside0.mk (And.intro hsw (And.intro hbt hS2))
  clear hE hB hN hy1 hy2 hsw hbt hS2
  go_wp2
  go_region
  all_goals
    obtain ⟨hE, hB, hS⟩ := HW.out
    clear c1 c2 f1 f2 b1 b2 b3 b4 hy9 HW
    generalize ((w.setCell ⟨g, a, none⟩ (.int .u32 y2)).setCell ⟨g, p, none⟩ (.int .u32 y1)).drew = wr at hE hB ⊢
    rw [HE1.out] at hE hS
    go_wp2
    obtain ⟨⟨l1, l6⟩, ⟨l2, l7⟩, l3, l4, l5⟩ := HLET.out
    have hI1 := HI1.out
    go_loopg [10] (jb + 1 - (ia)) (fun kk v wr => ∃ x : Nat, v = .int .i64 x ∧ kk = jb + 1 - x ∧ ia ≤ x ∧ (x ≤ jb + 1 ∨ x = ia) ∧ Row wr g t c e1 ∧ But (fun k => k = g) w wr ∧ Sort.scanUp (fun x => Sort.ltInt x e1[a]!) e1 (jb) x = I1)
    case atStart => exact ⟨ia, by go_num, rfl, Nat.le_refl _, .inr rfl, hE, hB, hI1⟩
    obtain ⟨x, rfl, rfl, hx1, hx2, hE, hB, hI1⟩ := hrel
    rw [Sort.scanUp] at hI1
    obtain ⟨bb, hbb⟩ : ∃ bb, (decide (x ≤ jb) && (fun x => Sort.ltInt x e1[a]!) e1[x]!) = bb := ⟨_, rfl⟩
    have hcase : (bb = true ∧ x ≤ jb ∧ Sort.scanUp (fun x => Sort.ltInt x e1[a]!) e1 (jb) (x + 1) = I1) ∨ (bb = false ∧ x = I1) := by
      rw [hbb] at hI1
      cases bb with
      | true => exact .inl ⟨rfl, by simp only [Bool.and_eq_true, decide_eq_true_eq] at hbb; exact hbb.1, by simpa using hI1⟩
      | false => exact .inr ⟨rfl, by simpa using hI1⟩
    have hbb2 : (decide (x ≤ jb) && Sort.ltInt e1[x]! e1[a]!) = bb := hbb
    have HS := Aside0.mk (And.intro hE (And.intro hB hcase))
    have HBB := Aside0.mk hbb2
    clear hE hB hcase hbb hbb2 hI1
    go_upto_region 3 with (fail)
    go_cut [43] (fun s wx => s = .bool bb ∧ ∃ nq, wx = wr.drewN nq)
    case first =>
      by_cases hin : x ≤ jb
      · have hg1 : decide ((x : Int) ≤ ((jb : Nat) : Int)) = true := decide_eq_true (by omega)
        have hg2 : decide (x ≤ jb) = true := decide_eq_true (by omega)
        have b1 : (0 : Int) ≤ (x : Int) := by omega
        have b2 : (x : Int) < (n : Int) := by omega
        have b3 : (0 : Int) ≤ (a : Int) := by omega
        have b4 : (a : Int) < (n : Int) := by omega
        have c1 := HS.out.1.cell (j := x) (by omega)
        have c2 := HS.out.1.cell (j := a) (by omega)
        have f1 := HS.out.1.free x
        have f2 := HS.out.1.free a
        have hbb := HBB.out
        obtain ⟨y1, hy1⟩ : ∃ y, e1[x]! = y := ⟨_, rfl⟩
        obtain ⟨y2, hy2⟩ : ∃ y, e1[a]! = y := ⟨_, rfl⟩
        rw [hy1] at c1 hbb
        rw [hy2] at c2 hbb
        clear hy1 hy2
        obtain ⟨l, hl⟩ : ∃ l, Sort.ltInt y1 y2 = l := ⟨_, rfl⟩
        rw [hl, hg2] at hbb
        have hbv : bb = l := by rw [← hbb]; simp
        have HV := Aside0.mk hbv
        clear hbb hbv hin
        cases l
        all_goals
          go_quiet ((go_at_call 174; exact Calls.quiet_of_same (less _ _ _)))
          go_wp2_with fail
          go_meet
          exact ⟨by first | (rw [HV.out]; done) | (rw [HV.out]; rfl), nq, rfl⟩
      · have hg1 : decide ((x : Int) ≤ ((jb : Nat) : Int)) = false := decide_eq_false (by omega)
        have hg2 : decide (x ≤ jb) = false := decide_eq_false (by omega)
        have hbv : bb = false := by rw [← HBB.out, hg2]; rfl
        have HV := Aside0.mk hbv
        clear hbv hin
        go_quiet (fail)
        go_wp2_with fail
        go_meet
        exact ⟨by rw [HV.out], nq, rfl⟩
    case rest =>
      obtain ⟨rfl, nq, rfl⟩ := hcut
      cases bb with
      | true =>
        have hx3 : x ≤ jb := by
          obtain ⟨_, _, (⟨_, q1, _⟩ | ⟨q, _⟩)⟩ := HS.out
          · omega
          · cases q
        have HX := Aside0.mk (And.intro hx1 hx2)
        clear hx1 hx2
        have hx4 : (0 : Int) ≤ (x : Int) := by omega
        go_wp2
        go_roundg (jb + 1 - (x + 1))
        case measure =>
          obtain ⟨_, _, (⟨_, q1, _⟩ | ⟨q, _⟩)⟩ := HS.out
          · omega
          · cases q
        case rel =>
          obtain ⟨hx1, hx2⟩ := HX.out
          obtain ⟨hE, hB, (⟨_, q1, q2⟩ | ⟨q, _⟩)⟩ := HS.out
          · exact ⟨x + 1, by go_num, rfl, by omega, .inl (by omega), hE, hB.drewN nq, q2⟩
          · cases q
      | false =>
        have hE := HS.out.1
        have hB := HS.out.2.1.drewN nq
        have hx : I1 = x := by
          obtain ⟨_, _, (⟨q, _⟩ | ⟨_, q⟩)⟩ := HS.out
          · cases q
          · exact q.symm
        subst hx
        replace hE : Row (wr.drewN nq) g t c e1 := hE
        generalize wr.drewN nq = wr at hE hB ⊢
        clear HS HBB
        go_wp2
        have hJ1 := HJ1.out
        clear HJ1
        go_loopg [11] (jb) (fun kk v wr => ∃ x : Nat, v = .int .i64 x ∧ x = kk ∧ x ≤ jb ∧ I1 ≤ x + 1 + (I1 - (jb + 1)) ∧ Row wr g t c e1 ∧ But (fun k => k = g) w wr ∧ Sort.scanDown (fun x => !Sort.ltInt x e1[a]!) e1 (I1) x = J1)
        case atStart => exact ⟨jb, by go_num, rfl, Nat.le_refl _, by omega, hE, hB, hJ1⟩
        obtain ⟨x, rfl, rfl, hx1, hx2, hE, hB, hJ1⟩ := hrel
        rw [scanDown_step _ _ _ _ (by omega)] at hJ1
        obtain ⟨bb, hbb⟩ : ∃ bb, (decide (I1 ≤ x) && (fun x => !Sort.ltInt x e1[a]!) e1[x]!) = bb := ⟨_, rfl⟩
        have hcase : (bb = true ∧ I1 ≤ x ∧ Sort.scanDown (fun x => !Sort.ltInt x e1[a]!) e1 (I1) (x - 1) = J1) ∨ (bb = false ∧ x = J1) := by
          rw [hbb] at hJ1
          cases bb with
          | true => exact .inl ⟨rfl, by simp only [Bool.and_eq_true, decide_eq_true_eq] at hbb; exact hbb.1, by simpa using hJ1⟩
          | false => exact .inr ⟨rfl, by simpa using hJ1⟩
        have hbb2 : (decide (I1 ≤ x) && !Sort.ltInt e1[x]! e1[a]!) = bb := hbb
        have HS := Aside0.mk (And.intro hE (And.intro hB hcase))
        have HBB := Aside0.mk hbb2
        clear hE hB hcase hbb hbb2 hJ1
        go_upto_region 5 with (fail)
        go_cut [60] (fun s wx => s = .bool bb ∧ ∃ nq, wx = wr.drewN nq)
        case first =>
          by_cases hin : I1 ≤ x
          · have hg1 : decide (((I1 : Nat) : Int) ≤ (x : Int)) = true := decide_eq_true (by omega)
            have hg2 : decide (I1 ≤ x) = true := decide_eq_true (by omega)
            have b1 : (0 : Int) ≤ (x : Int) := by omega
            have b2 : (x : Int) < (n : Int) := by omega
            have b3 : (0 : Int) ≤ (a : Int) := by omega
            have b4 : (a : Int) < (n : Int) := by omega
            have c1 := HS.out.1.cell (j := x) (by omega)
            have c2 := HS.out.1.cell (j := a) (by omega)
            have f1 := HS.out.1.free x
            have f2 := HS.out.1.free a
            have hbb := HBB.out
            obtain ⟨y1, hy1⟩ : ∃ y, e1[x]! = y := ⟨_, rfl⟩
            obtain ⟨y2, hy2⟩ : ∃ y, e1[a]! = y := ⟨_, rfl⟩
            rw [hy1] at c1 hbb
            rw [hy2] at c2 hbb
            clear hy1 hy2
            obtain ⟨l, hl⟩ : ∃ l, Sort.ltInt y1 y2 = l := ⟨_, rfl⟩
            rw [hl, hg2] at hbb
            have hbv : bb = !l := by rw [← hbb]; simp
            have HV := Aside0.mk hbv
            clear hbb hbv hin
            cases l
            all_goals
              go_quiet ((go_at_call 174; exact Calls.quiet_of_same (less _ _ _)))
              go_wp2_with fail
              go_meet
              exact ⟨by first | (rw [HV.out]; done) | (rw [HV.out]; rfl), nq, rfl⟩
          · have hg1 : decide (((I1 : Nat) : Int) ≤ (x : Int)) = false := decide_eq_false (by omega)
            have hg2 : decide (I1 ≤ x) = false := decide_eq_false (by omega)
            have hbv : bb = false := by rw [← HBB.out, hg2]; rfl
            have HV := Aside0.mk hbv
            clear hbv hin
            go_quiet (fail)
            go_wp2_with fail
            go_meet
            exact ⟨by rw [HV.out], nq, rfl⟩
        case rest =>
          obtain ⟨rfl, nq, rfl⟩ := hcut
          cases bb with
          | true =>
            have hx3 : 1 ≤ x := by
              obtain ⟨_, _, (⟨_, q1, _⟩ | ⟨q, _⟩)⟩ := HS.out
              · omega
              · cases q
            have HX := Aside0.mk (And.intro hx1 hx2)
            clear hx2
            have hx4 : (1 : Int) ≤ (x : Int) := by omega
            go_wp2
            go_roundg (x - 1)
            case measure =>
              obtain ⟨_, _, (⟨_, q1, _⟩ | ⟨q, _⟩)⟩ := HS.out
              · omega
              · cases q
            case rel =>
              obtain ⟨hx1, hx2⟩ := HX.out
              obtain ⟨hE, hB, (⟨_, q1, q2⟩ | ⟨q, _⟩)⟩ := HS.out
              · exact ⟨x - 1, by congr 1; omega, rfl, by omega, by omega, hE, hB.drewN nq, q2⟩
              · cases q
          | false =>
            have hE := HS.out.1
            have hB := HS.out.2.1.drewN nq
            have hx : J1 = x := by
              obtain ⟨_, _, (⟨q, _⟩ | ⟨_, q⟩)⟩ := HS.out
              · cases q
              · exact q.symm
            subst hx
            replace hE : Row (wr.drewN nq) g t c e1 := hE
            generalize wr.drewN nq = wr at hE hB ⊢
            clear HS HBB
            by_cases hij : I1 > J1
            · have hgt : decide ((J1 : Int) < (I1 : Int)) = true := decide_eq_true (by omega)
              have hgt2 : decide (J1 < I1) = true := decide_eq_true (by omega)
              have hfin : R = (J1, true, Sort.swp e1 J1 a) := by rw [← HRR.out, if_pos hij]
              subst hfin
              obtain ⟨v9, hy9⟩ : ∃ v, (wr.setCell ⟨g, J1, none⟩ (.int .u32 e1[a]!)).cell? ⟨g, a, none⟩ = some v := ⟨_, (hE.set (by omega) _).cell (by simp; omega)⟩
              have c1 := hE.cell (j := J1) (by omega)
              have c2 := hE.cell (j := a) (by omega)
              have f1 := hE.free (J1)
              have f2 := hE.free (a)
              have hN : J1 < e1.size ∧ a < e1.size := by omega
              have hsw := (hE.swp hN.1 hN.2).drew
              have hbt := (hB.trans (But.two _ J1 a (.int .u32 e1[a]!) (.int .u32 e1[J1]!))).drew
              have hS2 : (Sort.swp e1 J1 a).size = n := by rw [swp_size]; omega
              obtain ⟨y1, hy1⟩ : ∃ y, e1[J1]! = y := ⟨_, rfl⟩
              obtain ⟨y2, hy2⟩ : ∃ y, e1[a]! = y := ⟨_, rfl⟩
              rw [hy1] at c1 hsw hbt
              rw [hy2] at c2 hsw hbt hy9
              have b1 : (0 : Int) ≤ ((J1 : Nat) : Int) := by omega
              have b2 : ((J1 : Nat) : Int) < (n : Int) := by omega
              have b3 : (0 : Int) ≤ ((a : Nat) : Int) := by omega
              have b4 : ((a : Nat) : Int) < (n : Int) := by omega
              have HW := Aside0.mk (And.intro hsw (And.intro hbt hS2))
              clear hE hB hN hy1 hy2 hsw hbt hS2
              go_wp2
              go_region
              all_goals
                obtain ⟨hE, hB, hS⟩ := HW.out
                clear c1 c2 f1 f2 b1 b2 b3 b4 hy9 HW
                generalize ((wr.setCell ⟨g, J1, none⟩ (.int .u32 y2)).setCell ⟨g, a, none⟩ (.int .u32 y1)).drew = wr at hE hB ⊢
                go_wp2
                go_ret2
                exact ⟨rfl, hE, hB⟩
            · have hgt : decide ((J1 : Int) < (I1 : Int)) = false := decide_eq_false (by omega)
              have hgt2 : decide (J1 < I1) = false := decide_eq_false (by omega)
              obtain ⟨v9, hy9⟩ : ∃ v, (wr.setCell ⟨g, I1, none⟩ (.int .u32 e1[J1]!)).cell? ⟨g, J1, none⟩ = some v := ⟨_, (hE.set (by omega) _).cell (by simp; omega)⟩
              have c1 := hE.cell (j := I1) (by omega)
              have c2 := hE.cell (j := J1) (by omega)
              have f1 := hE.free (I1)
              have f2 := hE.free (J1)
              have hN : I1 < e1.size ∧ J1 < e1.size := by omega
              have hsw := (hE.swp hN.1 hN.2).drew
              have hbt := (hB.trans (But.two _ I1 J1 (.int .u32 e1[J1]!) (.int .u32 e1[I1]!))).drew
              have hS2 : (Sort.swp e1 I1 J1).size = n := by rw [swp_size]; omega
              obtain ⟨y1, hy1⟩ : ∃ y, e1[I1]! = y := ⟨_, rfl⟩
              obtain ⟨y2, hy2⟩ : ∃ y, e1[J1]! = y := ⟨_, rfl⟩
              rw [hy1] at c1 hsw hbt
              rw [hy2] at c2 hsw hbt hy9
              have b1 : (0 : Int) ≤ ((I1 : Nat) : Int) := by omega
              have b2 : ((I1 : Nat) : Int) < (n : Int) := by omega
              have b3 : (0 : Int) ≤ ((J1 : Nat) : Int) := by omega
              have b4 : ((J1 : Nat) : Int) < (n : Int) := by omega
              have HW := Aside0.mk (And.intro hsw (And.intro hbt hS2))
              clear hE hB hN hy1 hy2 hsw hbt hS2
              go_wp2
              go_region
              all_goals
                obtain ⟨hE, hB, hS⟩ := HW.out
                clear c1 c2 f1 f2 b1 b2 b3 b4 hy9 HW
                generalize ((wr.setCell ⟨g, I1, none⟩ (.int .u32 y2)).setCell ⟨g, J1, none⟩ (.int .u32 y1)).drew = wr at hE hB ⊢
                obtain ⟨e2, he2⟩ : ∃ z, Sort.swp e1 I1 J1 = z := ⟨_, rfl⟩
                rw [he2] at hE hS
                have hpl := HRR.out
                rw [if_neg hij, he2] at hpl
                have HPL := Aside0.mk hpl
                clear hpl HRR he2
                go_wp2
                have hpl := HPL.out
                go_loopg [10, 11] (J1 - 1 + 1 - (I1 + 1)) (fun kk v1 v2 wr => ∃ (i j : Nat) (f : Array Int), v1 = .int .i64 i ∧ v2 = .int .i64 j ∧ kk = j + 1 - i ∧ a + 1 ≤ i ∧ i ≤ j + 2 ∧ j ≤ jb ∧ a ≤ j ∧ f.size = n ∧ Row wr g t c f ∧ But (fun k => k = g) w wr ∧ ((Sort.partLoop Sort.ltInt a i j f).1, false, Sort.swp (Sort.partLoop Sort.ltInt a i j f).2 (Sort.partLoop Sort.ltInt a i j f).1 a) = R)
                case atStart => exact ⟨I1 + 1, J1 - 1, e2, by go_num, by congr 1; omega, rfl, by omega, by omega, by omega, by omega, hS, hE, hB, hpl⟩
                obtain ⟨i, j, f, rfl, rfl, rfl, q1, q2, q3, q4, hS, hE, hB, hpl⟩ := hrel
                rw [Sort.partLoop] at hpl
                obtain ⟨I2, hI2⟩ : ∃ z, Sort.scanUp (fun x => Sort.ltInt x f[a]!) f j i = z := ⟨_, rfl⟩
                obtain ⟨J2, hJ2⟩ : ∃ z, Sort.scanDown (fun x => !Sort.ltInt x f[a]!) f I2 j = z := ⟨_, rfl⟩
                have rI2 : i ≤ I2 ∧ (I2 ≤ j + 1 ∨ I2 = i) := by
                  rw [← hI2]
                  have := scanUp_ge (fun x => Sort.ltInt x f[a]!) f j _ i (Nat.le_refl _)
                  by_cases h : i ≤ j + 1
                  · exact ⟨this.1, .inl (this.2 h)⟩
                  · rw [Sort.scanUp, if_neg (by simp; omega)]
                    exact ⟨Nat.le_refl _, .inr rfl⟩
                have rJ2 : J2 ≤ j ∧ (I2 ≤ j + 1 → I2 ≤ J2 + 1) := by
                  rw [← hJ2]
                  exact scanDown_le (fun x => !Sort.ltInt x f[a]!) f I2 (by omega) j
                simp only [hI2, hJ2] at hpl
                have HPL0 := Aside0.mk hpl
                have HJ2 := Aside0.mk hJ2
                clear hpl hJ2
                go_wp2
                go_loopg [10] (j + 1 - (i)) (fun kk v wr => ∃ x : Nat, v = .int .i64 x ∧ kk = j + 1 - x ∧ i ≤ x ∧ (x ≤ j + 1 ∨ x = i) ∧ Row wr g t c f ∧ But (fun k => k = g) w wr ∧ Sort.scanUp (fun x => Sort.ltInt x f[a]!) f (j) x = I2)
                case atStart => exact ⟨i, by go_num, rfl, Nat.le_refl _, .inr rfl, hE, hB, hI2⟩
                obtain ⟨x, rfl, rfl, hx1, hx2, hE, hB, hI2⟩ := hrel
                rw [Sort.scanUp] at hI2
                obtain ⟨bb, hbb⟩ : ∃ bb, (decide (x ≤ j) && (fun x => Sort.ltInt x f[a]!) f[x]!) = bb := ⟨_, rfl⟩
                have hcase : (bb = true ∧ x ≤ j ∧ Sort.scanUp (fun x => Sort.ltInt x f[a]!) f (j) (x + 1) = I2) ∨ (bb = false ∧ x = I2) := by
                  rw [hbb] at hI2
                  cases bb with
                  | true => exact .inl ⟨rfl, by simp only [Bool.and_eq_true, decide_eq_true_eq] at hbb; exact hbb.1, by simpa using hI2⟩
                  | false => exact .inr ⟨rfl, by simpa using hI2⟩
                have hbb2 : (decide (x ≤ j) && Sort.ltInt f[x]! f[a]!) = bb := hbb
                have HS := Aside0.mk (And.intro hE (And.intro hB hcase))
                have HBB := Aside0.mk hbb2
                clear hE hB hcase hbb hbb2 hI2
                go_upto_region 13 with (fail)
                go_cut [112] (fun s wx => s = .bool bb ∧ ∃ nq, wx = wr.drewN nq)
                case first =>
                  by_cases hin : x ≤ j
                  · have hg1 : decide ((x : Int) ≤ ((j : Nat) : Int)) = true := decide_eq_true (by omega)
                    have hg2 : decide (x ≤ j) = true := decide_eq_true (by omega)
                    have b1 : (0 : Int) ≤ (x : Int) := by omega
                    have b2 : (x : Int) < (n : Int) := by omega
                    have b3 : (0 : Int) ≤ (a : Int) := by omega
                    have b4 : (a : Int) < (n : Int) := by omega
                    have c1 := HS.out.1.cell (j := x) (by omega)
                    have c2 := HS.out.1.cell (j := a) (by omega)
                    have f1 := HS.out.1.free x
                    have f2 := HS.out.1.free a
                    have hbb := HBB.out
                    obtain ⟨y1, hy1⟩ : ∃ y, f[x]! = y := ⟨_, rfl⟩
                    obtain ⟨y2, hy2⟩ : ∃ y, f[a]! = y := ⟨_, rfl⟩
                    rw [hy1] at c1 hbb
                    rw [hy2] at c2 hbb
                    clear hy1 hy2
                    obtain ⟨l, hl⟩ : ∃ l, Sort.ltInt y1 y2 = l := ⟨_, rfl⟩
                    rw [hl, hg2] at hbb
                    have hbv : bb = l := by rw [← hbb]; simp
                    have HV := Aside0.mk hbv
                    clear hbb hbv hin
                    cases l
                    all_goals
                      go_quiet ((go_at_call 174; exact Calls.quiet_of_same (less _ _ _)))
                      go_wp2_with fail
                      go_meet
                      exact ⟨by first | (rw [HV.out]; done) | (rw [HV.out]; rfl), nq, rfl⟩
                  · have hg1 : decide ((x : Int) ≤ ((j : Nat) : Int)) = false := decide_eq_false (by omega)
                    have hg2 : decide (x ≤ j) = false := decide_eq_false (by omega)
                    have hbv : bb = false := by rw [← HBB.out, hg2]; rfl
                    have HV := Aside0.mk hbv
                    clear hbv hin
                    go_quiet (fail)
                    go_wp2_with fail
                    go_meet
                    exact ⟨by rw [HV.out], nq, rfl⟩
                case rest =>
                  obtain ⟨rfl, nq, rfl⟩ := hcut
                  cases bb with
                  | true =>
                    have hx3 : x ≤ j := by
                      obtain ⟨_, _, (⟨_, q1, _⟩ | ⟨q, _⟩)⟩ := HS.out
                      · omega
                      · cases q
                    have HX := Aside0.mk (And.intro hx1 hx2)
                    clear hx1 hx2
                    have hx4 : (0 : Int) ≤ (x : Int) := by omega
                    go_wp2
                    go_roundg (j + 1 - (x + 1))
                    case measure =>
                      obtain ⟨_, _, (⟨_, q1, _⟩ | ⟨q, _⟩)⟩ := HS.out
                      · omega
                      · cases q
                    case rel =>
                      obtain ⟨hx1, hx2⟩ := HX.out
                      obtain ⟨hE, hB, (⟨_, q1, q2⟩ | ⟨q, _⟩)⟩ := HS.out
                      · exact ⟨x + 1, by go_num, rfl, by omega, .inl (by omega), hE, hB.drewN nq, q2⟩
                      · cases q
                  | false =>
                    have hE := HS.out.1
                    have hB := HS.out.2.1.drewN nq
                    have hx : I2 = x := by
                      obtain ⟨_, _, (⟨q, _⟩ | ⟨_, q⟩)⟩ := HS.out
                      · cases q
                      · exact q.symm
                    subst hx
                    replace hE : Row (wr.drewN nq) g t c f := hE
                    generalize wr.drewN nq = wr at hE hB ⊢
                    clear HS HBB
                    go_wp2
                    have hJ2 := HJ2.out
                    clear HJ2
                    go_loopg [11] (j) (fun kk v wr => ∃ x : Nat, v = .int .i64 x ∧ x = kk ∧ x ≤ j ∧ I2 ≤ x + 1 + (I2 - (j + 1)) ∧ Row wr g t c f ∧ But (fun k => k = g) w wr ∧ Sort.scanDown (fun x => !Sort.ltInt x f[a]!) f (I2) x = J2)
                    case atStart => exact ⟨j, by go_num, rfl, Nat.le_refl _, by omega, hE, hB, hJ2⟩
                    obtain ⟨x, rfl, rfl, hx1, hx2, hE, hB, hJ2⟩ := hrel
                    rw [scanDown_step _ _ _ _ (by omega)] at hJ2
                    obtain ⟨bb, hbb⟩ : ∃ bb, (decide (I2 ≤ x) && (fun x => !Sort.ltInt x f[a]!) f[x]!) = bb := ⟨_, rfl⟩
                    have hcase : (bb = true ∧ I2 ≤ x ∧ Sort.scanDown (fun x => !Sort.ltInt x f[a]!) f (I2) (x - 1) = J2) ∨ (bb = false ∧ x = J2) := by
                      rw [hbb] at hJ2
                      cases bb with
                      | true => exact .inl ⟨rfl, by simp only [Bool.and_eq_true, decide_eq_true_eq] at hbb; exact hbb.1, by simpa using hJ2⟩
                      | false => exact .inr ⟨rfl, by simpa using hJ2⟩
                    have hbb2 : (decide (I2 ≤ x) && !Sort.ltInt f[x]! f[a]!) = bb := hbb
                    have HS := Aside0.mk (And.intro hE (And.intro hB hcase))
                    have HBB := Aside0.mk hbb2
                    clear hE hB hcase hbb hbb2 hJ2
                    go_upto_region 15 with (fail)
                    go_cut [129] (fun s wx => s = .bool bb ∧ ∃ nq, wx = wr.drewN nq)
                    case first =>
                      by_cases hin : I2 ≤ x
                      · have hg1 : decide (((I2 : Nat) : Int) ≤ (x : Int)) = true := decide_eq_true (by omega)
                        have hg2 : decide (I2 ≤ x) = true := decide_eq_true (by omega)
                        have b1 : (0 : Int) ≤ (x : Int) := by omega
                        have b2 : (x : Int) < (n : Int) := by omega
                        have b3 : (0 : Int) ≤ (a : Int) := by omega
                        have b4 : (a : Int) < (n : Int) := by omega
                        have c1 := HS.out.1.cell (j := x) (by omega)
                        have c2 := HS.out.1.cell (j := a) (by omega)
                        have f1 := HS.out.1.free x
                        have f2 := HS.out.1.free a
                        have hbb := HBB.out
                        obtain ⟨y1, hy1⟩ : ∃ y, f[x]! = y := ⟨_, rfl⟩
                        obtain ⟨y2, hy2⟩ : ∃ y, f[a]! = y := ⟨_, rfl⟩
                        rw [hy1] at c1 hbb
                        rw [hy2] at c2 hbb
                        clear hy1 hy2
                        obtain ⟨l, hl⟩ : ∃ l, Sort.ltInt y1 y2 = l := ⟨_, rfl⟩
                        rw [hl, hg2] at hbb
                        have hbv : bb = !l := by rw [← hbb]; simp
                        have HV := Aside0.mk hbv
                        clear hbb hbv hin
                        cases l
                        all_goals
                          go_quiet ((go_at_call 174; exact Calls.quiet_of_same (less _ _ _)))
                          go_wp2_with fail
                          go_meet
                          exact ⟨by first | (rw [HV.out]; done) | (rw [HV.out]; rfl), nq, rfl⟩
                      · have hg1 : decide (((I2 : Nat) : Int) ≤ (x : Int)) = false := decide_eq_false (by omega)
                        have hg2 : decide (I2 ≤ x) = false := decide_eq_false (by omega)
                        have hbv : bb = false := by rw [← HBB.out, hg2]; rfl
                        have HV := Aside0.mk hbv
                        clear hbv hin
                        go_quiet (fail)
                        go_wp2_with fail
                        go_meet
                        exact ⟨by rw [HV.out], nq, rfl⟩
                    case rest =>
                      obtain ⟨rfl, nq, rfl⟩ := hcut
                      cases bb with
                      | true =>
                        have hx3 : 1 ≤ x := by
                          obtain ⟨_, _, (⟨_, q1, _⟩ | ⟨q, _⟩)⟩ := HS.out
                          · omega
                          · cases q
                        have HX := Aside0.mk (And.intro hx1 hx2)
                        clear hx2
                        have hx4 : (1 : Int) ≤ (x : Int) := by omega
                        go_wp2
                        go_roundg (x - 1)
                        case measure =>
                          obtain ⟨_, _, (⟨_, q1, _⟩ | ⟨q, _⟩)⟩ := HS.out
                          · omega
                          · cases q
                        case rel =>
                          obtain ⟨hx1, hx2⟩ := HX.out
                          obtain ⟨hE, hB, (⟨_, q1, q2⟩ | ⟨q, _⟩)⟩ := HS.out
                          · exact ⟨x - 1, by congr 1; omega, rfl, by omega, by omega, hE, hB.drewN nq, q2⟩
                          · cases q
                      | false =>
                        have hE := HS.out.1
                        have hB := HS.out.2.1.drewN nq
                        have hx : J2 = x := by
                          obtain ⟨_, _, (⟨q, _⟩ | ⟨_, q⟩)⟩ := HS.out
                          · cases q
                          · exact q.symm
                        subst hx
                        replace hE : Row (wr.drewN nq) g t c f := hE
                        generalize wr.drewN nq = wr at hE hB ⊢
                        clear HS HBB
                        have hpl := HPL0.out
                        clear HPL0
                        by_cases hij : I2 > J2
                        · have hgt : decide ((J2 : Int) < (I2 : Int)) = true := decide_eq_true (by omega)
                          have hgt2 : decide (J2 < I2) = true := decide_eq_true (by omega)
                          rw [if_pos hij] at hpl
                          have HPL := Aside0.mk hpl
                          clear hpl
                          obtain ⟨v9, hy9⟩ : ∃ v, (wr.setCell ⟨g, J2, none⟩ (.int .u32 f[a]!)).cell? ⟨g, a, none⟩ = some v := ⟨_, (hE.set (by omega) _).cell (by simp; omega)⟩
                          have c1 := hE.cell (j := J2) (by omega)
                          have c2 := hE.cell (j := a) (by omega)
                          have f1 := hE.free (J2)
                          have f2 := hE.free (a)
                          have hN : J2 < f.size ∧ a < f.size := by omega
                          have hsw := (hE.swp hN.1 hN.2).drew
                          have hbt := (hB.trans (But.two _ J2 a (.int .u32 f[a]!) (.int .u32 f[J2]!))).drew
                          have hS2 : (Sort.swp f J2 a).size = n := by rw [swp_size]; omega
                          obtain ⟨y1, hy1⟩ : ∃ y, f[J2]! = y := ⟨_, rfl⟩
                          obtain ⟨y2, hy2⟩ : ∃ y, f[a]! = y := ⟨_, rfl⟩
                          rw [hy1] at c1 hsw hbt
                          rw [hy2] at c2 hsw hbt hy9
                          have b1 : (0 : Int) ≤ ((J2 : Nat) : Int) := by omega
                          have b2 : ((J2 : Nat) : Int) < (n : Int) := by omega
                          have b3 : (0 : Int) ≤ ((a : Nat) : Int) := by omega
                          have b4 : ((a : Nat) : Int) < (n : Int) := by omega
                          have HW := Aside0.mk (And.intro hsw (And.intro hbt hS2))
                          clear hE hB hN hy1 hy2 hsw hbt hS2
                          go_wp2
                          go_region
                          all_goals
                            obtain ⟨hE, hB, hS⟩ := HW.out
                            clear c1 c2 f1 f2 b1 b2 b3 b4 hy9 HW
                            generalize ((wr.setCell ⟨g, J2, none⟩ (.int .u32 y2)).setCell ⟨g, a, none⟩ (.int .u32 y1)).drew = wr at hE hB ⊢
                            have hfin : R = (J2, false, Sort.swp f J2 a) := HPL.out.symm
                            subst hfin
                            go_wp2
                            go_ret2
                            exact ⟨rfl, hE, hB⟩
                        · have hgt : decide ((J2 : Int) < (I2 : Int)) = false := decide_eq_false (by omega)
                          have hgt2 : decide (J2 < I2) = false := decide_eq_false (by omega)
                          rw [if_neg hij, dif_pos (by omega)] at hpl
                          have HPL := Aside0.mk hpl
                          clear hpl
                          obtain ⟨v9, hy9⟩ : ∃ v, (wr.setCell ⟨g, I2, none⟩ (.int .u32 f[J2]!)).cell? ⟨g, J2, none⟩ = some v := ⟨_, (hE.set (by omega) _).cell (by simp; omega)⟩
                          have c1 := hE.cell (j := I2) (by omega)
                          have c2 := hE.cell (j := J2) (by omega)
                          have f1 := hE.free (I2)
                          have f2 := hE.free (J2)
                          have hN : I2 < f.size ∧ J2 < f.size := by omega
                          have hsw := (hE.swp hN.1 hN.2).drew
                          have hbt := (hB.trans (But.two _ I2 J2 (.int .u32 f[J2]!) (.int .u32 f[I2]!))).drew
                          have hS2 : (Sort.swp f I2 J2).size = n := by rw [swp_size]; omega
                          obtain ⟨y1, hy1⟩ : ∃ y, f[I2]! = y := ⟨_, rfl⟩
                          obtain ⟨y2, hy2⟩ : ∃ y, f[J2]! = y := ⟨_, rfl⟩
                          rw [hy1] at c1 hsw hbt
                          rw [hy2] at c2 hsw hbt hy9
                          have b1 : (0 : Int) ≤ ((I2 : Nat) : Int) := by omega
                          have b2 : ((I2 : Nat) : Int) < (n : Int) := by omega
                          have b3 : (0 : Int) ≤ ((J2 : Nat) : Int) := by omega
                          have b4 : ((J2 : Nat) : Int) < (n : Int) := by omega
                          have HW := Aside0.mk (And.intro hsw (And.intro hbt hS2))
                          clear hE hB hN hy1 hy2 hsw hbt hS2
                          go_wp2
                          go_region
                          all_goals
                            obtain ⟨hE, hB, hS⟩ := HW.out
                            clear c1 c2 f1 f2 b1 b2 b3 b4 hy9 HW
                            generalize ((wr.setCell ⟨g, I2, none⟩ (.int .u32 y2)).setCell ⟨g, J2, none⟩ (.int .u32 y1)).drew = wr at hE hB ⊢
                            go_wp2
                            go_roundg (J2 - 1 + 1 - (I2 + 1))
                            case measure => omega
                            case rel => exact ⟨I2 + 1, J2 - 1, Sort.swp f I2 J2, by go_num, by congr 1; omega, rfl, by omega, by omega, by omega, by omega, hS, hE, hB, HPL.out⟩
set_option maxHeartbeats 64000000 in
set_option maxRecDepth 100000 in
theorem partitionEqual (g : Nat) (t : TypeId) (c cap a b p n : Nat) (d : Array Int) (w : World) (hn : d.size = n) (hR : Row w g t c d) (hb : b ≤ n) (hap : a ≤ p) (hpb : p < b) (hd : n ≤ 1152921504606846976) :
    Calls Try.prog 175 #[.slice (some ⟨g, 0, none⟩) n cap, .int .i64 a, .int .i64 b, .int .i64 p] w fun e w' => e = .returned (.int .i64 ((Sort.partitionEqual Sort.ltInt d a b p).1 : Nat)) ∧ Row w' g t c (Sort.partitionEqual Sort.ltInt d a b p).2 ∧ But (fun k => k = g) w w' := by
  obtain ⟨R, hRR⟩ : ∃ R, Sort.partitionEqual Sort.ltInt d a b p = R := ⟨_, rfl⟩
  rw [hRR]
  have hE := hR
  have hB := But.refl (fun k => k = g) w
  obtain ⟨ia, hia⟩ : ∃ ia, ia = a + 1 := ⟨_, rfl⟩
  obtain ⟨jb, hjb⟩ : ∃ jb, jb = b - 1 := ⟨_, rfl⟩
  have hiaI : (a : Int) + 1 = (ia : Int) := by omega
  have hjbI : (b : Int) - 1 = (jb : Int) := by omega
  have hlet : (a + 1 ≤ ia ∧ ia ≤ a + 1) ∧ (jb + 1 ≤ b ∧ b ≤ jb + 1) ∧ a < n ∧ jb < n ∧ a ≤ jb := by omega
  obtain ⟨e1, he1⟩ : ∃ z, Sort.swp d a p = z := ⟨_, rfl⟩
  have hse1 : e1.size = n := by rw [← he1, swp_size, hn]

  have hRR2 : Sort.partEqLoop Sort.ltInt a ia jb e1 = R := by
    rw [← hRR]
    unfold Sort.partitionEqual
    rw [he1, ← hia, ← hjb]
  replace hRR := hRR2
  clear hRR2
  have HRR := Aside0.mk hRR
  have HJ1 := Aside0.mk trivial
  have HI1 := Aside0.mk trivial
  have HE1 := Aside0.mk he1
  have HLET := Aside0.mk hlet
  clear hRR hR he1 hia hjb hlet 

  go_enter Try.func175, Try.ntmps175
  obtain ⟨v9, hy9⟩ : ∃ v, (w.setCell ⟨g, a, none⟩ (.int .u32 d[p]!)).cell? ⟨g, p, none⟩ = some v := ⟨_, (hE.set (by omega) _).cell (by simp; omega)⟩
  have c1 := hE.cell (j := a) (by omega)
  have c2 := hE.cell (j := p) (by omega)
  have f1 := hE.free (a)
  have f2 := hE.free (p)
  have hN : a < d.size ∧ p < d.size := by omega
  have hsw := (hE.swp hN.1 hN.2).drew
  have hbt := (hB.trans (But.two _ a p (.int .u32 d[p]!) (.int .u32 d[a]!))).drew
  have hS2 : (Sort.swp d a p).size = n := by rw [swp_size]; omega
  obtain ⟨y1, hy1⟩ : ∃ y, d[a]! = y := ⟨_, rfl⟩
  obtain ⟨y2, hy2⟩ : ∃ y, d[p]! = y := ⟨_, rfl⟩
  rw [hy1] at c1 hsw hbt
  rw [hy2] at c2 hsw hbt hy9
  have b1 : (0 : Int) ≤ ((a : Nat) : Int) := by omega
  have b2 : ((a : Nat) : Int) < (n : Int) := by omega
  have b3 : (0 : Int) ≤ ((p : Nat) : Int) := by omega
  have b4 : ((p : Nat) : Int) < (n : Int) := by omega
  have HW := Aside0.mk (And.intro hsw (And.intro hbt hS2))
  clear hE hB hN hy1 hy2 hsw hbt hS2
  go_wp2
  go_region
  all_goals
    obtain ⟨hE, hB, hS⟩ := HW.out
    clear c1 c2 f1 f2 b1 b2 b3 b4 hy9 HW
    generalize ((w.setCell ⟨g, a, none⟩ (.int .u32 y2)).setCell ⟨g, p, none⟩ (.int .u32 y1)).drew = wr at hE hB ⊢
    rw [HE1.out] at hE hS
    go_wp2
    obtain ⟨⟨l1, l6⟩, ⟨l2, l7⟩, l3, l4, l5⟩ := HLET.out
    go_loopg [9, 10] (jb + 1 - ia) (fun kk v1 v2 wr => ∃ (i j : Nat) (f : Array Int), v1 = .int .i64 i ∧ v2 = .int .i64 j ∧ kk = j + 1 - i ∧ a + 1 ≤ i ∧ i ≤ j + 2 ∧ j ≤ jb ∧ a ≤ j ∧ f.size = n ∧ Row wr g t c f ∧ But (fun k => k = g) w wr ∧ Sort.partEqLoop Sort.ltInt a i j f = R)
    case atStart => exact ⟨ia, jb, e1, rfl, rfl, rfl, by omega, by omega, Nat.le_refl _, by omega, hS, hE, hB, HRR.out⟩
    obtain ⟨i, j, f, rfl, rfl, rfl, q1, q2, q3, q4, hS, hE, hB, hpl⟩ := hrel
    rw [Sort.partEqLoop] at hpl
    obtain ⟨I2, hI2⟩ : ∃ z, Sort.scanUp (fun x => !Sort.ltInt f[a]! x) f j i = z := ⟨_, rfl⟩
    obtain ⟨J2, hJ2⟩ : ∃ z, Sort.scanDown (fun x => Sort.ltInt f[a]! x) f I2 j = z := ⟨_, rfl⟩
    have rI2 : i ≤ I2 ∧ (I2 ≤ j + 1 ∨ I2 = i) := by
      rw [← hI2]
      have := scanUp_ge (fun x => !Sort.ltInt f[a]! x) f j _ i (Nat.le_refl _)
      by_cases h : i ≤ j + 1
      · exact ⟨this.1, .inl (this.2 h)⟩
      · rw [Sort.scanUp, if_neg (by simp; omega)]
        exact ⟨Nat.le_refl _, .inr rfl⟩
    have rJ2 : J2 ≤ j ∧ (I2 ≤ j + 1 → I2 ≤ J2 + 1) := by
      rw [← hJ2]
      exact scanDown_le (fun x => Sort.ltInt f[a]! x) f I2 (by omega) j
    simp only [hI2, hJ2] at hpl
    have HPL0 := Aside0.mk hpl
    have HJ2 := Aside0.mk hJ2
    clear hpl hJ2
    go_wp2
    go_loopg [9] (j + 1 - (i)) (fun kk v wr => ∃ x : Nat, v = .int .i64 x ∧ kk = j + 1 - x ∧ i ≤ x ∧ (x ≤ j + 1 ∨ x = i) ∧ Row wr g t c f ∧ But (fun k => k = g) w wr ∧ Sort.scanUp (fun x => !Sort.ltInt f[a]! x) f (j) x = I2)
    case atStart => exact ⟨i, by go_num, rfl, Nat.le_refl _, .inr rfl, hE, hB, hI2⟩
    obtain ⟨x, rfl, rfl, hx1, hx2, hE, hB, hI2⟩ := hrel
    rw [Sort.scanUp] at hI2
    obtain ⟨bb, hbb⟩ : ∃ bb, (decide (x ≤ j) && (fun x => !Sort.ltInt f[a]! x) f[x]!) = bb := ⟨_, rfl⟩
    have hcase : (bb = true ∧ x ≤ j ∧ Sort.scanUp (fun x => !Sort.ltInt f[a]! x) f (j) (x + 1) = I2) ∨ (bb = false ∧ x = I2) := by
      rw [hbb] at hI2
      cases bb with
      | true => exact .inl ⟨rfl, by simp only [Bool.and_eq_true, decide_eq_true_eq] at hbb; exact hbb.1, by simpa using hI2⟩
      | false => exact .inr ⟨rfl, by simpa using hI2⟩
    have hbb2 : (decide (x ≤ j) && !Sort.ltInt f[a]! f[x]!) = bb := hbb
    have HS := Aside0.mk (And.intro hE (And.intro hB hcase))
    have HBB := Aside0.mk hbb2
    clear hE hB hcase hbb hbb2 hI2
    go_upto_region 3 with (fail)
    go_cut [43] (fun s wx => s = .bool bb ∧ ∃ nq, wx = wr.drewN nq)
    case first =>
      by_cases hin : x ≤ j
      · have hg1 : decide ((x : Int) ≤ ((j : Nat) : Int)) = true := decide_eq_true (by omega)
        have hg2 : decide (x ≤ j) = true := decide_eq_true (by omega)
        have b1 : (0 : Int) ≤ (x : Int) := by omega
        have b2 : (x : Int) < (n : Int) := by omega
        have b3 : (0 : Int) ≤ (a : Int) := by omega
        have b4 : (a : Int) < (n : Int) := by omega
        have c1 := HS.out.1.cell (j := x) (by omega)
        have c2 := HS.out.1.cell (j := a) (by omega)
        have f1 := HS.out.1.free x
        have f2 := HS.out.1.free a
        have hbb := HBB.out
        obtain ⟨y1, hy1⟩ : ∃ y, f[x]! = y := ⟨_, rfl⟩
        obtain ⟨y2, hy2⟩ : ∃ y, f[a]! = y := ⟨_, rfl⟩
        rw [hy1] at c1 hbb
        rw [hy2] at c2 hbb
        clear hy1 hy2
        obtain ⟨l, hl⟩ : ∃ l, Sort.ltInt y2 y1 = l := ⟨_, rfl⟩
        rw [hl, hg2] at hbb
        have hbv : bb = !l := by rw [← hbb]; simp
        have HV := Aside0.mk hbv
        clear hbb hbv hin
        cases l
        all_goals
          go_quiet ((go_at_call 174; exact Calls.quiet_of_same (less _ _ _)))
          go_wp2_with fail
          go_meet
          exact ⟨by first | (rw [HV.out]; done) | (rw [HV.out]; rfl), nq, rfl⟩
      · have hg1 : decide ((x : Int) ≤ ((j : Nat) : Int)) = false := decide_eq_false (by omega)
        have hg2 : decide (x ≤ j) = false := decide_eq_false (by omega)
        have hbv : bb = false := by rw [← HBB.out, hg2]; rfl
        have HV := Aside0.mk hbv
        clear hbv hin
        go_quiet (fail)
        go_wp2_with fail
        go_meet
        exact ⟨by rw [HV.out], nq, rfl⟩
    case rest =>
      obtain ⟨rfl, nq, rfl⟩ := hcut
      cases bb with
      | true =>
        have hx3 : x ≤ j := by
          obtain ⟨_, _, (⟨_, q1, _⟩ | ⟨q, _⟩)⟩ := HS.out
          · omega
          · cases q
        have HX := Aside0.mk (And.intro hx1 hx2)
        clear hx1 hx2
        have hx4 : (0 : Int) ≤ (x : Int) := by omega
        go_wp2
        go_roundg (j + 1 - (x + 1))
        case measure =>
          obtain ⟨_, _, (⟨_, q1, _⟩ | ⟨q, _⟩)⟩ := HS.out
          · omega
          · cases q
        case rel =>
          obtain ⟨hx1, hx2⟩ := HX.out
          obtain ⟨hE, hB, (⟨_, q1, q2⟩ | ⟨q, _⟩)⟩ := HS.out
          · exact ⟨x + 1, by go_num, rfl, by omega, .inl (by omega), hE, hB.drewN nq, q2⟩
          · cases q
      | false =>
        have hE := HS.out.1
        have hB := HS.out.2.1.drewN nq
        have hx : I2 = x := by
          obtain ⟨_, _, (⟨q, _⟩ | ⟨_, q⟩)⟩ := HS.out
          · cases q
          · exact q.symm
        subst hx
        replace hE : Row (wr.drewN nq) g t c f := hE
        generalize wr.drewN nq = wr at hE hB ⊢
        clear HS HBB
        go_wp2
        have hJ2 := HJ2.out
        clear HJ2
        go_loopg [10] (j) (fun kk v wr => ∃ x : Nat, v = .int .i64 x ∧ x = kk ∧ x ≤ j ∧ I2 ≤ x + 1 + (I2 - (j + 1)) ∧ Row wr g t c f ∧ But (fun k => k = g) w wr ∧ Sort.scanDown (fun x => Sort.ltInt f[a]! x) f (I2) x = J2)
        case atStart => exact ⟨j, by go_num, rfl, Nat.le_refl _, by omega, hE, hB, hJ2⟩
        obtain ⟨x, rfl, rfl, hx1, hx2, hE, hB, hJ2⟩ := hrel
        rw [scanDown_step _ _ _ _ (by omega)] at hJ2
        obtain ⟨bb, hbb⟩ : ∃ bb, (decide (I2 ≤ x) && (fun x => Sort.ltInt f[a]! x) f[x]!) = bb := ⟨_, rfl⟩
        have hcase : (bb = true ∧ I2 ≤ x ∧ Sort.scanDown (fun x => Sort.ltInt f[a]! x) f (I2) (x - 1) = J2) ∨ (bb = false ∧ x = J2) := by
          rw [hbb] at hJ2
          cases bb with
          | true => exact .inl ⟨rfl, by simp only [Bool.and_eq_true, decide_eq_true_eq] at hbb; exact hbb.1, by simpa using hJ2⟩
          | false => exact .inr ⟨rfl, by simpa using hJ2⟩
        have hbb2 : (decide (I2 ≤ x) && Sort.ltInt f[a]! f[x]!) = bb := hbb
        have HS := Aside0.mk (And.intro hE (And.intro hB hcase))
        have HBB := Aside0.mk hbb2
        clear hE hB hcase hbb hbb2 hJ2
        go_upto_region 5 with (fail)
        go_cut [59] (fun s wx => s = .bool bb ∧ ∃ nq, wx = wr.drewN nq)
        case first =>
          by_cases hin : I2 ≤ x
          · have hg1 : decide (((I2 : Nat) : Int) ≤ (x : Int)) = true := decide_eq_true (by omega)
            have hg2 : decide (I2 ≤ x) = true := decide_eq_true (by omega)
            have b1 : (0 : Int) ≤ (x : Int) := by omega
            have b2 : (x : Int) < (n : Int) := by omega
            have b3 : (0 : Int) ≤ (a : Int) := by omega
            have b4 : (a : Int) < (n : Int) := by omega
            have c1 := HS.out.1.cell (j := x) (by omega)
            have c2 := HS.out.1.cell (j := a) (by omega)
            have f1 := HS.out.1.free x
            have f2 := HS.out.1.free a
            have hbb := HBB.out
            obtain ⟨y1, hy1⟩ : ∃ y, f[x]! = y := ⟨_, rfl⟩
            obtain ⟨y2, hy2⟩ : ∃ y, f[a]! = y := ⟨_, rfl⟩
            rw [hy1] at c1 hbb
            rw [hy2] at c2 hbb
            clear hy1 hy2
            obtain ⟨l, hl⟩ : ∃ l, Sort.ltInt y2 y1 = l := ⟨_, rfl⟩
            rw [hl, hg2] at hbb
            have hbv : bb = l := by rw [← hbb]; simp
            have HV := Aside0.mk hbv
            clear hbb hbv hin
            cases l
            all_goals
              go_quiet ((go_at_call 174; exact Calls.quiet_of_same (less _ _ _)))
              go_wp2_with fail
              go_meet
              exact ⟨by first | (rw [HV.out]; done) | (rw [HV.out]; rfl), nq, rfl⟩
          · have hg1 : decide (((I2 : Nat) : Int) ≤ (x : Int)) = false := decide_eq_false (by omega)
            have hg2 : decide (I2 ≤ x) = false := decide_eq_false (by omega)
            have hbv : bb = false := by rw [← HBB.out, hg2]; rfl
            have HV := Aside0.mk hbv
            clear hbv hin
            go_quiet (fail)
            go_wp2_with fail
            go_meet
            exact ⟨by rw [HV.out], nq, rfl⟩
        case rest =>
          obtain ⟨rfl, nq, rfl⟩ := hcut
          cases bb with
          | true =>
            have hx3 : 1 ≤ x := by
              obtain ⟨_, _, (⟨_, q1, _⟩ | ⟨q, _⟩)⟩ := HS.out
              · omega
              · cases q
            have HX := Aside0.mk (And.intro hx1 hx2)
            clear hx2
            have hx4 : (1 : Int) ≤ (x : Int) := by omega
            go_wp2
            go_roundg (x - 1)
            case measure =>
              obtain ⟨_, _, (⟨_, q1, _⟩ | ⟨q, _⟩)⟩ := HS.out
              · omega
              · cases q
            case rel =>
              obtain ⟨hx1, hx2⟩ := HX.out
              obtain ⟨hE, hB, (⟨_, q1, q2⟩ | ⟨q, _⟩)⟩ := HS.out
              · exact ⟨x - 1, by congr 1; omega, rfl, by omega, by omega, hE, hB.drewN nq, q2⟩
              · cases q
          | false =>
            have hE := HS.out.1
            have hB := HS.out.2.1.drewN nq
            have hx : J2 = x := by
              obtain ⟨_, _, (⟨q, _⟩ | ⟨_, q⟩)⟩ := HS.out
              · cases q
              · exact q.symm
            subst hx
            replace hE : Row (wr.drewN nq) g t c f := hE
            generalize wr.drewN nq = wr at hE hB ⊢
            clear HS HBB
            have hpl := HPL0.out
            clear HPL0
            by_cases hij : I2 > J2
            · have hgt : decide ((J2 : Int) < (I2 : Int)) = true := decide_eq_true (by omega)
              have hgt2 : decide (J2 < I2) = true := decide_eq_true (by omega)
              rw [if_pos hij] at hpl
              have hfin : R = (I2, f) := hpl.symm
              subst hfin
              clear hpl
              go_wp2
              go_ret
              exact ⟨rfl, hE, hB⟩
            · have hgt : decide ((J2 : Int) < (I2 : Int)) = false := decide_eq_false (by omega)
              have hgt2 : decide (J2 < I2) = false := decide_eq_false (by omega)
              rw [if_neg hij, dif_pos (by omega)] at hpl
              have HPL := Aside0.mk hpl
              clear hpl
              obtain ⟨v9, hy9⟩ : ∃ v, (wr.setCell ⟨g, I2, none⟩ (.int .u32 f[J2]!)).cell? ⟨g, J2, none⟩ = some v := ⟨_, (hE.set (by omega) _).cell (by simp; omega)⟩
              have c1 := hE.cell (j := I2) (by omega)
              have c2 := hE.cell (j := J2) (by omega)
              have f1 := hE.free (I2)
              have f2 := hE.free (J2)
              have hN : I2 < f.size ∧ J2 < f.size := by omega
              have hsw := (hE.swp hN.1 hN.2).drew
              have hbt := (hB.trans (But.two _ I2 J2 (.int .u32 f[J2]!) (.int .u32 f[I2]!))).drew
              have hS2 : (Sort.swp f I2 J2).size = n := by rw [swp_size]; omega
              obtain ⟨y1, hy1⟩ : ∃ y, f[I2]! = y := ⟨_, rfl⟩
              obtain ⟨y2, hy2⟩ : ∃ y, f[J2]! = y := ⟨_, rfl⟩
              rw [hy1] at c1 hsw hbt
              rw [hy2] at c2 hsw hbt hy9
              have b1 : (0 : Int) ≤ ((I2 : Nat) : Int) := by omega
              have b2 : ((I2 : Nat) : Int) < (n : Int) := by omega
              have b3 : (0 : Int) ≤ ((J2 : Nat) : Int) := by omega
              have b4 : ((J2 : Nat) : Int) < (n : Int) := by omega
              have HW := Aside0.mk (And.intro hsw (And.intro hbt hS2))
              clear hE hB hN hy1 hy2 hsw hbt hS2
              go_wp2
              go_region
              all_goals
                obtain ⟨hE, hB, hS⟩ := HW.out
                clear c1 c2 f1 f2 b1 b2 b3 b4 hy9 HW
                generalize ((wr.setCell ⟨g, I2, none⟩ (.int .u32 y2)).setCell ⟨g, J2, none⟩ (.int .u32 y1)).drew = wr at hE hB ⊢
                go_wp2
                go_roundg (J2 - 1 + 1 - (I2 + 1))
                case measure => omega
                case rel => exact ⟨I2 + 1, J2 - 1, Sort.swp f I2 J2, by go_num, by congr 1; omega, rfl, by omega, by omega, by omega, by omega, hS, hE, hB, HPL.out⟩
end Go.Proofs.Ythibppfdonepoaa.Srt
