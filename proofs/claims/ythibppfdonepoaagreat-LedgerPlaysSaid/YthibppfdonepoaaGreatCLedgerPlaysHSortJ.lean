/- Sorting in place: partitions. (Printed by wip/tool/gensort.py.) Sorting in place: a part of insertion. (Printed by wip/tool/gensort2.py.) Sorting in place: patterns are broken. Sorting in place: the whole. Sorting in place: slices.Sort. -/
import Derived.Test.YthibppfdonepoaaGreatCLedgerPlaysHSortC
import Derived.RegionTactic
import Derived.Deep.DeepCutAuto
import Derived.Outline
import Derived.Sort.Lot0
import Derived.Sort.AssemblyPlain
set_option maxHeartbeats 64000000
set_option maxRecDepth 100000
set_option linter.unusedVariables false
namespace Go.Proofs.YthibppfdonepoaaGreat.Srt
open Go.RowKit Go.Proofs.YthibppfdonepoaaGreat.XBut Go.Proofs.YthibppfdonepoaaGreatW.PrintWords Go.Proofs.YthibppfdonepoaaGreatW.PrintLast
theorem scanDown_step (p : Int → Bool) (d : Array Int) (i j : Nat) (hi : 1 ≤ i) : Sort.scanDown p d i j = if (decide (i ≤ j) && p d[j]!) = true then Sort.scanDown p d i (j - 1) else j := by
 cases j with
 | zero => rw [if_neg (by simp; omega)]; rfl
 | succ j => rfl
theorem scanUp_ge (p : Int → Bool) (d : Array Int) (j : Nat) : ∀ (n i : Nat), j + 1 - i ≤ n → i ≤ Sort.scanUp p d j i ∧ (i ≤ j + 1 → Sort.scanUp p d j i ≤ j + 1) := by
 intro n
 induction n with
 | zero => intro i h; rw [Sort.scanUp, if_neg (by simp; omega)]; exact ⟨Nat.le_refl _, id⟩
 | succ n ih =>
  intro i h
  rw [Sort.scanUp]
  split
  ·rename_i h1
   simp only [Bool.and_eq_true, decide_eq_true_eq] at h1
   have := ih (i + 1) (by omega)
   omega
  ·omega
theorem scanDown_le (p : Int → Bool) (d : Array Int) (i : Nat) (hi : 1 ≤ i) : ∀ j : Nat, Sort.scanDown p d i j ≤ j ∧ (i ≤ j + 1 → i ≤ Sort.scanDown p d i j + 1) := by
 intro j
 induction j with
 | zero => rw [scanDown_step _ _ _ _ hi, if_neg (by simp; omega)]; exact ⟨Nat.le_refl _, id⟩
 | succ j ih =>
  rw [scanDown_step _ _ _ _ hi]
  split
  ·rename_i h1
   simp only [Bool.and_eq_true, decide_eq_true_eq] at h1
   have e : j + 1 - 1 = j := rfl
   rw [e]
   omega
  ·omega
theorem partition (g : Nat) (t : TypeId) (c cap a b p n : Nat) (d : Array Int) (w : World) (hn : d.size = n) (hR : Row w g t c d) (hb : b ≤ n) (hap : a ≤ p) (hpb : p < b) (hd : n ≤ 1152921504606846976) :
  Calls Tryz.prog 157 #[.slice (some ⟨g, 0, none⟩) n cap, .int .i64 a, .int .i64 b, .int .i64 p] w fun e w' => e = .returned (.tuple #[.int .i64 ((Sort.partition Sort.ltInt d a b p).1 : Nat), .bool (Sort.partition Sort.ltInt d a b p).2.1]) ∧ Row w' g t c (Sort.partition Sort.ltInt d a b p).2.2 ∧ But (fun k => k = g) w w' := by
 obtain ⟨R, hRR⟩ : ∃ R, Sort.partition Sort.ltInt d a b p = R := ⟨_, rfl⟩
 rw [hRR]
 have hE := hR
 have hB := But.refl (fun k => k = g) w
 obtain ⟨ia, hia⟩ : ∃ ia, ia = a + 1 := ⟨_, rfl⟩
 obtain ⟨jb, hjb⟩ : ∃ jb, jb = b - 1 := ⟨_, rfl⟩
 have hiaI : (a : Int) + 1 = (ia : Int) := by omega
 have hjbI : (b : Int) - 1 = (jb : Int) := by omega
 have hlet : (a + 1 ≤ ia ∧ ia ≤ a + 1) ∧ (jb + 1 ≤ b ∧ b ≤ jb + 1) ∧ a < n ∧ jb < n ∧ a ≤ jb := by omega
 obtain ⟨e1, he1⟩ : ∃ z, Sort.swp d a p = z := ⟨_, rfl⟩
 have hse1 : e1.size = n := by rw [← he1, swp_size, hn]
 obtain ⟨I1, hI1⟩ : ∃ z, Sort.scanUp (fun x => Sort.ltInt x e1[a]!) e1 jb ia = z := ⟨_, rfl⟩
 obtain ⟨J1, hJ1⟩ : ∃ z, Sort.scanDown (fun x => !Sort.ltInt x e1[a]!) e1 I1 jb = z := ⟨_, rfl⟩
 have rI1 : ia ≤ I1 ∧ (I1 ≤ jb + 1 ∨ I1 = ia) := by
  rw [← hI1]
  have := scanUp_ge (fun x => Sort.ltInt x e1[a]!) e1 jb _ ia (Nat.le_refl _)
  by_cases h : ia ≤ jb + 1
  ·exact ⟨this.1, .inl (this.2 h)⟩
  ·rw [Sort.scanUp, if_neg (by simp; omega)]
   exact ⟨Nat.le_refl _, .inr rfl⟩
 have rJ1 : J1 ≤ jb ∧ (I1 ≤ jb + 1 → I1 ≤ J1 + 1) := by
  rw [← hJ1]
  exact scanDown_le (fun x => !Sort.ltInt x e1[a]!) e1 I1 (by omega) jb
 have hRR2 : (if I1 > J1 then (J1, true, Sort.swp e1 J1 a) else ((Sort.partLoop Sort.ltInt a (I1 + 1) (J1 - 1) (Sort.swp e1 I1 J1)).1, false, Sort.swp (Sort.partLoop Sort.ltInt a (I1 + 1) (J1 - 1) (Sort.swp e1 I1 J1)).2 (Sort.partLoop Sort.ltInt a (I1 + 1) (J1 - 1) (Sort.swp e1 I1 J1)).1 a)) = R := by
  rw [← hRR]
  unfold Sort.partition
  dsimp only
  rw [he1, ← hia, ← hjb, hI1, hJ1]
 replace hRR := hRR2
 clear hRR2
 have HRR := Aside0.mk hRR
 have HJ1 := Aside0.mk hJ1
 have HI1 := Aside0.mk hI1
 have HE1 := Aside0.mk he1
 have HLET := Aside0.mk hlet
 clear hRR hR he1 hia hjb hlet hJ1 hI1
 go_enter Tryz.func157, Tryz.ntmps157
 obtain ⟨v9, hy9⟩ : ∃ v, (w.setCell ⟨g, a, none⟩ (.int .u32 d[p]!)).cell? ⟨g, p, none⟩ = some v := ⟨_, (hE.set (by omega) _).cell (by simp; omega)⟩
 have c1 := hE.cell (j := a) (by omega)
 have c2 := hE.cell (j := p) (by omega)
 have f1 := hE.free (a)
 have f2 := hE.free (p)
 have hN : a < d.size ∧ p < d.size := by omega
 have hsw := (hE.swp hN.1 hN.2).drew
 have hbt := (hB.trans (But.two _ a p (.int .u32 d[p]!) (.int .u32 d[a]!))).drew
 have hS2 : (Sort.swp d a p).size = n := by rw [swp_size]; omega
 obtain ⟨y1, hy1⟩ : ∃ y, d[a]! = y := ⟨_, rfl⟩
 obtain ⟨y2, hy2⟩ : ∃ y, d[p]! = y := ⟨_, rfl⟩
 rw [hy1] at c1 hsw hbt
 rw [hy2] at c2 hsw hbt hy9
 have b1 : (0 : Int) ≤ ((a : Nat) : Int) := by omega
 have b2 : ((a : Nat) : Int) < (n : Int) := by omega
 have b3 : (0 : Int) ≤ ((p : Nat) : Int) := by omega
 have b4 : ((p : Nat) : Int) < (n : Int) := by omega
 have HW := Aside0.mk (And.intro hsw (And.intro hbt hS2))
 clear hE hB hN hy1 hy2 hsw hbt hS2
 go_wp2
 go_region
 all_goals
  obtain ⟨hE, hB, hS⟩ := HW.out
  clear c1 c2 f1 f2 b1 b2 b3 b4 hy9 HW
  generalize ((w.setCell ⟨g, a, none⟩ (.int .u32 y2)).setCell ⟨g, p, none⟩ (.int .u32 y1)).drew = wr at hE hB ⊢
  rw [HE1.out] at hE hS
  go_wp2
  obtain ⟨⟨l1, l6⟩, ⟨l2, l7⟩, l3, l4, l5⟩ := HLET.out
  have hI1 := HI1.out
  go_loopg [10] (jb + 1 - (ia)) (fun kk v wr => ∃ x : Nat, v = .int .i64 x ∧ kk = jb + 1 - x ∧ ia ≤ x ∧ (x ≤ jb + 1 ∨ x = ia) ∧ Row wr g t c e1 ∧ But (fun k => k = g) w wr ∧ Sort.scanUp (fun x => Sort.ltInt x e1[a]!) e1 (jb) x = I1)
  case atStart => exact ⟨ia, by go_num, rfl, Nat.le_refl _, .inr rfl, hE, hB, hI1⟩
  obtain ⟨x, rfl, rfl, hx1, hx2, hE, hB, hI1⟩ := hrel
  rw [Sort.scanUp] at hI1
  obtain ⟨bb, hbb⟩ : ∃ bb, (decide (x ≤ jb) && (fun x => Sort.ltInt x e1[a]!) e1[x]!) = bb := ⟨_, rfl⟩
  have hcase : (bb = true ∧ x ≤ jb ∧ Sort.scanUp (fun x => Sort.ltInt x e1[a]!) e1 (jb) (x + 1) = I1) ∨ (bb = false ∧ x = I1) := by
   rw [hbb] at hI1
   cases bb with
   | true => exact .inl ⟨rfl, by simp only [Bool.and_eq_true, decide_eq_true_eq] at hbb; exact hbb.1, by simpa using hI1⟩
   | false => exact .inr ⟨rfl, by simpa using hI1⟩
  have hbb2 : (decide (x ≤ jb) && Sort.ltInt e1[x]! e1[a]!) = bb := hbb
  have HS := Aside0.mk (And.intro hE (And.intro hB hcase))
  have HBB := Aside0.mk hbb2
  clear hE hB hcase hbb hbb2 hI1
  go_upto_region 3 with (fail)
  go_cut [43] (fun s wx => s = .bool bb ∧ ∃ nq, wx = wr.drewN nq)
  case first =>
   by_cases hin : x ≤ jb
   ·have hg1 : decide ((x : Int) ≤ ((jb : Nat) : Int)) = true := decide_eq_true (by omega)
    have hg2 : decide (x ≤ jb) = true := decide_eq_true (by omega)
    have b1 : (0 : Int) ≤ (x : Int) := by omega
    have b2 : (x : Int) < (n : Int) := by omega
    have b3 : (0 : Int) ≤ (a : Int) := by omega
    have b4 : (a : Int) < (n : Int) := by omega
    have c1 := HS.out.1.cell (j := x) (by omega)
    have c2 := HS.out.1.cell (j := a) (by omega)
    have f1 := HS.out.1.free x
    have f2 := HS.out.1.free a
    have hbb := HBB.out
    obtain ⟨y1, hy1⟩ : ∃ y, e1[x]! = y := ⟨_, rfl⟩
    obtain ⟨y2, hy2⟩ : ∃ y, e1[a]! = y := ⟨_, rfl⟩
    rw [hy1] at c1 hbb
    rw [hy2] at c2 hbb
    clear hy1 hy2
    obtain ⟨l, hl⟩ : ∃ l, Sort.ltInt y1 y2 = l := ⟨_, rfl⟩
    rw [hl, hg2] at hbb
    have hbv : bb = l := by rw [← hbb]; simp
    have HV := Aside0.mk hbv
    clear hbb hbv hin
    cases l
    all_goals
     go_quiet ((go_at_call 155; exact Calls.quiet_of_same (less _ _ _)))
     go_wp2_with fail
     go_meet
     exact ⟨by first | (rw [HV.out]; done) | (rw [HV.out]; rfl), nq, rfl⟩
   ·have hg1 : decide ((x : Int) ≤ ((jb : Nat) : Int)) = false := decide_eq_false (by omega)
    have hg2 : decide (x ≤ jb) = false := decide_eq_false (by omega)
    have hbv : bb = false := by rw [← HBB.out, hg2]; rfl
    have HV := Aside0.mk hbv
    clear hbv hin
    go_quiet (fail)
    go_wp2_with fail
    go_meet
    exact ⟨by rw [HV.out], nq, rfl⟩
  case rest =>
   obtain ⟨rfl, nq, rfl⟩ := hcut
   cases bb with
   | true =>
    have hx3 : x ≤ jb := by
     obtain ⟨_, _, (⟨_, q1, _⟩ | ⟨q, _⟩)⟩ := HS.out
     ·omega
     ·cases q
    have HX := Aside0.mk (And.intro hx1 hx2)
    clear hx1 hx2
    have hx4 : (0 : Int) ≤ (x : Int) := by omega
    go_wp2
    go_roundg (jb + 1 - (x + 1))
    case measure =>
     obtain ⟨_, _, (⟨_, q1, _⟩ | ⟨q, _⟩)⟩ := HS.out
     ·omega
     ·cases q
    case rel =>
     obtain ⟨hx1, hx2⟩ := HX.out
     obtain ⟨hE, hB, (⟨_, q1, q2⟩ | ⟨q, _⟩)⟩ := HS.out
     ·exact ⟨x + 1, by go_num, rfl, by omega, .inl (by omega), hE, hB.drewN nq, q2⟩
     ·cases q
   | false =>
    have hE := HS.out.1
    have hB := HS.out.2.1.drewN nq
    have hx : I1 = x := by
     obtain ⟨_, _, (⟨q, _⟩ | ⟨_, q⟩)⟩ := HS.out
     ·cases q
     ·exact q.symm
    subst hx
    replace hE : Row (wr.drewN nq) g t c e1 := hE
    generalize wr.drewN nq = wr at hE hB ⊢
    clear HS HBB
    go_wp2
    have hJ1 := HJ1.out
    clear HJ1
    go_loopg [11] (jb) (fun kk v wr => ∃ x : Nat, v = .int .i64 x ∧ x = kk ∧ x ≤ jb ∧ I1 ≤ x + 1 + (I1 - (jb + 1)) ∧ Row wr g t c e1 ∧ But (fun k => k = g) w wr ∧ Sort.scanDown (fun x => !Sort.ltInt x e1[a]!) e1 (I1) x = J1)
    case atStart => exact ⟨jb, by go_num, rfl, Nat.le_refl _, by omega, hE, hB, hJ1⟩
    obtain ⟨x, rfl, rfl, hx1, hx2, hE, hB, hJ1⟩ := hrel
    rw [scanDown_step _ _ _ _ (by omega)] at hJ1
    obtain ⟨bb, hbb⟩ : ∃ bb, (decide (I1 ≤ x) && (fun x => !Sort.ltInt x e1[a]!) e1[x]!) = bb := ⟨_, rfl⟩
    have hcase : (bb = true ∧ I1 ≤ x ∧ Sort.scanDown (fun x => !Sort.ltInt x e1[a]!) e1 (I1) (x - 1) = J1) ∨ (bb = false ∧ x = J1) := by
     rw [hbb] at hJ1
     cases bb with
     | true => exact .inl ⟨rfl, by simp only [Bool.and_eq_true, decide_eq_true_eq] at hbb; exact hbb.1, by simpa using hJ1⟩
     | false => exact .inr ⟨rfl, by simpa using hJ1⟩
    have hbb2 : (decide (I1 ≤ x) && !Sort.ltInt e1[x]! e1[a]!) = bb := hbb
    have HS := Aside0.mk (And.intro hE (And.intro hB hcase))
    have HBB := Aside0.mk hbb2
    clear hE hB hcase hbb hbb2 hJ1
    go_upto_region 5 with (fail)
    go_cut [60] (fun s wx => s = .bool bb ∧ ∃ nq, wx = wr.drewN nq)
    case first =>
     by_cases hin : I1 ≤ x
     ·have hg1 : decide (((I1 : Nat) : Int) ≤ (x : Int)) = true := decide_eq_true (by omega)
      have hg2 : decide (I1 ≤ x) = true := decide_eq_true (by omega)
      have b1 : (0 : Int) ≤ (x : Int) := by omega
      have b2 : (x : Int) < (n : Int) := by omega
      have b3 : (0 : Int) ≤ (a : Int) := by omega
      have b4 : (a : Int) < (n : Int) := by omega
      have c1 := HS.out.1.cell (j := x) (by omega)
      have c2 := HS.out.1.cell (j := a) (by omega)
      have f1 := HS.out.1.free x
      have f2 := HS.out.1.free a
      have hbb := HBB.out
      obtain ⟨y1, hy1⟩ : ∃ y, e1[x]! = y := ⟨_, rfl⟩
      obtain ⟨y2, hy2⟩ : ∃ y, e1[a]! = y := ⟨_, rfl⟩
      rw [hy1] at c1 hbb
      rw [hy2] at c2 hbb
      clear hy1 hy2
      obtain ⟨l, hl⟩ : ∃ l, Sort.ltInt y1 y2 = l := ⟨_, rfl⟩
      rw [hl, hg2] at hbb
      have hbv : bb = !l := by rw [← hbb]; simp
      have HV := Aside0.mk hbv
      clear hbb hbv hin
      cases l
      all_goals
       go_quiet ((go_at_call 155; exact Calls.quiet_of_same (less _ _ _)))
       go_wp2_with fail
       go_meet
       exact ⟨by first | (rw [HV.out]; done) | (rw [HV.out]; rfl), nq, rfl⟩
     ·have hg1 : decide (((I1 : Nat) : Int) ≤ (x : Int)) = false := decide_eq_false (by omega)
      have hg2 : decide (I1 ≤ x) = false := decide_eq_false (by omega)
      have hbv : bb = false := by rw [← HBB.out, hg2]; rfl
      have HV := Aside0.mk hbv
      clear hbv hin
      go_quiet (fail)
      go_wp2_with fail
      go_meet
      exact ⟨by rw [HV.out], nq, rfl⟩
    case rest =>
     obtain ⟨rfl, nq, rfl⟩ := hcut
     cases bb with
     | true =>
      have hx3 : 1 ≤ x := by
       obtain ⟨_, _, (⟨_, q1, _⟩ | ⟨q, _⟩)⟩ := HS.out
       ·omega
       ·cases q
      have HX := Aside0.mk (And.intro hx1 hx2)
      clear hx2
      have hx4 : (1 : Int) ≤ (x : Int) := by omega
      go_wp2
      go_roundg (x - 1)
      case measure =>
       obtain ⟨_, _, (⟨_, q1, _⟩ | ⟨q, _⟩)⟩ := HS.out
       ·omega
       ·cases q
      case rel =>
       obtain ⟨hx1, hx2⟩ := HX.out
       obtain ⟨hE, hB, (⟨_, q1, q2⟩ | ⟨q, _⟩)⟩ := HS.out
       ·exact ⟨x - 1, by congr 1; omega, rfl, by omega, by omega, hE, hB.drewN nq, q2⟩
       ·cases q
     | false =>
      have hE := HS.out.1
      have hB := HS.out.2.1.drewN nq
      have hx : J1 = x := by
       obtain ⟨_, _, (⟨q, _⟩ | ⟨_, q⟩)⟩ := HS.out
       ·cases q
       ·exact q.symm
      subst hx
      replace hE : Row (wr.drewN nq) g t c e1 := hE
      generalize wr.drewN nq = wr at hE hB ⊢
      clear HS HBB
      by_cases hij : I1 > J1
      ·have hgt : decide ((J1 : Int) < (I1 : Int)) = true := decide_eq_true (by omega)
       have hgt2 : decide (J1 < I1) = true := decide_eq_true (by omega)
       have hfin : R = (J1, true, Sort.swp e1 J1 a) := by rw [← HRR.out, if_pos hij]
       subst hfin
       obtain ⟨v9, hy9⟩ : ∃ v, (wr.setCell ⟨g, J1, none⟩ (.int .u32 e1[a]!)).cell? ⟨g, a, none⟩ = some v := ⟨_, (hE.set (by omega) _).cell (by simp; omega)⟩
       have c1 := hE.cell (j := J1) (by omega)
       have c2 := hE.cell (j := a) (by omega)
       have f1 := hE.free (J1)
       have f2 := hE.free (a)
       have hN : J1 < e1.size ∧ a < e1.size := by omega
       have hsw := (hE.swp hN.1 hN.2).drew
       have hbt := (hB.trans (But.two _ J1 a (.int .u32 e1[a]!) (.int .u32 e1[J1]!))).drew
       have hS2 : (Sort.swp e1 J1 a).size = n := by rw [swp_size]; omega
       obtain ⟨y1, hy1⟩ : ∃ y, e1[J1]! = y := ⟨_, rfl⟩
       obtain ⟨y2, hy2⟩ : ∃ y, e1[a]! = y := ⟨_, rfl⟩
       rw [hy1] at c1 hsw hbt
       rw [hy2] at c2 hsw hbt hy9
       have b1 : (0 : Int) ≤ ((J1 : Nat) : Int) := by omega
       have b2 : ((J1 : Nat) : Int) < (n : Int) := by omega
       have b3 : (0 : Int) ≤ ((a : Nat) : Int) := by omega
       have b4 : ((a : Nat) : Int) < (n : Int) := by omega
       have HW := Aside0.mk (And.intro hsw (And.intro hbt hS2))
       clear hE hB hN hy1 hy2 hsw hbt hS2
       go_wp2
       go_region
       all_goals
        obtain ⟨hE, hB, hS⟩ := HW.out
        clear c1 c2 f1 f2 b1 b2 b3 b4 hy9 HW
        generalize ((wr.setCell ⟨g, J1, none⟩ (.int .u32 y2)).setCell ⟨g, a, none⟩ (.int .u32 y1)).drew = wr at hE hB ⊢
        go_wp2
        go_ret2
        exact ⟨rfl, hE, hB⟩
      ·have hgt : decide ((J1 : Int) < (I1 : Int)) = false := decide_eq_false (by omega)
       have hgt2 : decide (J1 < I1) = false := decide_eq_false (by omega)
       obtain ⟨v9, hy9⟩ : ∃ v, (wr.setCell ⟨g, I1, none⟩ (.int .u32 e1[J1]!)).cell? ⟨g, J1, none⟩ = some v := ⟨_, (hE.set (by omega) _).cell (by simp; omega)⟩
       have c1 := hE.cell (j := I1) (by omega)
       have c2 := hE.cell (j := J1) (by omega)
       have f1 := hE.free (I1)
       have f2 := hE.free (J1)
       have hN : I1 < e1.size ∧ J1 < e1.size := by omega
       have hsw := (hE.swp hN.1 hN.2).drew
       have hbt := (hB.trans (But.two _ I1 J1 (.int .u32 e1[J1]!) (.int .u32 e1[I1]!))).drew
       have hS2 : (Sort.swp e1 I1 J1).size = n := by rw [swp_size]; omega
       obtain ⟨y1, hy1⟩ : ∃ y, e1[I1]! = y := ⟨_, rfl⟩
       obtain ⟨y2, hy2⟩ : ∃ y, e1[J1]! = y := ⟨_, rfl⟩
       rw [hy1] at c1 hsw hbt
       rw [hy2] at c2 hsw hbt hy9
       have b1 : (0 : Int) ≤ ((I1 : Nat) : Int) := by omega
       have b2 : ((I1 : Nat) : Int) < (n : Int) := by omega
       have b3 : (0 : Int) ≤ ((J1 : Nat) : Int) := by omega
       have b4 : ((J1 : Nat) : Int) < (n : Int) := by omega
       have HW := Aside0.mk (And.intro hsw (And.intro hbt hS2))
       clear hE hB hN hy1 hy2 hsw hbt hS2
       go_wp2
       go_region
       all_goals
        obtain ⟨hE, hB, hS⟩ := HW.out
        clear c1 c2 f1 f2 b1 b2 b3 b4 hy9 HW
        generalize ((wr.setCell ⟨g, I1, none⟩ (.int .u32 y2)).setCell ⟨g, J1, none⟩ (.int .u32 y1)).drew = wr at hE hB ⊢
        obtain ⟨e2, he2⟩ : ∃ z, Sort.swp e1 I1 J1 = z := ⟨_, rfl⟩
        rw [he2] at hE hS
        have hpl := HRR.out
        rw [if_neg hij, he2] at hpl
        have HPL := Aside0.mk hpl
        clear hpl HRR he2
        go_wp2
        have hpl := HPL.out
        go_loopg [10, 11] (J1 - 1 + 1 - (I1 + 1)) (fun kk v1 v2 wr => ∃ (i j : Nat) (f : Array Int), v1 = .int .i64 i ∧ v2 = .int .i64 j ∧ kk = j + 1 - i ∧ a + 1 ≤ i ∧ i ≤ j + 2 ∧ j ≤ jb ∧ a ≤ j ∧ f.size = n ∧ Row wr g t c f ∧ But (fun k => k = g) w wr ∧ ((Sort.partLoop Sort.ltInt a i j f).1, false, Sort.swp (Sort.partLoop Sort.ltInt a i j f).2 (Sort.partLoop Sort.ltInt a i j f).1 a) = R)
        case atStart => exact ⟨I1 + 1, J1 - 1, e2, by go_num, by congr 1; omega, rfl, by omega, by omega, by omega, by omega, hS, hE, hB, hpl⟩
        obtain ⟨i, j, f, rfl, rfl, rfl, q1, q2, q3, q4, hS, hE, hB, hpl⟩ := hrel
        rw [Sort.partLoop] at hpl
        obtain ⟨I2, hI2⟩ : ∃ z, Sort.scanUp (fun x => Sort.ltInt x f[a]!) f j i = z := ⟨_, rfl⟩
        obtain ⟨J2, hJ2⟩ : ∃ z, Sort.scanDown (fun x => !Sort.ltInt x f[a]!) f I2 j = z := ⟨_, rfl⟩
        have rI2 : i ≤ I2 ∧ (I2 ≤ j + 1 ∨ I2 = i) := by
         rw [← hI2]
         have := scanUp_ge (fun x => Sort.ltInt x f[a]!) f j _ i (Nat.le_refl _)
         by_cases h : i ≤ j + 1
         ·exact ⟨this.1, .inl (this.2 h)⟩
         ·rw [Sort.scanUp, if_neg (by simp; omega)]
          exact ⟨Nat.le_refl _, .inr rfl⟩
        have rJ2 : J2 ≤ j ∧ (I2 ≤ j + 1 → I2 ≤ J2 + 1) := by
         rw [← hJ2]
         exact scanDown_le (fun x => !Sort.ltInt x f[a]!) f I2 (by omega) j
        simp only [hI2, hJ2] at hpl
        have HPL0 := Aside0.mk hpl
        have HJ2 := Aside0.mk hJ2
        clear hpl hJ2
        go_wp2
        go_loopg [10] (j + 1 - (i)) (fun kk v wr => ∃ x : Nat, v = .int .i64 x ∧ kk = j + 1 - x ∧ i ≤ x ∧ (x ≤ j + 1 ∨ x = i) ∧ Row wr g t c f ∧ But (fun k => k = g) w wr ∧ Sort.scanUp (fun x => Sort.ltInt x f[a]!) f (j) x = I2)
        case atStart => exact ⟨i, by go_num, rfl, Nat.le_refl _, .inr rfl, hE, hB, hI2⟩
        obtain ⟨x, rfl, rfl, hx1, hx2, hE, hB, hI2⟩ := hrel
        rw [Sort.scanUp] at hI2
        obtain ⟨bb, hbb⟩ : ∃ bb, (decide (x ≤ j) && (fun x => Sort.ltInt x f[a]!) f[x]!) = bb := ⟨_, rfl⟩
        have hcase : (bb = true ∧ x ≤ j ∧ Sort.scanUp (fun x => Sort.ltInt x f[a]!) f (j) (x + 1) = I2) ∨ (bb = false ∧ x = I2) := by
         rw [hbb] at hI2
         cases bb with
         | true => exact .inl ⟨rfl, by simp only [Bool.and_eq_true, decide_eq_true_eq] at hbb; exact hbb.1, by simpa using hI2⟩
         | false => exact .inr ⟨rfl, by simpa using hI2⟩
        have hbb2 : (decide (x ≤ j) && Sort.ltInt f[x]! f[a]!) = bb := hbb
        have HS := Aside0.mk (And.intro hE (And.intro hB hcase))
        have HBB := Aside0.mk hbb2
        clear hE hB hcase hbb hbb2 hI2
        go_upto_region 13 with (fail)
        go_cut [112] (fun s wx => s = .bool bb ∧ ∃ nq, wx = wr.drewN nq)
        case first =>
         by_cases hin : x ≤ j
         ·have hg1 : decide ((x : Int) ≤ ((j : Nat) : Int)) = true := decide_eq_true (by omega)
          have hg2 : decide (x ≤ j) = true := decide_eq_true (by omega)
          have b1 : (0 : Int) ≤ (x : Int) := by omega
          have b2 : (x : Int) < (n : Int) := by omega
          have b3 : (0 : Int) ≤ (a : Int) := by omega
          have b4 : (a : Int) < (n : Int) := by omega
          have c1 := HS.out.1.cell (j := x) (by omega)
          have c2 := HS.out.1.cell (j := a) (by omega)
          have f1 := HS.out.1.free x
          have f2 := HS.out.1.free a
          have hbb := HBB.out
          obtain ⟨y1, hy1⟩ : ∃ y, f[x]! = y := ⟨_, rfl⟩
          obtain ⟨y2, hy2⟩ : ∃ y, f[a]! = y := ⟨_, rfl⟩
          rw [hy1] at c1 hbb
          rw [hy2] at c2 hbb
          clear hy1 hy2
          obtain ⟨l, hl⟩ : ∃ l, Sort.ltInt y1 y2 = l := ⟨_, rfl⟩
          rw [hl, hg2] at hbb
          have hbv : bb = l := by rw [← hbb]; simp
          have HV := Aside0.mk hbv
          clear hbb hbv hin
          cases l
          all_goals
           go_quiet ((go_at_call 155; exact Calls.quiet_of_same (less _ _ _)))
           go_wp2_with fail
           go_meet
           exact ⟨by first | (rw [HV.out]; done) | (rw [HV.out]; rfl), nq, rfl⟩
         ·have hg1 : decide ((x : Int) ≤ ((j : Nat) : Int)) = false := decide_eq_false (by omega)
          have hg2 : decide (x ≤ j) = false := decide_eq_false (by omega)
          have hbv : bb = false := by rw [← HBB.out, hg2]; rfl
          have HV := Aside0.mk hbv
          clear hbv hin
          go_quiet (fail)
          go_wp2_with fail
          go_meet
          exact ⟨by rw [HV.out], nq, rfl⟩
        case rest =>
         obtain ⟨rfl, nq, rfl⟩ := hcut
         cases bb with
         | true =>
          have hx3 : x ≤ j := by
           obtain ⟨_, _, (⟨_, q1, _⟩ | ⟨q, _⟩)⟩ := HS.out
           ·omega
           ·cases q
          have HX := Aside0.mk (And.intro hx1 hx2)
          clear hx1 hx2
          have hx4 : (0 : Int) ≤ (x : Int) := by omega
          go_wp2
          go_roundg (j + 1 - (x + 1))
          case measure =>
           obtain ⟨_, _, (⟨_, q1, _⟩ | ⟨q, _⟩)⟩ := HS.out
           ·omega
           ·cases q
          case rel =>
           obtain ⟨hx1, hx2⟩ := HX.out
           obtain ⟨hE, hB, (⟨_, q1, q2⟩ | ⟨q, _⟩)⟩ := HS.out
           ·exact ⟨x + 1, by go_num, rfl, by omega, .inl (by omega), hE, hB.drewN nq, q2⟩
           ·cases q
         | false =>
          have hE := HS.out.1
          have hB := HS.out.2.1.drewN nq
          have hx : I2 = x := by
           obtain ⟨_, _, (⟨q, _⟩ | ⟨_, q⟩)⟩ := HS.out
           ·cases q
           ·exact q.symm
          subst hx
          replace hE : Row (wr.drewN nq) g t c f := hE
          generalize wr.drewN nq = wr at hE hB ⊢
          clear HS HBB
          go_wp2
          have hJ2 := HJ2.out
          clear HJ2
          go_loopg [11] (j) (fun kk v wr => ∃ x : Nat, v = .int .i64 x ∧ x = kk ∧ x ≤ j ∧ I2 ≤ x + 1 + (I2 - (j + 1)) ∧ Row wr g t c f ∧ But (fun k => k = g) w wr ∧ Sort.scanDown (fun x => !Sort.ltInt x f[a]!) f (I2) x = J2)
          case atStart => exact ⟨j, by go_num, rfl, Nat.le_refl _, by omega, hE, hB, hJ2⟩
          obtain ⟨x, rfl, rfl, hx1, hx2, hE, hB, hJ2⟩ := hrel
          rw [scanDown_step _ _ _ _ (by omega)] at hJ2
          obtain ⟨bb, hbb⟩ : ∃ bb, (decide (I2 ≤ x) && (fun x => !Sort.ltInt x f[a]!) f[x]!) = bb := ⟨_, rfl⟩
          have hcase : (bb = true ∧ I2 ≤ x ∧ Sort.scanDown (fun x => !Sort.ltInt x f[a]!) f (I2) (x - 1) = J2) ∨ (bb = false ∧ x = J2) := by
           rw [hbb] at hJ2
           cases bb with
           | true => exact .inl ⟨rfl, by simp only [Bool.and_eq_true, decide_eq_true_eq] at hbb; exact hbb.1, by simpa using hJ2⟩
           | false => exact .inr ⟨rfl, by simpa using hJ2⟩
          have hbb2 : (decide (I2 ≤ x) && !Sort.ltInt f[x]! f[a]!) = bb := hbb
          have HS := Aside0.mk (And.intro hE (And.intro hB hcase))
          have HBB := Aside0.mk hbb2
          clear hE hB hcase hbb hbb2 hJ2
          go_upto_region 15 with (fail)
          go_cut [129] (fun s wx => s = .bool bb ∧ ∃ nq, wx = wr.drewN nq)
          case first =>
           by_cases hin : I2 ≤ x
           ·have hg1 : decide (((I2 : Nat) : Int) ≤ (x : Int)) = true := decide_eq_true (by omega)
            have hg2 : decide (I2 ≤ x) = true := decide_eq_true (by omega)
            have b1 : (0 : Int) ≤ (x : Int) := by omega
            have b2 : (x : Int) < (n : Int) := by omega
            have b3 : (0 : Int) ≤ (a : Int) := by omega
            have b4 : (a : Int) < (n : Int) := by omega
            have c1 := HS.out.1.cell (j := x) (by omega)
            have c2 := HS.out.1.cell (j := a) (by omega)
            have f1 := HS.out.1.free x
            have f2 := HS.out.1.free a
            have hbb := HBB.out
            obtain ⟨y1, hy1⟩ : ∃ y, f[x]! = y := ⟨_, rfl⟩
            obtain ⟨y2, hy2⟩ : ∃ y, f[a]! = y := ⟨_, rfl⟩
            rw [hy1] at c1 hbb
            rw [hy2] at c2 hbb
            clear hy1 hy2
            obtain ⟨l, hl⟩ : ∃ l, Sort.ltInt y1 y2 = l := ⟨_, rfl⟩
            rw [hl, hg2] at hbb
            have hbv : bb = !l := by rw [← hbb]; simp
            have HV := Aside0.mk hbv
            clear hbb hbv hin
            cases l
            all_goals
             go_quiet ((go_at_call 155; exact Calls.quiet_of_same (less _ _ _)))
             go_wp2_with fail
             go_meet
             exact ⟨by first | (rw [HV.out]; done) | (rw [HV.out]; rfl), nq, rfl⟩
           ·have hg1 : decide (((I2 : Nat) : Int) ≤ (x : Int)) = false := decide_eq_false (by omega)
            have hg2 : decide (I2 ≤ x) = false := decide_eq_false (by omega)
            have hbv : bb = false := by rw [← HBB.out, hg2]; rfl
            have HV := Aside0.mk hbv
            clear hbv hin
            go_quiet (fail)
            go_wp2_with fail
            go_meet
            exact ⟨by rw [HV.out], nq, rfl⟩
          case rest =>
           obtain ⟨rfl, nq, rfl⟩ := hcut
           cases bb with
           | true =>
            have hx3 : 1 ≤ x := by
             obtain ⟨_, _, (⟨_, q1, _⟩ | ⟨q, _⟩)⟩ := HS.out
             ·omega
             ·cases q
            have HX := Aside0.mk (And.intro hx1 hx2)
            clear hx2
            have hx4 : (1 : Int) ≤ (x : Int) := by omega
            go_wp2
            go_roundg (x - 1)
            case measure =>
             obtain ⟨_, _, (⟨_, q1, _⟩ | ⟨q, _⟩)⟩ := HS.out
             ·omega
             ·cases q
            case rel =>
             obtain ⟨hx1, hx2⟩ := HX.out
             obtain ⟨hE, hB, (⟨_, q1, q2⟩ | ⟨q, _⟩)⟩ := HS.out
             ·exact ⟨x - 1, by congr 1; omega, rfl, by omega, by omega, hE, hB.drewN nq, q2⟩
             ·cases q
           | false =>
            have hE := HS.out.1
            have hB := HS.out.2.1.drewN nq
            have hx : J2 = x := by
             obtain ⟨_, _, (⟨q, _⟩ | ⟨_, q⟩)⟩ := HS.out
             ·cases q
             ·exact q.symm
            subst hx
            replace hE : Row (wr.drewN nq) g t c f := hE
            generalize wr.drewN nq = wr at hE hB ⊢
            clear HS HBB
            have hpl := HPL0.out
            clear HPL0
            by_cases hij : I2 > J2
            ·have hgt : decide ((J2 : Int) < (I2 : Int)) = true := decide_eq_true (by omega)
             have hgt2 : decide (J2 < I2) = true := decide_eq_true (by omega)
             rw [if_pos hij] at hpl
             have HPL := Aside0.mk hpl
             clear hpl
             obtain ⟨v9, hy9⟩ : ∃ v, (wr.setCell ⟨g, J2, none⟩ (.int .u32 f[a]!)).cell? ⟨g, a, none⟩ = some v := ⟨_, (hE.set (by omega) _).cell (by simp; omega)⟩
             have c1 := hE.cell (j := J2) (by omega)
             have c2 := hE.cell (j := a) (by omega)
             have f1 := hE.free (J2)
             have f2 := hE.free (a)
             have hN : J2 < f.size ∧ a < f.size := by omega
             have hsw := (hE.swp hN.1 hN.2).drew
             have hbt := (hB.trans (But.two _ J2 a (.int .u32 f[a]!) (.int .u32 f[J2]!))).drew
             have hS2 : (Sort.swp f J2 a).size = n := by rw [swp_size]; omega
             obtain ⟨y1, hy1⟩ : ∃ y, f[J2]! = y := ⟨_, rfl⟩
             obtain ⟨y2, hy2⟩ : ∃ y, f[a]! = y := ⟨_, rfl⟩
             rw [hy1] at c1 hsw hbt
             rw [hy2] at c2 hsw hbt hy9
             have b1 : (0 : Int) ≤ ((J2 : Nat) : Int) := by omega
             have b2 : ((J2 : Nat) : Int) < (n : Int) := by omega
             have b3 : (0 : Int) ≤ ((a : Nat) : Int) := by omega
             have b4 : ((a : Nat) : Int) < (n : Int) := by omega
             have HW := Aside0.mk (And.intro hsw (And.intro hbt hS2))
             clear hE hB hN hy1 hy2 hsw hbt hS2
             go_wp2
             go_region
             all_goals
              obtain ⟨hE, hB, hS⟩ := HW.out
              clear c1 c2 f1 f2 b1 b2 b3 b4 hy9 HW
              generalize ((wr.setCell ⟨g, J2, none⟩ (.int .u32 y2)).setCell ⟨g, a, none⟩ (.int .u32 y1)).drew = wr at hE hB ⊢
              have hfin : R = (J2, false, Sort.swp f J2 a) := HPL.out.symm
              subst hfin
              go_wp2
              go_ret2
              exact ⟨rfl, hE, hB⟩
            ·have hgt : decide ((J2 : Int) < (I2 : Int)) = false := decide_eq_false (by omega)
             have hgt2 : decide (J2 < I2) = false := decide_eq_false (by omega)
             rw [if_neg hij, dif_pos (by omega)] at hpl
             have HPL := Aside0.mk hpl
             clear hpl
             obtain ⟨v9, hy9⟩ : ∃ v, (wr.setCell ⟨g, I2, none⟩ (.int .u32 f[J2]!)).cell? ⟨g, J2, none⟩ = some v := ⟨_, (hE.set (by omega) _).cell (by simp; omega)⟩
             have c1 := hE.cell (j := I2) (by omega)
             have c2 := hE.cell (j := J2) (by omega)
             have f1 := hE.free (I2)
             have f2 := hE.free (J2)
             have hN : I2 < f.size ∧ J2 < f.size := by omega
             have hsw := (hE.swp hN.1 hN.2).drew
             have hbt := (hB.trans (But.two _ I2 J2 (.int .u32 f[J2]!) (.int .u32 f[I2]!))).drew
             have hS2 : (Sort.swp f I2 J2).size = n := by rw [swp_size]; omega
             obtain ⟨y1, hy1⟩ : ∃ y, f[I2]! = y := ⟨_, rfl⟩
             obtain ⟨y2, hy2⟩ : ∃ y, f[J2]! = y := ⟨_, rfl⟩
             rw [hy1] at c1 hsw hbt
             rw [hy2] at c2 hsw hbt hy9
             have b1 : (0 : Int) ≤ ((I2 : Nat) : Int) := by omega
             have b2 : ((I2 : Nat) : Int) < (n : Int) := by omega
             have b3 : (0 : Int) ≤ ((J2 : Nat) : Int) := by omega
             have b4 : ((J2 : Nat) : Int) < (n : Int) := by omega
             have HW := Aside0.mk (And.intro hsw (And.intro hbt hS2))
             clear hE hB hN hy1 hy2 hsw hbt hS2
             go_wp2
             go_region
             all_goals
              obtain ⟨hE, hB, hS⟩ := HW.out
              clear c1 c2 f1 f2 b1 b2 b3 b4 hy9 HW
              generalize ((wr.setCell ⟨g, I2, none⟩ (.int .u32 y2)).setCell ⟨g, J2, none⟩ (.int .u32 y1)).drew = wr at hE hB ⊢
              go_wp2
              go_roundg (J2 - 1 + 1 - (I2 + 1))
              case measure => omega
              case rel => exact ⟨I2 + 1, J2 - 1, Sort.swp f I2 J2, by go_num, by congr 1; omega, rfl, by omega, by omega, by omega, by omega, hS, hE, hB, HPL.out⟩
theorem partitionEqual (g : Nat) (t : TypeId) (c cap a b p n : Nat) (d : Array Int) (w : World) (hn : d.size = n) (hR : Row w g t c d) (hb : b ≤ n) (hap : a ≤ p) (hpb : p < b) (hd : n ≤ 1152921504606846976) :
  Calls Tryz.prog 156 #[.slice (some ⟨g, 0, none⟩) n cap, .int .i64 a, .int .i64 b, .int .i64 p] w fun e w' => e = .returned (.int .i64 ((Sort.partitionEqual Sort.ltInt d a b p).1 : Nat)) ∧ Row w' g t c (Sort.partitionEqual Sort.ltInt d a b p).2 ∧ But (fun k => k = g) w w' := by
 obtain ⟨R, hRR⟩ : ∃ R, Sort.partitionEqual Sort.ltInt d a b p = R := ⟨_, rfl⟩
 rw [hRR]
 have hE := hR
 have hB := But.refl (fun k => k = g) w
 obtain ⟨ia, hia⟩ : ∃ ia, ia = a + 1 := ⟨_, rfl⟩
 obtain ⟨jb, hjb⟩ : ∃ jb, jb = b - 1 := ⟨_, rfl⟩
 have hiaI : (a : Int) + 1 = (ia : Int) := by omega
 have hjbI : (b : Int) - 1 = (jb : Int) := by omega
 have hlet : (a + 1 ≤ ia ∧ ia ≤ a + 1) ∧ (jb + 1 ≤ b ∧ b ≤ jb + 1) ∧ a < n ∧ jb < n ∧ a ≤ jb := by omega
 obtain ⟨e1, he1⟩ : ∃ z, Sort.swp d a p = z := ⟨_, rfl⟩
 have hse1 : e1.size = n := by rw [← he1, swp_size, hn]
 have hRR2 : Sort.partEqLoop Sort.ltInt a ia jb e1 = R := by
  rw [← hRR]
  unfold Sort.partitionEqual
  rw [he1, ← hia, ← hjb]
 replace hRR := hRR2
 clear hRR2
 have HRR := Aside0.mk hRR
 have HJ1 := Aside0.mk trivial
 have HI1 := Aside0.mk trivial
 have HE1 := Aside0.mk he1
 have HLET := Aside0.mk hlet
 clear hRR hR he1 hia hjb hlet
 go_enter Tryz.func156, Tryz.ntmps156
 obtain ⟨v9, hy9⟩ : ∃ v, (w.setCell ⟨g, a, none⟩ (.int .u32 d[p]!)).cell? ⟨g, p, none⟩ = some v := ⟨_, (hE.set (by omega) _).cell (by simp; omega)⟩
 have c1 := hE.cell (j := a) (by omega)
 have c2 := hE.cell (j := p) (by omega)
 have f1 := hE.free (a)
 have f2 := hE.free (p)
 have hN : a < d.size ∧ p < d.size := by omega
 have hsw := (hE.swp hN.1 hN.2).drew
 have hbt := (hB.trans (But.two _ a p (.int .u32 d[p]!) (.int .u32 d[a]!))).drew
 have hS2 : (Sort.swp d a p).size = n := by rw [swp_size]; omega
 obtain ⟨y1, hy1⟩ : ∃ y, d[a]! = y := ⟨_, rfl⟩
 obtain ⟨y2, hy2⟩ : ∃ y, d[p]! = y := ⟨_, rfl⟩
 rw [hy1] at c1 hsw hbt
 rw [hy2] at c2 hsw hbt hy9
 have b1 : (0 : Int) ≤ ((a : Nat) : Int) := by omega
 have b2 : ((a : Nat) : Int) < (n : Int) := by omega
 have b3 : (0 : Int) ≤ ((p : Nat) : Int) := by omega
 have b4 : ((p : Nat) : Int) < (n : Int) := by omega
 have HW := Aside0.mk (And.intro hsw (And.intro hbt hS2))
 clear hE hB hN hy1 hy2 hsw hbt hS2
 go_wp2
 go_region
 all_goals
  obtain ⟨hE, hB, hS⟩ := HW.out
  clear c1 c2 f1 f2 b1 b2 b3 b4 hy9 HW
  generalize ((w.setCell ⟨g, a, none⟩ (.int .u32 y2)).setCell ⟨g, p, none⟩ (.int .u32 y1)).drew = wr at hE hB ⊢
  rw [HE1.out] at hE hS
  go_wp2
  obtain ⟨⟨l1, l6⟩, ⟨l2, l7⟩, l3, l4, l5⟩ := HLET.out
  go_loopg [9, 10] (jb + 1 - ia) (fun kk v1 v2 wr => ∃ (i j : Nat) (f : Array Int), v1 = .int .i64 i ∧ v2 = .int .i64 j ∧ kk = j + 1 - i ∧ a + 1 ≤ i ∧ i ≤ j + 2 ∧ j ≤ jb ∧ a ≤ j ∧ f.size = n ∧ Row wr g t c f ∧ But (fun k => k = g) w wr ∧ Sort.partEqLoop Sort.ltInt a i j f = R)
  case atStart => exact ⟨ia, jb, e1, rfl, rfl, rfl, by omega, by omega, Nat.le_refl _, by omega, hS, hE, hB, HRR.out⟩
  obtain ⟨i, j, f, rfl, rfl, rfl, q1, q2, q3, q4, hS, hE, hB, hpl⟩ := hrel
  rw [Sort.partEqLoop] at hpl
  obtain ⟨I2, hI2⟩ : ∃ z, Sort.scanUp (fun x => !Sort.ltInt f[a]! x) f j i = z := ⟨_, rfl⟩
  obtain ⟨J2, hJ2⟩ : ∃ z, Sort.scanDown (fun x => Sort.ltInt f[a]! x) f I2 j = z := ⟨_, rfl⟩
  have rI2 : i ≤ I2 ∧ (I2 ≤ j + 1 ∨ I2 = i) := by
   rw [← hI2]
   have := scanUp_ge (fun x => !Sort.ltInt f[a]! x) f j _ i (Nat.le_refl _)
   by_cases h : i ≤ j + 1
   ·exact ⟨this.1, .inl (this.2 h)⟩
   ·rw [Sort.scanUp, if_neg (by simp; omega)]
    exact ⟨Nat.le_refl _, .inr rfl⟩
  have rJ2 : J2 ≤ j ∧ (I2 ≤ j + 1 → I2 ≤ J2 + 1) := by
   rw [← hJ2]
   exact scanDown_le (fun x => Sort.ltInt f[a]! x) f I2 (by omega) j
  simp only [hI2, hJ2] at hpl
  have HPL0 := Aside0.mk hpl
  have HJ2 := Aside0.mk hJ2
  clear hpl hJ2
  go_wp2
  go_loopg [9] (j + 1 - (i)) (fun kk v wr => ∃ x : Nat, v = .int .i64 x ∧ kk = j + 1 - x ∧ i ≤ x ∧ (x ≤ j + 1 ∨ x = i) ∧ Row wr g t c f ∧ But (fun k => k = g) w wr ∧ Sort.scanUp (fun x => !Sort.ltInt f[a]! x) f (j) x = I2)
  case atStart => exact ⟨i, by go_num, rfl, Nat.le_refl _, .inr rfl, hE, hB, hI2⟩
  obtain ⟨x, rfl, rfl, hx1, hx2, hE, hB, hI2⟩ := hrel
  rw [Sort.scanUp] at hI2
  obtain ⟨bb, hbb⟩ : ∃ bb, (decide (x ≤ j) && (fun x => !Sort.ltInt f[a]! x) f[x]!) = bb := ⟨_, rfl⟩
  have hcase : (bb = true ∧ x ≤ j ∧ Sort.scanUp (fun x => !Sort.ltInt f[a]! x) f (j) (x + 1) = I2) ∨ (bb = false ∧ x = I2) := by
   rw [hbb] at hI2
   cases bb with
   | true => exact .inl ⟨rfl, by simp only [Bool.and_eq_true, decide_eq_true_eq] at hbb; exact hbb.1, by simpa using hI2⟩
   | false => exact .inr ⟨rfl, by simpa using hI2⟩
  have hbb2 : (decide (x ≤ j) && !Sort.ltInt f[a]! f[x]!) = bb := hbb
  have HS := Aside0.mk (And.intro hE (And.intro hB hcase))
  have HBB := Aside0.mk hbb2
  clear hE hB hcase hbb hbb2 hI2
  go_upto_region 3 with (fail)
  go_cut [43] (fun s wx => s = .bool bb ∧ ∃ nq, wx = wr.drewN nq)
  case first =>
   by_cases hin : x ≤ j
   ·have hg1 : decide ((x : Int) ≤ ((j : Nat) : Int)) = true := decide_eq_true (by omega)
    have hg2 : decide (x ≤ j) = true := decide_eq_true (by omega)
    have b1 : (0 : Int) ≤ (x : Int) := by omega
    have b2 : (x : Int) < (n : Int) := by omega
    have b3 : (0 : Int) ≤ (a : Int) := by omega
    have b4 : (a : Int) < (n : Int) := by omega
    have c1 := HS.out.1.cell (j := x) (by omega)
    have c2 := HS.out.1.cell (j := a) (by omega)
    have f1 := HS.out.1.free x
    have f2 := HS.out.1.free a
    have hbb := HBB.out
    obtain ⟨y1, hy1⟩ : ∃ y, f[x]! = y := ⟨_, rfl⟩
    obtain ⟨y2, hy2⟩ : ∃ y, f[a]! = y := ⟨_, rfl⟩
    rw [hy1] at c1 hbb
    rw [hy2] at c2 hbb
    clear hy1 hy2
    obtain ⟨l, hl⟩ : ∃ l, Sort.ltInt y2 y1 = l := ⟨_, rfl⟩
    rw [hl, hg2] at hbb
    have hbv : bb = !l := by rw [← hbb]; simp
    have HV := Aside0.mk hbv
    clear hbb hbv hin
    cases l
    all_goals
     go_quiet ((go_at_call 155; exact Calls.quiet_of_same (less _ _ _)))
     go_wp2_with fail
     go_meet
     exact ⟨by first | (rw [HV.out]; done) | (rw [HV.out]; rfl), nq, rfl⟩
   ·have hg1 : decide ((x : Int) ≤ ((j : Nat) : Int)) = false := decide_eq_false (by omega)
    have hg2 : decide (x ≤ j) = false := decide_eq_false (by omega)
    have hbv : bb = false := by rw [← HBB.out, hg2]; rfl
    have HV := Aside0.mk hbv
    clear hbv hin
    go_quiet (fail)
    go_wp2_with fail
    go_meet
    exact ⟨by rw [HV.out], nq, rfl⟩
  case rest =>
   obtain ⟨rfl, nq, rfl⟩ := hcut
   cases bb with
   | true =>
    have hx3 : x ≤ j := by
     obtain ⟨_, _, (⟨_, q1, _⟩ | ⟨q, _⟩)⟩ := HS.out
     ·omega
     ·cases q
    have HX := Aside0.mk (And.intro hx1 hx2)
    clear hx1 hx2
    have hx4 : (0 : Int) ≤ (x : Int) := by omega
    go_wp2
    go_roundg (j + 1 - (x + 1))
    case measure =>
     obtain ⟨_, _, (⟨_, q1, _⟩ | ⟨q, _⟩)⟩ := HS.out
     ·omega
     ·cases q
    case rel =>
     obtain ⟨hx1, hx2⟩ := HX.out
     obtain ⟨hE, hB, (⟨_, q1, q2⟩ | ⟨q, _⟩)⟩ := HS.out
     ·exact ⟨x + 1, by go_num, rfl, by omega, .inl (by omega), hE, hB.drewN nq, q2⟩
     ·cases q
   | false =>
    have hE := HS.out.1
    have hB := HS.out.2.1.drewN nq
    have hx : I2 = x := by
     obtain ⟨_, _, (⟨q, _⟩ | ⟨_, q⟩)⟩ := HS.out
     ·cases q
     ·exact q.symm
    subst hx
    replace hE : Row (wr.drewN nq) g t c f := hE
    generalize wr.drewN nq = wr at hE hB ⊢
    clear HS HBB
    go_wp2
    have hJ2 := HJ2.out
    clear HJ2
    go_loopg [10] (j) (fun kk v wr => ∃ x : Nat, v = .int .i64 x ∧ x = kk ∧ x ≤ j ∧ I2 ≤ x + 1 + (I2 - (j + 1)) ∧ Row wr g t c f ∧ But (fun k => k = g) w wr ∧ Sort.scanDown (fun x => Sort.ltInt f[a]! x) f (I2) x = J2)
    case atStart => exact ⟨j, by go_num, rfl, Nat.le_refl _, by omega, hE, hB, hJ2⟩
    obtain ⟨x, rfl, rfl, hx1, hx2, hE, hB, hJ2⟩ := hrel
    rw [scanDown_step _ _ _ _ (by omega)] at hJ2
    obtain ⟨bb, hbb⟩ : ∃ bb, (decide (I2 ≤ x) && (fun x => Sort.ltInt f[a]! x) f[x]!) = bb := ⟨_, rfl⟩
    have hcase : (bb = true ∧ I2 ≤ x ∧ Sort.scanDown (fun x => Sort.ltInt f[a]! x) f (I2) (x - 1) = J2) ∨ (bb = false ∧ x = J2) := by
     rw [hbb] at hJ2
     cases bb with
     | true => exact .inl ⟨rfl, by simp only [Bool.and_eq_true, decide_eq_true_eq] at hbb; exact hbb.1, by simpa using hJ2⟩
     | false => exact .inr ⟨rfl, by simpa using hJ2⟩
    have hbb2 : (decide (I2 ≤ x) && Sort.ltInt f[a]! f[x]!) = bb := hbb
    have HS := Aside0.mk (And.intro hE (And.intro hB hcase))
    have HBB := Aside0.mk hbb2
    clear hE hB hcase hbb hbb2 hJ2
    go_upto_region 5 with (fail)
    go_cut [59] (fun s wx => s = .bool bb ∧ ∃ nq, wx = wr.drewN nq)
    case first =>
     by_cases hin : I2 ≤ x
     ·have hg1 : decide (((I2 : Nat) : Int) ≤ (x : Int)) = true := decide_eq_true (by omega)
      have hg2 : decide (I2 ≤ x) = true := decide_eq_true (by omega)
      have b1 : (0 : Int) ≤ (x : Int) := by omega
      have b2 : (x : Int) < (n : Int) := by omega
      have b3 : (0 : Int) ≤ (a : Int) := by omega
      have b4 : (a : Int) < (n : Int) := by omega
      have c1 := HS.out.1.cell (j := x) (by omega)
      have c2 := HS.out.1.cell (j := a) (by omega)
      have f1 := HS.out.1.free x
      have f2 := HS.out.1.free a
      have hbb := HBB.out
      obtain ⟨y1, hy1⟩ : ∃ y, f[x]! = y := ⟨_, rfl⟩
      obtain ⟨y2, hy2⟩ : ∃ y, f[a]! = y := ⟨_, rfl⟩
      rw [hy1] at c1 hbb
      rw [hy2] at c2 hbb
      clear hy1 hy2
      obtain ⟨l, hl⟩ : ∃ l, Sort.ltInt y2 y1 = l := ⟨_, rfl⟩
      rw [hl, hg2] at hbb
      have hbv : bb = l := by rw [← hbb]; simp
      have HV := Aside0.mk hbv
      clear hbb hbv hin
      cases l
      all_goals
       go_quiet ((go_at_call 155; exact Calls.quiet_of_same (less _ _ _)))
       go_wp2_with fail
       go_meet
       exact ⟨by first | (rw [HV.out]; done) | (rw [HV.out]; rfl), nq, rfl⟩
     ·have hg1 : decide (((I2 : Nat) : Int) ≤ (x : Int)) = false := decide_eq_false (by omega)
      have hg2 : decide (I2 ≤ x) = false := decide_eq_false (by omega)
      have hbv : bb = false := by rw [← HBB.out, hg2]; rfl
      have HV := Aside0.mk hbv
      clear hbv hin
      go_quiet (fail)
      go_wp2_with fail
      go_meet
      exact ⟨by rw [HV.out], nq, rfl⟩
    case rest =>
     obtain ⟨rfl, nq, rfl⟩ := hcut
     cases bb with
     | true =>
      have hx3 : 1 ≤ x := by
       obtain ⟨_, _, (⟨_, q1, _⟩ | ⟨q, _⟩)⟩ := HS.out
       ·omega
       ·cases q
      have HX := Aside0.mk (And.intro hx1 hx2)
      clear hx2
      have hx4 : (1 : Int) ≤ (x : Int) := by omega
      go_wp2
      go_roundg (x - 1)
      case measure =>
       obtain ⟨_, _, (⟨_, q1, _⟩ | ⟨q, _⟩)⟩ := HS.out
       ·omega
       ·cases q
      case rel =>
       obtain ⟨hx1, hx2⟩ := HX.out
       obtain ⟨hE, hB, (⟨_, q1, q2⟩ | ⟨q, _⟩)⟩ := HS.out
       ·exact ⟨x - 1, by congr 1; omega, rfl, by omega, by omega, hE, hB.drewN nq, q2⟩
       ·cases q
     | false =>
      have hE := HS.out.1
      have hB := HS.out.2.1.drewN nq
      have hx : J2 = x := by
       obtain ⟨_, _, (⟨q, _⟩ | ⟨_, q⟩)⟩ := HS.out
       ·cases q
       ·exact q.symm
      subst hx
      replace hE : Row (wr.drewN nq) g t c f := hE
      generalize wr.drewN nq = wr at hE hB ⊢
      clear HS HBB
      have hpl := HPL0.out
      clear HPL0
      by_cases hij : I2 > J2
      ·have hgt : decide ((J2 : Int) < (I2 : Int)) = true := decide_eq_true (by omega)
       have hgt2 : decide (J2 < I2) = true := decide_eq_true (by omega)
       rw [if_pos hij] at hpl
       have hfin : R = (I2, f) := hpl.symm
       subst hfin
       clear hpl
       go_wp2
       go_ret
       exact ⟨rfl, hE, hB⟩
      ·have hgt : decide ((J2 : Int) < (I2 : Int)) = false := decide_eq_false (by omega)
       have hgt2 : decide (J2 < I2) = false := decide_eq_false (by omega)
       rw [if_neg hij, dif_pos (by omega)] at hpl
       have HPL := Aside0.mk hpl
       clear hpl
       obtain ⟨v9, hy9⟩ : ∃ v, (wr.setCell ⟨g, I2, none⟩ (.int .u32 f[J2]!)).cell? ⟨g, J2, none⟩ = some v := ⟨_, (hE.set (by omega) _).cell (by simp; omega)⟩
       have c1 := hE.cell (j := I2) (by omega)
       have c2 := hE.cell (j := J2) (by omega)
       have f1 := hE.free (I2)
       have f2 := hE.free (J2)
       have hN : I2 < f.size ∧ J2 < f.size := by omega
       have hsw := (hE.swp hN.1 hN.2).drew
       have hbt := (hB.trans (But.two _ I2 J2 (.int .u32 f[J2]!) (.int .u32 f[I2]!))).drew
       have hS2 : (Sort.swp f I2 J2).size = n := by rw [swp_size]; omega
       obtain ⟨y1, hy1⟩ : ∃ y, f[I2]! = y := ⟨_, rfl⟩
       obtain ⟨y2, hy2⟩ : ∃ y, f[J2]! = y := ⟨_, rfl⟩
       rw [hy1] at c1 hsw hbt
       rw [hy2] at c2 hsw hbt hy9
       have b1 : (0 : Int) ≤ ((I2 : Nat) : Int) := by omega
       have b2 : ((I2 : Nat) : Int) < (n : Int) := by omega
       have b3 : (0 : Int) ≤ ((J2 : Nat) : Int) := by omega
       have b4 : ((J2 : Nat) : Int) < (n : Int) := by omega
       have HW := Aside0.mk (And.intro hsw (And.intro hbt hS2))
       clear hE hB hN hy1 hy2 hsw hbt hS2
       go_wp2
       go_region
       all_goals
        obtain ⟨hE, hB, hS⟩ := HW.out
        clear c1 c2 f1 f2 b1 b2 b3 b4 hy9 HW
        generalize ((wr.setCell ⟨g, I2, none⟩ (.int .u32 y2)).setCell ⟨g, J2, none⟩ (.int .u32 y1)).drew = wr at hE hB ⊢
        go_wp2
        go_roundg (J2 - 1 + 1 - (I2 + 1))
        case measure => omega
        case rel => exact ⟨I2 + 1, J2 - 1, Sort.swp f I2 J2, by go_num, by congr 1; omega, rfl, by omega, by omega, by omega, by omega, hS, hE, hB, HPL.out⟩
theorem scanSorted_ge (d : Array Int) (b : Nat) : ∀ (n i : Nat), b - i ≤ n → i ≤ Sort.scanSorted Sort.ltInt d b i ∧ (i ≤ b → Sort.scanSorted Sort.ltInt d b i ≤ b) := by
 intro n
 induction n with
 | zero => intro i h; rw [Sort.scanSorted, if_neg (by simp; omega)]; exact ⟨Nat.le_refl _, id⟩
 | succ n ih =>
  intro i h
  rw [Sort.scanSorted]
  split
  ·rename_i h1
   simp only [Bool.and_eq_true, decide_eq_true_eq] at h1
   have := ih (i + 1) (by omega)
   omega
  ·omega
theorem shiftDown_size : ∀ (j : Nat) (d : Array Int), (Sort.shiftDown Sort.ltInt j d).size = d.size
 | 0, d => rfl
 | j + 1, d => by
  unfold Sort.shiftDown
  split
  ·rfl
  ·rw [shiftDown_size j, swp_size]
theorem shiftUp_size (b : Nat) : ∀ (n j : Nat) (d : Array Int), b - j ≤ n → (Sort.shiftUp Sort.ltInt b j d).size = d.size := by
 intro n
 induction n with
 | zero => intro j d h; rw [Sort.shiftUp, if_neg (by omega)]
 | succ n ih =>
  intro j d h
  rw [Sort.shiftUp]
  split
  ·split
   ·rfl
   ·rw [ih _ _ (by omega), swp_size]
  ·rfl
theorem partialInsertionSort (g : Nat) (t : TypeId) (c cap a b n : Nat) (d : Array Int) (w : World) (hn : d.size = n) (hR : Row w g t c d) (hb : b ≤ n) (hab : a < b) (hd : n ≤ 1152921504606846976) :
  Calls Tryz.prog 154 #[.slice (some ⟨g, 0, none⟩) n cap, .int .i64 a, .int .i64 b] w fun e w' => e = .returned (.bool (Sort.partialInsertionSort Sort.ltInt d a b).2) ∧ Row w' g t c (Sort.partialInsertionSort Sort.ltInt d a b).1 ∧ But (fun k => k = g) w w' := by
 obtain ⟨R, hRR⟩ : ∃ R, Sort.partialInsertionSort Sort.ltInt d a b = R := ⟨_, rfl⟩
 rw [hRR]
 unfold Sort.partialInsertionSort at hRR
 have HRR := Aside0.mk (And.intro hRR (And.intro hR hn))
 clear hRR hR hn
 go_enter Tryz.func154, Tryz.ntmps154
 go_wp2
 obtain ⟨hRR, hR, hn⟩ := HRR.out
 go_loopg [7, 8] 5 (fun kk v7 v8 wr => ∃ (s z i : Nat) (e : Array Int), v7 = .int .i64 i ∧ v8 = .int .i64 z ∧ s = kk ∧ z + s = 5 ∧ a + 1 ≤ i ∧ i ≤ b ∧ e.size = n ∧ Row wr g t c e ∧ But (fun k => k = g) w wr ∧ Sort.partialIns Sort.ltInt a b s i e = R)
 case atStart => exact ⟨5, 0, a + 1, d, by go_num, rfl, rfl, rfl, Nat.le_refl _, by omega, hn, hR, But.refl _ _, hRR⟩
 obtain ⟨s, z, i0, e1, rfl, rfl, rfl, hz, hi1, hi2, hS, hE, hB, hrest⟩ := hrel
 clear hRR hR hn HRR
 by_cases hs0 : s = 0
 ·subst hs0
  have hz5 : decide ((z : Int) < 5) = false := decide_eq_false (by omega)
  have hfin : R = (e1, false) := hrest.symm
  subst hfin
  have HD := Aside0.mk (And.intro hE hB)
  clear hE hB hrest hS
  go_wp2
  go_ret
  exact ⟨rfl, HD.out.1, HD.out.2⟩
 ·obtain ⟨s, rfl⟩ : ∃ s', s = s' + 1 := ⟨s - 1, by omega⟩
  have hz5 : decide ((z : Int) < 5) = true := decide_eq_true (by omega)
  obtain ⟨i, hi⟩ : ∃ i, Sort.scanSorted Sort.ltInt e1 b i0 = i := ⟨_, rfl⟩
  have ri : i0 ≤ i ∧ i ≤ b := by
   rw [← hi]
   have := scanSorted_ge e1 b _ i0 (Nat.le_refl _)
   exact ⟨this.1, this.2 hi2⟩
  have hrest2 : (if i = b then (e1, true) else if b - a < 50 then (e1, false) else Sort.partialIns Sort.ltInt a b s i (if b - i ≥ 2 then Sort.shiftUp Sort.ltInt b (i + 1) (if i - a ≥ 2 then Sort.shiftDown Sort.ltInt (i - 1) (Sort.swp e1 i (i - 1)) else Sort.swp e1 i (i - 1)) else (if i - a ≥ 2 then Sort.shiftDown Sort.ltInt (i - 1) (Sort.swp e1 i (i - 1)) else Sort.swp e1 i (i - 1)))) = R := by
   rw [← hrest, Sort.partialIns]
   dsimp only
   rw [hi]
  have HR := Aside0.mk hrest2
  have HI := Aside0.mk hi
  clear hrest hrest2 hi hs0
  go_wp2
  have hi := HI.out
  go_loopg [7] (b - i0) (fun kk v wr => ∃ x : Nat, v = .int .i64 x ∧ kk = b - x ∧ i0 ≤ x ∧ x ≤ b ∧ Row wr g t c e1 ∧ But (fun k => k = g) w wr ∧ Sort.scanSorted Sort.ltInt e1 b x = i)
  case atStart => exact ⟨i0, rfl, rfl, Nat.le_refl _, hi2, hE, hB, hi⟩
  obtain ⟨x, rfl, rfl, hx1, hx2, hE, hB, hi⟩ := hrel
  rw [Sort.scanSorted] at hi
  obtain ⟨xm, hxm⟩ : ∃ xm, x = xm + 1 := ⟨x - 1, by omega⟩
  have hxI : (x : Int) - 1 = (xm : Int) := by omega
  have hxle : xm + 1 ≤ x ∧ x ≤ xm + 1 := by omega
  have hxs : x - 1 = xm := by omega
  obtain ⟨bb, hbb⟩ : ∃ bb, (decide (x < b) && !Sort.ltInt e1[x]! e1[x - 1]!) = bb := ⟨_, rfl⟩
  have hcase : (bb = true ∧ x < b ∧ Sort.scanSorted Sort.ltInt e1 b (x + 1) = i) ∨ (bb = false ∧ x = i) := by
   rw [hbb] at hi
   cases bb with
   | true => exact .inl ⟨rfl, by simp only [Bool.and_eq_true, decide_eq_true_eq] at hbb; exact hbb.1, by simpa using hi⟩
   | false => exact .inr ⟨rfl, by simpa using hi⟩
  rw [hxs] at hbb
  have HS := Aside0.mk (And.intro hE (And.intro hB hcase))
  have HBB := Aside0.mk hbb
  clear hE hB hcase hbb hi hxm hxs
  go_upto_region 5 with (fail)
  go_cut [32] (fun s wx => s = .bool bb ∧ ∃ nq, wx = wr.drewN nq)
  case first =>
   by_cases hin : x < b
   ·have hg1 : decide ((x : Int) < (b : Int)) = true := decide_eq_true (by omega)
    have hg2 : decide (x < b) = true := decide_eq_true (by omega)
    have b1 : (0 : Int) ≤ (x : Int) := by omega
    have b2 : (x : Int) < (n : Int) := by omega
    have b3 : (0 : Int) ≤ (xm : Int) := by omega
    have b4 : (xm : Int) < (n : Int) := by omega
    have c1 := HS.out.1.cell (j := x) (by omega)
    have c2 := HS.out.1.cell (j := xm) (by omega)
    have f1 := HS.out.1.free x
    have f2 := HS.out.1.free xm
    have hbb := HBB.out
    obtain ⟨y1, hy1⟩ : ∃ y, e1[x]! = y := ⟨_, rfl⟩
    obtain ⟨y2, hy2⟩ : ∃ y, e1[xm]! = y := ⟨_, rfl⟩
    rw [hy1] at c1 hbb
    rw [hy2] at c2 hbb
    clear hy1 hy2
    obtain ⟨l, hl⟩ : ∃ l, Sort.ltInt y1 y2 = l := ⟨_, rfl⟩
    rw [hl, hg2] at hbb
    have hbv : bb = !l := by rw [← hbb]; simp
    have HV := Aside0.mk hbv
    have w0 := i64w (x := (xm : Int)) (by omega)
    clear hbb hbv hin hx1 hx2
    cases l
    all_goals
     go_quiet ((go_at_call 155; exact Calls.quiet_of_same (less _ _ _)))
     go_wp2_with fail
     go_meet
     exact ⟨by first | (rw [HV.out]; done) | (rw [HV.out]; rfl), nq, rfl⟩
   ·have hg1 : decide ((x : Int) < (b : Int)) = false := decide_eq_false (by omega)
    have hg2 : decide (x < b) = false := decide_eq_false (by omega)
    have hbv : bb = false := by rw [← HBB.out, hg2]; rfl
    have HV := Aside0.mk hbv
    clear hbv hin
    go_quiet (fail)
    go_wp2_with fail
    go_meet
    exact ⟨by rw [HV.out], nq, rfl⟩
  case rest =>
   obtain ⟨rfl, nq, rfl⟩ := hcut
   cases bb with
   | true =>
    have hx3 : x < b := by
     obtain ⟨_, _, (⟨_, q1, _⟩ | ⟨q, _⟩)⟩ := HS.out
     ·exact q1
     ·cases q
    go_wp2
    go_roundg (b - (x + 1))
    case measure => omega
    case rel =>
     obtain ⟨hE, hB, (⟨_, q1, q2⟩ | ⟨q, _⟩)⟩ := HS.out
     ·exact ⟨x + 1, by go_num, rfl, by omega, by omega, hE, hB.drewN nq, q2⟩
     ·cases q
   | false =>
    have hE := HS.out.1
    have hB := HS.out.2.1.drewN nq
    have hx : i = x := by
     obtain ⟨_, _, (⟨q, _⟩ | ⟨_, q⟩)⟩ := HS.out
     ·cases q
     ·exact q.symm
    replace hE : Row (wr.drewN nq) g t c e1 := hE
    generalize wr.drewN nq = wr at hE hB ⊢
    have hR2 := HR.out
    clear HS HBB HR HI hx1 hx2
    subst hx
    have him : i - 1 = xm := by omega
    rw [him] at hR2
    clear him
    by_cases hib : i = b
    ·have heq : ((i : Int) == (b : Int)) = true := by simp [hib]
     have hfin : R = (e1, true) := by rw [← hR2, if_pos hib]
     have HF := Aside0.mk (And.intro hE (And.intro hB hfin))
     clear hE hB hfin hR2 hib
     go_wp2
     go_ret
     exact ⟨by rw [HF.out.2.2]; rfl, by rw [HF.out.2.2]; exact HF.out.1, HF.out.2.1⟩
    ·have heq : ((i : Int) == (b : Int)) = false := by simp; omega
     rw [if_neg hib] at hR2
     by_cases h50 : b - a < 50
     ·have hlt50 : decide ((b : Int) - (a : Int) < 50) = true := decide_eq_true (by omega)
      have hfin : R = (e1, false) := by rw [← hR2, if_pos h50]
      have HF := Aside0.mk (And.intro hE (And.intro hB hfin))
      clear hE hB hfin hR2 hib h50
      go_wp2
      go_ret
      exact ⟨by rw [HF.out.2.2]; rfl, by rw [HF.out.2.2]; exact HF.out.1, HF.out.2.1⟩
     ·have hlt50 : decide ((b : Int) - (a : Int) < 50) = false := decide_eq_false (by omega)
      rw [if_neg h50] at hR2
      have HF := Aside0.mk hR2
      have hlt : i < n := by omega
      clear hR2 hib h50
      obtain ⟨v9, hy9⟩ : ∃ v, (wr.setCell ⟨g, i, none⟩ (.int .u32 e1[xm]!)).cell? ⟨g, xm, none⟩ = some v := ⟨_, (hE.set (by omega) _).cell (by simp; omega)⟩
      have c1 := hE.cell (j := i) (by omega)
      have c2 := hE.cell (j := xm) (by omega)
      have f1 := hE.free (i)
      have f2 := hE.free (xm)
      have hN : i < e1.size ∧ xm < e1.size := by omega
      have hsw := (hE.swp hN.1 hN.2).drew
      have hbt := (hB.trans (But.two _ i xm (.int .u32 e1[xm]!) (.int .u32 e1[i]!))).drew
      have hS2 : (Sort.swp e1 i xm).size = n := by rw [swp_size]; omega
      obtain ⟨y1, hy1⟩ : ∃ y, e1[i]! = y := ⟨_, rfl⟩
      obtain ⟨y2, hy2⟩ : ∃ y, e1[xm]! = y := ⟨_, rfl⟩
      rw [hy1] at c1 hsw hbt
      rw [hy2] at c2 hsw hbt hy9
      have b1 : (0 : Int) ≤ ((i : Nat) : Int) := by omega
      have b2 : ((i : Nat) : Int) < (n : Int) := by omega
      have b3 : (0 : Int) ≤ ((xm : Nat) : Int) := by omega
      have b4 : ((xm : Nat) : Int) < (n : Int) := by omega
      have HW := Aside0.mk (And.intro hsw (And.intro hbt hS2))
      clear hE hB hN hy1 hy2 hsw hbt hS2
      go_wp2
      go_region
      all_goals
       obtain ⟨hE, hB, hS⟩ := HW.out
       clear c1 c2 f1 f2 b1 b2 b3 b4 hy9 HW
       generalize ((wr.setCell ⟨g, i, none⟩ (.int .u32 y2)).setCell ⟨g, xm, none⟩ (.int .u32 y1)).drew = wr at hE hB ⊢
       obtain ⟨e2, he2⟩ : ∃ z, Sort.swp e1 i xm = z := ⟨_, rfl⟩
       rw [he2] at hE hS
       have hR2 := HF.out
       rw [he2] at hR2
       clear HF he2
       obtain ⟨D1, hD1⟩ : ∃ D1, (if i - a ≥ 2 then Sort.shiftDown Sort.ltInt xm e2 else e2) = D1 := ⟨_, rfl⟩
       rw [hD1] at hR2
       have hsD1 : D1.size = n := by
        rw [← hD1]
        split
        ·rw [shiftDown_size, hS]
        ·exact hS
       obtain ⟨D2, hD2⟩ : ∃ D2, (if b - i ≥ 2 then Sort.shiftUp Sort.ltInt b (i + 1) D1 else D1) = D2 := ⟨_, rfl⟩
       rw [hD2] at hR2
       have hsD2 : D2.size = n := by
        rw [← hD2]
        split
        ·rw [shiftUp_size b _ _ _ (Nat.le_refl _), hsD1]
        ·exact hsD1
       have HF := Aside0.mk (And.intro hR2 (And.intro hsD1 (And.intro hsD2 hD2)))
       have HD1 := Aside0.mk hD1
       have HE2 := Aside0.mk (And.intro hE (And.intro hB hS))
       clear hR2 hD1 hD2 hE hB hS hsD1 hsD2
       obtain ⟨q1, hq1⟩ : ∃ q, decide ((2 : Int) ≤ (i : Int) - (a : Int)) = q := ⟨_, rfl⟩
       obtain ⟨q2, hq2⟩ : ∃ q, decide ((2 : Int) ≤ (b : Int) - (i : Int)) = q := ⟨_, rfl⟩
       go_upto_if 61 with (fail)
       go_cut [] (fun wx => Row wx g t c D1 ∧ But (fun k => k = g) w wx)
       case first =>
        obtain ⟨hE, hB, hS⟩ := HE2.out
        have hD1 := HD1.out
        obtain ⟨im, him⟩ : ∃ im, im = xm := ⟨_, rfl⟩
        subst him
        cases q1
        case true =>
         have h2 : i - a ≥ 2 := by have := of_decide_eq_true hq1; omega
         rw [if_pos h2] at hD1
         clear h2 HD1
         have HD1 := Aside0.mk hD1
         clear hD1
         go_wp2
         have hD1 := HD1.out
         clear HD1
         go_loopg [9] (im) (fun kk v wr => ∃ (j : Nat) (f : Array Int), v = .int .i64 j ∧ j = kk ∧ j ≤ im ∧ f.size = n ∧ Row wr g t c f ∧ But (fun k => k = g) w wr ∧ Sort.shiftDown Sort.ltInt j f = D1)
         case atStart => exact ⟨im, e2, by go_num, rfl, Nat.le_refl _, hS, hE, hB, hD1⟩
         obtain ⟨j, f, rfl, rfl, hj, hS, hE, hB, hD1⟩ := hrel
         by_cases hjok : 0 < j
         ·obtain ⟨jm, rfl⟩ : ∃ jm, j = jm + 1 := ⟨j - 1, by omega⟩
          have hjI : ((jm + 1 : Nat) : Int) - 1 = (jm : Int) := by omega
          have hjI2 : (jm : Int) + 1 - 1 = (jm : Int) := by omega
          have hge : decide ((1 : Int) ≤ ((jm + 1 : Nat) : Int)) = true := decide_eq_true (by omega)
          have hge2 : decide ((1 : Int) ≤ (jm : Int) + 1) = true := decide_eq_true (by omega)
          have c1 := hE.cell (j := jm + 1) (by omega)
          have c2 := hE.cell (j := jm) (by omega)
          have f1 := hE.free (jm + 1)
          have f2 := hE.free (jm)
          have b1 : (0 : Int) ≤ ((jm + 1 : Nat) : Int) := by omega
          have b2 : ((jm + 1 : Nat) : Int) < (n : Int) := by omega
          have b3 : (0 : Int) ≤ ((jm : Nat) : Int) := by omega
          have b4 : ((jm : Nat) : Int) < (n : Int) := by omega
          rw [Sort.shiftDown] at hD1
          obtain ⟨y1, hy1⟩ : ∃ y, f[jm + 1]! = y := ⟨_, rfl⟩
          obtain ⟨y2, hy2⟩ : ∃ y, f[jm]! = y := ⟨_, rfl⟩
          rw [hy1, hy2] at hD1
          rw [hy1] at c1
          rw [hy2] at c2
          by_cases hl : Sort.ltInt y1 y2 = true
          ·rw [if_neg (by simp [hl])] at hD1
           have HD := Aside0.mk hD1
           have hN : jm + 1 < f.size ∧ jm < f.size := by omega
           have hsw := hE.swp hN.1 hN.2
           have hS2 : (Sort.swp f (jm + 1) (jm)).size = n := by rw [swp_size]; omega
           rw [hy1, hy2] at hsw
           have HW := Aside0.mk (And.intro hsw (And.intro hB hS2))
           clear hD1 hE hB hS hN hsw hS2 hy1 hy2
           go_wp2
           go_quiet ((go_at_call 155; exact Calls.quiet_of_same (less _ _ _)))
           go_wp2
           go_region
           all_goals
            go_wp2
            obtain ⟨hsw, hB, hS⟩ := HW.out
            have hE := hsw
            have hB := (hB.drewN nq).trans (But.two _ (jm + 1) (jm) (.int .u32 y2) (.int .u32 y1))
            clear hsw
            go_roundg (jm)
            case measure => omega
            case rel => exact ⟨jm, _, by go_num, rfl, by omega, hS, by first | exact hE | exact hE.drew, by first | exact hB | exact hB.drew, HD.out⟩
          ·have hl' : Sort.ltInt y1 y2 = false := by simpa using hl
           rw [if_pos (by simp [hl'])] at hD1
           have HD := Aside0.mk (And.intro hE (And.intro hB hD1))
           clear hD1 hE hB hS hy1 hy2 hl
           go_wp2
           go_quiet ((go_at_call 155; exact Calls.quiet_of_same (less _ _ _)))
           go_wp2_with fail
           go_meet
           exact ⟨by rw [← HD.out.2.2]; exact HD.out.1, HD.out.2.1.drewN nq⟩
         ·have hge : decide ((1 : Int) ≤ (j : Int)) = false := decide_eq_false (by omega)
          have hj0 : j = 0 := by omega
          subst hj0
          have hD2 : f = D1 := hD1
          have HD := Aside0.mk (And.intro hE (And.intro hB hD2))
          clear hD1 hD2 hE hB hS
          go_wp2_with fail
          go_meet
          exact ⟨by rw [← HD.out.2.2]; exact HD.out.1, HD.out.2.1⟩
        case false =>
         have h2 : ¬ i - a ≥ 2 := by have := of_decide_eq_false hq1; omega
         rw [if_neg h2] at hD1
         subst hD1
         have HD := Aside0.mk (And.intro hE hB)
         clear hE hB hS h2 HD1
         go_wp2_with fail
         go_meet
         exact HD.out
       case rest =>
        obtain ⟨hE, hB⟩ := hcut
        have HE3 := Aside0.mk (And.intro hE hB)
        clear hE hB HE2 HD1
        obtain ⟨hE, hB⟩ := HE3.out
        obtain ⟨_, hS, _, hD2⟩ := HF.out
        obtain ⟨e3, he3⟩ : ∃ e3, e3 = D1 := ⟨_, rfl⟩
        subst he3
        clear HE3
        cases q2
        case true =>
         have h2 : b - i ≥ 2 := by have := of_decide_eq_true hq2; omega
         rw [if_pos h2] at hD2
         clear h2
         have HD2 := Aside0.mk hD2
         clear hD2
         go_wp2
         have hD2 := HD2.out
         clear HD2
         go_loopg [10] (b - (i + 1)) (fun kk v wr => ∃ (j : Nat) (f : Array Int), v = .int .i64 j ∧ kk = b - j ∧ 1 ≤ j ∧ f.size = n ∧ Row wr g t c f ∧ But (fun k => k = g) w wr ∧ Sort.shiftUp Sort.ltInt b j f = D2)
         case atStart => exact ⟨i + 1, e3, by go_num, rfl, by omega, hS, hE, hB, hD2⟩
         obtain ⟨j, f, rfl, rfl, hj, hS, hE, hB, hD1⟩ := hrel
         by_cases hjok : j < b
         ·obtain ⟨jm, rfl⟩ : ∃ jm, j = jm + 1 := ⟨j - 1, by omega⟩
          have hjI : ((jm + 1 : Nat) : Int) - 1 = (jm : Int) := by omega
          have hjI2 : (jm : Int) + 1 - 1 = (jm : Int) := by omega
          have hge : decide (((jm + 1 : Nat) : Int) < (b : Int)) = true := decide_eq_true (by omega)
          have hge2 : decide ((jm : Int) + 1 < (b : Int)) = true := decide_eq_true (by omega)
          have c1 := hE.cell (j := jm + 1) (by omega)
          have c2 := hE.cell (j := jm) (by omega)
          have f1 := hE.free (jm + 1)
          have f2 := hE.free (jm)
          have b1 : (0 : Int) ≤ ((jm + 1 : Nat) : Int) := by omega
          have b2 : ((jm + 1 : Nat) : Int) < (n : Int) := by omega
          have b3 : (0 : Int) ≤ ((jm : Nat) : Int) := by omega
          have b4 : ((jm : Nat) : Int) < (n : Int) := by omega
          rw [Sort.shiftUp, if_pos hjok, Nat.add_sub_cancel] at hD1
          obtain ⟨y1, hy1⟩ : ∃ y, f[jm + 1]! = y := ⟨_, rfl⟩
          obtain ⟨y2, hy2⟩ : ∃ y, f[jm]! = y := ⟨_, rfl⟩
          rw [hy1, hy2] at hD1
          rw [hy1] at c1
          rw [hy2] at c2
          by_cases hl : Sort.ltInt y1 y2 = true
          ·rw [if_neg (by simp [hl])] at hD1
           have HD := Aside0.mk hD1
           have hN : jm + 1 < f.size ∧ jm < f.size := by omega
           have hsw := hE.swp hN.1 hN.2
           have hS2 : (Sort.swp f (jm + 1) (jm)).size = n := by rw [swp_size]; omega
           rw [hy1, hy2] at hsw
           have HW := Aside0.mk (And.intro hsw (And.intro hB hS2))
           clear hD1 hE hB hS hN hsw hS2 hy1 hy2
           go_wp2
           go_quiet ((go_at_call 155; exact Calls.quiet_of_same (less _ _ _)))
           go_wp2
           go_region
           all_goals
            go_wp2
            obtain ⟨hsw, hB, hS⟩ := HW.out
            have hE := hsw
            have hB := (hB.drewN nq).trans (But.two _ (jm + 1) (jm) (.int .u32 y2) (.int .u32 y1))
            clear hsw
            go_roundg (b - (jm + 1 + 1))
            case measure => omega
            case rel => exact ⟨jm + 1 + 1, _, by go_num, rfl, by omega, hS, by first | exact hE | exact hE.drew, by first | exact hB | exact hB.drew, HD.out⟩
          ·have hl' : Sort.ltInt y1 y2 = false := by simpa using hl
           rw [if_pos (by simp [hl'])] at hD1
           have HD := Aside0.mk (And.intro hE (And.intro hB hD1))
           clear hD1 hE hB hS hy1 hy2 hl
           go_wp2
           go_quiet ((go_at_call 155; exact Calls.quiet_of_same (less _ _ _)))
           have HD9 : Aside0 (Row (wr.drewN nq) g t c D2 ∧ But (fun k => k = g) w (wr.drewN nq)) := Aside0.mk ⟨by rw [← HD.out.2.2]; exact HD.out.1, HD.out.2.1.drewN nq⟩
           go_wp2
           go_roundg s
           case measure => omega
           case rel =>
            obtain ⟨hR2, _, hsD2, _⟩ := HF.out
            obtain ⟨hE, hB⟩ := HD9.out
            exact ⟨s, z + 1, i, D2, by first | rfl | go_num, by go_num, rfl, by omega, by omega, by omega, hsD2, hE, hB, hR2⟩
         ·have hge : decide ((j : Int) < (b : Int)) = false := decide_eq_false (by omega)
          rw [Sort.shiftUp, if_neg hjok] at hD1
          have hD2 : f = D2 := hD1
          have HD := Aside0.mk (And.intro hE (And.intro hB hD2))
          clear hD1 hD2 hE hB hS
          have HD9 : Aside0 (Row wr g t c D2 ∧ But (fun k => k = g) w wr) := Aside0.mk ⟨by rw [← HD.out.2.2]; exact HD.out.1, HD.out.2.1⟩
          go_wp2
          go_roundg s
          case measure => omega
          case rel =>
           obtain ⟨hR2, _, hsD2, _⟩ := HF.out
           obtain ⟨hE, hB⟩ := HD9.out
           exact ⟨s, z + 1, i, D2, by first | rfl | go_num, by go_num, rfl, by omega, by omega, by omega, hsD2, hE, hB, hR2⟩
        case false =>
         have h2 : ¬ b - i ≥ 2 := by have := of_decide_eq_false hq2; omega
         rw [if_neg h2] at hD2
         have HD9 : Aside0 (Row wc g t c D2 ∧ But (fun k => k = g) w wc) := Aside0.mk ⟨by rw [← hD2]; exact hE, hB⟩
         clear hE hB hS h2 hD2
         go_wp2
         go_roundg s
         case measure => omega
         case rel =>
          obtain ⟨hR2, _, hsD2, _⟩ := HF.out
          obtain ⟨hE, hB⟩ := HD9.out
          exact ⟨s, z + 1, i, D2, by first | rfl | go_num, by go_num, rfl, by omega, by omega, by omega, hsD2, hE, hB, hR2⟩
theorem u64_range (op : BinOp) (a b : Int) : 0 ≤ IntKind.u64.wrap a ∧ IntKind.u64.wrap a < 18446744073709551616 := by
 have e : IntKind.u64.wrap a = a % 18446744073709551616 := rfl
 omega
theorem xor_range (a b : Int) : 0 ≤ bits BinOp.xor IntKind.u64 a b ∧ bits BinOp.xor IntKind.u64 a b < 18446744073709551616 := by
 simp only [bits]
 exact u64_range .xor _ 0
def Rand (gx : Nat) (w : World) (e : Ending) (w' : World) : Prop := ∃ r : Int, 0 ≤ r ∧ r < 18446744073709551616 ∧ e = .returned (.int .u64 r) ∧ w'.heap[gx]? = some (.cells #[.int .u64 r] 247 (0, 0)) ∧ But (fun k => k = gx) w w'
theorem stored {gx : Nat} {w : World} {v : Value} (hs : w.heap[gx]? = some (.cells #[v] 247 (0, 0))) (r : Value) : ((w.setCell ⟨gx, 0, none⟩ r).drew).heap[gx]? = some (.cells #[r] 247 (0, 0)) :=
 show (w.setCell ⟨gx, 0, none⟩ r).heap[gx]? = _ by simpa using blk_set (g := gx) hs 0 r
theorem next (gx : Nat) (v : Int) (w : World) (hs : w.heap[gx]? = some (.cells #[.int .u64 v] 247 (0, 0))) :
  Calls Tryz.prog 174 #[.pointer (some ⟨gx, 0, none⟩)] w (Rand gx w) := by
 have c3 := (blk_cell hs 0).trans rfl
 have f3 := blk_frozen hs 0
 have HS := Aside0.mk hs
 clear hs
 go_enter Tryz.func174, Tryz.ntmps174
 go_wp2
 go_region
 all_goals
  obtain ⟨r1, hr1⟩ : ∃ r, bits BinOp.xor IntKind.u64 v (IntKind.u64.wrap (v * 8192)) = r := ⟨_, rfl⟩
  rw [hr1]
  have h1 := stored HS.out (.int .u64 r1)
  have q1 := xor_range v (IntKind.u64.wrap (v * 8192))
  rw [hr1] at q1
  have hB := (((But.refl (fun k => k = gx) w).setCell (b := gx) rfl 0 (.int .u64 r1))).drew
  clear hr1 c3 f3 HS
  generalize (w.setCell ⟨gx, 0, none⟩ (.int .u64 r1)).drew = w1 at h1 hB ⊢
  have HB := Aside0.mk hB
  have HS := Aside0.mk h1
  have c3 := (blk_cell h1 0).trans rfl
  have f3 := blk_frozen h1 0
  obtain ⟨z1, hz1⟩ : ∃ z, r1 / 128 = z := ⟨_, rfl⟩
  clear hB h1
  go_wp2
  go_region
  all_goals
   obtain ⟨r2, hr2⟩ : ∃ r, bits BinOp.xor IntKind.u64 r1 z1 = r := ⟨_, rfl⟩
   rw [hr2]
   have h1 := stored HS.out (.int .u64 r2)
   have hB := ((HB.out.setCell (b := gx) rfl 0 (.int .u64 r2))).drew
   have q2 := xor_range r1 z1
   rw [hr2] at q2
   clear hr2 c3 f3 HS HB hz1 q1
   generalize (w1.setCell ⟨gx, 0, none⟩ (.int .u64 r2)).drew = w2 at h1 hB ⊢
   have HB := Aside0.mk hB
   have HS := Aside0.mk h1
   have c3 := (blk_cell h1 0).trans rfl
   have f3 := blk_frozen h1 0
   clear hB h1
   go_wp2
   go_region
   all_goals
    obtain ⟨r3, hr3⟩ : ∃ r, bits BinOp.xor IntKind.u64 r2 (IntKind.u64.wrap (r2 * 131072)) = r := ⟨_, rfl⟩
    rw [hr3]
    have h1 := stored HS.out (.int .u64 r3)
    have hB := ((HB.out.setCell (b := gx) rfl 0 (.int .u64 r3))).drew
    have q3 := xor_range r2 (IntKind.u64.wrap (r2 * 131072))
    rw [hr3] at q3
    clear hr3 c3 f3 HS HB q2
    generalize (w2.setCell ⟨gx, 0, none⟩ (.int .u64 r3)).drew = w3 at h1 hB ⊢
    have HB := Aside0.mk hB
    have HS := Aside0.mk h1
    have c3 := (blk_cell h1 0).trans rfl
    clear hB h1
    go_wp2
    go_ret
    exact ⟨r3, q3.1, q3.2, rfl, HS.out, HB.out⟩
def Pow (m : Nat) (w : World) (e : Ending) (w' : World) : Prop := ∃ r : Nat, 1 ≤ r ∧ r ≤ 61 ∧ 2 ^ r ≤ 2 * m ∧ e = .returned (.int .u64 ((2 ^ r : Nat) : Int)) ∧ w' = w
theorem nextPow (m : Nat) (w : World) (h8 : 8 ≤ m) (hm : m ≤ 1152921504606846976) : Calls Tryz.prog 173 #[.int .i64 m] w (Pow m w) := by
 go_enter Tryz.func173, Tryz.ntmps173
 go_wp2_with fail
 refine (len m _ hm).mono ?_
 rintro e w' ⟨r, hr, rfl, rfl⟩
 obtain ⟨q1, q2, q3⟩ := hr.2 (by omega)
 have hr61 : r ≤ 61 := by
  have := (Nat.pow_le_pow_iff_right (a := 2) (by omega) (n := r - 1) (m := 60)).1 (by omega)
  omega
 have hp : 2 ^ r = 2 * 2 ^ (r - 1) := by
  conv => lhs; rw [show r = (r - 1) + 1 by omega]
  rw [Nat.pow_succ]; omega
 have h64 : 2 ^ r ≤ 2 * m := by omega
 have HR := Aside0.mk (And.intro h64 hp)
 have r0 : (0 : Int) ≤ (r : Int) := by omega
 have r1 : (r : Int) < 64 := by omega
 have r2 : (r : Int) < 62 := by omega
 clear hr q2 q3 hp h64
 have e : IntKind.u64.wrap (2 ^ r) = ((2 ^ r : Nat) : Int) := by
  have e1 : ((2 : Int) ^ r) = ((2 ^ r : Nat) : Int) := by simp
  rw [e1]
  have h9 := HR.out.1
  generalize 2 ^ r = p at h9 ⊢
  show ((p : Nat) : Int) % 18446744073709551616 = _
  omega
 have HE := Aside0.mk e
 clear e
 go_wp2
 go_ret
 exact ⟨r, q1, hr61, HR.out.1, by rw [HE.out]; rfl, rfl⟩
def Broken (w : World) (g : Nat) (t : TypeId) (c a b n : Nat) (d : Array Int) (e : Ending) (w' : World) : Prop := ∃ d' : Array Int, d'.size = n ∧ Sort.PermIn a b d d' ∧ e = .returned (.tuple #[]) ∧ Row w' g t c d' ∧ But (fun k => k = g) w w'
theorem wraps_u64 (n : Int) (h0 : 0 ≤ n) (h1 : n < 2 ^ 64) : IntKind.u64.wrap n = n := by
 show n % 18446744073709551616 = n
 have : (2 : Int) ^ 64 = 18446744073709551616 := by decide
 omega
theorem and_mask (r : Int) (k : Nat) (hk : k ≤ 61) (h0 : 0 ≤ r) (h1 : r < 18446744073709551616) : ∃ o : Nat, bits BinOp.and IntKind.u64 r (((2 ^ k : Nat) : Int) - 1) = (o : Int) ∧ o < 2 ^ k := by
 have h64 : (2 : Int) ^ 64 = 18446744073709551616 := by decide
 have e := bits_mask .u64 64 (by decide) wraps_u64 k (by omega) r h0 (by omega)
 have e2 : ((2 : Int) ^ k) = ((2 ^ k : Nat) : Int) := by simp
 have e1 : (((2 ^ k : Nat) : Int) - 1) = 2 ^ k - 1 := by rw [e2]
 rw [e1, e, e2]
 have hp := Nat.two_pow_pos k
 generalize 2 ^ k = p at hp ⊢
 have h2 := Int.emod_lt_of_pos r (show (0 : Int) < (p : Int) by omega)
 have h3 := Int.emod_nonneg r (show (p : Int) ≠ 0 by omega)
 exact ⟨(r % (p : Int)).toNat, by omega, by omega⟩
theorem breakPatterns (g : Nat) (t : TypeId) (c cap a b n : Nat) (d : Array Int) (w : World) (hn : d.size = n) (hR : Row w g t c d) (hab : a ≤ b) (hb : b ≤ n) (hd : n ≤ 1152921504606846976) :
  Calls Tryz.prog 151 #[.slice (some ⟨g, 0, none⟩) n cap, .int .i64 a, .int .i64 b] w (Broken w g t c a b n d) := by
 obtain ⟨l, hl⟩ : ∃ l, l = b - a := ⟨_, rfl⟩
 have e0 : (b : Int) - (a : Int) = (l : Int) := by omega
 have hle : a + l ≤ b ∧ b ≤ a + l := by omega
 by_cases h8 : 8 ≤ l
 ·have d8 : decide ((8 : Int) ≤ (l : Int)) = true := decide_eq_true (by omega)
  obtain ⟨i1, hi1⟩ : ∃ i1, i1 = a + l / 4 * 2 + 1 := ⟨_, rfl⟩
  obtain ⟨i0, hi0⟩ : ∃ i0, i0 = a + l / 4 * 2 - 1 := ⟨_, rfl⟩
  obtain ⟨q, hq⟩ : ∃ q, q = l / 4 := ⟨_, rfl⟩
  have e1 : (l : Int) / 4 = (q : Int) := by omega
  have e2 : (a : Int) + (q : Int) * 2 + 1 = (i1 : Int) := by omega
  have e3 : (a : Int) + (q : Int) * 2 - 1 = (i0 : Int) := by omega
  have hii : a ≤ i0 ∧ i0 ≤ i1 ∧ i1 < b := by omega
  have hqn : (0 : Int) ≤ (q : Int) := by omega
  have hqm : (q : Int) ≤ 1152921504606846976 := by omega
  have hg := hR.lt
  have HR := Aside0.mk (And.intro hR hn)
  clear hR hn hl hi1 hi0 hq
  go_enter Tryz.func151, Tryz.ntmps151
  go_wp2_with fail
  refine (nextPow l _ h8 (by omega)).mono ?_
  rintro e w' ⟨k, hk1, hk2, hk3, rfl, rfl⟩
  obtain ⟨pw, hpw⟩ : ∃ pw : Nat, 2 ^ k = pw := ⟨_, rfl⟩
  have hpw1 : 1 ≤ pw := by rw [← hpw]; exact Nat.two_pow_pos k
  rw [hpw] at hk3 ⊢
  have HP := Aside0.mk hpw
  have hpI : (1 : Int) ≤ (pw : Int) := by omega
  have hpI2 : (pw : Int) ≤ 2305843009213693952 := by omega
  clear hpw
  go_wp2
  obtain ⟨hR, hn⟩ := HR.out
  have hN0 : New w (w.alloc (.cells #[.int .u64 (l : Int)] 247)) := Counts.new (But.refl _ _)
  have hE := hR.but hN0 (fun h => h)
  have hX : (w.alloc (.cells #[.int .u64 (l : Int)] 247)).heap[w.heap.size]? = some (.cells #[.int .u64 (l : Int)] 247 (0, 0)) := blk_new _ _
  go_loopg [9] (i1 + 1 - i0) (fun kk v9 wr => ∃ (x : Nat) (f : Array Int) (v : Int), v9 = .int .i64 x ∧ kk = i1 + 1 - x ∧ i0 ≤ x ∧ x ≤ i1 + 1 ∧ f.size = n ∧ Row wr g t c f ∧ wr.heap[w.heap.size]? = some (.cells #[.int .u64 v] 247 (0, 0)) ∧ But (fun k => k = g ∨ k = w.heap.size) (w.alloc (.cells #[.int .u64 (l : Int)] 247)) wr ∧ Sort.PermIn a b d f)
  case atStart => exact ⟨i0, d, (l : Int), rfl, rfl, Nat.le_refl _, by omega, hn, hE, hX, But.refl _ _, Sort.permIn_refl d a b⟩
  obtain ⟨x, f, v, rfl, rfl, hx1, hx2, hS, hE, hX, hB, hP⟩ := hrel
  clear hR hn hN0 HR
  by_cases hxi : x ≤ i1
  ·have dx : decide ((x : Int) ≤ (i1 : Int)) = true := decide_eq_true (by omega)
   have dx2 : decide (x ≤ i1) = true := decide_eq_true (by omega)
   have HE := Aside0.mk (And.intro hE (And.intro hX (And.intro hB (And.intro hP hS))))
   clear hE hX hB hP hS
   go_wp2_with fail
   refine (next w.heap.size v _ HE.out.2.1).mono ?_
   rintro e w2 ⟨r, hr0, hr1, rfl, hX, hB2⟩
   obtain ⟨o, ho, ho2⟩ := and_mask r k (by omega) hr0 hr1
   rw [HP.out] at ho ho2
   obtain ⟨hE, _, hB, hP, hS⟩ := HE.out
   have hE := hE.but hB2 (by omega)
   have hB := hB.trans (hB2.mono (fun _ => .inr))
   have hoI : (0 : Int) ≤ (o : Int) := by omega
   clear HE hB2 hr0 hr1
   by_cases hol : l ≤ o
   ·have dl : decide ((l : Int) ≤ (o : Int)) = true := decide_eq_true (by omega)
    have dl2 : decide (l ≤ o) = true := decide_eq_true (by omega)
    obtain ⟨o2, ho3⟩ : ∃ o2, o2 = o - l := ⟨_, rfl⟩
    have ho4 : (o : Int) - (l : Int) = (o2 : Int) := by omega
    obtain ⟨jj, hjj⟩ : ∃ jj, jj = a + o2 := ⟨_, rfl⟩
    have hjI : (a : Int) + (o2 : Int) = (jj : Int) := by omega
    have hj2 : a ≤ jj ∧ jj < b := by omega
    clear hjj ho3
    go_wp2
    obtain ⟨v9, hy9⟩ : ∃ v, (w2.setCell ⟨g, x, none⟩ (.int .u32 f[jj]!)).cell? ⟨g, jj, none⟩ = some v := ⟨_, (hE.set (by omega) _).cell (by simp; omega)⟩
    have c1 := hE.cell (j := x) (by omega)
    have c2 := hE.cell (j := jj) (by omega)
    have f1 := hE.free x
    have f2 := hE.free jj
    have hN : x < f.size ∧ jj < f.size := by omega
    have hsw := (hE.swp hN.1 hN.2).drew
    have hbt := (hB.trans ((But.two (g := g) w2 x jj (.int .u32 f[jj]!) (.int .u32 f[x]!)).mono (fun _ => .inl))).drew
    have hX9 : (((w2.setCell ⟨g, x, none⟩ (.int .u32 f[jj]!)).setCell ⟨g, jj, none⟩ (.int .u32 f[x]!)).drew).heap[w.heap.size]? = some (.cells #[.int .u64 r] 247 (0, 0)) := (But.two (g := g) w2 x jj (.int .u32 f[jj]!) (.int .u32 f[x]!)).drew.heap hX (by omega)
    have hP9 := Sort.permIn_trans d f (Sort.swp f x jj) a b hP (Sort.swp_permIn f a b x jj (by omega) (by omega) (by omega) (by omega) (by omega))
    have hS9 : (Sort.swp f x jj).size = n := by rw [swp_size]; omega
    obtain ⟨y1, hy1⟩ : ∃ y, f[x]! = y := ⟨_, rfl⟩
    obtain ⟨y2, hy2⟩ : ∃ y, f[jj]! = y := ⟨_, rfl⟩
    rw [hy1] at c1 hsw hbt hX9
    rw [hy2] at c2 hsw hbt hy9 hX9
    have b1 : (0 : Int) ≤ (x : Int) := by omega
    have b2 : (x : Int) < (n : Int) := by omega
    have b3 : (0 : Int) ≤ (jj : Int) := by omega
    have b4 : (jj : Int) < (n : Int) := by omega
    have HW := Aside0.mk (And.intro hsw (And.intro hbt (And.intro hX9 (And.intro hP9 hS9))))
    clear hE hB hX hP hN hy1 hy2 hsw hbt hX9 hP9 hS9
    go_wp2
    go_region
    all_goals
     go_wp2
     go_roundg (i1 + 1 - (x + 1))
     case measure => omega
     case rel =>
      obtain ⟨hsw, hbt, hX9, hP9, hS9⟩ := HW.out
      exact ⟨x + 1, _, r, by go_num, rfl, by omega, by omega, hS9, hsw, hX9, hbt, hP9⟩
   ·have dl : decide ((l : Int) ≤ (o : Int)) = false := decide_eq_false (by omega)
    have dl2 : decide (l ≤ o) = false := decide_eq_false (by omega)
    obtain ⟨jj, hjj⟩ : ∃ jj, jj = a + o := ⟨_, rfl⟩
    have hjI : (a : Int) + (o : Int) = (jj : Int) := by omega
    have hj2 : a ≤ jj ∧ jj < b := by omega
    clear hjj
    go_wp2
    obtain ⟨v9, hy9⟩ : ∃ v, (w2.setCell ⟨g, x, none⟩ (.int .u32 f[jj]!)).cell? ⟨g, jj, none⟩ = some v := ⟨_, (hE.set (by omega) _).cell (by simp; omega)⟩
    have c1 := hE.cell (j := x) (by omega)
    have c2 := hE.cell (j := jj) (by omega)
    have f1 := hE.free x
    have f2 := hE.free jj
    have hN : x < f.size ∧ jj < f.size := by omega
    have hsw := (hE.swp hN.1 hN.2).drew
    have hbt := (hB.trans ((But.two (g := g) w2 x jj (.int .u32 f[jj]!) (.int .u32 f[x]!)).mono (fun _ => .inl))).drew
    have hX9 : (((w2.setCell ⟨g, x, none⟩ (.int .u32 f[jj]!)).setCell ⟨g, jj, none⟩ (.int .u32 f[x]!)).drew).heap[w.heap.size]? = some (.cells #[.int .u64 r] 247 (0, 0)) := (But.two (g := g) w2 x jj (.int .u32 f[jj]!) (.int .u32 f[x]!)).drew.heap hX (by omega)
    have hP9 := Sort.permIn_trans d f (Sort.swp f x jj) a b hP (Sort.swp_permIn f a b x jj (by omega) (by omega) (by omega) (by omega) (by omega))
    have hS9 : (Sort.swp f x jj).size = n := by rw [swp_size]; omega
    obtain ⟨y1, hy1⟩ : ∃ y, f[x]! = y := ⟨_, rfl⟩
    obtain ⟨y2, hy2⟩ : ∃ y, f[jj]! = y := ⟨_, rfl⟩
    rw [hy1] at c1 hsw hbt hX9
    rw [hy2] at c2 hsw hbt hy9 hX9
    have b1 : (0 : Int) ≤ (x : Int) := by omega
    have b2 : (x : Int) < (n : Int) := by omega
    have b3 : (0 : Int) ≤ (jj : Int) := by omega
    have b4 : (jj : Int) < (n : Int) := by omega
    have HW := Aside0.mk (And.intro hsw (And.intro hbt (And.intro hX9 (And.intro hP9 hS9))))
    clear hE hB hX hP hN hy1 hy2 hsw hbt hX9 hP9 hS9
    go_wp2
    go_region
    all_goals
     go_wp2
     go_roundg (i1 + 1 - (x + 1))
     case measure => omega
     case rel =>
      obtain ⟨hsw, hbt, hX9, hP9, hS9⟩ := HW.out
      exact ⟨x + 1, _, r, by go_num, rfl, by omega, by omega, hS9, hsw, hX9, hbt, hP9⟩
  ·have dx : decide ((x : Int) ≤ (i1 : Int)) = false := decide_eq_false (by omega)
   have dx2 : decide (x ≤ i1) = false := decide_eq_false (by omega)
   have hfin : But (fun k => k = g) w wr := ⟨hB.os, hB.tape, hB.output, Nat.le_trans (by simp) hB.size, fun k hk hn => (hB.block k (by simp; omega) (by omega)).trans (Below.heap_alloc _ _ _ (by omega))⟩
   have HE := Aside0.mk (And.intro hE (And.intro hfin (And.intro hP hS)))
   clear hE hX hB hP hS hfin
   go_wp2
   go_end0
   exact ⟨f, HE.out.2.2.2, HE.out.2.2.1, rfl, HE.out.1, HE.out.2.1⟩
 ·have d8 : decide ((8 : Int) ≤ (l : Int)) = false := decide_eq_false (by omega)
  have HR := Aside0.mk (And.intro hR hn)
  clear hR hn hl
  go_enter Tryz.func151, Tryz.ntmps151
  go_wp2
  go_end0
  exact ⟨d, HR.out.2, Sort.permIn_refl d a b, rfl, HR.out.1, But.refl _ _⟩
theorem swo : Sort.SWO Sort.ltInt := by
 constructor <;> intros <;> simp only [Sort.ltInt, decide_eq_true_eq, decide_eq_false_iff_not] at * <;> omega
theorem insertionN {g : Nat} {t : TypeId} {c cap a b n : Nat} {d : Array Int} {w : World} (hn : d.size = n) (hR : Row w g t c d) (hb : b ≤ n) (hd : n ≤ 1152921504606846976) (ha : a ≤ b) :
  Calls Tryz.prog 149 #[.slice (some ⟨g, 0, none⟩) n cap, .int .i64 a, .int .i64 b] w (Left w g t c (Sort.insertionSort Sort.ltInt d a b)) := by
 subst hn
 exact insertionSort g t c cap a b d w hR hb hd ha
theorem heapN {g : Nat} {t : TypeId} {c cap a b n : Nat} {d : Array Int} {w : World} (hn : d.size = n) (hR : Row w g t c d) (hb : b ≤ n) (hd : n ≤ 1152921504606846976) (ha : a < b) :
  Calls Tryz.prog 150 #[.slice (some ⟨g, 0, none⟩) n cap, .int .i64 a, .int .i64 b] w (Left w g t c (Sort.heapSort Sort.ltInt d a b)) := by
 subst hn
 exact heapSort g t c cap a b d w hR hb ha hd
theorem reverseN {g : Nat} {t : TypeId} {c cap a b n : Nat} {d : Array Int} {w : World} (hn : d.size = n) (hR : Row w g t c d) (hb : b ≤ n) (hd : n ≤ 1152921504606846976) (h1 : 1 ≤ b) :
  Calls Tryz.prog 153 #[.slice (some ⟨g, 0, none⟩) n cap, .int .i64 a, .int .i64 b] w (Left w g t c (Sort.reverseRange d a b)) := by
 subst hn
 exact reverseRange g t c cap a b d w hR hb h1 hd
def Sorts (w : World) (g : Nat) (t : TypeId) (c a b n : Nat) (d : Array Int) (e : Ending) (w' : World) : Prop := ∃ d' : Array Int, d'.size = n ∧ Sort.PermIn a b d d' ∧ Sort.SortedIn Sort.ltInt a b d' ∧ e = .returned (.tuple #[]) ∧ Row w' g t c d' ∧ But (fun k => k = g) w w'
structure Mid (w : World) (g : Nat) (t : TypeId) (c a b n : Nat) (d : Array Int) (x y : Nat) (f : Array Int) (wr : World) : Prop where
 lo : a ≤ x
 mid : x ≤ y
 hi : y ≤ b
 size : f.size = n
 row : Row wr g t c f
 but : But (fun k => k = g) w wr
 below : Sort.Below Sort.ltInt x y f
 fin : ∀ R, Sort.PermIn x y f R → Sort.SortedIn Sort.ltInt x y R → Sort.PermIn a b d R ∧ Sort.SortedIn Sort.ltInt a b R
theorem Mid.perm {w : World} {g : Nat} {t : TypeId} {c a b n : Nat} {d : Array Int} {x y : Nat} {f : Array Int} {wr : World} (h : Mid w g t c a b n d x y f wr) (hb : b ≤ n) {f2 : Array Int} {w2 : World} (hP : Sort.PermIn x y f f2) (hR : Row w2 g t c f2) (hB : But (fun k => k = g) wr w2) : Mid w g t c a b n d x y f2 w2 :=
 { lo := h.lo, mid := h.mid, hi := h.hi, size := hP.1.trans h.size, row := hR, but := h.but.trans hB, below := h.below.perm (by have := h.size; have := h.hi; omega) hP, fin := fun R hR hS => h.fin R (Sort.permIn_trans f f2 R x y hP hR) hS }
theorem Mid.done {w : World} {g : Nat} {t : TypeId} {c a b n : Nat} {d : Array Int} {x y : Nat} {f : Array Int} {wr : World} (h : Mid w g t c a b n d x y f wr) {f2 : Array Int} {w2 : World} (hP : Sort.PermIn x y f f2) (hS : Sort.SortedIn Sort.ltInt x y f2) (hR : Row w2 g t c f2) (hB : But (fun k => k = g) wr w2) : Sorts w g t c a b n d (.returned (.tuple #[])) w2 :=
 ⟨f2, hP.1.trans h.size, (h.fin f2 hP hS).1, (h.fin f2 hP hS).2, rfl, hR, h.but.trans hB⟩
theorem Mid.drewN {w : World} {g : Nat} {t : TypeId} {c : Nat} {a b n : Nat} {d : Array Int} {x y : Nat} {f : Array Int} {wr : World} (h : Mid w g t c a b n d x y f wr) (k : Nat) : Mid w g t c a b n d x y f (wr.drewN k) :=
 { lo := h.lo, mid := h.mid, hi := h.hi, size := h.size, row := h.row, but := h.but.drewN k, below := h.below, fin := h.fin }
theorem pdq (g : Nat) (t : TypeId) (c cap n : Nat) (hd : n ≤ 1152921504606846976) : ∀ (N a b : Nat) (lim : Int) (d : Array Int) (w : World), b - a ≤ N → d.size = n → Row w g t c d → a ≤ b → b ≤ n → Sort.Below Sort.ltInt a b d →
  Calls Tryz.prog 130 #[.slice (some ⟨g, 0, none⟩) n cap, .int .i64 a, .int .i64 b, .int .i64 lim] w (Sorts w g t c a b n d) := by
 intro N
 induction N using Nat.strongRecOn with
 | ind N ih =>
  intro a b lim d w hN hn hR hab hb hBel
  have IH := Aside0.mk ih
  have M0 : Mid w g t c a b n d a b d w := { lo := Nat.le_refl _, mid := hab, hi := Nat.le_refl _, size := hn, row := hR, but := But.refl _ _, below := hBel, fin := fun R h1 h2 => ⟨h1, h2⟩ }
  have HM0 := Aside0.mk M0
  clear ih hn hR hBel M0
  go_enter Tryz.func130, Tryz.ntmps130
  go_wp2
  have M0 := HM0.out
  go_loopg [1, 2, 3, 8, 9] (b - a) (fun kk v1 v2 v3 v8 v9 wr => ∃ (x y : Nat) (lm : Int) (b8 b9 : Bool) (f : Array Int), v1 = .int .i64 x ∧ v2 = .int .i64 y ∧ v3 = .int .i64 lm ∧ v8 = .bool b8 ∧ v9 = .bool b9 ∧ kk = y - x ∧ Mid w g t c a b n d x y f wr)
  case atStart => exact ⟨a, b, lim, true, true, d, rfl, rfl, rfl, rfl, rfl, rfl, M0⟩
  obtain ⟨x, y, lm, b8, b9, f, rfl, rfl, rfl, rfl, rfl, rfl, M⟩ := hrel
  clear M0 HM0
  have hxy := M.mid
  have hyb := M.hi
  have hax := M.lo
  obtain ⟨l, hl⟩ : ∃ l, l = y - x := ⟨_, rfl⟩
  have hlI : (y : Int) - (x : Int) = (l : Int) := by omega
  have HM := Aside0.mk M
  clear M
  by_cases h12 : l ≤ 12
  ·have d12 : decide ((l : Int) ≤ 12) = true := decide_eq_true (by omega)
   clear hl
   go_wp2_with fail
   refine (insertionN HM.out.size HM.out.row (by omega) hd hxy).mono ?_
   rintro e w1 ⟨rfl, hR1, hB1⟩
   have hs := Sort.insertionSort_holds swo f x y hxy (by rw [HM.out.size]; omega)
   have HD := Aside0.mk (HM.out.done hs.1 hs.2 hR1 hB1)
   clear hR1 hB1 hs
   go_wp2
   go_end0
   exact HD.out
  ·have d12 : decide ((l : Int) ≤ 12) = false := decide_eq_false (by omega)
   have hlt : x < y := by omega
   by_cases h0 : lm = 0
   ·have d0 : (lm == 0) = true := by simp [h0]
    clear hl h0
    go_wp2_with fail
    refine (heapN HM.out.size HM.out.row (by omega) hd hlt).mono ?_
    rintro e w1 ⟨rfl, hR1, hB1⟩
    have hs := Sort.heapSort_holds swo f x y hxy (by rw [HM.out.size]; omega)
    have HD := Aside0.mk (HM.out.done hs.1 hs.2 hR1 hB1)
    clear hR1 hB1 hs
    go_wp2
    go_end0
    exact HD.out
   ·have d0 : (lm == 0) = false := by simp [h0]
    clear h0 hl
    go_upto_if 35 with (fail)
    go_cut [3] (fun s3 wx => ∃ (lm : Int) (f2 : Array Int), s3 = .int .i64 lm ∧ Mid w g t c a b n d x y f2 wx)
    case first =>
     cases b8 with
     | true =>
      go_wp2_with fail
      go_meet
      exact ⟨lm, f, rfl, HM.out⟩
     | false =>
      go_wp2_with fail
      refine (breakPatterns g t c cap x y n f _ HM.out.size HM.out.row hxy (by omega) hd).mono ?_
      rintro e w1 ⟨f2, hs2, hP2, rfl, hR2, hB2⟩
      have HD := Aside0.mk (HM.out.perm hb hP2 hR2 hB2)
      clear hs2 hP2 hR2 hB2
      go_wp2_with fail
      go_meet
      exact ⟨_, f2, rfl, HD.out⟩
    case rest =>
     obtain ⟨lm, f, rfl, M⟩ := hcut
     have HM := Aside0.mk M
     clear M
     go_wp2_with fail
     refine (choosePivot g t c cap x y n f _ HM.out.size HM.out.row hlt (by omega) hd).mono ?_
     rintro e w1 ⟨p, h, hp1, hp2, hh, rfl, hN1⟩
     have HM1 := Aside0.mk (HM.out.perm hb (Sort.permIn_refl f x y) (HM.out.row.but hN1 (fun h => h)) (hN1.mono (fun _ h => h.elim)))
     clear hN1 HM hh
     obtain ⟨z2, hz2⟩ : ∃ z, (h == 2) = z := ⟨_, rfl⟩
     go_upto_if 50 with (fail)
     go_cut [11, 12] (fun s11 s12 wx => ∃ (p : Nat) (h : Int) (f2 : Array Int), s11 = .int .i64 p ∧ s12 = .int .i64 h ∧ x ≤ p ∧ p < y ∧ Mid w g t c a b n d x y f2 wx)
     case first =>
      cases z2 with
      | false =>
       go_wp2_with fail
       go_meet
       exact ⟨p, h, f, rfl, rfl, hp1, hp2, HM1.out⟩
      | true =>
       obtain ⟨p2, hp3⟩ : ∃ p2, p2 = (y - 1) - (p - x) := ⟨_, rfl⟩
       have hp4 : (y : Int) - 1 - ((p : Int) - (x : Int)) = (p2 : Int) := by omega
       have hp5 : x ≤ p2 ∧ p2 < y := by omega
       clear hp3
       go_wp2_with fail
       refine (reverseN HM1.out.size HM1.out.row (by omega) hd (by omega)).mono ?_
       rintro e w2 ⟨rfl, hR2, hB2⟩
       have HD := Aside0.mk (HM1.out.perm hb (Sort.reverseRange_holds f x y hxy (by rw [HM1.out.size]; omega)) hR2 hB2)
       clear hR2 hB2
       go_wp2_with fail
       go_meet
       exact ⟨p2, 1, _, rfl, rfl, hp5.1, hp5.2, HD.out⟩
     case rest =>
      obtain ⟨p, h, f, rfl, rfl, hp1, hp2, M⟩ := hcut
      have HM := Aside0.mk M
      clear M HM1 hz2
      obtain ⟨z1, hz1⟩ : ∃ z, (h == 1) = z := ⟨_, rfl⟩
      go_upto_region 15 with (fail)
      go_cut [68] (fun s68 wx => ∃ z, s68 = .bool z ∧ Mid w g t c a b n d x y f wx)
      case first =>
       cases b8 <;> cases b9 <;> cases z1 <;> (go_wp2_with fail; go_meet; exact ⟨_, rfl, HM.out⟩)
      case rest =>
       obtain ⟨z, rfl, M⟩ := hcut
       clear HM
       have HM := Aside0.mk M
       clear M hz1
       go_upto_if 68 with (fail)
       go_cut [] (fun wx => ∃ f2 : Array Int, Mid w g t c a b n d x y f2 wx)
       case first =>
        cases z with
        | false =>
         go_wp2_with fail
         go_meet
         exact ⟨f, HM.out⟩
        | true =>
         go_wp2_with fail
         obtain ⟨ps, hps⟩ : ∃ ps, Sort.partialInsertionSort Sort.ltInt f x y = ps := ⟨_, rfl⟩
         have hpp := Sort.partialInsertionSort_holds swo f x y hlt (by rw [HM.out.size]; omega) HM.out.below
         refine (partialInsertionSort g t c cap x y n f _ HM.out.size HM.out.row (by omega) hlt hd).mono ?_
         rw [hps] at hpp ⊢
         obtain ⟨f2, bs⟩ := ps
         dsimp only at hpp ⊢
         rintro e w2 ⟨rfl, hR2, hB2⟩
         cases bs with
         | true =>
          have HD := Aside0.mk (HM.out.done hpp.1 (hpp.2 rfl) hR2 hB2)
          clear hR2 hB2 hpp hps
          go_wp2
          go_end0
          exact HD.out
         | false =>
          have HD := Aside0.mk (HM.out.perm hb hpp.1 hR2 hB2)
          clear hR2 hB2 hpp hps
          go_wp2
          go_meet
          exact ⟨f2, HD.out⟩
       case rest =>
        obtain ⟨f, M⟩ := hcut
        clear HM
        have HM := Aside0.mk M
        clear M
        obtain ⟨bb, hbb⟩ : ∃ bb, (decide (0 < x) && !Sort.ltInt f[x - 1]! f[p]!) = bb := ⟨_, rfl⟩
        have HBB := Aside0.mk hbb
        clear hbb
        go_upto_region 17 with (fail)
        go_cut [87] (fun s wx => s = .bool bb ∧ Mid w g t c a b n d x y f wx)
        case first =>
         by_cases hin : 0 < x
         ·have hg1 : decide ((x : Int) > 0) = true := decide_eq_true (by omega)
          have hg2 : decide (0 < x) = true := decide_eq_true (by omega)
          obtain ⟨u, hu⟩ : ∃ u, u = x - 1 := ⟨_, rfl⟩
          have hu2 : (x : Int) - 1 = (u : Int) := by omega
          have hu3 : IntKind.i64.wrap ((x : Int) - 1) = (u : Int) := by rw [hu2]; exact i64w (by omega)
          have b1 : (0 : Int) ≤ (u : Int) := by omega
          have b2 : (u : Int) < (n : Int) := by omega
          have b3 : (0 : Int) ≤ (p : Int) := by omega
          have b4 : (p : Int) < (n : Int) := by omega
          have hsz := HM.out.size
          have c1 := HM.out.row.cell (j := u) (by omega)
          have c2 := HM.out.row.cell (j := p) (by omega)
          have f1 := HM.out.row.free u
          have f2 := HM.out.row.free p
          have hbb := HBB.out
          rw [← hu] at hbb
          obtain ⟨y1, hy1⟩ : ∃ y, f[u]! = y := ⟨_, rfl⟩
          obtain ⟨y2, hy2⟩ : ∃ y, f[p]! = y := ⟨_, rfl⟩
          rw [hy1] at c1 hbb
          rw [hy2] at c2 hbb
          clear hy1 hy2 hu hsz
          obtain ⟨l, hl⟩ : ∃ l, Sort.ltInt y1 y2 = l := ⟨_, rfl⟩
          rw [hl, hg2] at hbb
          have hbv : bb = !l := by rw [← hbb]; simp
          have HV := Aside0.mk hbv
          clear hbb hbv hin
          cases l
          all_goals
           go_quiet ((go_at_call 155; exact Calls.quiet_of_same (lessv hl _)))
           go_wp2_with fail
           go_meet
           exact ⟨by first | (rw [HV.out]; done) | (rw [HV.out]; rfl), HM.out.drewN _⟩
         ·have hg1 : decide ((x : Int) > 0) = false := decide_eq_false (by omega)
          have hg2 : decide (0 < x) = false := decide_eq_false (by omega)
          have hbv : bb = false := by rw [← HBB.out, hg2]; rfl
          have HV := Aside0.mk hbv
          clear hbv hin
          go_quiet (fail)
          go_wp2_with fail
          go_meet
          exact ⟨by rw [HV.out], HM.out.drewN _⟩
        case rest =>
         obtain ⟨rfl, M⟩ := hcut
         clear HM
         have HM := Aside0.mk M
         clear M
         cases bb with
         | true =>
          have hbb := HBB.out
          simp only [Bool.and_eq_true, decide_eq_true_eq, Bool.not_eq_true'] at hbb
          obtain ⟨hx0, hnl⟩ := hbb
          clear HBB
          obtain ⟨ps, hps⟩ : ∃ ps, Sort.partitionEqual Sort.ltInt f x y p = ps := ⟨_, rfl⟩
          go_wp2_with fail
          refine (partitionEqual g t c cap x y p n f _ HM.out.size HM.out.row (by omega) hp1 hp2 hd).mono ?_
          rw [hps]
          obtain ⟨m, f2⟩ := ps
          have hre := Sort.round_eq swo (Sort.partitionEqual_holds _) hx0 hp1 hp2 (by rw [HM.out.size]; omega) HM.out.below hnl hps
          obtain ⟨r1, r2, r3, r4, r5⟩ := hre
          dsimp only
          rintro e w2 ⟨rfl, hR2, hB2⟩
          have HD := Aside0.mk (show Mid w g t c a b n d m y f2 w2 from { lo := by omega, mid := r2, hi := hyb, size := r3.trans HM.out.size, row := hR2, but := HM.out.but.trans hB2, below := r4, fin := fun R h1 h2 => HM.out.fin R (r5 R h1 h2).1 (r5 R h1 h2).2 })
          clear hR2 hB2 r3 r4 r5 hps hnl
          go_wp2
          go_roundg (y - m)
          all_goals first | omega | exact ⟨m, y, lm, b8, b9, f2, rfl, rfl, rfl, rfl, rfl, rfl, HD.out⟩ | skip
         | false =>
          clear HBB
          obtain ⟨ps, hps⟩ : ∃ ps, Sort.partition Sort.ltInt f x y p = ps := ⟨_, rfl⟩
          go_wp2_with fail
          refine (partition g t c cap x y p n f _ HM.out.size HM.out.row (by omega) hp1 hp2 hd).mono ?_
          rw [hps]
          obtain ⟨m, ap, f2⟩ := ps
          have hre := Sort.round_part swo (Sort.partition_holds _) hp1 hp2 (by rw [HM.out.size]; omega) HM.out.below hps
          obtain ⟨r1, r2, r3, r4, r5, r6, r7⟩ := hre
          dsimp only
          rintro e w2 ⟨rfl, hR2, hB2⟩
          have HL := Aside0.mk r6
          have HG := Aside0.mk r7
          have HR2 := Aside0.mk (And.intro hR2 (And.intro (HM.out.but.trans hB2) (And.intro (r3.trans HM.out.size) (And.intro r4 r5))))
          clear hR2 hB2 r3 r4 r5 r6 r7 hps
          obtain ⟨m1, hm1⟩ : ∃ m1, m1 = m + 1 := ⟨_, rfl⟩
          have hm2 : (m : Int) + 1 = (m1 : Int) := by omega
          obtain ⟨lf, hlf⟩ : ∃ lf, lf = m - x := ⟨_, rfl⟩
          obtain ⟨rg, hrg⟩ : ∃ rg, rg = y - m := ⟨_, rfl⟩
          have hlf2 : (m : Int) - (x : Int) = (lf : Int) := by omega
          have hrg2 : (y : Int) - (m : Int) = (rg : Int) := by omega
          have HN := Aside0.mk (And.intro hm1 (And.intro hlf hrg))
          have k1 : m < m1 ∧ m1 ≤ y := by omega
          have k2 : lf ≤ n ∧ rg ≤ n := by omega
          clear hm1 hlf hrg
          by_cases hlr : lf < rg
          ·have hlr2 : decide ((lf : Int) < (rg : Int)) = true := decide_eq_true (by omega)
           go_wp2_with fail
           refine (IH.out (m - x) (by omega) x m lm f2 _ (Nat.le_refl _) HR2.out.2.2.1 HR2.out.1 r1 (by omega) HR2.out.2.2.2.1).mono ?_
           rintro e w3 ⟨L, hs3, hP3, hS3, rfl, hR3, hB3⟩
           have h6 := HL.out L hP3 hS3
           rw [← HN.out.1] at h6
           have HD := Aside0.mk (show Mid w g t c a b n d m1 y L w3 from { lo := by omega, mid := k1.2, hi := hyb, size := hs3, row := hR3, but := HR2.out.2.1.trans hB3, below := h6.1, fin := fun R h1 h2 => HM.out.fin R (h6.2 R h1 h2).1 (h6.2 R h1 h2).2 })
           clear hs3 hP3 hS3 hR3 hB3 h6
           go_wp2
           go_roundg (y - m1)
           all_goals first | omega | exact ⟨m1, y, lm, _, _, L, rfl, rfl, rfl, rfl, rfl, rfl, HD.out⟩ | skip
          ·have hlr2 : decide ((lf : Int) < (rg : Int)) = false := decide_eq_false (by omega)
           have h5 : Sort.Below Sort.ltInt m1 y f2 := by rw [HN.out.1]; exact HR2.out.2.2.2.2
           have H5 := Aside0.mk h5
           clear h5
           go_wp2_with fail
           refine (IH.out (y - m1) (by omega) m1 y lm f2 _ (Nat.le_refl _) HR2.out.2.2.1 HR2.out.1 k1.2 (by omega) H5.out).mono ?_
           rintro e w3 ⟨L, hs3, hP3, hS3, rfl, hR3, hB3⟩
           rw [HN.out.1] at hP3 hS3
           have h6 := HG.out L hP3 hS3
           have HD := Aside0.mk (show Mid w g t c a b n d x m L w3 from { lo := hax, mid := r1, hi := by omega, size := hs3, row := hR3, but := HR2.out.2.1.trans hB3, below := h6.1, fin := fun R h1 h2 => HM.out.fin R (h6.2 R h1 h2).1 (h6.2 R h1 h2).2 })
           clear hs3 hP3 hS3 hR3 hB3 h6
           go_wp2
           go_roundg (m - x)
           all_goals first | omega | exact ⟨x, m, lm, _, _, L, rfl, rfl, rfl, rfl, rfl, rfl, HD.out⟩ | skip
def Sorted (w : World) (g : Nat) (t : TypeId) (c : Nat) (d : Array Int) (e : Ending) (w' : World) : Prop := ∃ d' : Array Int, d'.toList.Perm d.toList ∧ Sort.SortedIn Sort.ltInt 0 d.size d' ∧ e = .returned (.tuple #[]) ∧ Row w' g t c d' ∧ But (fun k => k = g) w w'
theorem Sorted.of {w : World} {g : Nat} {t : TypeId} {c n : Nat} {d : Array Int} (hn : d.size = n) {e : Ending} {w' : World} (h : Sorts w g t c 0 n n d e w') : Sorted w g t c d e w' := by
 subst hn
 obtain ⟨d', h1, h2, h3, h4, h5, h6⟩ := h
 refine ⟨d', ?_, h3, h4, h5, h6⟩
 obtain ⟨q1, _, q3⟩ := h2
 have e1 : d'.extract 0 d.size = d' := by rw [← q1]; exact Array.extract_size
 rw [e1, Array.extract_size] at q3
 exact q3
theorem sort (g : Nat) (t : TypeId) (c cap n : Nat) (d : Array Int) (w : World) (hn : d.size = n) (hR : Row w g t c d) (hd : n ≤ 1152921504606846976) :
  Calls Tryz.prog 92 #[.slice (some ⟨g, 0, none⟩) n cap] w (Sorted w g t c d) := by
 have HR := Aside0.mk hR
 have HN := Aside0.mk hn
 clear hR hn
 have b1 : IntKind.u64.wrap (n : Int) = (n : Int) := by simp only [IntKind.wrap]; first | omega | (simp [IntKind.signed, IntKind.bits]; omega)
 have b2 : (0 : Int) ≤ (n : Int) := by omega
 go_enter Tryz.func92, Tryz.ntmps92
 go_wp2_with (go_at_call 131; refine (len n _ hd).mono ?_; rintro e w' ⟨r, hr, rfl, rfl⟩; clear hr)
 refine (pdq g t c cap n hd n 0 n _ d _ (by omega) HN.out HR.out (Nat.zero_le _) (Nat.le_refl _) (.inl rfl)).mono ?_
 rintro e w1 hS
 obtain ⟨d', h1, h2, h3, rfl, h4, h5⟩ := hS
 have HD := Aside0.mk (Sorted.of HN.out ⟨d', h1, h2, h3, rfl, h4, h5⟩)
 clear h1 h2 h3 h4 h5
 go_wp2
 go_end0
 exact HD.out
theorem insertion_nil (w : World) : Calls Tryz.prog 149 #[.slice none 0 0, .int .i64 0, .int .i64 0] w fun e w' => e = .returned (.tuple #[]) ∧ But (fun _ => False) w w' := by
 go_enter Tryz.func149, Tryz.ntmps149
 go_wp2
 refine wp_loop_rounds 2 ?_
 simp only [Code.rounds]
 go_wp2
 go_end0
 exact ⟨rfl, But.refl _ _⟩
theorem pdq_nil (lim : Int) (w : World) : Calls Tryz.prog 130 #[.slice none 0 0, .int .i64 0, .int .i64 0, .int .i64 lim] w fun e w' => e = .returned (.tuple #[]) ∧ But (fun _ => False) w w' := by
 go_enter Tryz.func130, Tryz.ntmps130
 go_wp2
 go_loopg [1, 2] 0 (fun kk v1 v2 wr => v1 = .int .i64 0 ∧ v2 = .int .i64 0 ∧ But (fun _ => False) w wr)
 case atStart => exact ⟨rfl, rfl, But.refl _ _⟩
 obtain ⟨rfl, rfl, hB0⟩ := hrel
 go_wp2_with fail
 refine (insertion_nil _).mono ?_
 rintro e w1 ⟨rfl, hB⟩
 have HD := Aside0.mk (hB0.trans hB)
 clear hB0 hB
 go_wp2
 refine bodyPost_ret (results_none rfl _ _ _) rfl ?_
 exact ⟨rfl, HD.out⟩
theorem sort_nil (w : World) : Calls Tryz.prog 92 #[.slice none 0 0] w fun e w' => e = .returned (.tuple #[]) ∧ But (fun _ => False) w w' := by
 go_enter Tryz.func92, Tryz.ntmps92
 go_wp2_with (go_at_call 131; refine (len 0 _ (by omega)).mono ?_; rintro e w' ⟨r, hr, rfl, rfl⟩; clear hr)
 refine (pdq_nil _ _).mono ?_
 rintro e w1 ⟨rfl, hB⟩
 go_wp2
 go_end0
 exact ⟨rfl, hB⟩
end Go.Proofs.YthibppfdonepoaaGreat.Srt
