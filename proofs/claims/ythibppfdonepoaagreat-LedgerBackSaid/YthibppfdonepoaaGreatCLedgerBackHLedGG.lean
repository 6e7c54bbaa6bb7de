/- liveryref23: bad, Of, without, Same; liverylaw23.of. liveryref23.Same on like rows; liverylaw23.of. -/
import Derived.Test.YthibppfdonepoaaGreatCLedgerBackHLedP
import Derived.Test.YthibppfdonepoaaGreatCLedgerBackPLedLibx0
import Derived.Test.YthibppfdonepoaaGreatCLedgerBackPLedLibx1
import Derived.Test.YthibppfdonepoaaGreatCLedgerBackPLedLibx10
import Derived.Test.YthibppfdonepoaaGreatCLedgerBackPLedLibx11
import Derived.Test.YthibppfdonepoaaGreatCLedgerBackPLedLibx12
import Derived.Test.YthibppfdonepoaaGreatCLedgerBackPLedLibx13
import Derived.Test.YthibppfdonepoaaGreatCLedgerBackPLedLibx14
import Derived.Test.YthibppfdonepoaaGreatCLedgerBackPLedLibx16
import Derived.Test.YthibppfdonepoaaGreatCLedgerBackPLedLibx17
import Derived.Test.YthibppfdonepoaaGreatCLedgerBackPLedLibx2
import Derived.Test.YthibppfdonepoaaGreatCLedgerBackPLedLibx3
import Derived.Test.YthibppfdonepoaaGreatCLedgerBackPLedLibx4
import Derived.Test.YthibppfdonepoaaGreatCLedgerBackPLedLibx5
import Derived.Test.YthibppfdonepoaaGreatCLedgerBackPLedLibx7
import Derived.Test.YthibppfdonepoaaGreatCLedgerBackPLedLibx8
import Derived.Test.YthibppfdonepoaaGreatCLedgerBackPLedLibx9
set_option linter.unusedVariables false
set_option linter.unusedSimpArgs false
namespace Go.Proofs.YthibppfdonepoaaGreat.LedT
open Go.RowKit Go.MapKept Go.Maps Go.ChangeMaps Go.Proofs.YthibppfdonepoaaGreat.XBut Go.Proofs.YthibppfdonepoaaGreat.XMap Go.Proofs.YthibppfdonepoaaGreat.NodeT Go.Proofs.YthibppfdonepoaaGreatW.PrintWords Go.Proofs.YthibppfdonepoaaGreatW.PrintLast
set_option maxHeartbeats 4000000 in
set_option maxRecDepth 100000 in
theorem dbad (o n : Int) (w : World) : Calls Tryz.prog 90 #[.int .u32 o, .int .i64 n] w fun e w' => e = .returned (.int .i64 (mayc o n)) ∧ w' = w := by
 by_cases h1 : o = 0
 ·have t1 : (o == 0) = true := by simp [h1]
  have E : Aside0 (mayc o n = 2) := ⟨if_pos (.inl h1)⟩
  clear h1
  go_enter Tryz.func90, Tryz.ntmps90
  go_wp2
  go_ret
  exact ⟨by rw [E.out]; rfl, rfl⟩
 ·have t1 : (o == 0) = false := by simp [h1]
  by_cases h2 : n < 0
  ·have t2 : decide (n < 0) = true := decide_eq_true h2
   have E : Aside0 (mayc o n = 2) := ⟨if_pos (.inr (.inl h2))⟩
   clear h1
   go_enter Tryz.func90, Tryz.ntmps90
   go_wp2
   go_ret
   exact ⟨by rw [E.out]; rfl, rfl⟩
  ·have t2 : decide (n < 0) = false := decide_eq_false h2
   by_cases h3 : 1048576 < n
   ·have t3 : decide ((1048576 : Int) < n) = true := decide_eq_true h3
    have E : Aside0 (mayc o n = 2) := ⟨if_pos (.inr (.inr h3))⟩
    clear h1
    go_enter Tryz.func90, Tryz.ntmps90
    go_wp2
    go_ret
    exact ⟨by rw [E.out]; rfl, rfl⟩
   ·have t3 : decide ((1048576 : Int) < n) = false := decide_eq_false h3
    have E : Aside0 (mayc o n = 0) := ⟨if_neg (by omega)⟩
    clear h1
    go_enter Tryz.func90, Tryz.ntmps90
    go_wp2
    go_ret
    exact ⟨by rw [E.out]; rfl, rfl⟩
def dv (u0 u1 : Int) (vn vb : Value) (last : Int) : Value := .agg #[.int .i64 u0, .int .i64 u1, vn, vb, .int .u32 last]
theorem box_at {w : World} {A : Option Addr} {n : Nat} {xs : List Bx} (h : Kd.C PLedLib.k100 w A n xs) (hn : xs.length = n) (j : Nat) (hj : j < n) (hj2 : j < xs.length) : ∃ ad, A = some ad ∧ w.cell? (ad.add (j * 4)) = some (.int .u32 xs[j].f0) ∧ w.cell? ⟨(ad.add (j * 4)).block, (ad.add (j * 4)).off + 1, none⟩ = some (.int .u32 xs[j].f1) ∧ w.cell? ⟨(ad.add (j * 4)).block, (ad.add (j * 4)).off + 2, none⟩ = some (.int .u32 xs[j].f2) ∧ w.cell? ⟨(ad.add (j * 4)).block, (ad.add (j * 4)).off + 3, none⟩ = some (.bool xs[j].f3) := by
 subst hn
 obtain ⟨ad, hA, d0, d1, d2, d3⟩ := PLedLib.at_T100 h (j : Int) (by omega) (by omega)
 have ej : (j : Int).toNat = j := by simp
 have er : PLedLib.rd_T100 xs (j : Int) = xs[j] := by unfold PLedLib.rd_T100; rw [ej, List.getD_eq_getElem?_getD, List.getElem?_eq_getElem hj2]; rfl
 rw [er, ej] at d0 d1 d2 d3
 exact ⟨ad, hA, d0, d1, d2, d3⟩
theorem take_snoc {α : Type} {l : List α} {j : Nat} (h : j < l.length) : l.take (j + 1) = l.take j ++ [l[j]] := by rw [List.take_add_one, List.getElem?_eq_getElem h]; rfl
theorem filter_snoc {α : Type} (q : α → Bool) {l : List α} {j : Nat} (h : j < l.length) : (l.take (j + 1)).filter q = (l.take j).filter q ++ (if q l[j] = true then [l[j]] else []) := by
 rw [take_snoc h, List.filter_append]
 congr 1
 cases hq : q l[j] <;> simp [hq]
set_option maxHeartbeats 8000000 in
set_option maxRecDepth 100000 in
theorem dof (u0 u1 : Int) (vn : Value) (bx : List Bx) (A : Option Addr) (c : Nat) (last o : Int) (s : Bool) (w : World) (hC : Kd.C PLedLib.k100 w A bx.length bx) (hl : bx.length ≤ 1000000) :
  Calls Tryz.prog 77 #[dv u0 u1 vn (.slice A bx.length c) last, .int .u32 o, .bool s] w fun e w' => ∃ v, e = .returned v ∧ RB w' w.heap.size v (ownN bx o s) ∧ Below w.heap.size w w' := by
 have hu113 := Tryz.underlying100
 have hu118 := Tryz.underlying37
 have hu31 := Tryz.underlying33
 obtain ⟨n, hn⟩ : ∃ n, bx.length = n := ⟨_, rfl⟩
 have hl6 : (n : Int) ≤ 1000000 := by omega
 rw [hn] at hC ⊢
 obtain ⟨W0, hW0⟩ : ∃ W0, w.alloc (.cells #[.int .i64 u0, .int .i64 u1, vn, .slice A n c, .int .u32 last] 37) = W0 := ⟨_, rfl⟩
 have hB0 : Below w.heap.size w W0 := by rw [← hW0]; exact below_alloc (Below.refl _ _) _
 have k0 : W0.heap[w.heap.size]? = some (.cells #[.int .i64 u0, .int .i64 u1, vn, .slice A n c, .int .u32 last] 37 (0, 0)) := by rw [← hW0]; exact blk_new w _
 have H := Aside0.mk (And.intro (Kd.C_below hC hB0) (And.intro hn (And.intro hB0 (And.intro k0 hW0))))
 unfold dv
 clear hC hl hn hB0 k0 hW0
 go_enter Tryz.func77, Tryz.ntmps77
 go_wp2_with fail
 rw [H.out.2.2.2.2]
 go_loopg [7, 8] n (fun kk v7 v8 wr => ∃ j : Nat, kk = n - j ∧ v8 = .int .i64 j ∧ j ≤ n ∧ Below W0.heap.size W0 wr ∧ RB wr W0.heap.size v7 ((bx.take j).filter fun x => x.f2 == o && x.f3 == s))
 case atStart => exact ⟨0, rfl, rfl, Nat.zero_le _, Below.refl _ _, Kd.R_nil _ _ _ _ _⟩
 obtain ⟨j, rfl, rfl, hj, hB, hR⟩ := hrel
 have c3 := (blk_cell (blk_below H.out.2.2.2.1 hB) 3).trans rfl
 by_cases hlt : j < n
 ·have hjb : j < bx.length := by rw [H.out.2.1]; exact hlt
  obtain ⟨ad, rfl, d0, d1, d2, d3⟩ := box_at (Kd.C_below H.out.1 hB) H.out.2.1 j hlt hjb
  have hf := filter_snoc (fun x : Bx => x.f2 == o && x.f3 == s) hjb
  have hfl : ((bx.take j).filter fun x => x.f2 == o && x.f3 == s).length ≤ j := Nat.le_trans (List.length_filter_le _ _) (by rw [List.length_take]; omega)
  obtain ⟨x, hx⟩ : ∃ x, bx[j] = x := ⟨_, rfl⟩
  rw [hx] at d0 d1 d2 d3 hf
  obtain ⟨x0, x1, x2, x3⟩ := x
  dsimp only at d0 d1 d2 d3 hf
  obtain ⟨q1, hq1⟩ : ∃ q, (x2 == o) = q := ⟨_, rfl⟩
  obtain ⟨q2, hq2⟩ : ∃ q, (x3 == s) = q := ⟨_, rfl⟩
  rw [hq1, hq2] at hf
  have hlt' : (j : Int) < (n : Int) := by omega
  have Y := Aside0.mk (And.intro hB (And.intro hR (And.intro hf hfl)))
  clear hB hR hf hfl hx
  by_cases hq : (q1 && q2) = true
  ·obtain ⟨h1, h2⟩ := Bool.and_eq_true_iff.1 hq
   subst h1
   subst h2
   go_wp2_with (refine Kd.R_append PLedLib.k100 (w0 := W0) W0.heap.size (by rfl) (.tmp 34) (.tmp 40) 34 100 (.agg #[.int .u32 0, .int .u32 0, .int .u32 0, .bool false]) 16 rfl Tryz.underlying34 PLedLib.info100 rfl (by decide) (by omega) u7 _ ⟨x0, x1, x2, x3⟩ [.int .u32 x0, .int .u32 x1, .int .u32 x2, .bool x3] (fun _ => True) (fun _ => False) rfl rfl (PLedLib.k100_mkM _ _ _ _) (fun _ h => h.elim) (fun _ _ => trivial) (Kd.R_mono Y.out.2.1 (fun _ _ => trivial)) Y.out.1 Y.out.1.size ?hl ?_)
   case hl => have h := Y.out.2.2.2; exact Nat.le_trans (Nat.mul_le_mul_right _ (Nat.add_le_add_right h 1)) (by omega)
   intro v1 w2 hR2 hB2 hg2 hat2
   have hm : RB w2 W0.heap.size v1 _ := Kd.R_mono (Kd.R_tight (by rfl) hR2) (fun k hk => hk.symm)
   have Z := Aside0.mk (And.intro hm hB2)
   clear hR2 hB2 hg2 hat2 hm
   go_wp2
   go_roundg (n - (j + 1))
   case measure => omega
   case rel => exact ⟨j + 1, rfl, by go_num, by omega, Z.out.2, by rw [Y.out.2.2.1]; exact Z.out.1⟩
  ·have hq' : (q1 && q2) = false := by simpa using hq
   have HQ := Aside0.mk hq'
   cases q1
   ·go_wp2
    go_roundg (n - (j + 1))
    case measure => omega
    case rel => exact ⟨j + 1, rfl, by go_num, by omega, Y.out.1, by rw [Y.out.2.2.1, HQ.out, if_neg (by decide), List.append_nil]; exact Y.out.2.1⟩
   ·cases q2
    ·go_wp2
     go_roundg (n - (j + 1))
     case measure => omega
     case rel => exact ⟨j + 1, rfl, by go_num, by omega, Y.out.1, by rw [Y.out.2.2.1, HQ.out, if_neg (by decide), List.append_nil]; exact Y.out.2.1⟩
    ·exact absurd rfl hq
 ·have hlt' : ¬ (j : Int) < (n : Int) := by omega
  have htk : bx.take j = bx := List.take_of_length_le (by rw [H.out.2.1]; omega)
  rw [htk] at hR
  have Y := Aside0.mk (And.intro hB hR)
  clear hB hR htk
  go_wp2
  go_ret
  exact ⟨_, rfl, Kd.R_lower Y.out.2 H.out.2.2.1.size, below_then H.out.2.2.1 H.out.2.2.1.size Y.out.1⟩
set_option maxHeartbeats 8000000 in
set_option maxRecDepth 100000 in
theorem dwithout (l g : List Bx) (A A2 : Option Addr) (c c2 : Nat) (w : World) (hC : Kd.C PLedLib.k100 w A l.length l) (hC2 : Kd.C PLedLib.k100 w A2 g.length g) (hl : l.length ≤ 1000000) (hg : g.length ≤ 1000000) :
  Calls Tryz.prog 114 #[.slice A l.length c, .slice A2 g.length c2] w fun e w' => ∃ v, e = .returned v ∧ RB w' w.heap.size v (l.filter fun x => !(g.any fun y => y.f0 == x.f0)) ∧ Below w.heap.size w w' := by
 have hu113 := Tryz.underlying100
 obtain ⟨n, hn⟩ : ∃ n, l.length = n := ⟨_, rfl⟩
 obtain ⟨m, hm⟩ : ∃ m, g.length = m := ⟨_, rfl⟩
 have hl6 : (n : Int) ≤ 1000000 := by omega
 have hg6 : (m : Int) ≤ 1000000 := by omega
 rw [hn] at hC ⊢
 rw [hm] at hC2 ⊢
 have H := Aside0.mk (And.intro hC (And.intro hC2 (And.intro hn hm)))
 clear hC hC2 hl hg hn hm
 go_enter Tryz.func114, Tryz.ntmps114
 go_wp2_with fail
 go_loopg [5, 6] n (fun kk v5 v6 wr => ∃ j : Nat, kk = n - j ∧ v6 = .int .i64 j ∧ j ≤ n ∧ Below w.heap.size w wr ∧ RB wr w.heap.size v5 ((l.take j).filter fun x => !(g.any fun y => y.f0 == x.f0)))
 case atStart => exact ⟨0, rfl, rfl, Nat.zero_le _, Below.refl _ _, Kd.R_nil _ _ _ _ _⟩
 obtain ⟨j, rfl, rfl, hj, hB, hR⟩ := hrel
 by_cases hlt : j < n
 ·have hjb : j < l.length := by rw [H.out.2.2.1]; exact hlt
  obtain ⟨ad, rfl, d0, d1, d2, d3⟩ := box_at (Kd.C_below H.out.1 hB) H.out.2.2.1 j hlt hjb
  have hf := filter_snoc (fun x : Bx => !(g.any fun y => y.f0 == x.f0)) hjb
  have hfl : ((l.take j).filter fun x => !(g.any fun y => y.f0 == x.f0)).length ≤ j := Nat.le_trans (List.length_filter_le _ _) (by rw [List.length_take]; omega)
  obtain ⟨x, hx⟩ : ∃ x, l[j] = x := ⟨_, rfl⟩
  rw [hx] at d0 d1 d2 d3 hf
  obtain ⟨x0, x1, x2, x3⟩ := x
  dsimp only at d0 d1 d2 d3 hf
  have hlt' : (j : Int) < (n : Int) := by omega
  obtain ⟨ls, hls⟩ : ∃ ls, ((l.take j).filter fun x => !(g.any fun y => y.f0 == x.f0)) = ls := ⟨_, rfl⟩
  rw [hls] at hR hf hfl
  have Y := Aside0.mk (And.intro hB (And.intro hR (And.intro hf hfl)))
  have D := Aside0.mk (And.intro d0 (And.intro d1 (And.intro d2 d3)))
  clear hB hR hf hfl hx d0 d1 d2 d3 hls
  go_wp2_with fail
  obtain ⟨W5, hW5⟩ : ∃ W5, wr = W5 := ⟨_, rfl⟩
  rw [hW5] at Y D ⊢
  clear hW5
  go_loopg [7, 8] m (fun kk v7 v8 wq => ∃ i : Nat, kk = m - i ∧ v8 = .int .i64 i ∧ i ≤ m ∧ v7 = .bool ((g.take i).any fun y => y.f0 == x0) ∧ Below W5.heap.size W5 wq)
  case atStart => exact ⟨0, rfl, rfl, Nat.zero_le _, rfl, Below.refl _ _⟩
  obtain ⟨i, rfl, rfl, hi, rfl, hBq⟩ := hrel
  by_cases hlti : i < m
  ·have hib : i < g.length := by rw [H.out.2.2.2]; exact hlti
   obtain ⟨ag, rfl, e0, _⟩ := box_at (Kd.C_below H.out.2.1 (below_step Y.out.1 hBq)) H.out.2.2.2 i hlti hib
   have ha : (g.take (i + 1)).any (fun y => y.f0 == x0) = ((g.take i).any (fun y => y.f0 == x0) || (g[i].f0 == x0)) := by rw [take_snoc hib, List.any_append]; simp
   obtain ⟨y0, hy0⟩ : ∃ y0, g[i].f0 = y0 := ⟨_, rfl⟩
   rw [hy0] at e0 ha
   obtain ⟨q1, hq1⟩ : ∃ q, ((g.take i).any fun y => y.f0 == x0) = q := ⟨_, rfl⟩
   obtain ⟨q2, hq2⟩ : ∃ q, (y0 == x0) = q := ⟨_, rfl⟩
   have hlti' : (i : Int) < (m : Int) := by omega
   have BQ := Aside0.mk hBq
   replace D := Aside0.mk (And.intro (pw_cell_below hBq D.out.1) D.out.2)
   have E0 := Aside0.mk e0
   clear hBq e0
   rw [hq1, hq2] at ha
   rw [hq1]
   have HA := Aside0.mk ha
   clear ha hy0 hq1
   have W := Aside0.mk Y.out.1
   cases q1
   ·go_upto_region 9 with (fail)
    refine XInv.region_tab [] [[], [0], [1], [1], [2, 3, 1], [4, 1], [5, 1], [1], [1], [7, 8, 1], [9, 1], [10, 1], [6, 11, 1], [1, 12], [13, 1, 0, 1, 2, 3, 4, 5, 6, 7, 8, 9, 10, 11, 12, 13]] (fun bq jq => match jq with
      | 0 => .bool false
      | 1 => .bool false
      | 2 => .slice (some ag) m c2
      | 3 => .int .i64 i
      | 4 => .pointer (some (ag.add (i * 4)))
      | 5 => .pointer (some (ag.add (i * 4)))
      | 6 => .int .u32 y0
      | 7 => .slice (some ad) n c
      | 8 => .int .i64 j
      | 9 => .pointer (some (ad.add (j * 4)))
      | 10 => .pointer (some (ad.add (j * 4)))
      | 11 => .int .u32 x0
      | 12 => .bool q2
      | 13 => .bool q2
      | 14 => .bool q2
      | _ => undef)
      (fun bq l w' => Below wr.heap.size wr w')
      (by kernel_rfl) rfl (by kernel_rfl) (by kernel_rfl) (by kernel_rfl) ⟨fun _ : Nat => (0 : Nat), below_drew (Below.refl _ _)⟩ ?_ ?_
    ·intro i1 hi1 hds oi hoi bq lb w' hW hlb hcl hneed hclo
     have hi1 : i1 < 15 := hi1
     have hcs : i1 = 0 ∨ i1 = 1 ∨ i1 = 2 ∨ i1 = 3 ∨ i1 = 4 ∨ i1 = 5 ∨ i1 = 6 ∨ i1 = 7 ∨ i1 = 8 ∨ i1 = 9 ∨ i1 = 10 ∨ i1 = 11 ∨ i1 = 12 ∨ i1 = 13 ∨ i1 = 14 := by omega
     clear hi1 hcl hneed hclo
     have d0 := pw_cell_below hW D.out.1
     have e0 := pw_cell_below hW E0.out
     rcases hcs with rfl | rfl | rfl | rfl | rfl | rfl | rfl | rfl | rfl | rfl | rfl | rfl | rfl | rfl | rfl
     all_goals simp only [List.getElem?_toArray, List.getElem?_cons_succ, List.getElem?_cons_zero, Option.some.injEq] at hoi
     all_goals subst hoi
     ·refine XInv.yes_tab [] (by kernel_rfl) ?_
      intro Q2 K2 hK2
      simp only [XInv.puts, XPrint.pw]
      go_simp
      exact hK2.out (.bool false) w' ⟨bq, rfl, (by intros; first | rfl | trivial), hW⟩
     ·refine XInv.yes_tab [(21, 0)] (by kernel_rfl) ?_
      intro Q2 K2 hK2
      simp only [XInv.puts, XPrint.pw]
      go_simp
      exact hK2.out (.bool false) w' ⟨bq, rfl, (by intros; first | rfl | trivial), hW⟩
     ·refine XInv.yes_tab [(22, 1)] (by kernel_rfl) ?_
      intro Q2 K2 hK2
      simp only [XInv.puts, XPrint.pw]
      go_simp
      exact hK2.out (.slice (some ag) m c2) w' ⟨bq, rfl, (by intros; first | rfl | trivial), hW⟩
     ·refine XInv.yes_tab [(22, 1)] (by kernel_rfl) ?_
      intro Q2 K2 hK2
      simp only [XInv.puts, XPrint.pw]
      go_simp
      exact hK2.out (.int .i64 i) w' ⟨bq, rfl, (by intros; first | rfl | trivial), hW⟩
     ·refine XInv.yes_tab [(24, 3), (23, 2), (22, 1)] (by kernel_rfl) ?_
      intro Q2 K2 hK2
      simp only [XInv.puts, XPrint.pw]
      go_simp
      exact hK2.out (.pointer (some (ag.add (i * 4)))) w' ⟨bq, rfl, (by intros; first | rfl | trivial), hW⟩
     ·refine XInv.yes_tab [(25, 4), (22, 1)] (by kernel_rfl) ?_
      intro Q2 K2 hK2
      simp only [XInv.puts, XPrint.pw]
      go_simp
      exact hK2.out (.pointer (some (ag.add (i * 4)))) w' ⟨bq, rfl, (by intros; first | rfl | trivial), hW⟩
     ·refine XInv.yes_tab [(26, 5), (22, 1)] (by kernel_rfl) ?_
      intro Q2 K2 hK2
      simp only [XInv.puts, XPrint.pw]
      go_simp
      exact hK2.out (.int .u32 y0) w' ⟨bq, rfl, (by intros; first | rfl | trivial), hW⟩
     ·refine XInv.yes_tab [(22, 1)] (by kernel_rfl) ?_
      intro Q2 K2 hK2
      simp only [XInv.puts, XPrint.pw]
      go_simp
      exact hK2.out (.slice (some ad) n c) w' ⟨bq, rfl, (by intros; first | rfl | trivial), hW⟩
     ·refine XInv.yes_tab [(22, 1)] (by kernel_rfl) ?_
      intro Q2 K2 hK2
      simp only [XInv.puts, XPrint.pw]
      go_simp
      exact hK2.out (.int .i64 j) w' ⟨bq, rfl, (by intros; first | rfl | trivial), hW⟩
     ·refine XInv.yes_tab [(29, 8), (28, 7), (22, 1)] (by kernel_rfl) ?_
      intro Q2 K2 hK2
      simp only [XInv.puts, XPrint.pw]
      go_simp
      exact hK2.out (.pointer (some (ad.add (j * 4)))) w' ⟨bq, rfl, (by intros; first | rfl | trivial), hW⟩
     ·refine XInv.yes_tab [(30, 9), (22, 1)] (by kernel_rfl) ?_
      intro Q2 K2 hK2
      simp only [XInv.puts, XPrint.pw]
      go_simp
      exact hK2.out (.pointer (some (ad.add (j * 4)))) w' ⟨bq, rfl, (by intros; first | rfl | trivial), hW⟩
     ·refine XInv.yes_tab [(31, 10), (22, 1)] (by kernel_rfl) ?_
      intro Q2 K2 hK2
      simp only [XInv.puts, XPrint.pw]
      go_simp
      exact hK2.out (.int .u32 x0) w' ⟨bq, rfl, (by intros; first | rfl | trivial), hW⟩
     ·refine XInv.yes_tab [(32, 11), (27, 6), (22, 1)] (by kernel_rfl) ?_
      intro Q2 K2 hK2
      simp only [XInv.puts, XPrint.pw]
      go_simp
      exact hK2.out (.bool q2) w' ⟨bq, rfl, (by intros; first | rfl | trivial), hW⟩
     ·refine XInv.yes_tab [(33, 12), (22, 1)] (by kernel_rfl) ?_
      intro Q2 K2 hK2
      simp only [XInv.puts, XPrint.pw]
      go_simp
      exact hK2.out (.bool q2) w' ⟨bq, rfl, (by intros; first | rfl | trivial), hW⟩
     ·refine XInv.yes_tab [(34, 13), (33, 12), (32, 11), (31, 10), (30, 9), (29, 8), (28, 7), (27, 6), (26, 5), (25, 4), (24, 3), (23, 2), (22, 1), (21, 0)] (by kernel_rfl) ?_
      intro Q2 K2 hK2
      simp only [XInv.puts, XPrint.pw] at hK2 ⊢
      go_simp
      exact hK2.out (.bool q2) w' ⟨bq, rfl, (by intros; first | rfl | trivial), hW⟩
    ·intro bq w' hW
     refine XInv.end_nil [(7, 14), (34, 13), (33, 12), (32, 11), (31, 10), (30, 9), (29, 8), (28, 7), (27, 6), (26, 5), (25, 4), (24, 3), (23, 2), (22, 1), (21, 0)] (by kernel_rfl) (by kernel_rfl) ?_
     simp only [XInv.puts, XPrint.pw]
     have G := Aside0.mk hW
     clear hW
     go_wp2
     go_roundg (m - (i + 1))
     case measure => omega
     case rel => exact ⟨i + 1, rfl, by go_num, by omega, by rw [HA.out, Bool.false_or], below_step BQ.out G.out⟩
   ·go_upto_region 9 with (fail)
    refine XInv.region_tab [] [[], [0], [1], [1], [2, 3, 1], [4, 1], [5, 1], [1], [1], [7, 8, 1], [9, 1], [10, 1], [6, 11, 1], [1, 12], [13, 1, 0, 1, 2, 3, 4, 5, 6, 7, 8, 9, 10, 11, 12, 13]] (fun bq jq => match jq with
      | 0 => .bool true
      | 1 => .bool true
      | 2 => undef
      | 3 => undef
      | 4 => undef
      | 5 => undef
      | 6 => undef
      | 7 => undef
      | 8 => undef
      | 9 => undef
      | 10 => undef
      | 11 => undef
      | 12 => undef
      | 13 => .bool true
      | 14 => .bool true
      | _ => undef)
      (fun bq l w' => Below wr.heap.size wr w')
      (by kernel_rfl) rfl (by kernel_rfl) (by kernel_rfl) (by kernel_rfl) ⟨fun _ : Nat => (0 : Nat), below_drew (Below.refl _ _)⟩ ?_ ?_
    ·intro i1 hi1 hds oi hoi bq lb w' hW hlb hcl hneed hclo
     have hi1 : i1 < 15 := hi1
     have hcs : i1 = 0 ∨ i1 = 1 ∨ i1 = 2 ∨ i1 = 3 ∨ i1 = 4 ∨ i1 = 5 ∨ i1 = 6 ∨ i1 = 7 ∨ i1 = 8 ∨ i1 = 9 ∨ i1 = 10 ∨ i1 = 11 ∨ i1 = 12 ∨ i1 = 13 ∨ i1 = 14 := by omega
     clear hi1 hcl hneed hclo
     rcases hcs with rfl | rfl | rfl | rfl | rfl | rfl | rfl | rfl | rfl | rfl | rfl | rfl | rfl | rfl | rfl
     all_goals simp only [List.getElem?_toArray, List.getElem?_cons_succ, List.getElem?_cons_zero, Option.some.injEq] at hoi
     all_goals subst hoi
     ·refine XInv.yes_tab [] (by kernel_rfl) ?_
      intro Q2 K2 hK2
      simp only [XInv.puts, XPrint.pw]
      go_simp
      exact hK2.out (.bool true) w' ⟨bq, rfl, (by intros; first | rfl | trivial), hW⟩
     ·refine XInv.yes_tab [(21, 0)] (by kernel_rfl) ?_
      intro Q2 K2 hK2
      simp only [XInv.puts, XPrint.pw]
      go_simp
      exact hK2.out (.bool true) w' ⟨bq, rfl, (by intros; first | rfl | trivial), hW⟩
     ·refine XInv.yes_tab [(22, 1)] (by kernel_rfl) ?_
      intro Q2 K2 hK2
      simp only [XInv.puts, XPrint.pw]
      refine XInv.no_want (by kernel_rfl) ?_
      exact hK2.out undef w' ⟨bq, rfl, (by intros; first | rfl | trivial), hW⟩
     ·refine XInv.yes_tab [(22, 1)] (by kernel_rfl) ?_
      intro Q2 K2 hK2
      simp only [XInv.puts, XPrint.pw]
      refine XInv.no_want (by kernel_rfl) ?_
      exact hK2.out undef w' ⟨bq, rfl, (by intros; first | rfl | trivial), hW⟩
     ·refine XInv.yes_tab [(24, 3), (23, 2), (22, 1)] (by kernel_rfl) ?_
      intro Q2 K2 hK2
      simp only [XInv.puts, XPrint.pw]
      refine XInv.no_want (by kernel_rfl) ?_
      exact hK2.out undef w' ⟨bq, rfl, (by intros; first | rfl | trivial), hW⟩
     ·refine XInv.yes_tab [(25, 4), (22, 1)] (by kernel_rfl) ?_
      intro Q2 K2 hK2
      simp only [XInv.puts, XPrint.pw]
      refine XInv.no_want (by kernel_rfl) ?_
      exact hK2.out undef w' ⟨bq, rfl, (by intros; first | rfl | trivial), hW⟩
     ·refine XInv.yes_tab [(26, 5), (22, 1)] (by kernel_rfl) ?_
      intro Q2 K2 hK2
      simp only [XInv.puts, XPrint.pw]
      refine XInv.no_want (by kernel_rfl) ?_
      exact hK2.out undef w' ⟨bq, rfl, (by intros; first | rfl | trivial), hW⟩
     ·refine XInv.yes_tab [(22, 1)] (by kernel_rfl) ?_
      intro Q2 K2 hK2
      simp only [XInv.puts, XPrint.pw]
      refine XInv.no_want (by kernel_rfl) ?_
      exact hK2.out undef w' ⟨bq, rfl, (by intros; first | rfl | trivial), hW⟩
     ·refine XInv.yes_tab [(22, 1)] (by kernel_rfl) ?_
      intro Q2 K2 hK2
      simp only [XInv.puts, XPrint.pw]
      refine XInv.no_want (by kernel_rfl) ?_
      exact hK2.out undef w' ⟨bq, rfl, (by intros; first | rfl | trivial), hW⟩
     ·refine XInv.yes_tab [(29, 8), (28, 7), (22, 1)] (by kernel_rfl) ?_
      intro Q2 K2 hK2
      simp only [XInv.puts, XPrint.pw]
      refine XInv.no_want (by kernel_rfl) ?_
      exact hK2.out undef w' ⟨bq, rfl, (by intros; first | rfl | trivial), hW⟩
     ·refine XInv.yes_tab [(30, 9), (22, 1)] (by kernel_rfl) ?_
      intro Q2 K2 hK2
      simp only [XInv.puts, XPrint.pw]
      refine XInv.no_want (by kernel_rfl) ?_
      exact hK2.out undef w' ⟨bq, rfl, (by intros; first | rfl | trivial), hW⟩
     ·refine XInv.yes_tab [(31, 10), (22, 1)] (by kernel_rfl) ?_
      intro Q2 K2 hK2
      simp only [XInv.puts, XPrint.pw]
      refine XInv.no_want (by kernel_rfl) ?_
      exact hK2.out undef w' ⟨bq, rfl, (by intros; first | rfl | trivial), hW⟩
     ·refine XInv.yes_tab [(32, 11), (27, 6), (22, 1)] (by kernel_rfl) ?_
      intro Q2 K2 hK2
      simp only [XInv.puts, XPrint.pw]
      refine XInv.no_want (by kernel_rfl) ?_
      exact hK2.out undef w' ⟨bq, rfl, (by intros; first | rfl | trivial), hW⟩
     ·refine XInv.yes_tab [(33, 12), (22, 1)] (by kernel_rfl) ?_
      intro Q2 K2 hK2
      simp only [XInv.puts, XPrint.pw]
      go_simp
      exact hK2.out (.bool true) w' ⟨bq, rfl, (by intros; first | rfl | trivial), hW⟩
     ·refine XInv.yes_tab [(34, 13), (33, 12), (32, 11), (31, 10), (30, 9), (29, 8), (28, 7), (27, 6), (26, 5), (25, 4), (24, 3), (23, 2), (22, 1), (21, 0)] (by kernel_rfl) ?_
      intro Q2 K2 hK2
      simp only [XInv.puts, XPrint.pw] at hK2 ⊢
      go_simp
      exact hK2.out (.bool true) w' ⟨bq, rfl, (by intros; first | rfl | trivial), hW⟩
    ·intro bq w' hW
     refine XInv.end_nil [(7, 14), (34, 13), (33, 12), (32, 11), (31, 10), (30, 9), (29, 8), (28, 7), (27, 6), (26, 5), (25, 4), (24, 3), (23, 2), (22, 1), (21, 0)] (by kernel_rfl) (by kernel_rfl) ?_
     simp only [XInv.puts, XPrint.pw]
     have G := Aside0.mk hW
     clear hW
     go_wp2
     go_roundg (m - (i + 1))
     case measure => omega
     case rel => exact ⟨i + 1, rfl, by go_num, by omega, by rw [HA.out, Bool.true_or], below_step BQ.out G.out⟩
  ·have hlti' : ¬ (i : Int) < (m : Int) := by omega
   have htk : g.take i = g := List.take_of_length_le (by rw [H.out.2.2.2]; omega)
   rw [htk]
   have hf := Y.out.2.2.1
   obtain ⟨q, hq⟩ : ∃ q, (g.any fun y => y.f0 == x0) = q := ⟨_, rfl⟩
   rw [hq] at hf ⊢
   have HF := Aside0.mk hf
   obtain ⟨d0, d1, d2, d3⟩ := D.out
   replace d0 := pw_cell_below hBq d0
   replace d1 := pw_cell_below hBq d1
   replace d2 := pw_cell_below hBq d2
   replace d3 := pw_cell_below hBq d3
   have Y2 := Aside0.mk (And.intro (below_step Y.out.1 hBq) (Kd.R_below Y.out.2.1 hBq))
   clear htk hf hq hBq
   cases q
   ·go_wp2_with (refine Kd.R_append PLedLib.k100 (w0 := w) w.heap.size (by rfl) (.tmp 37) (.tmp 42) 34 100 (.agg #[.int .u32 0, .int .u32 0, .int .u32 0, .bool false]) 16 rfl Tryz.underlying34 PLedLib.info100 rfl (by decide) (by omega) u5 ls ⟨x0, x1, x2, x3⟩ [.int .u32 x0, .int .u32 x1, .int .u32 x2, .bool x3] (fun _ => True) (fun _ => False) rfl rfl (PLedLib.k100_mkM _ _ _ _) (fun _ h => h.elim) (fun _ _ => trivial) (Kd.R_mono Y2.out.2 (fun _ _ => trivial)) Y2.out.1 Y2.out.1.size ?hl ?_)
    case hl => have h := Y.out.2.2.2; exact Nat.le_trans (Nat.mul_le_mul_right _ (Nat.add_le_add_right h 1)) (by omega)
    intro v1 w2 hR2 hB2 hg2 hat2
    have hm : RB w2 w.heap.size v1 _ := Kd.R_mono (Kd.R_tight (by rfl) hR2) (fun k hk => hk.symm)
    have Z := Aside0.mk (And.intro hm hB2)
    clear hR2 hB2 hg2 hat2 hm d0 d1 d2 d3
    go_wp2
    go_roundg (n - (j + 1))
    case measure => omega
    case rel => exact ⟨j + 1, rfl, by go_num, by omega, Z.out.2, by rw [HF.out]; exact Z.out.1⟩
   ·clear d0 d1 d2 d3
    go_wp2
    go_roundg (n - (j + 1))
    case measure => omega
    case rel => exact ⟨j + 1, rfl, by go_num, by omega, Y2.out.1, by rw [HF.out]; simpa using Y2.out.2⟩
 ·have hlt' : ¬ (j : Int) < (n : Int) := by omega
  have htk : l.take j = l := List.take_of_length_le (by rw [H.out.2.2.1]; omega)
  rw [htk] at hR
  have Y := Aside0.mk (And.intro hB hR)
  clear hB hR htk
  go_wp2
  go_ret
  exact ⟨_, rfl, Y.out.2, Y.out.1⟩
end Go.Proofs.YthibppfdonepoaaGreat.LedT
set_option linter.unusedVariables false
set_option linter.unusedSimpArgs false
namespace Go.Proofs.YthibppfdonepoaaGreat.LedT
open Go.RowKit Go.MapKept Go.Maps Go.ChangeMaps Go.Proofs.YthibppfdonepoaaGreat.XBut Go.Proofs.YthibppfdonepoaaGreat.XMap Go.Proofs.YthibppfdonepoaaGreat.NodeT Go.Proofs.YthibppfdonepoaaGreatW.PrintWords Go.Proofs.YthibppfdonepoaaGreatW.PrintLast
set_option maxHeartbeats 8000000 in
set_option maxRecDepth 100000 in
theorem dsame (xs : List Bx) (A A2 : Option Addr) (n c c2 : Nat) (w : World) (h1 : Kd.C PLedLib.k100 w A n xs) (h2 : Kd.C PLedLib.k100 w A2 n xs) (hn : xs.length = n) (hl : n ≤ 1000000) :
  Calls Tryz.prog 29 #[.slice A n c, .slice A2 n c2] w fun e w' => e = .returned (.bool true) ∧ Below w.heap.size w w' := by
 have e113 := PLedLib.eqA100
 have hu113 := Tryz.underlying100
 have hl6 : (n : Int) ≤ 1000000 := by omega
 have H := Aside0.mk (And.intro h1 (And.intro h2 hn))
 clear h1 h2 hn hl
 go_enter Tryz.func29, Tryz.ntmps29
 go_wp2_with fail
 go_loopg [5] n (fun kk v5 wr => ∃ j : Nat, kk = n - j ∧ v5 = .int .i64 j ∧ j ≤ n ∧ Below w.heap.size w wr)
 case atStart => exact ⟨0, rfl, rfl, Nat.zero_le _, Below.refl _ _⟩
 obtain ⟨j, rfl, rfl, hj, hB⟩ := hrel
 by_cases hlt : j < n
 ·have hjb : j < xs.length := by rw [H.out.2.2]; exact hlt
  obtain ⟨ad, rfl, d0, d1, d2, d3⟩ := box_at (Kd.C_below H.out.1 hB) H.out.2.2 j hlt hjb
  obtain ⟨ag, rfl, e0, e1, e2, e3⟩ := box_at (Kd.C_below H.out.2.1 hB) H.out.2.2 j hlt hjb
  obtain ⟨x, hx⟩ : ∃ x, xs[j] = x := ⟨_, rfl⟩
  rw [hx] at d0 d1 d2 d3 e0 e1 e2 e3
  obtain ⟨x0, x1, x2, x3⟩ := x
  dsimp only at d0 d1 d2 d3 e0 e1 e2 e3
  have t0 : (x0 == x0) = true := by simp
  have t1 : (x1 == x1) = true := by simp
  have t2 : (x2 == x2) = true := by simp
  have t3 : (x3 == x3) = true := by simp
  have hlt' : (j : Int) < (n : Int) := by omega
  have Y := Aside0.mk (And.intro hB (And.intro d0 (And.intro d1 (And.intro d2 (And.intro d3 (And.intro e0 (And.intro e1 (And.intro e2 e3))))))))
  clear hB d0 d1 d2 d3 e0 e1 e2 e3 hx
  go_upto_region 6 with (fail)
  refine XInv.region_tab [] [[], [], [0, 1], [2], [], [], [4, 5], [6], [3, 7]] (fun bq jq => match jq with
    | 0 => .slice (some ad) n c
    | 1 => .int .i64 j
    | 2 => .pointer (some (ad.add (j * 4)))
    | 3 => .agg #[.int .u32 x0, .int .u32 x1, .int .u32 x2, .bool x3]
    | 4 => .slice (some ag) n c2
    | 5 => .int .i64 j
    | 6 => .pointer (some (ag.add (j * 4)))
    | 7 => .agg #[.int .u32 x0, .int .u32 x1, .int .u32 x2, .bool x3]
    | 8 => .bool false
    | _ => undef)
    (fun bq l w' => Below wr.heap.size wr w')
    (by kernel_rfl) rfl (by kernel_rfl) (by kernel_rfl) (by kernel_rfl) ⟨fun _ : Nat => (0 : Nat), below_drew (Below.refl _ _)⟩ ?_ ?_
  ·intro i1 hi1 hds oi hoi bq lb w' hW hlb hcl hneed hclo
   have hi1 : i1 < 9 := hi1
   have hcs : i1 = 0 ∨ i1 = 1 ∨ i1 = 2 ∨ i1 = 3 ∨ i1 = 4 ∨ i1 = 5 ∨ i1 = 6 ∨ i1 = 7 ∨ i1 = 8 := by omega
   clear hi1 hcl hneed hclo
   have d0 := pw_cell_below hW Y.out.2.1
   have d1 := pw_cell_below hW Y.out.2.2.1
   have d2 := pw_cell_below hW Y.out.2.2.2.1
   have d3 := pw_cell_below hW Y.out.2.2.2.2.1
   have e0 := pw_cell_below hW Y.out.2.2.2.2.2.1
   have e1 := pw_cell_below hW Y.out.2.2.2.2.2.2.1
   have e2 := pw_cell_below hW Y.out.2.2.2.2.2.2.2.1
   have e3 := pw_cell_below hW Y.out.2.2.2.2.2.2.2.2
   rcases hcs with rfl | rfl | rfl | rfl | rfl | rfl | rfl | rfl | rfl
   all_goals simp only [List.getElem?_toArray, List.getElem?_cons_succ, List.getElem?_cons_zero, Option.some.injEq] at hoi
   all_goals subst hoi
   ·refine XInv.yes_tab [] (by kernel_rfl) ?_
    intro Q2 K2 hK2
    simp only [XInv.puts, XPrint.pw]
    go_simp
    exact hK2.out (.slice (some ad) n c) w' ⟨bq, rfl, fun _ _ _ => rfl, hW⟩
   ·refine XInv.yes_tab [] (by kernel_rfl) ?_
    intro Q2 K2 hK2
    simp only [XInv.puts, XPrint.pw]
    go_simp
    exact hK2.out (.int .i64 j) w' ⟨bq, rfl, fun _ _ _ => rfl, hW⟩
   ·refine XInv.yes_tab [(18, 1), (17, 0)] (by kernel_rfl) ?_
    intro Q2 K2 hK2
    simp only [XInv.puts, XPrint.pw]
    go_simp
    exact hK2.out (.pointer (some (ad.add (j * 4)))) w' ⟨bq, rfl, fun _ _ _ => rfl, hW⟩
   ·refine XInv.yes_tab [(19, 2)] (by kernel_rfl) ?_
    intro Q2 K2 hK2
    simp only [XInv.puts, XPrint.pw]
    go_simp
    exact hK2.out (.agg #[.int .u32 x0, .int .u32 x1, .int .u32 x2, .bool x3]) w' ⟨bq, rfl, fun _ _ _ => rfl, hW⟩
   ·refine XInv.yes_tab [] (by kernel_rfl) ?_
    intro Q2 K2 hK2
    simp only [XInv.puts, XPrint.pw]
    go_simp
    exact hK2.out (.slice (some ag) n c2) w' ⟨bq, rfl, fun _ _ _ => rfl, hW⟩
   ·refine XInv.yes_tab [] (by kernel_rfl) ?_
    intro Q2 K2 hK2
    simp only [XInv.puts, XPrint.pw]
    go_simp
    exact hK2.out (.int .i64 j) w' ⟨bq, rfl, fun _ _ _ => rfl, hW⟩
   ·refine XInv.yes_tab [(22, 5), (21, 4)] (by kernel_rfl) ?_
    intro Q2 K2 hK2
    simp only [XInv.puts, XPrint.pw]
    go_simp
    exact hK2.out (.pointer (some (ag.add (j * 4)))) w' ⟨bq, rfl, fun _ _ _ => rfl, hW⟩
   ·refine XInv.yes_tab [(23, 6)] (by kernel_rfl) ?_
    intro Q2 K2 hK2
    simp only [XInv.puts, XPrint.pw]
    go_simp
    exact hK2.out (.agg #[.int .u32 x0, .int .u32 x1, .int .u32 x2, .bool x3]) w' ⟨bq, rfl, fun _ _ _ => rfl, hW⟩
   ·refine XInv.yes_tab [(24, 7), (20, 3)] (by kernel_rfl) ?_
    intro Q2 K2 hK2
    simp only [XInv.puts, XPrint.pw]
    go_simp
    exact hK2.out (.bool false) w' ⟨bq, rfl, fun _ _ _ => rfl, hW⟩
  ·intro bq w' hW
   refine XInv.end_nil [(25, 8), (24, 7), (23, 6), (22, 5), (21, 4), (20, 3), (19, 2), (18, 1), (17, 0)] (by kernel_rfl) (by kernel_rfl) ?_
   simp only [XInv.puts, XPrint.pw]
   have E := Aside0.mk (below_step Y.out.1 hW)
   clear hW
   go_wp2
   go_roundg (n - (j + 1))
   case measure => omega
   case rel => exact ⟨j + 1, rfl, by go_num, by omega, E.out⟩
 ·have hlt' : ¬ (j : Int) < (n : Int) := by omega
  have Y := Aside0.mk hB
  clear hB
  go_wp2
  go_ret
  exact ⟨rfl, Y.out⟩
set_option maxHeartbeats 4000000 in
set_option maxRecDepth 100000 in
theorem lof (a b c : Int) (w : World) : Calls Tryz.prog 57 #[.int .u32 a, .int .i64 b, .int .i64 c] w fun e w' => e = .returned (.agg #[.int .u32 a, .int .i64 b, .int .i64 c]) ∧ Below w.heap.size w w' := by
 have hu39 := Tryz.underlying59
 have hu23 := Tryz.underlying23
 go_enter Tryz.func57, Tryz.ntmps57
 go_wp2
 have k0 := blk_new w (.cells #[.int .u32 a, .int .i64 b, .int .i64 c] 59)
 have y0 := (blk_cell k0 0).trans rfl
 have y1 := (blk_cell k0 1).trans rfl
 have y2 := (blk_cell k0 2).trans rfl
 refine bodyPost_ret (v := .agg #[.int .u32 a, .int .i64 b, .int .i64 c]) (by simp [results, Tryz.results57, go_sem, y0, y1, y2]) rfl ⟨rfl, below_alloc (Below.refl _ _) _⟩
end Go.Proofs.YthibppfdonepoaaGreat.LedT
