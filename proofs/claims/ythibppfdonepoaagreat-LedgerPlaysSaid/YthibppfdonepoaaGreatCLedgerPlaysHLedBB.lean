/- liveryref23: bad, Of, without, Same; liverylaw23.of. The document's table, in plain words. The document's table: Lose, Total, Cap. liveryref23: Room, Free, place. liveryref23: Take. liveryref23: Take. liveryref22.Lose, liveryref23.Lose where no such node is. -/
import Derived.Test.YthibppfdonepoaaGreatCLedgerPlaysHLedP
import Derived.Test.YthibppfdonepoaaGreatCLedgerPlaysHLedJ
import Derived.Test.YthibppfdonepoaaGreatCLedgerPlaysPNodePlaysx0
import Derived.Test.YthibppfdonepoaaGreatCLedgerPlaysPNodePlaysx1
import Derived.Test.YthibppfdonepoaaGreatCLedgerPlaysPNodePlaysx10
import Derived.Test.YthibppfdonepoaaGreatCLedgerPlaysPNodePlaysx11
import Derived.Test.YthibppfdonepoaaGreatCLedgerPlaysPNodePlaysx12
import Derived.Test.YthibppfdonepoaaGreatCLedgerPlaysPNodePlaysx13
import Derived.Test.YthibppfdonepoaaGreatCLedgerPlaysPNodePlaysx14
import Derived.Test.YthibppfdonepoaaGreatCLedgerPlaysPNodePlaysx16
import Derived.Test.YthibppfdonepoaaGreatCLedgerPlaysPNodePlaysx17
import Derived.Test.YthibppfdonepoaaGreatCLedgerPlaysPNodePlaysx2
import Derived.Test.YthibppfdonepoaaGreatCLedgerPlaysPNodePlaysx3
import Derived.Test.YthibppfdonepoaaGreatCLedgerPlaysPNodePlaysx4
import Derived.Test.YthibppfdonepoaaGreatCLedgerPlaysPNodePlaysx5
import Derived.Test.YthibppfdonepoaaGreatCLedgerPlaysPNodePlaysx7
import Derived.Test.YthibppfdonepoaaGreatCLedgerPlaysPNodePlaysx8
import Derived.Test.YthibppfdonepoaaGreatCLedgerPlaysPNodePlaysx9
set_option maxHeartbeats 8000000
set_option maxRecDepth 100000
set_option linter.unusedVariables false
set_option linter.unusedSimpArgs false
namespace Go.Proofs.YthibppfdonepoaaGreat.LedT
open Go.RowKit Go.MapKept Go.Maps Go.ChangeMaps Go.Proofs.YthibppfdonepoaaGreat.XBut Go.Proofs.YthibppfdonepoaaGreat.XMap Go.Proofs.YthibppfdonepoaaGreat.NodeT Go.Proofs.YthibppfdonepoaaGreatW.PrintWords Go.Proofs.YthibppfdonepoaaGreatW.PrintLast
theorem dbad (o n : Int) (w : World) : Calls Tryz.prog 90 #[.int .u32 o, .int .i64 n] w fun e w' => e = .returned (.int .i64 (mayc o n)) ∧ w' = w := by
 by_cases h1 : o = 0
 ·have t1 : (o == 0) = true := by simp [h1]
  have E : Aside0 (mayc o n = 2) := ⟨if_pos (.inl h1)⟩
  clear h1
  go_enter Tryz.func90, Tryz.ntmps90
  go_wp2
  go_ret
  exact ⟨by rw [E.out]; rfl, rfl⟩
 ·have t1 : (o == 0) = false := by simp [h1]
  by_cases h2 : n < 0
  ·have t2 : decide (n < 0) = true := decide_eq_true h2
   have E : Aside0 (mayc o n = 2) := ⟨if_pos (.inr (.inl h2))⟩
   clear h1
   go_enter Tryz.func90, Tryz.ntmps90
   go_wp2
   go_ret
   exact ⟨by rw [E.out]; rfl, rfl⟩
  ·have t2 : decide (n < 0) = false := decide_eq_false h2
   by_cases h3 : 1048576 < n
   ·have t3 : decide ((1048576 : Int) < n) = true := decide_eq_true h3
    have E : Aside0 (mayc o n = 2) := ⟨if_pos (.inr (.inr h3))⟩
    clear h1
    go_enter Tryz.func90, Tryz.ntmps90
    go_wp2
    go_ret
    exact ⟨by rw [E.out]; rfl, rfl⟩
   ·have t3 : decide ((1048576 : Int) < n) = false := decide_eq_false h3
    have E : Aside0 (mayc o n = 0) := ⟨if_neg (by omega)⟩
    clear h1
    go_enter Tryz.func90, Tryz.ntmps90
    go_wp2
    go_ret
    exact ⟨by rw [E.out]; rfl, rfl⟩
def dv (u0 u1 : Int) (vn vb : Value) (last : Int) : Value := .agg #[.int .i64 u0, .int .i64 u1, vn, vb, .int .u32 last]
theorem box_at {w : World} {A : Option Addr} {n : Nat} {xs : List Bx} (h : Kd.C PLedLib.k100 w A n xs) (hn : xs.length = n) (j : Nat) (hj : j < n) (hj2 : j < xs.length) : ∃ ad, A = some ad ∧ w.cell? (ad.add (j * 4)) = some (.int .u32 xs[j].f0) ∧ w.cell? ⟨(ad.add (j * 4)).block, (ad.add (j * 4)).off + 1, none⟩ = some (.int .u32 xs[j].f1) ∧ w.cell? ⟨(ad.add (j * 4)).block, (ad.add (j * 4)).off + 2, none⟩ = some (.int .u32 xs[j].f2) ∧ w.cell? ⟨(ad.add (j * 4)).block, (ad.add (j * 4)).off + 3, none⟩ = some (.bool xs[j].f3) := by
 subst hn
 obtain ⟨ad, hA, d0, d1, d2, d3⟩ := PLedLib.at_T100 h (j : Int) (by omega) (by omega)
 have ej : (j : Int).toNat = j := by simp
 have er : PLedLib.rd_T100 xs (j : Int) = xs[j] := by unfold PLedLib.rd_T100; rw [ej, List.getD_eq_getElem?_getD, List.getElem?_eq_getElem hj2]; rfl
 rw [er, ej] at d0 d1 d2 d3
 exact ⟨ad, hA, d0, d1, d2, d3⟩
theorem take_snoc {α : Type} {l : List α} {j : Nat} (h : j < l.length) : l.take (j + 1) = l.take j ++ [l[j]] := by rw [List.take_add_one, List.getElem?_eq_getElem h]; rfl
theorem filter_snoc {α : Type} (q : α → Bool) {l : List α} {j : Nat} (h : j < l.length) : (l.take (j + 1)).filter q = (l.take j).filter q ++ (if q l[j] = true then [l[j]] else []) := by
 rw [take_snoc h, List.filter_append]
 congr 1
 cases hq : q l[j] <;> simp [hq]
theorem dof (u0 u1 : Int) (vn : Value) (bx : List Bx) (A : Option Addr) (c : Nat) (last o : Int) (s : Bool) (w : World) (hC : Kd.C PLedLib.k100 w A bx.length bx) (hl : bx.length ≤ 1000000) :
  Calls Tryz.prog 77 #[dv u0 u1 vn (.slice A bx.length c) last, .int .u32 o, .bool s] w fun e w' => ∃ v, e = .returned v ∧ RB w' w.heap.size v (ownN bx o s) ∧ Below w.heap.size w w' := by
 have hu113 := Tryz.underlying100
 have hu118 := Tryz.underlying37
 have hu31 := Tryz.underlying33
 obtain ⟨n, hn⟩ : ∃ n, bx.length = n := ⟨_, rfl⟩
 have hl6 : (n : Int) ≤ 1000000 := by omega
 rw [hn] at hC ⊢
 obtain ⟨W0, hW0⟩ : ∃ W0, w.alloc (.cells #[.int .i64 u0, .int .i64 u1, vn, .slice A n c, .int .u32 last] 37) = W0 := ⟨_, rfl⟩
 have hB0 : Below w.heap.size w W0 := by rw [← hW0]; exact below_alloc (Below.refl _ _) _
 have k0 : W0.heap[w.heap.size]? = some (.cells #[.int .i64 u0, .int .i64 u1, vn, .slice A n c, .int .u32 last] 37 (0, 0)) := by rw [← hW0]; exact blk_new w _
 have H := Aside0.mk (And.intro (Kd.C_below hC hB0) (And.intro hn (And.intro hB0 (And.intro k0 hW0))))
 unfold dv
 clear hC hl hn hB0 k0 hW0
 go_enter Tryz.func77, Tryz.ntmps77
 go_wp2_with fail
 rw [H.out.2.2.2.2]
 go_loopg [7, 8] n (fun kk v7 v8 wr => ∃ j : Nat, kk = n - j ∧ v8 = .int .i64 j ∧ j ≤ n ∧ Below W0.heap.size W0 wr ∧ RB wr W0.heap.size v7 ((bx.take j).filter fun x => x.f2 == o && x.f3 == s))
 case atStart => exact ⟨0, rfl, rfl, Nat.zero_le _, Below.refl _ _, Kd.R_nil _ _ _ _ _⟩
 obtain ⟨j, rfl, rfl, hj, hB, hR⟩ := hrel
 have c3 := (blk_cell (blk_below H.out.2.2.2.1 hB) 3).trans rfl
 by_cases hlt : j < n
 ·have hjb : j < bx.length := by rw [H.out.2.1]; exact hlt
  obtain ⟨ad, rfl, d0, d1, d2, d3⟩ := box_at (Kd.C_below H.out.1 hB) H.out.2.1 j hlt hjb
  have hf := filter_snoc (fun x : Bx => x.f2 == o && x.f3 == s) hjb
  have hfl : ((bx.take j).filter fun x => x.f2 == o && x.f3 == s).length ≤ j := Nat.le_trans (List.length_filter_le _ _) (by rw [List.length_take]; omega)
  obtain ⟨x, hx⟩ : ∃ x, bx[j] = x := ⟨_, rfl⟩
  rw [hx] at d0 d1 d2 d3 hf
  obtain ⟨x0, x1, x2, x3⟩ := x
  dsimp only at d0 d1 d2 d3 hf
  obtain ⟨q1, hq1⟩ : ∃ q, (x2 == o) = q := ⟨_, rfl⟩
  obtain ⟨q2, hq2⟩ : ∃ q, (x3 == s) = q := ⟨_, rfl⟩
  rw [hq1, hq2] at hf
  have hlt' : (j : Int) < (n : Int) := by omega
  have Y := Aside0.mk (And.intro hB (And.intro hR (And.intro hf hfl)))
  clear hB hR hf hfl hx
  by_cases hq : (q1 && q2) = true
  ·obtain ⟨h1, h2⟩ := Bool.and_eq_true_iff.1 hq
   subst h1
   subst h2
   go_wp2_with (refine Kd.R_append PLedLib.k100 (w0 := W0) W0.heap.size (by rfl) (.tmp 34) (.tmp 40) 34 100 (.agg #[.int .u32 0, .int .u32 0, .int .u32 0, .bool false]) 16 rfl Tryz.underlying34 PLedLib.info100 rfl (by decide) (by omega) u7 _ ⟨x0, x1, x2, x3⟩ [.int .u32 x0, .int .u32 x1, .int .u32 x2, .bool x3] (fun _ => True) (fun _ => False) rfl rfl (PLedLib.k100_mkM _ _ _ _) (fun _ h => h.elim) (fun _ _ => trivial) (Kd.R_mono Y.out.2.1 (fun _ _ => trivial)) Y.out.1 Y.out.1.size ?hl ?_)
   case hl => have h := Y.out.2.2.2; exact Nat.le_trans (Nat.mul_le_mul_right _ (Nat.add_le_add_right h 1)) (by omega)
   intro v1 w2 hR2 hB2 hg2 hat2
   have hm : RB w2 W0.heap.size v1 _ := Kd.R_mono (Kd.R_tight (by rfl) hR2) (fun k hk => hk.symm)
   have Z := Aside0.mk (And.intro hm hB2)
   clear hR2 hB2 hg2 hat2 hm
   go_wp2
   go_roundg (n - (j + 1))
   case measure => omega
   case rel => exact ⟨j + 1, rfl, by go_num, by omega, Z.out.2, by rw [Y.out.2.2.1]; exact Z.out.1⟩
  ·have hq' : (q1 && q2) = false := by simpa using hq
   have HQ := Aside0.mk hq'
   cases q1
   ·go_wp2
    go_roundg (n - (j + 1))
    case measure => omega
    case rel => exact ⟨j + 1, rfl, by go_num, by omega, Y.out.1, by rw [Y.out.2.2.1, HQ.out, if_neg (by decide), List.append_nil]; exact Y.out.2.1⟩
   ·cases q2
    ·go_wp2
     go_roundg (n - (j + 1))
     case measure => omega
     case rel => exact ⟨j + 1, rfl, by go_num, by omega, Y.out.1, by rw [Y.out.2.2.1, HQ.out, if_neg (by decide), List.append_nil]; exact Y.out.2.1⟩
    ·exact absurd rfl hq
 ·have hlt' : ¬ (j : Int) < (n : Int) := by omega
  have htk : bx.take j = bx := List.take_of_length_le (by rw [H.out.2.1]; omega)
  rw [htk] at hR
  have Y := Aside0.mk (And.intro hB hR)
  clear hB hR htk
  go_wp2
  go_ret
  exact ⟨_, rfl, Kd.R_lower Y.out.2 H.out.2.2.1.size, below_then H.out.2.2.1 H.out.2.2.1.size Y.out.1⟩
theorem dwithout (l g : List Bx) (A A2 : Option Addr) (c c2 : Nat) (w : World) (hC : Kd.C PLedLib.k100 w A l.length l) (hC2 : Kd.C PLedLib.k100 w A2 g.length g) (hl : l.length ≤ 1000000) (hg : g.length ≤ 1000000) :
  Calls Tryz.prog 114 #[.slice A l.length c, .slice A2 g.length c2] w fun e w' => ∃ v, e = .returned v ∧ RB w' w.heap.size v (l.filter fun x => !(g.any fun y => y.f0 == x.f0)) ∧ Below w.heap.size w w' := by
 have hu113 := Tryz.underlying100
 obtain ⟨n, hn⟩ : ∃ n, l.length = n := ⟨_, rfl⟩
 obtain ⟨m, hm⟩ : ∃ m, g.length = m := ⟨_, rfl⟩
 have hl6 : (n : Int) ≤ 1000000 := by omega
 have hg6 : (m : Int) ≤ 1000000 := by omega
 rw [hn] at hC ⊢
 rw [hm] at hC2 ⊢
 have H := Aside0.mk (And.intro hC (And.intro hC2 (And.intro hn hm)))
 clear hC hC2 hl hg hn hm
 go_enter Tryz.func114, Tryz.ntmps114
 go_wp2_with fail
 go_loopg [5, 6] n (fun kk v5 v6 wr => ∃ j : Nat, kk = n - j ∧ v6 = .int .i64 j ∧ j ≤ n ∧ Below w.heap.size w wr ∧ RB wr w.heap.size v5 ((l.take j).filter fun x => !(g.any fun y => y.f0 == x.f0)))
 case atStart => exact ⟨0, rfl, rfl, Nat.zero_le _, Below.refl _ _, Kd.R_nil _ _ _ _ _⟩
 obtain ⟨j, rfl, rfl, hj, hB, hR⟩ := hrel
 by_cases hlt : j < n
 ·have hjb : j < l.length := by rw [H.out.2.2.1]; exact hlt
  obtain ⟨ad, rfl, d0, d1, d2, d3⟩ := box_at (Kd.C_below H.out.1 hB) H.out.2.2.1 j hlt hjb
  have hf := filter_snoc (fun x : Bx => !(g.any fun y => y.f0 == x.f0)) hjb
  have hfl : ((l.take j).filter fun x => !(g.any fun y => y.f0 == x.f0)).length ≤ j := Nat.le_trans (List.length_filter_le _ _) (by rw [List.length_take]; omega)
  obtain ⟨x, hx⟩ : ∃ x, l[j] = x := ⟨_, rfl⟩
  rw [hx] at d0 d1 d2 d3 hf
  obtain ⟨x0, x1, x2, x3⟩ := x
  dsimp only at d0 d1 d2 d3 hf
  have hlt' : (j : Int) < (n : Int) := by omega
  obtain ⟨ls, hls⟩ : ∃ ls, ((l.take j).filter fun x => !(g.any fun y => y.f0 == x.f0)) = ls := ⟨_, rfl⟩
  rw [hls] at hR hf hfl
  have Y := Aside0.mk (And.intro hB (And.intro hR (And.intro hf hfl)))
  have D := Aside0.mk (And.intro d0 (And.intro d1 (And.intro d2 d3)))
  clear hB hR hf hfl hx d0 d1 d2 d3 hls
  go_wp2_with fail
  obtain ⟨W5, hW5⟩ : ∃ W5, wr = W5 := ⟨_, rfl⟩
  rw [hW5] at Y D ⊢
  clear hW5
  go_loopg [7, 8] m (fun kk v7 v8 wq => ∃ i : Nat, kk = m - i ∧ v8 = .int .i64 i ∧ i ≤ m ∧ v7 = .bool ((g.take i).any fun y => y.f0 == x0) ∧ Below W5.heap.size W5 wq)
  case atStart => exact ⟨0, rfl, rfl, Nat.zero_le _, rfl, Below.refl _ _⟩
  obtain ⟨i, rfl, rfl, hi, rfl, hBq⟩ := hrel
  by_cases hlti : i < m
  ·have hib : i < g.length := by rw [H.out.2.2.2]; exact hlti
   obtain ⟨ag, rfl, e0, _⟩ := box_at (Kd.C_below H.out.2.1 (below_step Y.out.1 hBq)) H.out.2.2.2 i hlti hib
   have ha : (g.take (i + 1)).any (fun y => y.f0 == x0) = ((g.take i).any (fun y => y.f0 == x0) || (g[i].f0 == x0)) := by rw [take_snoc hib, List.any_append]; simp
   obtain ⟨y0, hy0⟩ : ∃ y0, g[i].f0 = y0 := ⟨_, rfl⟩
   rw [hy0] at e0 ha
   obtain ⟨q1, hq1⟩ : ∃ q, ((g.take i).any fun y => y.f0 == x0) = q := ⟨_, rfl⟩
   obtain ⟨q2, hq2⟩ : ∃ q, (y0 == x0) = q := ⟨_, rfl⟩
   have hlti' : (i : Int) < (m : Int) := by omega
   have BQ := Aside0.mk hBq
   replace D := Aside0.mk (And.intro (pw_cell_below hBq D.out.1) D.out.2)
   have E0 := Aside0.mk e0
   clear hBq e0
   rw [hq1, hq2] at ha
   rw [hq1]
   have HA := Aside0.mk ha
   clear ha hy0 hq1
   have W := Aside0.mk Y.out.1
   cases q1
   ·go_upto_region 9 with (fail)
    refine XInv.region_tab [] [[], [0], [1], [1], [2, 3, 1], [4, 1], [5, 1], [1], [1], [7, 8, 1], [9, 1], [10, 1], [6, 11, 1], [1, 12], [13, 1, 0, 1, 2, 3, 4, 5, 6, 7, 8, 9, 10, 11, 12, 13]] (fun bq jq => match jq with
      | 0 => .bool false
      | 1 => .bool false
      | 2 => .slice (some ag) m c2
      | 3 => .int .i64 i
      | 4 => .pointer (some (ag.add (i * 4)))
      | 5 => .pointer (some (ag.add (i * 4)))
      | 6 => .int .u32 y0
      | 7 => .slice (some ad) n c
      | 8 => .int .i64 j
      | 9 => .pointer (some (ad.add (j * 4)))
      | 10 => .pointer (some (ad.add (j * 4)))
      | 11 => .int .u32 x0
      | 12 => .bool q2
      | 13 => .bool q2
      | 14 => .bool q2
      | _ => undef)
      (fun bq l w' => Below wr.heap.size wr w')
      (by kernel_rfl) rfl (by kernel_rfl) (by kernel_rfl) (by kernel_rfl) ⟨fun _ : Nat => (0 : Nat), below_drew (Below.refl _ _)⟩ ?_ ?_
    ·intro i1 hi1 hds oi hoi bq lb w' hW hlb hcl hneed hclo
     have hi1 : i1 < 15 := hi1
     have hcs : i1 = 0 ∨ i1 = 1 ∨ i1 = 2 ∨ i1 = 3 ∨ i1 = 4 ∨ i1 = 5 ∨ i1 = 6 ∨ i1 = 7 ∨ i1 = 8 ∨ i1 = 9 ∨ i1 = 10 ∨ i1 = 11 ∨ i1 = 12 ∨ i1 = 13 ∨ i1 = 14 := by omega
     clear hi1 hcl hneed hclo
     have d0 := pw_cell_below hW D.out.1
     have e0 := pw_cell_below hW E0.out
     rcases hcs with rfl | rfl | rfl | rfl | rfl | rfl | rfl | rfl | rfl | rfl | rfl | rfl | rfl | rfl | rfl
     all_goals simp only [List.getElem?_toArray, List.getElem?_cons_succ, List.getElem?_cons_zero, Option.some.injEq] at hoi
     all_goals subst hoi
     ·refine XInv.yes_tab [] (by kernel_rfl) ?_
      intro Q2 K2 hK2
      simp only [XInv.puts, XPrint.pw]
      go_simp
      exact hK2.out (.bool false) w' ⟨bq, rfl, (by intros; first | rfl | trivial), hW⟩
     ·refine XInv.yes_tab [(21, 0)] (by kernel_rfl) ?_
      intro Q2 K2 hK2
      simp only [XInv.puts, XPrint.pw]
      go_simp
      exact hK2.out (.bool false) w' ⟨bq, rfl, (by intros; first | rfl | trivial), hW⟩
     ·refine XInv.yes_tab [(22, 1)] (by kernel_rfl) ?_
      intro Q2 K2 hK2
      simp only [XInv.puts, XPrint.pw]
      go_simp
      exact hK2.out (.slice (some ag) m c2) w' ⟨bq, rfl, (by intros; first | rfl | trivial), hW⟩
     ·refine XInv.yes_tab [(22, 1)] (by kernel_rfl) ?_
      intro Q2 K2 hK2
      simp only [XInv.puts, XPrint.pw]
      go_simp
      exact hK2.out (.int .i64 i) w' ⟨bq, rfl, (by intros; first | rfl | trivial), hW⟩
     ·refine XInv.yes_tab [(24, 3), (23, 2), (22, 1)] (by kernel_rfl) ?_
      intro Q2 K2 hK2
      simp only [XInv.puts, XPrint.pw]
      go_simp
      exact hK2.out (.pointer (some (ag.add (i * 4)))) w' ⟨bq, rfl, (by intros; first | rfl | trivial), hW⟩
     ·refine XInv.yes_tab [(25, 4), (22, 1)] (by kernel_rfl) ?_
      intro Q2 K2 hK2
      simp only [XInv.puts, XPrint.pw]
      go_simp
      exact hK2.out (.pointer (some (ag.add (i * 4)))) w' ⟨bq, rfl, (by intros; first | rfl | trivial), hW⟩
     ·refine XInv.yes_tab [(26, 5), (22, 1)] (by kernel_rfl) ?_
      intro Q2 K2 hK2
      simp only [XInv.puts, XPrint.pw]
      go_simp
      exact hK2.out (.int .u32 y0) w' ⟨bq, rfl, (by intros; first | rfl | trivial), hW⟩
     ·refine XInv.yes_tab [(22, 1)] (by kernel_rfl) ?_
      intro Q2 K2 hK2
      simp only [XInv.puts, XPrint.pw]
      go_simp
      exact hK2.out (.slice (some ad) n c) w' ⟨bq, rfl, (by intros; first | rfl | trivial), hW⟩
     ·refine XInv.yes_tab [(22, 1)] (by kernel_rfl) ?_
      intro Q2 K2 hK2
      simp only [XInv.puts, XPrint.pw]
      go_simp
      exact hK2.out (.int .i64 j) w' ⟨bq, rfl, (by intros; first | rfl | trivial), hW⟩
     ·refine XInv.yes_tab [(29, 8), (28, 7), (22, 1)] (by kernel_rfl) ?_
      intro Q2 K2 hK2
      simp only [XInv.puts, XPrint.pw]
      go_simp
      exact hK2.out (.pointer (some (ad.add (j * 4)))) w' ⟨bq, rfl, (by intros; first | rfl | trivial), hW⟩
     ·refine XInv.yes_tab [(30, 9), (22, 1)] (by kernel_rfl) ?_
      intro Q2 K2 hK2
      simp only [XInv.puts, XPrint.pw]
      go_simp
      exact hK2.out (.pointer (some (ad.add (j * 4)))) w' ⟨bq, rfl, (by intros; first | rfl | trivial), hW⟩
     ·refine XInv.yes_tab [(31, 10), (22, 1)] (by kernel_rfl) ?_
      intro Q2 K2 hK2
      simp only [XInv.puts, XPrint.pw]
      go_simp
      exact hK2.out (.int .u32 x0) w' ⟨bq, rfl, (by intros; first | rfl | trivial), hW⟩
     ·refine XInv.yes_tab [(32, 11), (27, 6), (22, 1)] (by kernel_rfl) ?_
      intro Q2 K2 hK2
      simp only [XInv.puts, XPrint.pw]
      go_simp
      exact hK2.out (.bool q2) w' ⟨bq, rfl, (by intros; first | rfl | trivial), hW⟩
     ·refine XInv.yes_tab [(33, 12), (22, 1)] (by kernel_rfl) ?_
      intro Q2 K2 hK2
      simp only [XInv.puts, XPrint.pw]
      go_simp
      exact hK2.out (.bool q2) w' ⟨bq, rfl, (by intros; first | rfl | trivial), hW⟩
     ·refine XInv.yes_tab [(34, 13), (33, 12), (32, 11), (31, 10), (30, 9), (29, 8), (28, 7), (27, 6), (26, 5), (25, 4), (24, 3), (23, 2), (22, 1), (21, 0)] (by kernel_rfl) ?_
      intro Q2 K2 hK2
      simp only [XInv.puts, XPrint.pw] at hK2 ⊢
      go_simp
      exact hK2.out (.bool q2) w' ⟨bq, rfl, (by intros; first | rfl | trivial), hW⟩
    ·intro bq w' hW
     refine XInv.end_nil [(7, 14), (34, 13), (33, 12), (32, 11), (31, 10), (30, 9), (29, 8), (28, 7), (27, 6), (26, 5), (25, 4), (24, 3), (23, 2), (22, 1), (21, 0)] (by kernel_rfl) (by kernel_rfl) ?_
     simp only [XInv.puts, XPrint.pw]
     have G := Aside0.mk hW
     clear hW
     go_wp2
     go_roundg (m - (i + 1))
     case measure => omega
     case rel => exact ⟨i + 1, rfl, by go_num, by omega, by rw [HA.out, Bool.false_or], below_step BQ.out G.out⟩
   ·go_upto_region 9 with (fail)
    refine XInv.region_tab [] [[], [0], [1], [1], [2, 3, 1], [4, 1], [5, 1], [1], [1], [7, 8, 1], [9, 1], [10, 1], [6, 11, 1], [1, 12], [13, 1, 0, 1, 2, 3, 4, 5, 6, 7, 8, 9, 10, 11, 12, 13]] (fun bq jq => match jq with
      | 0 => .bool true
      | 1 => .bool true
      | 2 => undef
      | 3 => undef
      | 4 => undef
      | 5 => undef
      | 6 => undef
      | 7 => undef
      | 8 => undef
      | 9 => undef
      | 10 => undef
      | 11 => undef
      | 12 => undef
      | 13 => .bool true
      | 14 => .bool true
      | _ => undef)
      (fun bq l w' => Below wr.heap.size wr w')
      (by kernel_rfl) rfl (by kernel_rfl) (by kernel_rfl) (by kernel_rfl) ⟨fun _ : Nat => (0 : Nat), below_drew (Below.refl _ _)⟩ ?_ ?_
    ·intro i1 hi1 hds oi hoi bq lb w' hW hlb hcl hneed hclo
     have hi1 : i1 < 15 := hi1
     have hcs : i1 = 0 ∨ i1 = 1 ∨ i1 = 2 ∨ i1 = 3 ∨ i1 = 4 ∨ i1 = 5 ∨ i1 = 6 ∨ i1 = 7 ∨ i1 = 8 ∨ i1 = 9 ∨ i1 = 10 ∨ i1 = 11 ∨ i1 = 12 ∨ i1 = 13 ∨ i1 = 14 := by omega
     clear hi1 hcl hneed hclo
     rcases hcs with rfl | rfl | rfl | rfl | rfl | rfl | rfl | rfl | rfl | rfl | rfl | rfl | rfl | rfl | rfl
     all_goals simp only [List.getElem?_toArray, List.getElem?_cons_succ, List.getElem?_cons_zero, Option.some.injEq] at hoi
     all_goals subst hoi
     ·refine XInv.yes_tab [] (by kernel_rfl) ?_
      intro Q2 K2 hK2
      simp only [XInv.puts, XPrint.pw]
      go_simp
      exact hK2.out (.bool true) w' ⟨bq, rfl, (by intros; first | rfl | trivial), hW⟩
     ·refine XInv.yes_tab [(21, 0)] (by kernel_rfl) ?_
      intro Q2 K2 hK2
      simp only [XInv.puts, XPrint.pw]
      go_simp
      exact hK2.out (.bool true) w' ⟨bq, rfl, (by intros; first | rfl | trivial), hW⟩
     ·refine XInv.yes_tab [(22, 1)] (by kernel_rfl) ?_
      intro Q2 K2 hK2
      simp only [XInv.puts, XPrint.pw]
      refine XInv.no_want (by kernel_rfl) ?_
      exact hK2.out undef w' ⟨bq, rfl, (by intros; first | rfl | trivial), hW⟩
     ·refine XInv.yes_tab [(22, 1)] (by kernel_rfl) ?_
      intro Q2 K2 hK2
      simp only [XInv.puts, XPrint.pw]
      refine XInv.no_want (by kernel_rfl) ?_
      exact hK2.out undef w' ⟨bq, rfl, (by intros; first | rfl | trivial), hW⟩
     ·refine XInv.yes_tab [(24, 3), (23, 2), (22, 1)] (by kernel_rfl) ?_
      intro Q2 K2 hK2
      simp only [XInv.puts, XPrint.pw]
      refine XInv.no_want (by kernel_rfl) ?_
      exact hK2.out undef w' ⟨bq, rfl, (by intros; first | rfl | trivial), hW⟩
     ·refine XInv.yes_tab [(25, 4), (22, 1)] (by kernel_rfl) ?_
      intro Q2 K2 hK2
      simp only [XInv.puts, XPrint.pw]
      refine XInv.no_want (by kernel_rfl) ?_
      exact hK2.out undef w' ⟨bq, rfl, (by intros; first | rfl | trivial), hW⟩
     ·refine XInv.yes_tab [(26, 5), (22, 1)] (by kernel_rfl) ?_
      intro Q2 K2 hK2
      simp only [XInv.puts, XPrint.pw]
      refine XInv.no_want (by kernel_rfl) ?_
      exact hK2.out undef w' ⟨bq, rfl, (by intros; first | rfl | trivial), hW⟩
     ·refine XInv.yes_tab [(22, 1)] (by kernel_rfl) ?_
      intro Q2 K2 hK2
      simp only [XInv.puts, XPrint.pw]
      refine XInv.no_want (by kernel_rfl) ?_
      exact hK2.out undef w' ⟨bq, rfl, (by intros; first | rfl | trivial), hW⟩
     ·refine XInv.yes_tab [(22, 1)] (by kernel_rfl) ?_
      intro Q2 K2 hK2
      simp only [XInv.puts, XPrint.pw]
      refine XInv.no_want (by kernel_rfl) ?_
      exact hK2.out undef w' ⟨bq, rfl, (by intros; first | rfl | trivial), hW⟩
     ·refine XInv.yes_tab [(29, 8), (28, 7), (22, 1)] (by kernel_rfl) ?_
      intro Q2 K2 hK2
      simp only [XInv.puts, XPrint.pw]
      refine XInv.no_want (by kernel_rfl) ?_
      exact hK2.out undef w' ⟨bq, rfl, (by intros; first | rfl | trivial), hW⟩
     ·refine XInv.yes_tab [(30, 9), (22, 1)] (by kernel_rfl) ?_
      intro Q2 K2 hK2
      simp only [XInv.puts, XPrint.pw]
      refine XInv.no_want (by kernel_rfl) ?_
      exact hK2.out undef w' ⟨bq, rfl, (by intros; first | rfl | trivial), hW⟩
     ·refine XInv.yes_tab [(31, 10), (22, 1)] (by kernel_rfl) ?_
      intro Q2 K2 hK2
      simp only [XInv.puts, XPrint.pw]
      refine XInv.no_want (by kernel_rfl) ?_
      exact hK2.out undef w' ⟨bq, rfl, (by intros; first | rfl | trivial), hW⟩
     ·refine XInv.yes_tab [(32, 11), (27, 6), (22, 1)] (by kernel_rfl) ?_
      intro Q2 K2 hK2
      simp only [XInv.puts, XPrint.pw]
      refine XInv.no_want (by kernel_rfl) ?_
      exact hK2.out undef w' ⟨bq, rfl, (by intros; first | rfl | trivial), hW⟩
     ·refine XInv.yes_tab [(33, 12), (22, 1)] (by kernel_rfl) ?_
      intro Q2 K2 hK2
      simp only [XInv.puts, XPrint.pw]
      go_simp
      exact hK2.out (.bool true) w' ⟨bq, rfl, (by intros; first | rfl | trivial), hW⟩
     ·refine XInv.yes_tab [(34, 13), (33, 12), (32, 11), (31, 10), (30, 9), (29, 8), (28, 7), (27, 6), (26, 5), (25, 4), (24, 3), (23, 2), (22, 1), (21, 0)] (by kernel_rfl) ?_
      intro Q2 K2 hK2
      simp only [XInv.puts, XPrint.pw] at hK2 ⊢
      go_simp
      exact hK2.out (.bool true) w' ⟨bq, rfl, (by intros; first | rfl | trivial), hW⟩
    ·intro bq w' hW
     refine XInv.end_nil [(7, 14), (34, 13), (33, 12), (32, 11), (31, 10), (30, 9), (29, 8), (28, 7), (27, 6), (26, 5), (25, 4), (24, 3), (23, 2), (22, 1), (21, 0)] (by kernel_rfl) (by kernel_rfl) ?_
     simp only [XInv.puts, XPrint.pw]
     have G := Aside0.mk hW
     clear hW
     go_wp2
     go_roundg (m - (i + 1))
     case measure => omega
     case rel => exact ⟨i + 1, rfl, by go_num, by omega, by rw [HA.out, Bool.true_or], below_step BQ.out G.out⟩
  ·have hlti' : ¬ (i : Int) < (m : Int) := by omega
   have htk : g.take i = g := List.take_of_length_le (by rw [H.out.2.2.2]; omega)
   rw [htk]
   have hf := Y.out.2.2.1
   obtain ⟨q, hq⟩ : ∃ q, (g.any fun y => y.f0 == x0) = q := ⟨_, rfl⟩
   rw [hq] at hf ⊢
   have HF := Aside0.mk hf
   obtain ⟨d0, d1, d2, d3⟩ := D.out
   replace d0 := pw_cell_below hBq d0
   replace d1 := pw_cell_below hBq d1
   replace d2 := pw_cell_below hBq d2
   replace d3 := pw_cell_below hBq d3
   have Y2 := Aside0.mk (And.intro (below_step Y.out.1 hBq) (Kd.R_below Y.out.2.1 hBq))
   clear htk hf hq hBq
   cases q
   ·go_wp2_with (refine Kd.R_append PLedLib.k100 (w0 := w) w.heap.size (by rfl) (.tmp 37) (.tmp 42) 34 100 (.agg #[.int .u32 0, .int .u32 0, .int .u32 0, .bool false]) 16 rfl Tryz.underlying34 PLedLib.info100 rfl (by decide) (by omega) u5 ls ⟨x0, x1, x2, x3⟩ [.int .u32 x0, .int .u32 x1, .int .u32 x2, .bool x3] (fun _ => True) (fun _ => False) rfl rfl (PLedLib.k100_mkM _ _ _ _) (fun _ h => h.elim) (fun _ _ => trivial) (Kd.R_mono Y2.out.2 (fun _ _ => trivial)) Y2.out.1 Y2.out.1.size ?hl ?_)
    case hl => have h := Y.out.2.2.2; exact Nat.le_trans (Nat.mul_le_mul_right _ (Nat.add_le_add_right h 1)) (by omega)
    intro v1 w2 hR2 hB2 hg2 hat2
    have hm : RB w2 w.heap.size v1 _ := Kd.R_mono (Kd.R_tight (by rfl) hR2) (fun k hk => hk.symm)
    have Z := Aside0.mk (And.intro hm hB2)
    clear hR2 hB2 hg2 hat2 hm d0 d1 d2 d3
    go_wp2
    go_roundg (n - (j + 1))
    case measure => omega
    case rel => exact ⟨j + 1, rfl, by go_num, by omega, Z.out.2, by rw [HF.out]; exact Z.out.1⟩
   ·clear d0 d1 d2 d3
    go_wp2
    go_roundg (n - (j + 1))
    case measure => omega
    case rel => exact ⟨j + 1, rfl, by go_num, by omega, Y2.out.1, by rw [HF.out]; simpa using Y2.out.2⟩
 ·have hlt' : ¬ (j : Int) < (n : Int) := by omega
  have htk : l.take j = l := List.take_of_length_le (by rw [H.out.2.2.1]; omega)
  rw [htk] at hR
  have Y := Aside0.mk (And.intro hB hR)
  clear hB hR htk
  go_wp2
  go_ret
  exact ⟨_, rfl, Y.out.2, Y.out.1⟩
end Go.Proofs.YthibppfdonepoaaGreat.LedT
set_option linter.unusedVariables false
namespace Go.Proofs.YthibppfdonepoaaGreat.NodeT
open Go.RowKit Go.MapKept Go.Maps Go.ChangeMaps Go.Proofs.YthibppfdonepoaaGreat.XBut Go.Proofs.YthibppfdonepoaaGreat.XMap Go.Proofs.YthibppfdonepoaaGreat.PNodePlays Go.Proofs.YthibppfdonepoaaGreatW.PrintWords Go.Proofs.YthibppfdonepoaaGreatW.PrintLast
theorem rin_f (a b c : Int) : liveryref22_in.f a b c = some (decide (okV c ⟨a, b⟩)) := by
 unfold liveryref22_in.f
 by_cases h1 : a ≥ c
 ·by_cases h2 : a ≤ 1073741824
  ·by_cases h3 : b ≥ c
   ·rw [if_pos h1, if_pos h2, if_pos h3]
    congr 1
    exact decide_eq_decide.2 ⟨fun h => ⟨⟨h1, h3⟩, h2, h⟩, fun h => h.2.2⟩
   ·rw [if_pos h1, if_pos h2, if_neg h3, decide_eq_false (fun h : okV c ⟨a, b⟩ => h3 h.1.2)]
  ·rw [if_pos h1, if_neg h2, decide_eq_false (fun h : okV c ⟨a, b⟩ => h2 h.2.1)]
 ·rw [if_neg h1, decide_eq_false (fun h : okV c ⟨a, b⟩ => h1 h.1.1)]
theorem runits_ev {u0 u1 : Int} {x : S59} (ns : List S59) (hu : okV 1 ⟨u0, u1⟩) (hx : okV 0 x.f1) : Ev (fun k => liveryref22_Units.f k u0 u1 ns x.f0 x.f1.f0 x.f1.f1) (uns u0 u1 x) := by
 obtain ⟨K, h⟩ := refUnits_at hu hx
 refine ⟨K, fun k hk => ?_⟩
 have := h k hk
 dsimp only at this
 simp only [liveryref22_Units.f]
 rw [this]
 rfl
def may (u0 u1 : Int) (x : S59) : Bool := decide (0 < x.f0 ∧ okV 0 x.f1 ∧ uns u0 u1 x ≤ 4096)
theorem rmay_ev {u0 u1 : Int} (x : S59) (ns : List S59) (hu : okV 1 ⟨u0, u1⟩) : Ev (fun k => liveryref22_May.f k u0 u1 ns x.f0 x.f1.f0 x.f1.f1) (may u0 u1 x) := by
 by_cases h0 : x.f0 > 0
 ·by_cases h1 : okV 0 x.f1
  ·obtain ⟨K, h⟩ := runits_ev ns hu h1
   refine ⟨K, fun k hk => ?_⟩
   have := h k hk
   dsimp only at this
   simp only [liveryref22_May.f]
   rw [if_pos h0, rin_f, Option.bind_some, if_pos (decide_eq_true h1), this, Option.bind_some]
   congr 1
   exact decide_eq_decide.2 ⟨fun h => ⟨h0, h1, h⟩, fun h => h.2.2⟩
  ·refine ⟨0, fun k _ => ?_⟩
   simp only [liveryref22_May.f]
   rw [if_pos h0, rin_f, Option.bind_some, if_neg (by simp [h1])]
   unfold may
   rw [decide_eq_false (fun h => h1 h.2.1)]
 ·refine ⟨0, fun k _ => ?_⟩
  simp only [liveryref22_May.f]
  rw [if_neg h0]
  unfold may
  rw [decide_eq_false (fun h => h0 h.1)]
def place : List S59 → Int → Int
 | [], _ => -1
 | a :: l, i => if a.f0 = i then 0 else if place l i = -1 then -1 else place l i + 1
theorem place_cons (a : S59) (l : List S59) (i : Int) : place (a :: l) i = if a.f0 = i then 0 else if place l i = -1 then -1 else place l i + 1 := rfl
theorem place_ge (ns : List S59) (i : Int) : -1 ≤ place ns i ∧ place ns i < ns.length := by
 induction ns with
 | nil => simp [place]
 | cons a l ih =>
  unfold place
  simp only [List.length_cons]
  split
  ·omega
  ·split <;> omega
theorem place_who (ns : List S59) (i : Int) : place ns i < 0 ↔ who ns i = none := by
 unfold who
 induction ns with
 | nil => simp [place]
 | cons a l ih =>
  have h := place_ge l i
  unfold place
  rw [List.find?_cons]
  by_cases h1 : a.f0 = i
  ·rw [if_pos h1]
   simp [h1]
  ·rw [if_neg h1, show (a.f0 == i) = false from by simpa using h1]
   dsimp only
   split
   ·rw [← ih]; omega
   ·rw [← ih]; omega
theorem rat_l0 (u0 u1 i : Int) (ns : List S59) (hl : ns.length ≤ 1000000) : ∀ (d k j : Nat), j + d = ns.length → d < k → liveryref22_At.l0 k i j u0 u1 ns = some (if place (ns.drop j) i = -1 then -1 else place (ns.drop j) i + j)
 | 0, k, j, h, hk => by
  obtain ⟨k, rfl⟩ : ∃ m, k = m + 1 := ⟨k - 1, by omega⟩
  simp only [liveryref22_At.l0]
  rw [if_neg (by omega), List.drop_eq_nil_of_le (by omega)]
  simp [place]
 | d + 1, k, j, h, hk => by
  obtain ⟨k, rfl⟩ : ∃ m, k = m + 1 := ⟨k - 1, by omega⟩
  simp only [liveryref22_At.l0]
  have hj : j < ns.length := by omega
  have er : rd_T59 ns (j : Int) = ns[j] := by unfold rd_T59; rw [Int.toNat_natCast, List.getD_eq_getElem?_getD, List.getElem?_eq_getElem hj]; rfl
  rw [if_pos (by omega), if_pos (by omega), er, List.drop_eq_getElem_cons hj]
  unfold place
  by_cases h1 : ns[j].f0 = i
  ·rw [if_pos h1, if_pos h1, if_neg (by omega)]
   congr 1
   omega
  ·rw [if_neg h1, if_neg h1, show wrap64 ((j : Int) + 1) = ((j + 1 : Nat) : Int) by unfold wrap64; omega, rat_l0 u0 u1 i ns hl d k (j + 1) (by omega) (by omega)]
   congr 1
   have hg := place_ge (ns.drop (j + 1)) i
   by_cases h2 : place (ns.drop (j + 1)) i = -1
   ·rw [if_pos h2, if_pos h2, if_pos rfl]
   ·rw [if_neg h2, if_neg h2, if_neg (by omega)]
    omega
theorem rat_f (u0 u1 i : Int) (ns : List S59) (hl : ns.length ≤ 1000000) (k : Nat) (hk : ns.length < k) : liveryref22_At.f k u0 u1 ns i = some (place ns i) := by
 unfold liveryref22_At.f
 rw [show (0 : Int) = ((0 : Nat) : Int) from rfl, rat_l0 u0 u1 i ns hl ns.length k 0 (by omega) hk, List.drop_zero]
 congr 1
 split
 ·rename_i h; exact h.symm
 ·simp
theorem place_at {ns : List S59} {i : Int} (h : 0 ≤ place ns i) : ∃ hj : (place ns i).toNat < ns.length, who ns i = some ns[(place ns i).toNat] := by
 have hg := place_ge ns i
 refine ⟨by omega, ?_⟩
 unfold who
 induction ns with
 | nil => simp [place] at h
 | cons a l ih =>
  rw [List.find?_cons]
  by_cases h1 : a.f0 = i
  ·have e : place (a :: l) i = 0 := by rw [place_cons, if_pos h1]
   simp only [e, show (a.f0 == i) = true from by simpa using h1]
   rfl
  ·have hl := place_ge l i
   by_cases h2 : place l i = -1
   ·have e : place (a :: l) i = -1 := by rw [place_cons, if_neg h1, if_pos h2]
    omega
   ·have e : place (a :: l) i = place l i + 1 := by rw [place_cons, if_neg h1, if_neg h2]
    have e2 : (place l i + 1).toNat = (place l i).toNat + 1 := by omega
    simp only [e, show (a.f0 == i) = false from by simpa using h1, e2, List.getElem_cons_succ]
    exact ih (by omega) hl
theorem place_less {ns : List S59} {i : Int} (hr : ns.Pairwise fun x y => x.f0 < y.f0) (h : 0 ≤ place ns i) : ns.take (place ns i).toNat ++ ns.drop ((place ns i).toNat + 1) = less ns i := by
 induction ns with
 | nil => simp [place] at h
 | cons a l ih =>
  obtain ⟨hr1, hr2⟩ := List.pairwise_cons.1 hr
  unfold less
  rw [List.filter_cons]
  by_cases h1 : a.f0 = i
  ·have e : place (a :: l) i = 0 := by rw [place_cons, if_pos h1]
   rw [e, if_neg (by simpa using h1)]
   simp only [Int.toNat_zero, List.take_zero, List.nil_append, Nat.zero_add, List.drop_succ_cons, List.drop_zero]
   refine (List.filter_eq_self.2 fun x hx => ?_).symm
   have := hr1 x hx
   simp
   omega
  ·have hl := place_ge l i
   by_cases h2 : place l i = -1
   ·have e : place (a :: l) i = -1 := by rw [place_cons, if_neg h1, if_pos h2]
    omega
   ·have e : place (a :: l) i = place l i + 1 := by rw [place_cons, if_neg h1, if_neg h2]
    have e2 : (place l i + 1).toNat = (place l i).toNat + 1 := by omega
    rw [e, e2, if_pos (by simpa using h1), List.take_succ_cons, List.drop_succ_cons, List.cons_append, ih hr2 (by omega)]
    rfl
theorem rtotal_l0 {u0 u1 : Int} {ns : List S59} (hG : Good u0 u1 ns) : ∃ K, ∀ (d k j : Nat), j + d = ns.length → K + d < k → liveryref22_Total.l0 k (sumU (uns u0 u1) (ns.take j)) j u0 u1 ns = some (sumU (uns u0 u1) ns) := by
 have : ∃ K, ∀ k, K ≤ k → ∀ x ∈ ns, liveryref22_Units.f k u0 u1 ns x.f0 x.f1.f0 x.f1.f1 = some (uns u0 u1 x) := by
  have hall : ∀ x ∈ ns, okV 0 x.f1 := fun x hx => (hG.all x hx).2.1
  have main : ∀ l : List S59, (∀ x ∈ l, okV 0 x.f1) → ∃ K, ∀ k, K ≤ k → ∀ x ∈ l, liveryref22_Units.f k u0 u1 ns x.f0 x.f1.f0 x.f1.f1 = some (uns u0 u1 x) := by
   intro l hx
   induction l with
   | nil => exact ⟨0, fun _ _ _ h => by cases h⟩
   | cons a l ih =>
    obtain ⟨K1, h1⟩ := ih fun x h => hx x (by simp [h])
    obtain ⟨K2, h2⟩ := runits_ev ns hG.unit (hx a (by simp))
    refine ⟨K1 + K2, fun k hk x h => ?_⟩
    rcases List.mem_cons.1 h with rfl | h
    ·exact h2 k (by omega)
    ·exact h1 k (by omega) x h
  exact main ns hall
 obtain ⟨K, hK⟩ := this
 refine ⟨K, fun d => ?_⟩
 induction d with
 | zero =>
  intro k j h hk
  obtain ⟨k, rfl⟩ : ∃ m, k = m + 1 := ⟨k - 1, by omega⟩
  simp only [liveryref22_Total.l0]
  rw [if_neg (by omega), List.take_of_length_le (by omega)]
 | succ d ih =>
  intro k j h hk
  obtain ⟨k, rfl⟩ : ∃ m, k = m + 1 := ⟨k - 1, by omega⟩
  simp only [liveryref22_Total.l0]
  have hj : j < ns.length := by omega
  have hl := hG.len
  have er : rd_T59 ns (j : Int) = ns[j] := by unfold rd_T59; rw [Int.toNat_natCast, List.getD_eq_getElem?_getD, List.getElem?_eq_getElem hj]; rfl
  have hs := sumU_step (uns u0 u1) ns j hj
  have hb := sum_bound (uns u0 u1) (ns.take j) (fun x hx => hG.units x (List.mem_of_mem_take hx))
  have hu := hG.units _ (List.getElem_mem hj)
  have hlt : (ns.take j).length ≤ 32 := by rw [List.length_take]; omega
  rw [if_pos (by omega), if_pos (by omega), er, hK k (by omega) _ (List.getElem_mem hj), Option.bind_some, w64 (by unfold b64; omega), ← hs, show wrap64 ((j : Int) + 1) = ((j + 1 : Nat) : Int) by unfold wrap64; omega]
  exact ih k (j + 1) (by omega) (by omega)
theorem rtotal_ev {u0 u1 : Int} {ns : List S59} (hG : Good u0 u1 ns) : Ev (fun k => liveryref22_Total.f k u0 u1 ns) (sumU (uns u0 u1) ns) := by
 obtain ⟨K, h⟩ := rtotal_l0 hG
 refine ⟨K + ns.length + 1, fun k hk => ?_⟩
 have := h ns.length k 0 (by omega) (by omega)
 rw [List.take_zero] at this
 exact this
end Go.Proofs.YthibppfdonepoaaGreat.NodeT
set_option linter.unusedVariables false
set_option linter.unusedSimpArgs false
namespace Go.Proofs.YthibppfdonepoaaGreat.LedT
open Go.RowKit Go.MapKept Go.Maps Go.ChangeMaps Go.Proofs.YthibppfdonepoaaGreat.XBut Go.Proofs.YthibppfdonepoaaGreat.XMap Go.Proofs.YthibppfdonepoaaGreat.NodeT Go.Proofs.YthibppfdonepoaaGreatW.PrintWords Go.Proofs.YthibppfdonepoaaGreatW.PrintLast
theorem node_at {w : World} {A : Option Addr} {n : Nat} {xs : List Nd} (h : Kd.C PNodePlays.k59 w A n xs) (hn : xs.length = n) (j : Nat) (hj : j < n) (hj2 : j < xs.length) : ∃ ad, A = some ad ∧ w.cell? (ad.add (j * 3)) = some (.int .u32 xs[j].f0) ∧ w.cell? ⟨(ad.add (j * 3)).block, (ad.add (j * 3)).off + 1, none⟩ = some (.int .i64 xs[j].f1.f0) ∧ w.cell? ⟨(ad.add (j * 3)).block, (ad.add (j * 3)).off + 2, none⟩ = some (.int .i64 xs[j].f1.f1) := by
 subst hn
 obtain ⟨ad, hA, d0, d1, d2⟩ := PNodePlays.at_T59 h (j : Int) (by omega) (by omega)
 have ej : (j : Int).toNat = j := by simp
 have er : PNodePlays.rd_T59 xs (j : Int) = xs[j] := by unfold PNodePlays.rd_T59; rw [ej, List.getD_eq_getElem?_getD, List.getElem?_eq_getElem hj2]; rfl
 rw [er, ej] at d0 d1 d2
 exact ⟨ad, hA, d0, d1, d2⟩
structure DocAt (w : World) (An : Option Addr) (cn : Nat) (A : Option Addr) (c : Nat) (ns : List Nd) (bx : List Bx) : Prop where
 nodes : Kd.C PNodePlays.k59 w An ns.length ns
 cn : ns.length ≤ cn
 boxes : Kd.C PLedLib.k100 w A bx.length bx
 c : bx.length ≤ c
theorem DocAt.below {w w' : World} {An : Option Addr} {cn : Nat} {A : Option Addr} {c : Nat} {ns : List Nd} {bx : List Bx} (h : DocAt w An cn A c ns bx) (hb : Below w.heap.size w w') : DocAt w' An cn A c ns bx := ⟨Kd.C_below h.nodes hb, h.cn, Kd.C_below h.boxes hb, h.c⟩
theorem on_snoc {bx : List Bx} {j : Nat} (h : j < bx.length) (i : Int) : ((onN (bx.take (j + 1)) i).length : Int) = (onN (bx.take j) i).length + (if bx[j].f1 = i then 1 else 0) := by
 rw [take_snoc h, onN_append, List.length_append, ← onN_one bx[j] i]
 omega
theorem droom (u0 u1 : Int) (ns : List Nd) (An : Option Addr) (cn : Nat) (bx : List Bx) (A : Option Addr) (c : Nat) (last i : Int) (w : World) (hD : DocAt w An cn A c ns bx) (hG : NodeT.Good u0 u1 ns) (hl : bx.length ≤ 1000000) :
  Calls Tryz.prog 75 #[dv u0 u1 (.slice An ns.length cn) (.slice A bx.length c) last, .int .u32 i] w fun e w' => e = .returned (.int .i64 (roomN u0 u1 ns bx i)) ∧ Below w.heap.size w w' := by
 have hu113 := Tryz.underlying100
 have hu39 := Tryz.underlying59
 have hu118 := Tryz.underlying37
 have hu31 := Tryz.underlying33
 have hnl := hG.len
 have AT := rat_f u0 u1 i ns (by omega) (ns.length + 1) (by omega)
 have hpl := place_ge ns i
 have hpw := place_who ns i
 have hpa := fun h => place_at (ns := ns) (i := i) h
 obtain ⟨pl, hpe⟩ : ∃ pl, place ns i = pl := ⟨_, rfl⟩
 rw [hpe] at AT hpl hpw hpa
 obtain ⟨n, hn⟩ : ∃ n, bx.length = n := ⟨_, rfl⟩
 obtain ⟨nn, hnn⟩ : ∃ nn, ns.length = nn := ⟨_, rfl⟩
 obtain ⟨W0, hW0⟩ : ∃ W0, w.alloc (.cells #[.int .i64 u0, .int .i64 u1, .slice An nn cn, .slice A n c, .int .u32 last] 37) = W0 := ⟨_, rfl⟩
 have hB0 : Below w.heap.size w W0 := by rw [← hW0]; exact below_alloc (Below.refl _ _) _
 have k0 : W0.heap[w.heap.size]? = some (.cells #[.int .i64 u0, .int .i64 u1, .slice An nn cn, .slice A n c, .int .u32 last] 37 (0, 0)) := by rw [← hW0]; exact blk_new w _
 have DA := hD.below hB0
 have ATC := Aside0.mk (fun w' (h : Below W0.heap.size W0 w') => PNodePlays.liveryref22_At.calls (ns.length + 1) u0 u1 An cn ns i pl w' (Kd.C_below DA.nodes h) DA.cn AT)
 rw [hnn] at ATC hpl hnl
 rw [hn, hnn]
 have hl6 : (n : Int) ≤ 1000000 := by omega
 have H := Aside0.mk (And.intro DA (And.intro hn (And.intro hnn (And.intro hB0 (And.intro k0 hW0)))))
 have G := Aside0.mk (And.intro hG (And.intro hpw hpa))
 unfold dv
 have q0 := (blk_cell k0 0).trans rfl
 have q1 := (blk_cell k0 1).trans rfl
 have q2 := (blk_cell k0 2).trans rfl
 clear hD hG hl hn hnn hB0 k0 hW0 DA AT hpe hpw hpa
 obtain ⟨rr, hrr⟩ : ∃ rr, roomN u0 u1 ns bx i = rr := ⟨_, rfl⟩
 have RR := Aside0.mk hrr
 rw [hrr]
 clear hrr
 go_enter Tryz.func75, Tryz.ntmps75
 go_wp2_with fail
 rw [H.out.2.2.2.2.2]
 go_wp2_with fail
 refine (ATC.out W0 (Below.refl _ _)).mono ?_
 rintro e w1 ⟨rfl, hb1⟩
 have X := Aside0.mk hb1
 clear hb1 q0 q1 q2
 dsimp only
 by_cases hp0 : pl < 0
 ·have t1 : decide (pl < 0) = true := decide_eq_true hp0
  have E : Aside0 (roomN u0 u1 ns bx i = 0) := ⟨room_none (G.out.2.1.1 hp0)⟩
  clear hp0
  go_wp2
  go_ret
  exact ⟨by rw [← RR.out, E.out]; rfl, below_then H.out.2.2.2.1 H.out.2.2.2.1.size X.out⟩
 ·have t1 : decide (pl < 0) = false := decide_eq_false hp0
  obtain ⟨hj, hwho⟩ := G.out.2.2 (by omega)
  obtain ⟨k, hk⟩ : ∃ k, pl.toNat = k := ⟨_, rfl⟩
  have hplk : pl = (k : Int) := by omega
  obtain ⟨kN, hkN⟩ : ∃ kN, k = kN := ⟨_, rfl⟩
  subst hplk
  have hk2 : k < ns.length := by rw [H.out.2.2.1]; omega
  have hwho2 : who ns i = some ns[k] := by rw [hwho]; congr 1
  obtain ⟨ad, rfl, d0, d1, d2⟩ := node_at (H.out.2.2.1 ▸ (H.out.1.below X.out).nodes) H.out.2.2.1 k (by omega) hk2
  have hmem := List.getElem_mem hk2
  obtain ⟨KU, hKU⟩ := runits_ev ns G.out.1.unit (G.out.1.all _ hmem).2.1
  have hun := G.out.1.units _ hmem
  obtain ⟨x, hx⟩ : ∃ x, ns[k] = x := ⟨_, rfl⟩
  rw [hx] at d0 d1 d2 hwho2 hKU hun
  have hRm := room_some (u0 := u0) (u1 := u1) (bx := bx) hwho2
  obtain ⟨un, hunn⟩ : ∃ un, uns u0 u1 x = un := ⟨_, rfl⟩
  rw [hunn] at hKU hun hRm
  obtain ⟨x0, x1, x2⟩ := x
  dsimp only at d0 d1 d2 hKU
  have UC := Aside0.mk (fun w' (h : Below W0.heap.size W0 w') => PNodePlays.liveryref22_Units.calls KU u0 u1 (some ad) cn ns x0 x1 x2 un w' (Kd.C_below H.out.1.nodes h) H.out.1.cn (hKU KU (Nat.le_refl _)))
  rw [H.out.2.2.1] at UC
  have D := Aside0.mk (And.intro d0 (And.intro d1 d2))
  have HR := Aside0.mk hRm
  have hkn : (k : Int) < (nn : Int) := by omega
  clear hp0 hj hwho hk hkN hk2 hwho2 hmem hKU d0 d1 d2 hRm hx hunn
  go_upto_region 4 with (fail)
  refine XInv.region_tab [] [[], [0], [], [2], [3], [], [4, 5], [6], [1, 7], [8, 8, 0, 1, 2, 3, 4, 5, 6, 7, 8]] (fun bq jq => match jq with
    | 0 => .pointer (some ⟨w.heap.size, 0, none⟩)
    | 1 => .agg #[.int .i64 u0, .int .i64 u1, .slice (some ad) nn cn]
    | 2 => .pointer (some ⟨w.heap.size, 0, none⟩)
    | 3 => .pointer (some ⟨w.heap.size, 2, none⟩)
    | 4 => .slice (some ad) nn cn
    | 5 => .int .i64 k
    | 6 => .pointer (some (ad.add (k * 3)))
    | 7 => .agg #[.int .u32 x0, .int .i64 x1, .int .i64 x2]
    | 8 => .int .i64 un
    | 9 => .int .i64 un
    | _ => undef)
    (fun bq l w' => Below w1.heap.size w1 w')
    (by kernel_rfl) rfl (by kernel_rfl) (by kernel_rfl) (by kernel_rfl) ⟨fun _ : Nat => (0 : Nat), below_drew (Below.refl _ _)⟩ ?_ ?_
  ·intro i1 hi1 hds oi hoi bq lb w' hW hlb hcl hneed hclo
   have hi1 : i1 < 10 := hi1
   have hcs : i1 = 0 ∨ i1 = 1 ∨ i1 = 2 ∨ i1 = 3 ∨ i1 = 4 ∨ i1 = 5 ∨ i1 = 6 ∨ i1 = 7 ∨ i1 = 8 ∨ i1 = 9 := by omega
   clear hi1 hcl hneed hclo
   have ka := blk_below (blk_below H.out.2.2.2.2.1 X.out) hW
   have q0 := (blk_cell ka 0).trans rfl
   have q1 := (blk_cell ka 1).trans rfl
   have q2 := (blk_cell ka 2).trans rfl
   have d0 := pw_cell_below hW D.out.1
   have d1 := pw_cell_below hW D.out.2.1
   have d2 := pw_cell_below hW D.out.2.2
   rcases hcs with rfl | rfl | rfl | rfl | rfl | rfl | rfl | rfl | rfl | rfl
   all_goals simp only [List.getElem?_toArray, List.getElem?_cons_succ, List.getElem?_cons_zero, Option.some.injEq] at hoi
   all_goals subst hoi
   ·refine XInv.yes_tab [] (by kernel_rfl) ?_
    intro Q2 K2 hK2
    simp only [XInv.puts, XPrint.pw]
    go_simp
    exact hK2.out (.pointer (some ⟨w.heap.size, 0, none⟩)) w' ⟨bq, rfl, (by intros; first | rfl | trivial), hW⟩
   ·refine XInv.yes_tab [(14, 0)] (by kernel_rfl) ?_
    intro Q2 K2 hK2
    simp only [XInv.puts, XPrint.pw]
    go_simp
    exact hK2.out (.agg #[.int .i64 u0, .int .i64 u1, .slice (some ad) nn cn]) w' ⟨bq, rfl, (by intros; first | rfl | trivial), hW⟩
   ·refine XInv.yes_tab [] (by kernel_rfl) ?_
    intro Q2 K2 hK2
    simp only [XInv.puts, XPrint.pw]
    go_simp
    exact hK2.out (.pointer (some ⟨w.heap.size, 0, none⟩)) w' ⟨bq, rfl, (by intros; first | rfl | trivial), hW⟩
   ·refine XInv.yes_tab [(16, 2)] (by kernel_rfl) ?_
    intro Q2 K2 hK2
    simp only [XInv.puts, XPrint.pw]
    go_simp
    exact hK2.out (.pointer (some ⟨w.heap.size, 2, none⟩)) w' ⟨bq, rfl, (by intros; first | rfl | trivial), hW⟩
   ·refine XInv.yes_tab [(17, 3)] (by kernel_rfl) ?_
    intro Q2 K2 hK2
    simp only [XInv.puts, XPrint.pw]
    go_simp
    exact hK2.out (.slice (some ad) nn cn) w' ⟨bq, rfl, (by intros; first | rfl | trivial), hW⟩
   ·refine XInv.yes_tab [] (by kernel_rfl) ?_
    intro Q2 K2 hK2
    simp only [XInv.puts, XPrint.pw]
    go_simp
    exact hK2.out (.int .i64 k) w' ⟨bq, rfl, (by intros; first | rfl | trivial), hW⟩
   ·refine XInv.yes_tab [(19, 5), (18, 4)] (by kernel_rfl) ?_
    intro Q2 K2 hK2
    simp only [XInv.puts, XPrint.pw]
    go_simp
    exact hK2.out (.pointer (some (ad.add (k * 3)))) w' ⟨bq, rfl, (by intros; first | rfl | trivial), hW⟩
   ·refine XInv.yes_tab [(20, 6)] (by kernel_rfl) ?_
    intro Q2 K2 hK2
    simp only [XInv.puts, XPrint.pw]
    go_simp
    exact hK2.out (.agg #[.int .u32 x0, .int .i64 x1, .int .i64 x2]) w' ⟨bq, rfl, (by intros; first | rfl | trivial), hW⟩
   ·refine XInv.yes_tab [(21, 7), (15, 1)] (by kernel_rfl) ?_
    intro Q2 K2 hK2
    simp only [XInv.puts, XPrint.pw]
    go_simp
    go_at_call 126
    (with_reducible refine (UC.out _ (below_step X.out hW)).mono ?_)
    rintro e wz ⟨rfl, hb⟩
    exact hK2.out (.int .i64 un) wz ⟨bq, rfl, (by intros; first | rfl | trivial), below_step hW hb⟩
   ·refine XInv.yes_tab [(22, 8), (21, 7), (20, 6), (19, 5), (18, 4), (17, 3), (16, 2), (15, 1), (14, 0)] (by kernel_rfl) ?_
    intro Q2 K2 hK2
    simp only [XInv.puts, XPrint.pw] at hK2 ⊢
    go_simp
    exact hK2.out (.int .i64 un) w' ⟨bq, rfl, (by intros; first | rfl | trivial), hW⟩
  ·intro bq w' hW
   refine XInv.end_nil [(6, 9), (22, 8), (21, 7), (20, 6), (19, 5), (18, 4), (17, 3), (16, 2), (15, 1), (14, 0)] (by kernel_rfl) (by kernel_rfl) ?_
   simp only [XInv.puts, XPrint.pw]
   have E := Aside0.mk (below_step X.out hW)
   obtain ⟨w2, hw2⟩ : ∃ w2, w' = w2 := ⟨_, rfl⟩
   rw [hw2] at E ⊢
   clear hW hw2
   go_wp2_with fail
   go_loopg [6, 7] n (fun kk v6 v7 wr => ∃ j : Nat, kk = n - j ∧ v7 = .int .i64 j ∧ j ≤ n ∧ v6 = .int .i64 (un - ((onN (bx.take j) i).length : Int)) ∧ Below W0.heap.size W0 wr)
   case atStart => exact ⟨0, rfl, rfl, Nat.zero_le _, by simp [onN], E.out⟩
   obtain ⟨j, rfl, rfl, hj, rfl, hB⟩ := hrel
   have q3 := (blk_cell (blk_below H.out.2.2.2.2.1 hB) 3).trans rfl
   by_cases hlt : j < n
   ·have hjb : j < bx.length := by rw [H.out.2.1]; exact hlt
    obtain ⟨ab, rfl, _, e1, _, _⟩ := box_at (H.out.2.1 ▸ (H.out.1.below hB).boxes) H.out.2.1 j hlt hjb
    have hs := on_snoc hjb i
    have hcl : (onN (bx.take j) i).length ≤ j := Nat.le_trans (List.length_filter_le _ _) (by rw [List.length_take]; omega)
    obtain ⟨z, hz⟩ : ∃ z, bx[j].f1 = z := ⟨_, rfl⟩
    obtain ⟨cc, hcc⟩ : ∃ cc, (onN (bx.take j) i).length = cc := ⟨_, rfl⟩
    rw [hz] at e1 hs
    rw [hcc] at hs hcl ⊢
    obtain ⟨q, hq⟩ : ∃ q, (z == i) = q := ⟨_, rfl⟩
    have hlt' : (j : Int) < (n : Int) := by omega
    obtain ⟨f, hf⟩ : ∃ f, un - (cc : Int) = f := ⟨_, rfl⟩
    obtain ⟨f1, hf1⟩ : ∃ f1, f - 1 = f1 := ⟨_, rfl⟩
    have hw1 : IntKind.i64.wrap (f - 1) = f1 := by rw [IntKind.wrap_i64]; omega
    rw [hf]
    have Z := Aside0.mk (And.intro hB (And.intro hs (And.intro hf hf1)))
    clear hB hs hf hf1 hz hcc
    cases q
    ·have HQ := Aside0.mk (show ¬ z = i by simpa using hq)
     go_wp2
     clear hw1 e1 hq
     go_roundg (n - (j + 1))
     case measure => omega
     case rel => exact ⟨j + 1, rfl, by go_num, by omega, by rw [Z.out.2.1, if_neg HQ.out, Int.add_zero]; exact congrArg _ Z.out.2.2.1.symm, Z.out.1⟩
    ·have HQ := Aside0.mk (show z = i by simpa using hq)
     go_wp2
     clear hw1 e1 hq
     go_roundg (n - (j + 1))
     case measure => omega
     case rel => exact ⟨j + 1, rfl, by go_num, by omega, by rw [Z.out.2.1, if_pos HQ.out, ← Z.out.2.2.2, ← Z.out.2.2.1]; try (congr 1; omega), Z.out.1⟩
   ·have hlt' : ¬ (j : Int) < (n : Int) := by omega
    have htk : bx.take j = bx := List.take_of_length_le (by rw [H.out.2.1]; omega)
    rw [htk]
    have Z := Aside0.mk hB
    obtain ⟨f, hf⟩ : ∃ f, un - ((onN bx i).length : Int) = f := ⟨_, rfl⟩
    rw [hf]
    have F := Aside0.mk hf
    clear hB htk hf
    go_wp2
    go_ret
    exact ⟨by rw [← RR.out, HR.out, F.out]; rfl, below_then H.out.2.2.2.1 H.out.2.2.2.1.size Z.out⟩
theorem dfree (u0 u1 : Int) (ns : List Nd) (An : Option Addr) (cn : Nat) (bx : List Bx) (A : Option Addr) (c : Nat) (last : Int) (w : World) (hD : DocAt w An cn A c ns bx) (hG : NodeT.Good u0 u1 ns) (hl : bx.length ≤ 1000000) :
  Calls Tryz.prog 72 #[dv u0 u1 (.slice An ns.length cn) (.slice A bx.length c) last] w fun e w' => e = .returned (.int .i64 (freeN u0 u1 ns bx)) ∧ Below w.heap.size w w' := by
 have hu118 := Tryz.underlying37
 have hu31 := Tryz.underlying33
 obtain ⟨KT, hKT⟩ := rtotal_ev hG
 have hT := hG.total
 have FE : Aside0 (freeN u0 u1 ns bx = sumU (uns u0 u1) ns - bx.length) := ⟨rfl⟩
 obtain ⟨T, hTe⟩ : ∃ T, sumU (uns u0 u1) ns = T := ⟨_, rfl⟩
 rw [hTe] at hKT hT FE
 obtain ⟨n, hn⟩ : ∃ n, bx.length = n := ⟨_, rfl⟩
 obtain ⟨nn, hnn⟩ : ∃ nn, ns.length = nn := ⟨_, rfl⟩
 rw [hn] at hl FE
 obtain ⟨W0, hW0⟩ : ∃ W0, w.alloc (.cells #[.int .i64 u0, .int .i64 u1, .slice An nn cn, .slice A n c, .int .u32 last] 37) = W0 := ⟨_, rfl⟩
 have hB0 : Below w.heap.size w W0 := by rw [← hW0]; exact below_alloc (Below.refl _ _) _
 have k0 : W0.heap[w.heap.size]? = some (.cells #[.int .i64 u0, .int .i64 u1, .slice An nn cn, .slice A n c, .int .u32 last] 37 (0, 0)) := by rw [← hW0]; exact blk_new w _
 have TC := Aside0.mk (fun w' (h : Below W0.heap.size W0 w') => PNodePlays.liveryref22_Total.calls KT u0 u1 An cn ns T w' (Kd.C_below (hD.below hB0).nodes h) hD.cn (hKT KT (Nat.le_refl _)))
 rw [hnn] at TC
 rw [hn, hnn, FE.out]
 obtain ⟨fr, hfr⟩ : ∃ fr, T - (n : Int) = fr := ⟨_, rfl⟩
 have hr1 : IntKind.i64.wrap (T - (n : Int)) = fr := by rw [IntKind.wrap_i64]; omega
 rw [hfr]
 have H := Aside0.mk (And.intro hB0 (And.intro k0 hW0))
 unfold dv
 clear hD hG hl hn hnn hB0 k0 hW0 hKT hT hTe FE hfr
 go_enter Tryz.func72, Tryz.ntmps72
 go_upto_region 1 with (fail)
 rw [H.out.2.2]
 refine XInv.region_tab [] [[], [0], [1], [], [3], [4], [2, 5], [6, 2, 0, 1, 2, 3, 4, 5, 6]] (fun bq jq => match jq with
   | 0 => .pointer (some ⟨w.heap.size, 0, none⟩)
   | 1 => .agg #[.int .i64 u0, .int .i64 u1, .slice An nn cn]
   | 2 => .int .i64 T
   | 3 => .pointer (some ⟨w.heap.size, 3, none⟩)
   | 4 => .slice A n c
   | 5 => .int .i64 n
   | 6 => .int .i64 fr
   | 7 => .int .i64 fr
   | _ => undef)
   (fun bq l w' => Below W0.heap.size W0 w')
   (by kernel_rfl) rfl (by kernel_rfl) (by kernel_rfl) (by kernel_rfl) ⟨fun _ : Nat => (0 : Nat), below_drew (Below.refl _ _)⟩ ?_ ?_
 ·intro i1 hi1 hds oi hoi bq lb w' hW hlb hcl hneed hclo
  have hi1 : i1 < 8 := hi1
  have hcs : i1 = 0 ∨ i1 = 1 ∨ i1 = 2 ∨ i1 = 3 ∨ i1 = 4 ∨ i1 = 5 ∨ i1 = 6 ∨ i1 = 7 := by omega
  clear hi1 hcl hneed hclo
  have ka := blk_below H.out.2.1 hW
  have q0 := (blk_cell ka 0).trans rfl
  have q1 := (blk_cell ka 1).trans rfl
  have q2 := (blk_cell ka 2).trans rfl
  have q3 := (blk_cell ka 3).trans rfl
  rcases hcs with rfl | rfl | rfl | rfl | rfl | rfl | rfl | rfl
  all_goals simp only [List.getElem?_toArray, List.getElem?_cons_succ, List.getElem?_cons_zero, Option.some.injEq] at hoi
  all_goals subst hoi
  ·refine XInv.yes_tab [] (by kernel_rfl) ?_
   intro Q2 K2 hK2
   simp only [XInv.puts, XPrint.pw]
   go_simp
   exact hK2.out (.pointer (some ⟨w.heap.size, 0, none⟩)) w' ⟨bq, rfl, (by intros; first | rfl | trivial), hW⟩
  ·refine XInv.yes_tab [(3, 0)] (by kernel_rfl) ?_
   intro Q2 K2 hK2
   simp only [XInv.puts, XPrint.pw]
   go_simp
   exact hK2.out (.agg #[.int .i64 u0, .int .i64 u1, .slice An nn cn]) w' ⟨bq, rfl, (by intros; first | rfl | trivial), hW⟩
  ·refine XInv.yes_tab [(4, 1)] (by kernel_rfl) ?_
   intro Q2 K2 hK2
   simp only [XInv.puts, XPrint.pw]
   go_simp
   go_at_call 80
   (with_reducible refine (TC.out _ hW).mono ?_)
   rintro e wz ⟨rfl, hb⟩
   exact hK2.out (.int .i64 T) wz ⟨bq, rfl, (by intros; first | rfl | trivial), below_step hW hb⟩
  ·refine XInv.yes_tab [] (by kernel_rfl) ?_
   intro Q2 K2 hK2
   simp only [XInv.puts, XPrint.pw]
   go_simp
   exact hK2.out (.pointer (some ⟨w.heap.size, 3, none⟩)) w' ⟨bq, rfl, (by intros; first | rfl | trivial), hW⟩
  ·refine XInv.yes_tab [(6, 3)] (by kernel_rfl) ?_
   intro Q2 K2 hK2
   simp only [XInv.puts, XPrint.pw]
   go_simp
   exact hK2.out (.slice A n c) w' ⟨bq, rfl, (by intros; first | rfl | trivial), hW⟩
  ·refine XInv.yes_tab [(7, 4)] (by kernel_rfl) ?_
   intro Q2 K2 hK2
   simp only [XInv.puts, XPrint.pw]
   go_simp
   exact hK2.out (.int .i64 n) w' ⟨bq, rfl, (by intros; first | rfl | trivial), hW⟩
  ·refine XInv.yes_tab [(8, 5), (5, 2)] (by kernel_rfl) ?_
   intro Q2 K2 hK2
   simp only [XInv.puts, XPrint.pw]
   go_simp
   exact hK2.out (.int .i64 fr) w' ⟨bq, rfl, (by intros; first | rfl | trivial), hW⟩
  ·refine XInv.yes_tab [(9, 6), (8, 5), (7, 4), (6, 3), (5, 2), (4, 1), (3, 0)] (by kernel_rfl) ?_
   intro Q2 K2 hK2
   simp only [XInv.puts, XPrint.pw] at hK2 ⊢
   go_simp
   exact hK2.out (.int .i64 fr) w' ⟨bq, rfl, (by intros; first | rfl | trivial), hW⟩
 ·intro bq w' hW
  refine XInv.end_nil [(2, 7), (9, 6), (8, 5), (7, 4), (6, 3), (5, 2), (4, 1), (3, 0)] (by kernel_rfl) (by kernel_rfl) ?_
  simp only [XInv.puts, XPrint.pw]
  have E := Aside0.mk hW
  clear hW
  go_wp2
  go_ret
  exact ⟨rfl, below_then H.out.1 H.out.1.size E.out⟩
theorem dplace (u0 u1 : Int) (ns : List Nd) (An : Option Addr) (cn : Nat) (bx : List Bx) (A : Option Addr) (c : Nat) (last : Int) (w : World) (hD : DocAt w An cn A c ns bx) (hG : NodeT.Good u0 u1 ns) (hl : bx.length ≤ 1000000) :
  Calls Tryz.prog 91 #[dv u0 u1 (.slice An ns.length cn) (.slice A bx.length c) last] w fun e w' => e = .returned (.int .u32 (placeN u0 u1 ns bx)) ∧ Below w.heap.size w w' := by
 have hu39 := Tryz.underlying59
 have hu118 := Tryz.underlying37
 have hu31 := Tryz.underlying33
 have hnl := hG.len
 obtain ⟨n, hn⟩ : ∃ n, bx.length = n := ⟨_, rfl⟩
 obtain ⟨nn, hnn⟩ : ∃ nn, ns.length = nn := ⟨_, rfl⟩
 obtain ⟨W0, hW0⟩ : ∃ W0, w.alloc (.cells #[.int .i64 u0, .int .i64 u1, .slice An nn cn, .slice A n c, .int .u32 last] 37) = W0 := ⟨_, rfl⟩
 have hB0 : Below w.heap.size w W0 := by rw [← hW0]; exact below_alloc (Below.refl _ _) _
 have k0 : W0.heap[w.heap.size]? = some (.cells #[.int .i64 u0, .int .i64 u1, .slice An nn cn, .slice A n c, .int .u32 last] 37 (0, 0)) := by rw [← hW0]; exact blk_new w _
 have DA := hD.below hB0
 have RC := Aside0.mk (fun w' (h : Below W0.heap.size W0 w') (i : Int) => droom u0 u1 ns An cn bx A c last i w' (DA.below h) hG hl)
 unfold dv at RC
 rw [hn, hnn] at RC ⊢
 have hnl6 : (nn : Int) ≤ 32 := by omega
 have H := Aside0.mk (And.intro DA (And.intro hnn (And.intro hB0 (And.intro k0 hW0))))
 obtain ⟨pp, hpp⟩ : ∃ pp, placeN u0 u1 ns bx = pp := ⟨_, rfl⟩
 have PP := Aside0.mk hpp
 rw [hpp]
 unfold dv
 clear hD hG hl hn hnn hB0 k0 hW0 DA hpp hnl
 go_enter Tryz.func91, Tryz.ntmps91
 go_wp2_with fail
 rw [H.out.2.2.2.2]
 go_loopg [3] nn (fun kk v3 wr => ∃ j : Nat, kk = nn - j ∧ v3 = .int .i64 j ∧ j ≤ nn ∧ Below W0.heap.size W0 wr ∧ ∀ x ∈ ns.take j, roomN u0 u1 ns bx x.f0 ≤ 0)
 case atStart => exact ⟨0, rfl, rfl, Nat.zero_le _, Below.refl _ _, by simp⟩
 obtain ⟨j, rfl, rfl, hj, hB, hno⟩ := hrel
 have ka := blk_below H.out.2.2.2.1 hB
 have q2 := (blk_cell ka 2).trans rfl
 by_cases hlt : j < nn
 ·have hjb : j < ns.length := by rw [H.out.2.1]; exact hlt
  obtain ⟨ad, rfl, d0, _, _⟩ := node_at (H.out.2.1 ▸ (H.out.1.below hB).nodes) H.out.2.1 j hlt hjb
  have hpl := placeN_at (u0 := u0) (u1 := u1) (bx := bx) j hjb hno
  have htk := take_snoc hjb
  obtain ⟨i, hi⟩ : ∃ i, ns[j].f0 = i := ⟨_, rfl⟩
  rw [hi] at d0 hpl
  obtain ⟨rm, hrm⟩ : ∃ rm, roomN u0 u1 ns bx i = rm := ⟨_, rfl⟩
  have RC2 := Aside0.mk (fun w' h => hrm ▸ RC.out w' h i)
  obtain ⟨q, hq⟩ : ∃ q, decide ((0 : Int) < rm) = q := ⟨_, rfl⟩
  have hlt' : (j : Int) < (nn : Int) := by omega
  have Y := Aside0.mk (And.intro hB (And.intro ka (And.intro d0 (And.intro hno (And.intro hpl (And.intro htk (And.intro hi hrm)))))))
  clear hB ka d0 hno hpl htk hi hrm
  go_upto_region 4 with (fail)
  refine XInv.region_tab [] [[], [], [1], [2], [], [3, 4], [5], [6], [0, 7], [8]] (fun bq jq => match jq with
    | 0 => .agg #[.int .i64 u0, .int .i64 u1, .slice (some ad) nn cn, .slice A n c, .int .u32 last]
    | 1 => .pointer (some ⟨w.heap.size, 0, none⟩)
    | 2 => .pointer (some ⟨w.heap.size, 2, none⟩)
    | 3 => .slice (some ad) nn cn
    | 4 => .int .i64 j
    | 5 => .pointer (some (ad.add (j * 3)))
    | 6 => .pointer (some (ad.add (j * 3)))
    | 7 => .int .u32 i
    | 8 => .int .i64 rm
    | 9 => .bool q
    | _ => undef)
    (fun bq l w' => Below wr.heap.size wr w')
    (by kernel_rfl) rfl (by kernel_rfl) (by kernel_rfl) (by kernel_rfl) ⟨fun _ : Nat => (0 : Nat), below_drew (Below.refl _ _)⟩ ?_ ?_
  ·intro i1 hi1 hds oi hoi bq lb w' hW hlb hcl hneed hclo
   have hi1 : i1 < 10 := hi1
   have hcs : i1 = 0 ∨ i1 = 1 ∨ i1 = 2 ∨ i1 = 3 ∨ i1 = 4 ∨ i1 = 5 ∨ i1 = 6 ∨ i1 = 7 ∨ i1 = 8 ∨ i1 = 9 := by omega
   clear hi1 hcl hneed hclo
   have kb := blk_below Y.out.2.1 hW
   have q0 := (blk_cell kb 0).trans rfl
   have q1 := (blk_cell kb 1).trans rfl
   have q2 := (blk_cell kb 2).trans rfl
   have q3 := (blk_cell kb 3).trans rfl
   have q4 := (blk_cell kb 4).trans rfl
   have d0 := pw_cell_below hW Y.out.2.2.1
   rcases hcs with rfl | rfl | rfl | rfl | rfl | rfl | rfl | rfl | rfl | rfl
   all_goals simp only [List.getElem?_toArray, List.getElem?_cons_succ, List.getElem?_cons_zero, Option.some.injEq] at hoi
   all_goals subst hoi
   ·refine XInv.yes_tab [] (by kernel_rfl) ?_
    intro Q2 K2 hK2
    simp only [XInv.puts, XPrint.pw]
    go_simp
    exact hK2.out (.agg #[.int .i64 u0, .int .i64 u1, .slice (some ad) nn cn, .slice A n c, .int .u32 last]) w' ⟨bq, rfl, (by intros; first | rfl | trivial), hW⟩
   ·refine XInv.yes_tab [] (by kernel_rfl) ?_
    intro Q2 K2 hK2
    simp only [XInv.puts, XPrint.pw]
    go_simp
    exact hK2.out (.pointer (some ⟨w.heap.size, 0, none⟩)) w' ⟨bq, rfl, (by intros; first | rfl | trivial), hW⟩
   ·refine XInv.yes_tab [(13, 1)] (by kernel_rfl) ?_
    intro Q2 K2 hK2
    simp only [XInv.puts, XPrint.pw]
    go_simp
    exact hK2.out (.pointer (some ⟨w.heap.size, 2, none⟩)) w' ⟨bq, rfl, (by intros; first | rfl | trivial), hW⟩
   ·refine XInv.yes_tab [(14, 2)] (by kernel_rfl) ?_
    intro Q2 K2 hK2
    simp only [XInv.puts, XPrint.pw]
    go_simp
    exact hK2.out (.slice (some ad) nn cn) w' ⟨bq, rfl, (by intros; first | rfl | trivial), hW⟩
   ·refine XInv.yes_tab [] (by kernel_rfl) ?_
    intro Q2 K2 hK2
    simp only [XInv.puts, XPrint.pw]
    go_simp
    exact hK2.out (.int .i64 j) w' ⟨bq, rfl, (by intros; first | rfl | trivial), hW⟩
   ·refine XInv.yes_tab [(16, 4), (15, 3)] (by kernel_rfl) ?_
    intro Q2 K2 hK2
    simp only [XInv.puts, XPrint.pw]
    go_simp
    exact hK2.out (.pointer (some (ad.add (j * 3)))) w' ⟨bq, rfl, (by intros; first | rfl | trivial), hW⟩
   ·refine XInv.yes_tab [(17, 5)] (by kernel_rfl) ?_
    intro Q2 K2 hK2
    simp only [XInv.puts, XPrint.pw]
    go_simp
    exact hK2.out (.pointer (some (ad.add (j * 3)))) w' ⟨bq, rfl, (by intros; first | rfl | trivial), hW⟩
   ·refine XInv.yes_tab [(18, 6)] (by kernel_rfl) ?_
    intro Q2 K2 hK2
    simp only [XInv.puts, XPrint.pw]
    go_simp
    exact hK2.out (.int .u32 i) w' ⟨bq, rfl, (by intros; first | rfl | trivial), hW⟩
   ·refine XInv.yes_tab [(19, 7), (12, 0)] (by kernel_rfl) ?_
    intro Q2 K2 hK2
    simp only [XInv.puts, XPrint.pw]
    go_simp
    go_at_call 75
    (with_reducible refine (RC2.out _ (below_step Y.out.1 hW)).mono ?_)
    rintro e wz ⟨rfl, hb⟩
    exact hK2.out (.int .i64 rm) wz ⟨bq, rfl, (by intros; first | rfl | trivial), below_step hW hb⟩
   ·refine XInv.yes_tab [(20, 8)] (by kernel_rfl) ?_
    intro Q2 K2 hK2
    simp only [XInv.puts, XPrint.pw]
    go_simp
    exact hK2.out (.bool q) w' ⟨bq, rfl, (by intros; first | rfl | trivial), hW⟩
  ·intro bq w' hW
   refine XInv.end_nil [(21, 9), (20, 8), (19, 7), (18, 6), (17, 5), (16, 4), (15, 3), (14, 2), (13, 1), (12, 0)] (by kernel_rfl) (by kernel_rfl) ?_
   simp only [XInv.puts, XPrint.pw]
   have E := Aside0.mk (below_step Y.out.1 hW)
   have kb := blk_below Y.out.2.1 hW
   have q2 := (blk_cell kb 2).trans rfl
   have d0 := pw_cell_below hW Y.out.2.2.1
   obtain ⟨w2, hw2⟩ : ∃ w2, w' = w2 := ⟨_, rfl⟩
   rw [hw2] at E kb q2 d0 ⊢
   clear hW hw2
   cases q
   ·have hle : ¬ (0 : Int) < rm := of_decide_eq_false hq
    have F := Aside0.mk hle
    clear hle hq
    go_wp2
    clear q2 d0
    go_roundg (nn - (j + 1))
    case measure => omega
    case rel => exact ⟨j + 1, rfl, by go_num, by omega, E.out, by rw [Y.out.2.2.2.2.2.1]; intro x hx; rcases List.mem_append.1 hx with hx | hx; exact Y.out.2.2.2.1 x hx; rw [List.mem_singleton.1 hx, Y.out.2.2.2.2.2.2.1, Y.out.2.2.2.2.2.2.2]; have := F.out; omega⟩
   ·have hle : (0 : Int) < rm := of_decide_eq_true hq
    have F := Aside0.mk hle
    clear hle hq
    go_wp2
    go_ret
    exact ⟨by rw [← PP.out, Y.out.2.2.2.2.1 (by rw [Y.out.2.2.2.2.2.2.2]; exact F.out)]; rfl, below_then H.out.2.2.1 H.out.2.2.1.size E.out⟩
 ·have hlt' : ¬ (j : Int) < (nn : Int) := by omega
  have htk : ns.take j = ns := List.take_of_length_le (by rw [H.out.2.1]; omega)
  rw [htk] at hno
  have F : Aside0 (placeN u0 u1 ns bx = 0) := ⟨by
   unfold placeN
   rw [List.find?_eq_none.2 fun x hx => by have := hno x hx; simp; omega]⟩
  have Y := Aside0.mk hB
  clear hB hno htk ka
  go_wp2
  go_ret
  exact ⟨by rw [← PP.out, F.out]; rfl, below_then H.out.2.2.1 H.out.2.2.1.size Y.out⟩
theorem without_left {bx g : List Bx} (hr : bx.Pairwise fun a c => a.f0 < c.f0) (hs : ∀ y ∈ g, y ∈ bx) : (bx.filter fun x => !(g.any fun y => y.f0 == x.f0)) = leftN bx g := by
 unfold leftN
 refine List.filter_congr fun x hx => ?_
 congr 1
 rw [Bool.eq_iff_iff, List.any_eq_true, decide_eq_true_iff]
 refine ⟨fun ⟨y, hy, he⟩ => ?_, fun h => ⟨x, h, by simp⟩⟩
 have he : y.f0 = x.f0 := by simpa using he
 have hyb := hs y hy
 obtain ⟨i, hi, rfl⟩ := List.mem_iff_getElem.1 hyb
 obtain ⟨j, hj, rfl⟩ := List.mem_iff_getElem.1 hx
 have h1 := List.pairwise_iff_getElem.1 hr
 rcases Nat.lt_trichotomy i j with h | h | h
 ·have := h1 i j hi hj h
  omega
 ·subst h
  exact hy
 ·have := h1 j i hj hi h
  omega
theorem gone_sub (bx : List Bx) (o : Int) (s : Bool) (n : Nat) : ∀ y ∈ goneN bx o s n, y ∈ bx := fun y hy => (List.mem_filter.1 (List.mem_of_mem_drop hy)).1
abbrev LT : TypeId := 37
abbrev db (u0 u1 : Int) (vn vb : Value) (last : Int) : Obj := .cells #[.int .i64 u0, .int .i64 u1, vn, vb, .int .u32 last] LT
theorem set5 {w : World} {q : Nat} {a0 a1 a2 a3 a4 b0 b1 b2 b3 b4 : Value} (h : w.heap[q]? = some (.cells #[a0, a1, a2, a3, a4] LT (0, 0))) :
  (((((w.setCell ⟨q, 0, none⟩ b0).setCell ⟨q, 1, none⟩ b1).setCell ⟨q, 2, none⟩ b2).setCell ⟨q, 3, none⟩ b3).setCell ⟨q, 4, none⟩ b4).heap[q]? = some (.cells #[b0, b1, b2, b3, b4] LT (0, 0)) := by
 have h0 : (w.setCell ⟨q, 0, none⟩ b0).heap[q]? = some (.cells #[b0, a1, a2, a3, a4] LT (0, 0)) := by simpa using blk_set h 0 b0
 have h1 : ((w.setCell ⟨q, 0, none⟩ b0).setCell ⟨q, 1, none⟩ b1).heap[q]? = some (.cells #[b0, b1, a2, a3, a4] LT (0, 0)) := by simpa using blk_set h0 1 b1
 have h2 : (((w.setCell ⟨q, 0, none⟩ b0).setCell ⟨q, 1, none⟩ b1).setCell ⟨q, 2, none⟩ b2).heap[q]? = some (.cells #[b0, b1, b2, a3, a4] LT (0, 0)) := by simpa using blk_set h1 2 b2
 have h3 : ((((w.setCell ⟨q, 0, none⟩ b0).setCell ⟨q, 1, none⟩ b1).setCell ⟨q, 2, none⟩ b2).setCell ⟨q, 3, none⟩ b3).heap[q]? = some (.cells #[b0, b1, b2, b3, a4] LT (0, 0)) := by simpa using blk_set h2 3 b3
 simpa using blk_set h3 4 b4
theorem but5 {T : Nat → Prop} {w0 w : World} {q : Nat} (hb : But T w0 w) (hq : w0.heap.size ≤ q) (b0 b1 b2 b3 b4 : Value) : But T w0 (((((w.setCell ⟨q, 0, none⟩ b0).setCell ⟨q, 1, none⟩ b1).setCell ⟨q, 2, none⟩ b2).setCell ⟨q, 3, none⟩ b3).setCell ⟨q, 4, none⟩ b4) :=
 but_new (but_new (but_new (but_new (but_new hb hq 0 _) hq 1 _) hq 2 _) hq 3 _) hq 4 _
theorem But.belowF {w w' : World} (h : But (fun _ => False) w w') : Below w.heap.size w w' := ⟨h.os, h.tape, h.output, h.size, fun k hk => h.block k hk id⟩
theorem dtake_bad (u0 u1 : Int) (An A : Option Addr) (nn cn n c : Nat) (last o m : Int) (s : Bool) (w : World) (hm : mayc o m = 2) :
  Calls Tryz.prog 62 #[dv u0 u1 (.slice An nn cn) (.slice A n c) last, .int .u32 o, .bool s, .int .i64 m] w fun e w' => e = .returned (.tuple #[dv u0 u1 (.slice An nn cn) (.slice A n c) last, .slice none 0 0, .int .i64 2]) ∧ Below w.heap.size w w' := by
 have hu118 := Tryz.underlying37
 have B := dbad o m
 rw [hm] at B
 have B := Aside0.mk B
 obtain ⟨W0, hW0⟩ : ∃ W0, (w.alloc (db u0 u1 (.slice An nn cn) (.slice A n c) last)).alloc (db 0 0 (.slice none 0 0) (.slice none 0 0) 0) = W0 := ⟨_, rfl⟩
 have hB0 : Below w.heap.size w W0 := by rw [← hW0]; exact below_alloc (below_alloc (Below.refl _ _) _) _
 have k0 : W0.heap[w.heap.size]? = some (.cells #[.int .i64 u0, .int .i64 u1, .slice An nn cn, .slice A n c, .int .u32 last] LT (0, 0)) := by rw [← hW0]; exact blk_alloc (blk_new w _) _
 have k1 : W0.heap[w.heap.size + 1]? = some (.cells #[.int .i64 0, .int .i64 0, .slice none 0 0, .slice none 0 0, .int .u32 0] LT (0, 0)) := by
  have := blk_new (w.alloc (db u0 u1 (.slice An nn cn) (.slice A n c) last)) (db 0 0 (.slice none 0 0) (.slice none 0 0) 0)
  rw [World.size_alloc] at this
  rw [← hW0]; exact this
 have H := Aside0.mk (And.intro hB0 (And.intro k0 (And.intro k1 hW0)))
 unfold dv
 clear hm hB0 k0 k1 hW0
 go_enter Tryz.func62, Tryz.ntmps62
 go_wp2_with fail
 rw [H.out.2.2.2]
 refine (B.out W0).mono ?_
 rintro e wz ⟨rfl, hz⟩
 obtain rfl := hz.symm
 clear hz B
 have q0 := (blk_cell H.out.2.1 0).trans rfl
 have q1 := (blk_cell H.out.2.1 1).trans rfl
 have q2 := (blk_cell H.out.2.1 2).trans rfl
 have q3 := (blk_cell H.out.2.1 3).trans rfl
 have q4 := (blk_cell H.out.2.1 4).trans rfl
 have r0 := (blk_cell H.out.2.2.1 0).trans rfl
 have r1 := (blk_cell H.out.2.2.1 1).trans rfl
 have r2 := (blk_cell H.out.2.2.1 2).trans rfl
 have r3 := (blk_cell H.out.2.2.1 3).trans rfl
 have r4 := (blk_cell H.out.2.2.1 4).trans rfl
 have g0 := blk_frozen H.out.2.2.1 0
 have g1 := blk_frozen H.out.2.2.1 1
 have g2 := blk_frozen H.out.2.2.1 2
 have g3 := blk_frozen H.out.2.2.1 3
 have g4 := blk_frozen H.out.2.2.1 4
 dsimp only
 go_wp2
 have z0 := set5 (b0 := .int .i64 u0) (b1 := .int .i64 u1) (b2 := .slice An nn cn) (b3 := .slice A n c) (b4 := .int .u32 last) H.out.2.2.1
 have y0 := (blk_cell z0 0).trans rfl
 have y1 := (blk_cell z0 1).trans rfl
 have y2 := (blk_cell z0 2).trans rfl
 have y3 := (blk_cell z0 3).trans rfl
 have y4 := (blk_cell z0 4).trans rfl
 refine bodyPost_ret (v := .tuple #[dv u0 u1 (.slice An nn cn) (.slice A n c) last, .slice none 0 0, .int .i64 2]) (by simp [results, Tryz.results62, go_sem, dv, y0, y1, y2, y3, y4]) rfl ⟨rfl, ?_⟩
 have h2 := but5 (But.of_below (T := fun _ => False) H.out.1) (Nat.le_succ w.heap.size) (.int .i64 u0) (.int .i64 u1) (.slice An nn cn) (.slice A n c) (.int .u32 last)
 exact But.belowF h2
theorem but5T {T : Nat → Prop} {w0 w : World} {q : Nat} (hb : But T w0 w) (hq : T q) (b0 b1 b2 b3 b4 : Value) : But T w0 (((((w.setCell ⟨q, 0, none⟩ b0).setCell ⟨q, 1, none⟩ b1).setCell ⟨q, 2, none⟩ b2).setCell ⟨q, 3, none⟩ b3).setCell ⟨q, 4, none⟩ b4) :=
 ((((hb.setCell hq 0 _).setCell hq 1 _).setCell hq 2 _).setCell hq 3 _).setCell hq 4 _
theorem dtake_few (u0 u1 : Int) (An A : Option Addr) (nn cn n c : Nat) (last o m : Int) (s : Bool) (bx : List Bx) (w : World) (hC : Kd.C PLedLib.k100 w A n bx) (hn : bx.length = n) (hl : bx.length ≤ 1000000) (hm : mayc o m = 0) (hf : ((ownN bx o s).length : Int) < m) :
  Calls Tryz.prog 62 #[dv u0 u1 (.slice An nn cn) (.slice A n c) last, .int .u32 o, .bool s, .int .i64 m] w fun e w' => e = .returned (.tuple #[dv u0 u1 (.slice An nn cn) (.slice A n c) last, .slice none 0 0, .int .i64 7]) ∧ Below w.heap.size w w' := by
 have hu118 := Tryz.underlying37
 have B := dbad o m
 rw [hm] at B
 have B := Aside0.mk B
 obtain ⟨W0, hW0⟩ : ∃ W0, (w.alloc (db u0 u1 (.slice An nn cn) (.slice A n c) last)).alloc (db 0 0 (.slice none 0 0) (.slice none 0 0) 0) = W0 := ⟨_, rfl⟩
 have hB0 : Below w.heap.size w W0 := by rw [← hW0]; exact below_alloc (below_alloc (Below.refl _ _) _) _
 have k0 : W0.heap[w.heap.size]? = some (.cells #[.int .i64 u0, .int .i64 u1, .slice An nn cn, .slice A n c, .int .u32 last] LT (0, 0)) := by rw [← hW0]; exact blk_alloc (blk_new w _) _
 have k1 : W0.heap[w.heap.size + 1]? = some (.cells #[.int .i64 0, .int .i64 0, .slice none 0 0, .slice none 0 0, .int .u32 0] LT (0, 0)) := by
  have := blk_new (w.alloc (db u0 u1 (.slice An nn cn) (.slice A n c) last)) (db 0 0 (.slice none 0 0) (.slice none 0 0) 0)
  rw [World.size_alloc] at this
  rw [← hW0]; exact this
 have OF := fun w' (h : Below W0.heap.size W0 w') => dof u0 u1 (.slice An nn cn) bx A c last o s w' (hn ▸ Kd.C_below (Kd.C_below hC hB0) h) hl
 have hol : (ownN bx o s).length ≤ bx.length := List.length_filter_le _ _
 obtain ⟨q, hq⟩ : ∃ q, (ownN bx o s).length = q := ⟨_, rfl⟩
 rw [hq] at hf hol
 rw [hn] at OF
 unfold dv at OF
 have OF := Aside0.mk OF
 have t1 : decide ((q : Int) < m) = true := decide_eq_true hf
 have H := Aside0.mk (And.intro hB0 (And.intro k0 (And.intro k1 (And.intro hW0 hq))))
 unfold dv
 clear hC hn hm hB0 k0 k1 hW0 hq
 go_enter Tryz.func62, Tryz.ntmps62
 go_wp2_with fail
 rw [H.out.2.2.2.1]
 refine (B.out W0).mono ?_
 rintro e wz ⟨rfl, hz⟩
 obtain rfl := hz.symm
 clear hz B
 have q0 := (blk_cell H.out.2.1 0).trans rfl
 have q1 := (blk_cell H.out.2.1 1).trans rfl
 have q2 := (blk_cell H.out.2.1 2).trans rfl
 have q3 := (blk_cell H.out.2.1 3).trans rfl
 have q4 := (blk_cell H.out.2.1 4).trans rfl
 dsimp only
 go_wp2_with fail
 refine (OF.out W0 (Below.refl _ _)).mono ?_
 rintro e w1 ⟨v1, rfl, hR, hb1⟩
 obtain ⟨Ao, co, rfl⟩ := Kd.R_slice hR
 rw [H.out.2.2.2.2]
 have X := Aside0.mk hb1
 have k0 := blk_below H.out.2.1 hb1
 have k1 := blk_below H.out.2.2.1 hb1
 have K1 := Aside0.mk k1
 clear hb1 hR q0 q1 q2 q3 q4 OF
 have q0 := (blk_cell k0 0).trans rfl
 have q1 := (blk_cell k0 1).trans rfl
 have q2 := (blk_cell k0 2).trans rfl
 have q3 := (blk_cell k0 3).trans rfl
 have q4 := (blk_cell k0 4).trans rfl
 have r0 := (blk_cell k1 0).trans rfl
 have r1 := (blk_cell k1 1).trans rfl
 have r2 := (blk_cell k1 2).trans rfl
 have r3 := (blk_cell k1 3).trans rfl
 have r4 := (blk_cell k1 4).trans rfl
 have g0 := blk_frozen k1 0
 have g1 := blk_frozen k1 1
 have g2 := blk_frozen k1 2
 have g3 := blk_frozen k1 3
 have g4 := blk_frozen k1 4
 clear k0 k1
 dsimp only
 go_wp2
 have z0 := set5 (b0 := .int .i64 u0) (b1 := .int .i64 u1) (b2 := .slice An nn cn) (b3 := .slice A n c) (b4 := .int .u32 last) K1.out
 have y0 := (blk_cell z0 0).trans rfl
 have y1 := (blk_cell z0 1).trans rfl
 have y2 := (blk_cell z0 2).trans rfl
 have y3 := (blk_cell z0 3).trans rfl
 have y4 := (blk_cell z0 4).trans rfl
 refine bodyPost_ret (v := .tuple #[dv u0 u1 (.slice An nn cn) (.slice A n c) last, .slice none 0 0, .int .i64 7]) (by simp [results, Tryz.results62, go_sem, dv, y0, y1, y2, y3, y4]) rfl ⟨rfl, ?_⟩
 exact But.belowF (but5 (But.of_below (T := fun _ => False) (below_then H.out.1 H.out.1.size X.out)) (Nat.le_succ w.heap.size) (.int .i64 u0) (.int .i64 u1) (.slice An nn cn) (.slice A n c) (.int .u32 last))
theorem dtake_ok (u0 u1 : Int) (An A : Option Addr) (nn cn n c : Nat) (last o : Int) (N : Nat) (s : Bool) (bx : List Bx) (w : World) (hC : Kd.C PLedLib.k100 w A n bx) (hn : bx.length = n) (hl : bx.length ≤ 1000000) (hr : bx.Pairwise fun a c => a.f0 < c.f0) (hm : mayc o N = 0) (hf : N ≤ (ownN bx o s).length) :
  Calls Tryz.prog 62 #[dv u0 u1 (.slice An nn cn) (.slice A n c) last, .int .u32 o, .bool s, .int .i64 N] w fun e w' => ∃ vb' Ag cg, e = .returned (.tuple #[dv u0 u1 (.slice An nn cn) vb' last, .slice Ag N cg, .int .i64 0]) ∧ RB w' w.heap.size vb' (leftN bx (goneN bx o s N)) ∧ (∀ (T : Nat → Prop) (w'' : World), (∀ k, T k → k < w.heap.size) → But T w' w'' → Kd.C PLedLib.k100 w'' Ag N (goneN bx o s N)) ∧ N ≤ cg ∧ Below w.heap.size w w' := by
 have hu118 := Tryz.underlying37
 have B := dbad o N
 rw [hm] at B
 have B := Aside0.mk B
 obtain ⟨W0, hW0⟩ : ∃ W0, (w.alloc (db u0 u1 (.slice An nn cn) (.slice A n c) last)).alloc (db 0 0 (.slice none 0 0) (.slice none 0 0) 0) = W0 := ⟨_, rfl⟩
 have hB0 : Below w.heap.size w W0 := by rw [← hW0]; exact below_alloc (below_alloc (Below.refl _ _) _) _
 have k0 : W0.heap[w.heap.size]? = some (.cells #[.int .i64 u0, .int .i64 u1, .slice An nn cn, .slice A n c, .int .u32 last] LT (0, 0)) := by rw [← hW0]; exact blk_alloc (blk_new w _) _
 have k1 : W0.heap[w.heap.size + 1]? = some (.cells #[.int .i64 0, .int .i64 0, .slice none 0 0, .slice none 0 0, .int .u32 0] LT (0, 0)) := by
  have := blk_new (w.alloc (db u0 u1 (.slice An nn cn) (.slice A n c) last)) (db 0 0 (.slice none 0 0) (.slice none 0 0) 0)
  rw [World.size_alloc] at this
  rw [← hW0]; exact this
 have C0 := Kd.C_below hC hB0
 have OF := fun w' (h : Below W0.heap.size W0 w') => dof u0 u1 (.slice An nn cn) bx A c last o s w' (hn ▸ Kd.C_below C0 h) hl
 have hol : (ownN bx o s).length ≤ bx.length := List.length_filter_le _ _
 have hgl : (goneN bx o s N).length = N := by unfold goneN; rw [List.length_drop]; omega
 have hwl := without_left hr (gone_sub bx o s N)
 obtain ⟨q, hq⟩ : ∃ q, (ownN bx o s).length = q := ⟨_, rfl⟩
 rw [hq] at hf hol
 rw [hn] at OF hol hl
 unfold dv at OF
 have OF := Aside0.mk OF
 have t1 : decide ((q : Int) < (N : Int)) = false := decide_eq_false (by omega)
 have t2 : ¬ (q : Int) < (N : Int) := by omega
 have t3 : decide (q < N) = false := decide_eq_false (by omega)
 obtain ⟨d, hd⟩ : ∃ d, q - N = d := ⟨_, rfl⟩
 have hw : IntKind.i64.wrap ((q : Int) - (N : Int)) = (d : Int) := by rw [IntKind.wrap_i64]; omega
 have hdq : d + N = q := by omega
 have H := Aside0.mk (And.intro hB0 (And.intro k0 (And.intro k1 (And.intro hW0 (And.intro hq (And.intro hd (And.intro hgl (And.intro hwl (And.intro C0 hn)))))))))
 unfold dv
 clear hC hn hm hB0 k0 k1 hW0 hq hd hgl hwl hr C0
 go_enter Tryz.func62, Tryz.ntmps62
 go_wp2_with fail
 rw [H.out.2.2.2.1]
 refine (B.out W0).mono ?_
 rintro e wz ⟨rfl, hz⟩
 obtain rfl := hz.symm
 clear hz B
 have q0 := (blk_cell H.out.2.1 0).trans rfl
 have q1 := (blk_cell H.out.2.1 1).trans rfl
 have q2 := (blk_cell H.out.2.1 2).trans rfl
 have q3 := (blk_cell H.out.2.1 3).trans rfl
 have q4 := (blk_cell H.out.2.1 4).trans rfl
 dsimp only
 go_wp2_with fail
 refine (OF.out W0 (Below.refl _ _)).mono ?_
 rintro e w1 ⟨v1, rfl, hR, hb1⟩
 obtain ⟨Ao, co, rfl⟩ := Kd.R_slice hR
 obtain ⟨_, hmc, hC1⟩ := Kd.R_reads' hR
 have eg : (ownN bx o s).drop d = goneN bx o s N := by unfold goneN; rw [H.out.2.2.2.2.1, H.out.2.2.2.2.2.1]
 rw [H.out.2.2.2.2.1] at hmc hR ⊢
 have OR := Aside0.mk hR
 obtain ⟨i0, hi0, _, hsz, _⟩ := info_parts PLedLib.info100
 have hcut := cut_from (P := Tryz.prog) 34 100 .i64 Tryz.underlying34 hi0 4 hsz Ao q co (d : Int) (by omega) (by omega)
 simp only [Int.toNat_natCast] at hcut
 obtain ⟨A2, hA2⟩ : ∃ A2, (if co = d then Ao else Option.map (fun x => x.add (d * 4)) Ao) = A2 := ⟨_, rfl⟩
 have DD : Aside0 (∀ W', RB W' W0.heap.size (.slice Ao q co) (ownN bx o s) → Kd.C PLedLib.k100 W' A2 N (goneN bx o s N)) := ⟨fun W' hr => by
  have hD := Kd.C_drop (m := d) (c := co) (Kd.R_reads' hr).2.2 (by rw [H.out.2.2.2.2.1]; omega) (by rw [H.out.2.2.2.2.1]; exact hmc)
  rw [eg, H.out.2.2.2.2.2.2.1] at hD
  rw [← hA2]
  exact hD⟩
 have hD := DD.out w1 hR
 rw [hA2] at hcut
 have emN : q - d = N := by omega
 rw [emN] at hcut
 obtain ⟨c2, hc2⟩ : ∃ c2, co - d = c2 := ⟨_, rfl⟩
 rw [hc2] at hcut
 have hNc : N ≤ c2 := by omega
 have WC := dwithout bx (goneN bx o s N) A A2 c c2 w1 (H.out.2.2.2.2.2.2.2.2.2.symm ▸ Kd.C_below H.out.2.2.2.2.2.2.2.2.1 hb1) (H.out.2.2.2.2.2.2.1.symm ▸ hD) (by rw [H.out.2.2.2.2.2.2.2.2.2]; exact hl) (by rw [H.out.2.2.2.2.2.2.1]; omega)
 rw [H.out.2.2.2.2.2.2.1, H.out.2.2.2.2.2.2.2.2.2, H.out.2.2.2.2.2.2.2.1] at WC
 have WC := Aside0.mk WC
 have k0 := blk_below H.out.2.1 hb1
 have k1 := blk_below H.out.2.2.1 hb1
 have X := Aside0.mk (And.intro hb1 (And.intro k0 (And.intro k1 (And.intro hD hNc))))
 clear hb1 hR q0 q1 q2 q3 q4 OF hmc hC1 eg hi0 hsz hA2 hD hc2 hNc emN k1
 have q3 := (blk_cell k0 3).trans rfl
 clear k0
 dsimp only
 go_wp2_with fail
 refine WC.out.mono ?_
 rintro e w2 ⟨vb, rfl, hRb, hb2⟩
 obtain ⟨Ab, cb, rfl⟩ := Kd.R_slice hRb
 obtain ⟨lb, hlb⟩ : ∃ lb, (leftN bx (goneN bx o s N)).length = lb := ⟨_, rfl⟩
 rw [hlb] at hRb ⊢
 have k0 := blk_below X.out.2.1 hb2
 have k1 := blk_below X.out.2.2.1 hb2
 have f3 := blk_frozen k0 3
 have p3 := (blk_cell k0 3).trans rfl
 obtain ⟨w3, hw3⟩ : ∃ w3, w2.setCell ⟨w.heap.size, 3, none⟩ (.slice Ab lb cb) = w3 := ⟨_, rfl⟩
 have k03 : w3.heap[w.heap.size]? = some (.cells #[.int .i64 u0, .int .i64 u1, .slice An nn cn, .slice Ab lb cb, .int .u32 last] LT (0, 0)) := by rw [← hw3]; simpa using blk_set k0 3 (.slice Ab lb cb)
 have hB3 : But (fun k => k = w.heap.size) w2 w3 := by rw [← hw3]; exact (But.refl (fun k => k = w.heap.size) w2).setCell (b := w.heap.size) rfl 3 _
 have k13 := hB3.heap k1 (by omega)
 have hb12 := below_step X.out.1 hb2
 have hBw : Below w.heap.size w w2 := below_then H.out.1 H.out.1.size hb12
 have hs0 := H.out.1.size
 have hs1 := X.out.1.size
 have hW1 : w.heap.size + 1 < W0.heap.size := blk_lt H.out.2.2.1
 have V := Aside0.mk (And.intro hRb (And.intro k03 (And.intro k13 (And.intro hB3 (And.intro hBw (Kd.C_below X.out.2.2.2.1 hb2))))))
 have HW3 := Aside0.mk hw3
 have HB2 := Aside0.mk hb2
 clear hRb hlb hb2 q3 k0 k1 WC hb12 hBw hw3
 dsimp only
 go_upto_region 9 with (fail)
 rw [HW3.out]
 have q0 := (blk_cell k03 0).trans rfl
 have q1 := (blk_cell k03 1).trans rfl
 have q2 := (blk_cell k03 2).trans rfl
 have q3 := (blk_cell k03 3).trans rfl
 have q4 := (blk_cell k03 4).trans rfl
 have r0 := (blk_cell k13 0).trans rfl
 have r1 := (blk_cell k13 1).trans rfl
 have r2 := (blk_cell k13 2).trans rfl
 have r3 := (blk_cell k13 3).trans rfl
 have r4 := (blk_cell k13 4).trans rfl
 have g0 := blk_frozen k13 0
 have g1 := blk_frozen k13 1
 have g2 := blk_frozen k13 2
 have g3 := blk_frozen k13 3
 have g4 := blk_frozen k13 4
 clear f3 p3 k03 k13 hB3
 go_wp2
 have z0 := set5 (b0 := .int .i64 u0) (b1 := .int .i64 u1) (b2 := .slice An nn cn) (b3 := .slice Ab lb cb) (b4 := .int .u32 last) V.out.2.2.1
 have y0 := (blk_cell z0 0).trans rfl
 have y1 := (blk_cell z0 1).trans rfl
 have y2 := (blk_cell z0 2).trans rfl
 have y3 := (blk_cell z0 3).trans rfl
 have y4 := (blk_cell z0 4).trans rfl
 have FIN := Aside0.mk (but5T ((But.refl (fun k => k = w.heap.size ∨ k = w.heap.size + 1) w2).trans (V.out.2.2.2.1.mono fun k h => .inl h)) (q := w.heap.size + 1) (.inr rfl) (.int .i64 u0) (.int .i64 u1) (.slice An nn cn) (.slice Ab lb cb) (.int .u32 last))
 refine bodyPost_ret (v := .tuple #[dv u0 u1 (.slice An nn cn) (.slice Ab lb cb) last, .slice A2 N c2, .int .i64 0]) (by simp [results, Tryz.results62, go_sem, dv, y0, y1, y2, y3, y4]) rfl ⟨_, _, _, rfl, ?_, ?_, X.out.2.2.2.2, ?_⟩
 ·exact Kd.R_lower (Kd.R_step V.out.1 (fun k hk hlt => (FIN.out).block k hlt (by have := Kd.R_base V.out.1 k hk; omega))) (by omega)
 ·intro T w'' hT hbT
  exact DD.out _ (Kd.R_step (Kd.R_step (Kd.R_below OR.out HB2.out) (fun k hk hlt => (FIN.out).block k hlt (by have := Kd.R_base OR.out k hk; omega))) (fun k hk hlt => hbT.block k hlt (fun ht => by have := Kd.R_base OR.out k hk; have := hT k ht; omega)))
 ·exact But.below V.out.2.2.2.2.1 (Nat.le_refl _) FIN.out (fun k hk => by omega)
theorem set3 {w : World} {q : Nat} {t : TypeId} {a0 a1 a2 b0 b1 b2 : Value} (h : w.heap[q]? = some (.cells #[a0, a1, a2] t (0, 0))) :
  (((w.setCell ⟨q, 0, none⟩ b0).setCell ⟨q, 1, none⟩ b1).setCell ⟨q, 2, none⟩ b2).heap[q]? = some (.cells #[b0, b1, b2] t (0, 0)) := by
 have h0 : (w.setCell ⟨q, 0, none⟩ b0).heap[q]? = some (.cells #[b0, a1, a2] t (0, 0)) := by simpa using blk_set h 0 b0
 have h1 : ((w.setCell ⟨q, 0, none⟩ b0).setCell ⟨q, 1, none⟩ b1).heap[q]? = some (.cells #[b0, b1, a2] t (0, 0)) := by simpa using blk_set h0 1 b1
 simpa using blk_set h1 2 b2
theorem but3T {T : Nat → Prop} {w0 w : World} {q : Nat} (hb : But T w0 w) (hq : T q) (b0 b1 b2 : Value) : But T w0 (((w.setCell ⟨q, 0, none⟩ b0).setCell ⟨q, 1, none⟩ b1).setCell ⟨q, 2, none⟩ b2) :=
 ((hb.setCell hq 0 _).setCell hq 1 _).setCell hq 2 _
theorem rlose_no (u0 u1 i : Int) (An : Option Addr) (nn cn : Nat) (ns : List Nd) (w : World) (hC : Kd.C PNodePlays.k59 w An nn ns) (hn : ns.length = nn) (hc : nn ≤ cn) (hl : nn ≤ 32) (hw : who ns i = none) :
  Calls Tryz.prog 113 #[.agg #[.int .i64 u0, .int .i64 u1, .slice An nn cn], .int .u32 i] w fun e w' => e = .returned (.tuple #[.agg #[.int .i64 u0, .int .i64 u1, .slice An nn cn], .agg #[.int .u32 0, .int .i64 0, .int .i64 0], .int .i64 7]) ∧ Below w.heap.size w w' := by
 have hu31 := Tryz.underlying33
 have hu39 := Tryz.underlying59
 subst hn
 have AT := rat_f u0 u1 i ns (by omega) (ns.length + 1) (by omega)
 have hpl := (place_who ns i).2 hw
 obtain ⟨pl, hpe⟩ : ∃ pl, place ns i = pl := ⟨_, rfl⟩
 rw [hpe] at AT hpl
 have t1 : decide (pl < 0) = true := decide_eq_true hpl
 have AC := fun w' (h : Below w.heap.size w w') => PNodePlays.liveryref22_At.calls (ns.length + 1) u0 u1 An cn ns i pl w' (Kd.C_below hC h) hc AT
 obtain ⟨nn, hnn⟩ : ∃ nn, ns.length = nn := ⟨_, rfl⟩
 rw [hnn] at AC ⊢
 have AC := Aside0.mk AC
 obtain ⟨W0, hW0⟩ : ∃ W0, ((w.alloc (.cells #[.int .i64 u0, .int .i64 u1, .slice An nn cn] 33)).alloc (.cells #[.int .i64 0, .int .i64 0, .slice none 0 0] 33)).alloc (.cells #[.int .u32 0, .int .i64 0, .int .i64 0] 59) = W0 := ⟨_, rfl⟩
 have hB0 : Below w.heap.size w W0 := by rw [← hW0]; exact below_alloc (below_alloc (below_alloc (Below.refl _ _) _) _) _
 have k0 : W0.heap[w.heap.size]? = some (.cells #[.int .i64 u0, .int .i64 u1, .slice An nn cn] 33 (0, 0)) := by rw [← hW0]; exact blk_alloc (blk_alloc (blk_new w _) _) _
 have k1 : W0.heap[w.heap.size + 1]? = some (.cells #[.int .i64 0, .int .i64 0, .slice none 0 0] 33 (0, 0)) := by
  have := blk_alloc (blk_new (w.alloc (.cells #[.int .i64 u0, .int .i64 u1, .slice An nn cn] 33)) (.cells #[.int .i64 0, .int .i64 0, .slice none 0 0] 33)) (.cells #[.int .u32 0, .int .i64 0, .int .i64 0] 59)
  rw [World.size_alloc] at this
  rw [← hW0]; exact this
 have k2 : W0.heap[w.heap.size + 1 + 1]? = some (.cells #[.int .u32 0, .int .i64 0, .int .i64 0] 59 (0, 0)) := by
  have := blk_new ((w.alloc (.cells #[.int .i64 u0, .int .i64 u1, .slice An nn cn] 33)).alloc (.cells #[.int .i64 0, .int .i64 0, .slice none 0 0] 33)) (.cells #[.int .u32 0, .int .i64 0, .int .i64 0] 59)
  rw [World.size_alloc, World.size_alloc] at this
  rw [← hW0]; exact this
 have H := Aside0.mk (And.intro hB0 (And.intro k0 (And.intro k1 (And.intro k2 hW0))))
 have q0 := (blk_cell k0 0).trans rfl
 have q1 := (blk_cell k0 1).trans rfl
 have q2 := (blk_cell k0 2).trans rfl
 clear hC hc hl hw AT hpl hpe hnn hB0 k0 k1 k2 hW0
 go_enter Tryz.func113, Tryz.ntmps113
 go_wp2_with fail
 rw [H.out.2.2.2.2]
 go_wp2_with fail
 refine (AC.out W0 H.out.1).mono ?_
 rintro e w1 ⟨rfl, hb1⟩
 have X := Aside0.mk hb1
 have k0 := blk_below H.out.2.1 hb1
 have k1 := blk_below H.out.2.2.1 hb1
 have k2 := blk_below H.out.2.2.2.1 hb1
 have K := Aside0.mk (And.intro k1 k2)
 clear q0 q1 q2 hb1 AC
 have q0 := (blk_cell k0 0).trans rfl
 have q1 := (blk_cell k0 1).trans rfl
 have q2 := (blk_cell k0 2).trans rfl
 have r0 := (blk_cell k1 0).trans rfl
 have r1 := (blk_cell k1 1).trans rfl
 have r2 := (blk_cell k1 2).trans rfl
 have g0 := blk_frozen k1 0
 have g1 := blk_frozen k1 1
 have g2 := blk_frozen k1 2
 have s0 := (blk_cell k2 0).trans rfl
 have s1 := (blk_cell k2 1).trans rfl
 have s2 := (blk_cell k2 2).trans rfl
 have f0 := blk_frozen k2 0
 have f1 := blk_frozen k2 1
 have f2 := blk_frozen k2 2
 clear k0 k1 k2
 dsimp only
 go_wp2
 have z1 := set3 (b0 := .int .i64 u0) (b1 := .int .i64 u1) (b2 := .slice An nn cn) K.out.1
 have hb3 := but3T (But.refl (fun k => k = w.heap.size + 1) w1) rfl (.int .i64 u0) (.int .i64 u1) (.slice An nn cn)
 have z2 := set3 (b0 := .int .u32 0) (b1 := .int .i64 0) (b2 := .int .i64 0) (hb3.heap K.out.2 (by omega))
 have hb4 := but3T (T := fun k => k = w.heap.size + 1 ∨ k = w.heap.size + 1 + 1) (hb3.mono fun k h => .inl h) (q := w.heap.size + 1 + 1) (.inr rfl) (.int .u32 0) (.int .i64 0) (.int .i64 0)
 have hb5 := but3T (But.refl (fun k => k = w.heap.size + 1 + 1) (((w1.setCell ⟨w.heap.size + 1, 0, none⟩ (.int .i64 u0)).setCell ⟨w.heap.size + 1, 1, none⟩ (.int .i64 u1)).setCell ⟨w.heap.size + 1, 2, none⟩ (.slice An nn cn))) rfl (.int .u32 0) (.int .i64 0) (.int .i64 0)
 have z1' := hb5.heap z1 (by omega)
 have y0 := (blk_cell z1' 0).trans rfl
 have y1 := (blk_cell z1' 1).trans rfl
 have y2 := (blk_cell z1' 2).trans rfl
 have x0 := (blk_cell z2 0).trans rfl
 have x1 := (blk_cell z2 1).trans rfl
 have x2 := (blk_cell z2 2).trans rfl
 refine bodyPost_ret (v := .tuple #[.agg #[.int .i64 u0, .int .i64 u1, .slice An nn cn], .agg #[.int .u32 0, .int .i64 0, .int .i64 0], .int .i64 7]) (by simp [results, Tryz.results113, go_sem, y0, y1, y2, x0, x1, x2]) rfl ⟨rfl, ?_⟩
 exact But.below (below_then H.out.1 H.out.1.size X.out) (Nat.le_refl _) hb4 (fun k hk => by omega)
theorem dlose_no (u0 u1 : Int) (An A : Option Addr) (nn cn n c : Nat) (last i : Int) (ns : List Nd) (w : World) (hC : Kd.C PNodePlays.k59 w An nn ns) (hn : ns.length = nn) (hc : nn ≤ cn) (hl : nn ≤ 32) (hw : who ns i = none) :
  Calls Tryz.prog 61 #[dv u0 u1 (.slice An nn cn) (.slice A n c) last, .int .u32 i] w fun e w' => e = .returned (.tuple #[dv u0 u1 (.slice An nn cn) (.slice A n c) last, .slice none 0 0, .int .i64 7]) ∧ Below w.heap.size w w' := by
 have hu118 := Tryz.underlying37
 have hu31 := Tryz.underlying33
 have hu39 := Tryz.underlying59
 obtain ⟨W0, hW0⟩ : ∃ W0, (w.alloc (db u0 u1 (.slice An nn cn) (.slice A n c) last)).alloc (db 0 0 (.slice none 0 0) (.slice none 0 0) 0) = W0 := ⟨_, rfl⟩
 have hB0 : Below w.heap.size w W0 := by rw [← hW0]; exact below_alloc (below_alloc (Below.refl _ _) _) _
 have k0 : W0.heap[w.heap.size]? = some (.cells #[.int .i64 u0, .int .i64 u1, .slice An nn cn, .slice A n c, .int .u32 last] LT (0, 0)) := by rw [← hW0]; exact blk_alloc (blk_new w _) _
 have k1 : W0.heap[w.heap.size + 1]? = some (.cells #[.int .i64 0, .int .i64 0, .slice none 0 0, .slice none 0 0, .int .u32 0] LT (0, 0)) := by
  have := blk_new (w.alloc (db u0 u1 (.slice An nn cn) (.slice A n c) last)) (db 0 0 (.slice none 0 0) (.slice none 0 0) 0)
  rw [World.size_alloc] at this
  rw [← hW0]; exact this
 have LC := Aside0.mk (rlose_no u0 u1 i An nn cn ns W0 (Kd.C_below hC hB0) hn hc hl hw)
 have H := Aside0.mk (And.intro hB0 (And.intro k0 (And.intro k1 hW0)))
 have q0 := (blk_cell k0 0).trans rfl
 have q1 := (blk_cell k0 1).trans rfl
 have q2 := (blk_cell k0 2).trans rfl
 have q3 := (blk_cell k0 3).trans rfl
 have q4 := (blk_cell k0 4).trans rfl
 unfold dv
 clear hC hn hc hl hw hB0 k0 k1 hW0
 go_enter Tryz.func61, Tryz.ntmps61
 go_wp2_with fail
 rw [H.out.2.2.2]
 go_wp2_with fail
 refine LC.out.mono ?_
 rintro e w1 ⟨rfl, hb1⟩
 have X := Aside0.mk hb1
 clear q0 q1 q2 q3 q4 hb1 LC
 dsimp only
 go_upto_region 3 with (fail)
 obtain ⟨w2, hw2⟩ : ∃ w2, (w1.alloc (.cells #[.int .i64 u0, .int .i64 u1, .slice An nn cn] 33)).alloc (.cells #[.int .u32 0, .int .i64 0, .int .i64 0] 59) = w2 := ⟨_, rfl⟩
 have hb2 : Below W0.heap.size W0 w2 := by rw [← hw2]; exact below_alloc (below_alloc X.out _) _
 rw [hw2]
 have k0 := blk_below H.out.2.1 hb2
 have k1 := blk_below H.out.2.2.1 hb2
 have Z := Aside0.mk (And.intro hb2 k1)
 clear hw2 hb2
 have q0 := (blk_cell k0 0).trans rfl
 have q1 := (blk_cell k0 1).trans rfl
 have q2 := (blk_cell k0 2).trans rfl
 have q3 := (blk_cell k0 3).trans rfl
 have q4 := (blk_cell k0 4).trans rfl
 have r0 := (blk_cell k1 0).trans rfl
 have r1 := (blk_cell k1 1).trans rfl
 have r2 := (blk_cell k1 2).trans rfl
 have r3 := (blk_cell k1 3).trans rfl
 have r4 := (blk_cell k1 4).trans rfl
 have g0 := blk_frozen k1 0
 have g1 := blk_frozen k1 1
 have g2 := blk_frozen k1 2
 have g3 := blk_frozen k1 3
 have g4 := blk_frozen k1 4
 clear k0 k1
 go_wp2
 have z0 := set5 (b0 := .int .i64 u0) (b1 := .int .i64 u1) (b2 := .slice An nn cn) (b3 := .slice A n c) (b4 := .int .u32 last) Z.out.2
 have y0 := (blk_cell z0 0).trans rfl
 have y1 := (blk_cell z0 1).trans rfl
 have y2 := (blk_cell z0 2).trans rfl
 have y3 := (blk_cell z0 3).trans rfl
 have y4 := (blk_cell z0 4).trans rfl
 refine bodyPost_ret (v := .tuple #[dv u0 u1 (.slice An nn cn) (.slice A n c) last, .slice none 0 0, .int .i64 7]) (by simp [results, Tryz.results61, go_sem, dv, y0, y1, y2, y3, y4]) rfl ⟨rfl, ?_⟩
 exact But.belowF (but5 (But.of_below (T := fun _ => False) (below_then H.out.1 H.out.1.size Z.out.1)) (Nat.le_succ w.heap.size) (.int .i64 u0) (.int .i64 u1) (.slice An nn cn) (.slice A n c) (.int .u32 last))
end Go.Proofs.YthibppfdonepoaaGreat.LedT
