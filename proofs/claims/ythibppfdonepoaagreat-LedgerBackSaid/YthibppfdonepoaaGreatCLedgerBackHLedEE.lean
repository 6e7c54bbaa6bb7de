/- liveryref23: Room, Free, place. liveryref23: Take. liveryref23: Take. liveryref22.Lose, liveryref23.Lose where no such node is. liveryref23.Lose where the node is. liveryref23.Give, refused. liveryref23.Give: the world while a row with one box more is put together. -/
import Derived.Test.YthibppfdonepoaaGreatCLedgerBackHLedGG
import Derived.Test.YthibppfdonepoaaGreatCLedgerBackHNodeV
import Derived.Test.YthibppfdonepoaaGreatCLedgerBackPNodePlaysx0
import Derived.Test.YthibppfdonepoaaGreatCLedgerBackPNodePlaysx1
import Derived.Test.YthibppfdonepoaaGreatCLedgerBackPNodePlaysx10
import Derived.Test.YthibppfdonepoaaGreatCLedgerBackPNodePlaysx11
import Derived.Test.YthibppfdonepoaaGreatCLedgerBackPNodePlaysx12
import Derived.Test.YthibppfdonepoaaGreatCLedgerBackPNodePlaysx13
import Derived.Test.YthibppfdonepoaaGreatCLedgerBackPNodePlaysx14
import Derived.Test.YthibppfdonepoaaGreatCLedgerBackPNodePlaysx16
import Derived.Test.YthibppfdonepoaaGreatCLedgerBackPNodePlaysx17
import Derived.Test.YthibppfdonepoaaGreatCLedgerBackPNodePlaysx2
import Derived.Test.YthibppfdonepoaaGreatCLedgerBackPNodePlaysx3
import Derived.Test.YthibppfdonepoaaGreatCLedgerBackPNodePlaysx4
import Derived.Test.YthibppfdonepoaaGreatCLedgerBackPNodePlaysx5
import Derived.Test.YthibppfdonepoaaGreatCLedgerBackPNodePlaysx7
import Derived.Test.YthibppfdonepoaaGreatCLedgerBackPNodePlaysx8
import Derived.Test.YthibppfdonepoaaGreatCLedgerBackPNodePlaysx9
set_option linter.unusedVariables false
set_option linter.unusedSimpArgs false
namespace Go.Proofs.YthibppfdonepoaaGreat.LedT
open Go.RowKit Go.MapKept Go.Maps Go.ChangeMaps Go.Proofs.YthibppfdonepoaaGreat.XBut Go.Proofs.YthibppfdonepoaaGreat.XMap Go.Proofs.YthibppfdonepoaaGreat.NodeT Go.Proofs.YthibppfdonepoaaGreatW.PrintWords Go.Proofs.YthibppfdonepoaaGreatW.PrintLast
theorem node_at {w : World} {A : Option Addr} {n : Nat} {xs : List Nd} (h : Kd.C PNodePlays.k59 w A n xs) (hn : xs.length = n) (j : Nat) (hj : j < n) (hj2 : j < xs.length) : ∃ ad, A = some ad ∧ w.cell? (ad.add (j * 3)) = some (.int .u32 xs[j].f0) ∧ w.cell? ⟨(ad.add (j * 3)).block, (ad.add (j * 3)).off + 1, none⟩ = some (.int .i64 xs[j].f1.f0) ∧ w.cell? ⟨(ad.add (j * 3)).block, (ad.add (j * 3)).off + 2, none⟩ = some (.int .i64 xs[j].f1.f1) := by
 subst hn
 obtain ⟨ad, hA, d0, d1, d2⟩ := PNodePlays.at_T59 h (j : Int) (by omega) (by omega)
 have ej : (j : Int).toNat = j := by simp
 have er : PNodePlays.rd_T59 xs (j : Int) = xs[j] := by unfold PNodePlays.rd_T59; rw [ej, List.getD_eq_getElem?_getD, List.getElem?_eq_getElem hj2]; rfl
 rw [er, ej] at d0 d1 d2
 exact ⟨ad, hA, d0, d1, d2⟩
structure DocAt (w : World) (An : Option Addr) (cn : Nat) (A : Option Addr) (c : Nat) (ns : List Nd) (bx : List Bx) : Prop where
 nodes : Kd.C PNodePlays.k59 w An ns.length ns
 cn : ns.length ≤ cn
 boxes : Kd.C PLedLib.k100 w A bx.length bx
 c : bx.length ≤ c
theorem DocAt.below {w w' : World} {An : Option Addr} {cn : Nat} {A : Option Addr} {c : Nat} {ns : List Nd} {bx : List Bx} (h : DocAt w An cn A c ns bx) (hb : Below w.heap.size w w') : DocAt w' An cn A c ns bx := ⟨Kd.C_below h.nodes hb, h.cn, Kd.C_below h.boxes hb, h.c⟩
theorem on_snoc {bx : List Bx} {j : Nat} (h : j < bx.length) (i : Int) : ((onN (bx.take (j + 1)) i).length : Int) = (onN (bx.take j) i).length + (if bx[j].f1 = i then 1 else 0) := by
 rw [take_snoc h, onN_append, List.length_append, ← onN_one bx[j] i]
 omega
set_option maxHeartbeats 8000000 in
set_option maxRecDepth 100000 in
theorem droom (u0 u1 : Int) (ns : List Nd) (An : Option Addr) (cn : Nat) (bx : List Bx) (A : Option Addr) (c : Nat) (last i : Int) (w : World) (hD : DocAt w An cn A c ns bx) (hG : NodeT.Good u0 u1 ns) (hl : bx.length ≤ 1000000) :
  Calls Tryz.prog 75 #[dv u0 u1 (.slice An ns.length cn) (.slice A bx.length c) last, .int .u32 i] w fun e w' => e = .returned (.int .i64 (roomN u0 u1 ns bx i)) ∧ Below w.heap.size w w' := by
 have hu113 := Tryz.underlying100
 have hu39 := Tryz.underlying59
 have hu118 := Tryz.underlying37
 have hu31 := Tryz.underlying33
 have hnl := hG.len
 have AT := rat_f u0 u1 i ns (by omega) (ns.length + 1) (by omega)
 have hpl := place_ge ns i
 have hpw := place_who ns i
 have hpa := fun h => place_at (ns := ns) (i := i) h
 obtain ⟨pl, hpe⟩ : ∃ pl, place ns i = pl := ⟨_, rfl⟩
 rw [hpe] at AT hpl hpw hpa
 obtain ⟨n, hn⟩ : ∃ n, bx.length = n := ⟨_, rfl⟩
 obtain ⟨nn, hnn⟩ : ∃ nn, ns.length = nn := ⟨_, rfl⟩
 obtain ⟨W0, hW0⟩ : ∃ W0, w.alloc (.cells #[.int .i64 u0, .int .i64 u1, .slice An nn cn, .slice A n c, .int .u32 last] 37) = W0 := ⟨_, rfl⟩
 have hB0 : Below w.heap.size w W0 := by rw [← hW0]; exact below_alloc (Below.refl _ _) _
 have k0 : W0.heap[w.heap.size]? = some (.cells #[.int .i64 u0, .int .i64 u1, .slice An nn cn, .slice A n c, .int .u32 last] 37 (0, 0)) := by rw [← hW0]; exact blk_new w _
 have DA := hD.below hB0
 have ATC := Aside0.mk (fun w' (h : Below W0.heap.size W0 w') => PNodePlays.liveryref22_At.calls (ns.length + 1) u0 u1 An cn ns i pl w' (Kd.C_below DA.nodes h) DA.cn AT)
 rw [hnn] at ATC hpl hnl
 rw [hn, hnn]
 have hl6 : (n : Int) ≤ 1000000 := by omega
 have H := Aside0.mk (And.intro DA (And.intro hn (And.intro hnn (And.intro hB0 (And.intro k0 hW0)))))
 have G := Aside0.mk (And.intro hG (And.intro hpw hpa))
 unfold dv
 have q0 := (blk_cell k0 0).trans rfl
 have q1 := (blk_cell k0 1).trans rfl
 have q2 := (blk_cell k0 2).trans rfl
 clear hD hG hl hn hnn hB0 k0 hW0 DA AT hpe hpw hpa
 obtain ⟨rr, hrr⟩ : ∃ rr, roomN u0 u1 ns bx i = rr := ⟨_, rfl⟩
 have RR := Aside0.mk hrr
 rw [hrr]
 clear hrr
 go_enter Tryz.func75, Tryz.ntmps75
 go_wp2_with fail
 rw [H.out.2.2.2.2.2]
 go_wp2_with fail
 refine (ATC.out W0 (Below.refl _ _)).mono ?_
 rintro e w1 ⟨rfl, hb1⟩
 have X := Aside0.mk hb1
 clear hb1 q0 q1 q2
 dsimp only
 by_cases hp0 : pl < 0
 ·have t1 : decide (pl < 0) = true := decide_eq_true hp0
  have E : Aside0 (roomN u0 u1 ns bx i = 0) := ⟨room_none (G.out.2.1.1 hp0)⟩
  clear hp0
  go_wp2
  go_ret
  exact ⟨by rw [← RR.out, E.out]; rfl, below_then H.out.2.2.2.1 H.out.2.2.2.1.size X.out⟩
 ·have t1 : decide (pl < 0) = false := decide_eq_false hp0
  obtain ⟨hj, hwho⟩ := G.out.2.2 (by omega)
  obtain ⟨k, hk⟩ : ∃ k, pl.toNat = k := ⟨_, rfl⟩
  have hplk : pl = (k : Int) := by omega
  obtain ⟨kN, hkN⟩ : ∃ kN, k = kN := ⟨_, rfl⟩
  subst hplk
  have hk2 : k < ns.length := by rw [H.out.2.2.1]; omega
  have hwho2 : who ns i = some ns[k] := by rw [hwho]; congr 1
  obtain ⟨ad, rfl, d0, d1, d2⟩ := node_at (H.out.2.2.1 ▸ (H.out.1.below X.out).nodes) H.out.2.2.1 k (by omega) hk2
  have hmem := List.getElem_mem hk2
  obtain ⟨KU, hKU⟩ := runits_ev ns G.out.1.unit (G.out.1.all _ hmem).2.1
  have hun := G.out.1.units _ hmem
  obtain ⟨x, hx⟩ : ∃ x, ns[k] = x := ⟨_, rfl⟩
  rw [hx] at d0 d1 d2 hwho2 hKU hun
  have hRm := room_some (u0 := u0) (u1 := u1) (bx := bx) hwho2
  obtain ⟨un, hunn⟩ : ∃ un, uns u0 u1 x = un := ⟨_, rfl⟩
  rw [hunn] at hKU hun hRm
  obtain ⟨x0, x1, x2⟩ := x
  dsimp only at d0 d1 d2 hKU
  have UC := Aside0.mk (fun w' (h : Below W0.heap.size W0 w') => PNodePlays.liveryref22_Units.calls KU u0 u1 (some ad) cn ns x0 x1 x2 un w' (Kd.C_below H.out.1.nodes h) H.out.1.cn (hKU KU (Nat.le_refl _)))
  rw [H.out.2.2.1] at UC
  have D := Aside0.mk (And.intro d0 (And.intro d1 d2))
  have HR := Aside0.mk hRm
  have hkn : (k : Int) < (nn : Int) := by omega
  clear hp0 hj hwho hk hkN hk2 hwho2 hmem hKU d0 d1 d2 hRm hx hunn
  go_upto_region 4 with (fail)
  refine XInv.region_tab [] [[], [0], [], [2], [3], [], [4, 5], [6], [1, 7], [8, 8, 0, 1, 2, 3, 4, 5, 6, 7, 8]] (fun bq jq => match jq with
    | 0 => .pointer (some ⟨w.heap.size, 0, none⟩)
    | 1 => .agg #[.int .i64 u0, .int .i64 u1, .slice (some ad) nn cn]
    | 2 => .pointer (some ⟨w.heap.size, 0, none⟩)
    | 3 => .pointer (some ⟨w.heap.size, 2, none⟩)
    | 4 => .slice (some ad) nn cn
    | 5 => .int .i64 k
    | 6 => .pointer (some (ad.add (k * 3)))
    | 7 => .agg #[.int .u32 x0, .int .i64 x1, .int .i64 x2]
    | 8 => .int .i64 un
    | 9 => .int .i64 un
    | _ => undef)
    (fun bq l w' => Below w1.heap.size w1 w')
    (by kernel_rfl) rfl (by kernel_rfl) (by kernel_rfl) (by kernel_rfl) ⟨fun _ : Nat => (0 : Nat), below_drew (Below.refl _ _)⟩ ?_ ?_
  ·intro i1 hi1 hds oi hoi bq lb w' hW hlb hcl hneed hclo
   have hi1 : i1 < 10 := hi1
   have hcs : i1 = 0 ∨ i1 = 1 ∨ i1 = 2 ∨ i1 = 3 ∨ i1 = 4 ∨ i1 = 5 ∨ i1 = 6 ∨ i1 = 7 ∨ i1 = 8 ∨ i1 = 9 := by omega
   clear hi1 hcl hneed hclo
   have ka := blk_below (blk_below H.out.2.2.2.2.1 X.out) hW
   have q0 := (blk_cell ka 0).trans rfl
   have q1 := (blk_cell ka 1).trans rfl
   have q2 := (blk_cell ka 2).trans rfl
   have d0 := pw_cell_below hW D.out.1
   have d1 := pw_cell_below hW D.out.2.1
   have d2 := pw_cell_below hW D.out.2.2
   rcases hcs with rfl | rfl | rfl | rfl | rfl | rfl | rfl | rfl | rfl | rfl
   all_goals simp only [List.getElem?_toArray, List.getElem?_cons_succ, List.getElem?_cons_zero, Option.some.injEq] at hoi
   all_goals subst hoi
   ·refine XInv.yes_tab [] (by kernel_rfl) ?_
    intro Q2 K2 hK2
    simp only [XInv.puts, XPrint.pw]
    go_simp
    exact hK2.out (.pointer (some ⟨w.heap.size, 0, none⟩)) w' ⟨bq, rfl, (by intros; first | rfl | trivial), hW⟩
   ·refine XInv.yes_tab [(14, 0)] (by kernel_rfl) ?_
    intro Q2 K2 hK2
    simp only [XInv.puts, XPrint.pw]
    go_simp
    exact hK2.out (.agg #[.int .i64 u0, .int .i64 u1, .slice (some ad) nn cn]) w' ⟨bq, rfl, (by intros; first | rfl | trivial), hW⟩
   ·refine XInv.yes_tab [] (by kernel_rfl) ?_
    intro Q2 K2 hK2
    simp only [XInv.puts, XPrint.pw]
    go_simp
    exact hK2.out (.pointer (some ⟨w.heap.size, 0, none⟩)) w' ⟨bq, rfl, (by intros; first | rfl | trivial), hW⟩
   ·refine XInv.yes_tab [(16, 2)] (by kernel_rfl) ?_
    intro Q2 K2 hK2
    simp only [XInv.puts, XPrint.pw]
    go_simp
    exact hK2.out (.pointer (some ⟨w.heap.size, 2, none⟩)) w' ⟨bq, rfl, (by intros; first | rfl | trivial), hW⟩
   ·refine XInv.yes_tab [(17, 3)] (by kernel_rfl) ?_
    intro Q2 K2 hK2
    simp only [XInv.puts, XPrint.pw]
    go_simp
    exact hK2.out (.slice (some ad) nn cn) w' ⟨bq, rfl, (by intros; first | rfl | trivial), hW⟩
   ·refine XInv.yes_tab [] (by kernel_rfl) ?_
    intro Q2 K2 hK2
    simp only [XInv.puts, XPrint.pw]
    go_simp
    exact hK2.out (.int .i64 k) w' ⟨bq, rfl, (by intros; first | rfl | trivial), hW⟩
   ·refine XInv.yes_tab [(19, 5), (18, 4)] (by kernel_rfl) ?_
    intro Q2 K2 hK2
    simp only [XInv.puts, XPrint.pw]
    go_simp
    exact hK2.out (.pointer (some (ad.add (k * 3)))) w' ⟨bq, rfl, (by intros; first | rfl | trivial), hW⟩
   ·refine XInv.yes_tab [(20, 6)] (by kernel_rfl) ?_
    intro Q2 K2 hK2
    simp only [XInv.puts, XPrint.pw]
    go_simp
    exact hK2.out (.agg #[.int .u32 x0, .int .i64 x1, .int .i64 x2]) w' ⟨bq, rfl, (by intros; first | rfl | trivial), hW⟩
   ·refine XInv.yes_tab [(21, 7), (15, 1)] (by kernel_rfl) ?_
    intro Q2 K2 hK2
    simp only [XInv.puts, XPrint.pw]
    go_simp
    go_at_call 126
    (with_reducible refine (UC.out _ (below_step X.out hW)).mono ?_)
    rintro e wz ⟨rfl, hb⟩
    exact hK2.out (.int .i64 un) wz ⟨bq, rfl, (by intros; first | rfl | trivial), below_step hW hb⟩
   ·refine XInv.yes_tab [(22, 8), (21, 7), (20, 6), (19, 5), (18, 4), (17, 3), (16, 2), (15, 1), (14, 0)] (by kernel_rfl) ?_
    intro Q2 K2 hK2
    simp only [XInv.puts, XPrint.pw] at hK2 ⊢
    go_simp
    exact hK2.out (.int .i64 un) w' ⟨bq, rfl, (by intros; first | rfl | trivial), hW⟩
  ·intro bq w' hW
   refine XInv.end_nil [(6, 9), (22, 8), (21, 7), (20, 6), (19, 5), (18, 4), (17, 3), (16, 2), (15, 1), (14, 0)] (by kernel_rfl) (by kernel_rfl) ?_
   simp only [XInv.puts, XPrint.pw]
   have E := Aside0.mk (below_step X.out hW)
   obtain ⟨w2, hw2⟩ : ∃ w2, w' = w2 := ⟨_, rfl⟩
   rw [hw2] at E ⊢
   clear hW hw2
   go_wp2_with fail
   go_loopg [6, 7] n (fun kk v6 v7 wr => ∃ j : Nat, kk = n - j ∧ v7 = .int .i64 j ∧ j ≤ n ∧ v6 = .int .i64 (un - ((onN (bx.take j) i).length : Int)) ∧ Below W0.heap.size W0 wr)
   case atStart => exact ⟨0, rfl, rfl, Nat.zero_le _, by simp [onN], E.out⟩
   obtain ⟨j, rfl, rfl, hj, rfl, hB⟩ := hrel
   have q3 := (blk_cell (blk_below H.out.2.2.2.2.1 hB) 3).trans rfl
   by_cases hlt : j < n
   ·have hjb : j < bx.length := by rw [H.out.2.1]; exact hlt
    obtain ⟨ab, rfl, _, e1, _, _⟩ := box_at (H.out.2.1 ▸ (H.out.1.below hB).boxes) H.out.2.1 j hlt hjb
    have hs := on_snoc hjb i
    have hcl : (onN (bx.take j) i).length ≤ j := Nat.le_trans (List.length_filter_le _ _) (by rw [List.length_take]; omega)
    obtain ⟨z, hz⟩ : ∃ z, bx[j].f1 = z := ⟨_, rfl⟩
    obtain ⟨cc, hcc⟩ : ∃ cc, (onN (bx.take j) i).length = cc := ⟨_, rfl⟩
    rw [hz] at e1 hs
    rw [hcc] at hs hcl ⊢
    obtain ⟨q, hq⟩ : ∃ q, (z == i) = q := ⟨_, rfl⟩
    have hlt' : (j : Int) < (n : Int) := by omega
    obtain ⟨f, hf⟩ : ∃ f, un - (cc : Int) = f := ⟨_, rfl⟩
    obtain ⟨f1, hf1⟩ : ∃ f1, f - 1 = f1 := ⟨_, rfl⟩
    have hw1 : IntKind.i64.wrap (f - 1) = f1 := by rw [IntKind.wrap_i64]; omega
    rw [hf]
    have Z := Aside0.mk (And.intro hB (And.intro hs (And.intro hf hf1)))
    clear hB hs hf hf1 hz hcc
    cases q
    ·have HQ := Aside0.mk (show ¬ z = i by simpa using hq)
     go_wp2
     clear hw1 e1 hq
     go_roundg (n - (j + 1))
     case measure => omega
     case rel => exact ⟨j + 1, rfl, by go_num, by omega, by rw [Z.out.2.1, if_neg HQ.out, Int.add_zero]; exact congrArg _ Z.out.2.2.1.symm, Z.out.1⟩
    ·have HQ := Aside0.mk (show z = i by simpa using hq)
     go_wp2
     clear hw1 e1 hq
     go_roundg (n - (j + 1))
     case measure => omega
     case rel => exact ⟨j + 1, rfl, by go_num, by omega, by rw [Z.out.2.1, if_pos HQ.out, ← Z.out.2.2.2, ← Z.out.2.2.1]; try (congr 1; omega), Z.out.1⟩
   ·have hlt' : ¬ (j : Int) < (n : Int) := by omega
    have htk : bx.take j = bx := List.take_of_length_le (by rw [H.out.2.1]; omega)
    rw [htk]
    have Z := Aside0.mk hB
    obtain ⟨f, hf⟩ : ∃ f, un - ((onN bx i).length : Int) = f := ⟨_, rfl⟩
    rw [hf]
    have F := Aside0.mk hf
    clear hB htk hf
    go_wp2
    go_ret
    exact ⟨by rw [← RR.out, HR.out, F.out]; rfl, below_then H.out.2.2.2.1 H.out.2.2.2.1.size Z.out⟩
set_option maxHeartbeats 8000000 in
set_option maxRecDepth 100000 in
theorem dfree (u0 u1 : Int) (ns : List Nd) (An : Option Addr) (cn : Nat) (bx : List Bx) (A : Option Addr) (c : Nat) (last : Int) (w : World) (hD : DocAt w An cn A c ns bx) (hG : NodeT.Good u0 u1 ns) (hl : bx.length ≤ 1000000) :
  Calls Tryz.prog 72 #[dv u0 u1 (.slice An ns.length cn) (.slice A bx.length c) last] w fun e w' => e = .returned (.int .i64 (freeN u0 u1 ns bx)) ∧ Below w.heap.size w w' := by
 have hu118 := Tryz.underlying37
 have hu31 := Tryz.underlying33
 obtain ⟨KT, hKT⟩ := rtotal_ev hG
 have hT := hG.total
 have FE : Aside0 (freeN u0 u1 ns bx = sumU (uns u0 u1) ns - bx.length) := ⟨rfl⟩
 obtain ⟨T, hTe⟩ : ∃ T, sumU (uns u0 u1) ns = T := ⟨_, rfl⟩
 rw [hTe] at hKT hT FE
 obtain ⟨n, hn⟩ : ∃ n, bx.length = n := ⟨_, rfl⟩
 obtain ⟨nn, hnn⟩ : ∃ nn, ns.length = nn := ⟨_, rfl⟩
 rw [hn] at hl FE
 obtain ⟨W0, hW0⟩ : ∃ W0, w.alloc (.cells #[.int .i64 u0, .int .i64 u1, .slice An nn cn, .slice A n c, .int .u32 last] 37) = W0 := ⟨_, rfl⟩
 have hB0 : Below w.heap.size w W0 := by rw [← hW0]; exact below_alloc (Below.refl _ _) _
 have k0 : W0.heap[w.heap.size]? = some (.cells #[.int .i64 u0, .int .i64 u1, .slice An nn cn, .slice A n c, .int .u32 last] 37 (0, 0)) := by rw [← hW0]; exact blk_new w _
 have TC := Aside0.mk (fun w' (h : Below W0.heap.size W0 w') => PNodePlays.liveryref22_Total.calls KT u0 u1 An cn ns T w' (Kd.C_below (hD.below hB0).nodes h) hD.cn (hKT KT (Nat.le_refl _)))
 rw [hnn] at TC
 rw [hn, hnn, FE.out]
 obtain ⟨fr, hfr⟩ : ∃ fr, T - (n : Int) = fr := ⟨_, rfl⟩
 have hr1 : IntKind.i64.wrap (T - (n : Int)) = fr := by rw [IntKind.wrap_i64]; omega
 rw [hfr]
 have H := Aside0.mk (And.intro hB0 (And.intro k0 hW0))
 unfold dv
 clear hD hG hl hn hnn hB0 k0 hW0 hKT hT hTe FE hfr
 go_enter Tryz.func72, Tryz.ntmps72
 go_upto_region 1 with (fail)
 rw [H.out.2.2]
 refine XInv.region_tab [] [[], [0], [1], [], [3], [4], [2, 5], [6, 2, 0, 1, 2, 3, 4, 5, 6]] (fun bq jq => match jq with
   | 0 => .pointer (some ⟨w.heap.size, 0, none⟩)
   | 1 => .agg #[.int .i64 u0, .int .i64 u1, .slice An nn cn]
   | 2 => .int .i64 T
   | 3 => .pointer (some ⟨w.heap.size, 3, none⟩)
   | 4 => .slice A n c
   | 5 => .int .i64 n
   | 6 => .int .i64 fr
   | 7 => .int .i64 fr
   | _ => undef)
   (fun bq l w' => Below W0.heap.size W0 w')
   (by kernel_rfl) rfl (by kernel_rfl) (by kernel_rfl) (by kernel_rfl) ⟨fun _ : Nat => (0 : Nat), below_drew (Below.refl _ _)⟩ ?_ ?_
 ·intro i1 hi1 hds oi hoi bq lb w' hW hlb hcl hneed hclo
  have hi1 : i1 < 8 := hi1
  have hcs : i1 = 0 ∨ i1 = 1 ∨ i1 = 2 ∨ i1 = 3 ∨ i1 = 4 ∨ i1 = 5 ∨ i1 = 6 ∨ i1 = 7 := by omega
  clear hi1 hcl hneed hclo
  have ka := blk_below H.out.2.1 hW
  have q0 := (blk_cell ka 0).trans rfl
  have q1 := (blk_cell ka 1).trans rfl
  have q2 := (blk_cell ka 2).trans rfl
  have q3 := (blk_cell ka 3).trans rfl
  rcases hcs with rfl | rfl | rfl | rfl | rfl | rfl | rfl | rfl
  all_goals simp only [List.getElem?_toArray, List.getElem?_cons_succ, List.getElem?_cons_zero, Option.some.injEq] at hoi
  all_goals subst hoi
  ·refine XInv.yes_tab [] (by kernel_rfl) ?_
   intro Q2 K2 hK2
   simp only [XInv.puts, XPrint.pw]
   go_simp
   exact hK2.out (.pointer (some ⟨w.heap.size, 0, none⟩)) w' ⟨bq, rfl, (by intros; first | rfl | trivial), hW⟩
  ·refine XInv.yes_tab [(3, 0)] (by kernel_rfl) ?_
   intro Q2 K2 hK2
   simp only [XInv.puts, XPrint.pw]
   go_simp
   exact hK2.out (.agg #[.int .i64 u0, .int .i64 u1, .slice An nn cn]) w' ⟨bq, rfl, (by intros; first | rfl | trivial), hW⟩
  ·refine XInv.yes_tab [(4, 1)] (by kernel_rfl) ?_
   intro Q2 K2 hK2
   simp only [XInv.puts, XPrint.pw]
   go_simp
   go_at_call 80
   (with_reducible refine (TC.out _ hW).mono ?_)
   rintro e wz ⟨rfl, hb⟩
   exact hK2.out (.int .i64 T) wz ⟨bq, rfl, (by intros; first | rfl | trivial), below_step hW hb⟩
  ·refine XInv.yes_tab [] (by kernel_rfl) ?_
   intro Q2 K2 hK2
   simp only [XInv.puts, XPrint.pw]
   go_simp
   exact hK2.out (.pointer (some ⟨w.heap.size, 3, none⟩)) w' ⟨bq, rfl, (by intros; first | rfl | trivial), hW⟩
  ·refine XInv.yes_tab [(6, 3)] (by kernel_rfl) ?_
   intro Q2 K2 hK2
   simp only [XInv.puts, XPrint.pw]
   go_simp
   exact hK2.out (.slice A n c) w' ⟨bq, rfl, (by intros; first | rfl | trivial), hW⟩
  ·refine XInv.yes_tab [(7, 4)] (by kernel_rfl) ?_
   intro Q2 K2 hK2
   simp only [XInv.puts, XPrint.pw]
   go_simp
   exact hK2.out (.int .i64 n) w' ⟨bq, rfl, (by intros; first | rfl | trivial), hW⟩
  ·refine XInv.yes_tab [(8, 5), (5, 2)] (by kernel_rfl) ?_
   intro Q2 K2 hK2
   simp only [XInv.puts, XPrint.pw]
   go_simp
   exact hK2.out (.int .i64 fr) w' ⟨bq, rfl, (by intros; first | rfl | trivial), hW⟩
  ·refine XInv.yes_tab [(9, 6), (8, 5), (7, 4), (6, 3), (5, 2), (4, 1), (3, 0)] (by kernel_rfl) ?_
   intro Q2 K2 hK2
   simp only [XInv.puts, XPrint.pw] at hK2 ⊢
   go_simp
   exact hK2.out (.int .i64 fr) w' ⟨bq, rfl, (by intros; first | rfl | trivial), hW⟩
 ·intro bq w' hW
  refine XInv.end_nil [(2, 7), (9, 6), (8, 5), (7, 4), (6, 3), (5, 2), (4, 1), (3, 0)] (by kernel_rfl) (by kernel_rfl) ?_
  simp only [XInv.puts, XPrint.pw]
  have E := Aside0.mk hW
  clear hW
  go_wp2
  go_ret
  exact ⟨rfl, below_then H.out.1 H.out.1.size E.out⟩
set_option maxHeartbeats 8000000 in
set_option maxRecDepth 100000 in
theorem dplace (u0 u1 : Int) (ns : List Nd) (An : Option Addr) (cn : Nat) (bx : List Bx) (A : Option Addr) (c : Nat) (last : Int) (w : World) (hD : DocAt w An cn A c ns bx) (hG : NodeT.Good u0 u1 ns) (hl : bx.length ≤ 1000000) :
  Calls Tryz.prog 91 #[dv u0 u1 (.slice An ns.length cn) (.slice A bx.length c) last] w fun e w' => e = .returned (.int .u32 (placeN u0 u1 ns bx)) ∧ Below w.heap.size w w' := by
 have hu39 := Tryz.underlying59
 have hu118 := Tryz.underlying37
 have hu31 := Tryz.underlying33
 have hnl := hG.len
 obtain ⟨n, hn⟩ : ∃ n, bx.length = n := ⟨_, rfl⟩
 obtain ⟨nn, hnn⟩ : ∃ nn, ns.length = nn := ⟨_, rfl⟩
 obtain ⟨W0, hW0⟩ : ∃ W0, w.alloc (.cells #[.int .i64 u0, .int .i64 u1, .slice An nn cn, .slice A n c, .int .u32 last] 37) = W0 := ⟨_, rfl⟩
 have hB0 : Below w.heap.size w W0 := by rw [← hW0]; exact below_alloc (Below.refl _ _) _
 have k0 : W0.heap[w.heap.size]? = some (.cells #[.int .i64 u0, .int .i64 u1, .slice An nn cn, .slice A n c, .int .u32 last] 37 (0, 0)) := by rw [← hW0]; exact blk_new w _
 have DA := hD.below hB0
 have RC := Aside0.mk (fun w' (h : Below W0.heap.size W0 w') (i : Int) => droom u0 u1 ns An cn bx A c last i w' (DA.below h) hG hl)
 unfold dv at RC
 rw [hn, hnn] at RC ⊢
 have hnl6 : (nn : Int) ≤ 32 := by omega
 have H := Aside0.mk (And.intro DA (And.intro hnn (And.intro hB0 (And.intro k0 hW0))))
 obtain ⟨pp, hpp⟩ : ∃ pp, placeN u0 u1 ns bx = pp := ⟨_, rfl⟩
 have PP := Aside0.mk hpp
 rw [hpp]
 unfold dv
 clear hD hG hl hn hnn hB0 k0 hW0 DA hpp hnl
 go_enter Tryz.func91, Tryz.ntmps91
 go_wp2_with fail
 rw [H.out.2.2.2.2]
 go_loopg [3] nn (fun kk v3 wr => ∃ j : Nat, kk = nn - j ∧ v3 = .int .i64 j ∧ j ≤ nn ∧ Below W0.heap.size W0 wr ∧ ∀ x ∈ ns.take j, roomN u0 u1 ns bx x.f0 ≤ 0)
 case atStart => exact ⟨0, rfl, rfl, Nat.zero_le _, Below.refl _ _, by simp⟩
 obtain ⟨j, rfl, rfl, hj, hB, hno⟩ := hrel
 have ka := blk_below H.out.2.2.2.1 hB
 have q2 := (blk_cell ka 2).trans rfl
 by_cases hlt : j < nn
 ·have hjb : j < ns.length := by rw [H.out.2.1]; exact hlt
  obtain ⟨ad, rfl, d0, _, _⟩ := node_at (H.out.2.1 ▸ (H.out.1.below hB).nodes) H.out.2.1 j hlt hjb
  have hpl := placeN_at (u0 := u0) (u1 := u1) (bx := bx) j hjb hno
  have htk := take_snoc hjb
  obtain ⟨i, hi⟩ : ∃ i, ns[j].f0 = i := ⟨_, rfl⟩
  rw [hi] at d0 hpl
  obtain ⟨rm, hrm⟩ : ∃ rm, roomN u0 u1 ns bx i = rm := ⟨_, rfl⟩
  have RC2 := Aside0.mk (fun w' h => hrm ▸ RC.out w' h i)
  obtain ⟨q, hq⟩ : ∃ q, decide ((0 : Int) < rm) = q := ⟨_, rfl⟩
  have hlt' : (j : Int) < (nn : Int) := by omega
  have Y := Aside0.mk (And.intro hB (And.intro ka (And.intro d0 (And.intro hno (And.intro hpl (And.intro htk (And.intro hi hrm)))))))
  clear hB ka d0 hno hpl htk hi hrm
  go_upto_region 4 with (fail)
  refine XInv.region_tab [] [[], [], [1], [2], [], [3, 4], [5], [6], [0, 7], [8]] (fun bq jq => match jq with
    | 0 => .agg #[.int .i64 u0, .int .i64 u1, .slice (some ad) nn cn, .slice A n c, .int .u32 last]
    | 1 => .pointer (some ⟨w.heap.size, 0, none⟩)
    | 2 => .pointer (some ⟨w.heap.size, 2, none⟩)
    | 3 => .slice (some ad) nn cn
    | 4 => .int .i64 j
    | 5 => .pointer (some (ad.add (j * 3)))
    | 6 => .pointer (some (ad.add (j * 3)))
    | 7 => .int .u32 i
    | 8 => .int .i64 rm
    | 9 => .bool q
    | _ => undef)
    (fun bq l w' => Below wr.heap.size wr w')
    (by kernel_rfl) rfl (by kernel_rfl) (by kernel_rfl) (by kernel_rfl) ⟨fun _ : Nat => (0 : Nat), below_drew (Below.refl _ _)⟩ ?_ ?_
  ·intro i1 hi1 hds oi hoi bq lb w' hW hlb hcl hneed hclo
   have hi1 : i1 < 10 := hi1
   have hcs : i1 = 0 ∨ i1 = 1 ∨ i1 = 2 ∨ i1 = 3 ∨ i1 = 4 ∨ i1 = 5 ∨ i1 = 6 ∨ i1 = 7 ∨ i1 = 8 ∨ i1 = 9 := by omega
   clear hi1 hcl hneed hclo
   have kb := blk_below Y.out.2.1 hW
   have q0 := (blk_cell kb 0).trans rfl
   have q1 := (blk_cell kb 1).trans rfl
   have q2 := (blk_cell kb 2).trans rfl
   have q3 := (blk_cell kb 3).trans rfl
   have q4 := (blk_cell kb 4).trans rfl
   have d0 := pw_cell_below hW Y.out.2.2.1
   rcases hcs with rfl | rfl | rfl | rfl | rfl | rfl | rfl | rfl | rfl | rfl
   all_goals simp only [List.getElem?_toArray, List.getElem?_cons_succ, List.getElem?_cons_zero, Option.some.injEq] at hoi
   all_goals subst hoi
   ·refine XInv.yes_tab [] (by kernel_rfl) ?_
    intro Q2 K2 hK2
    simp only [XInv.puts, XPrint.pw]
    go_simp
    exact hK2.out (.agg #[.int .i64 u0, .int .i64 u1, .slice (some ad) nn cn, .slice A n c, .int .u32 last]) w' ⟨bq, rfl, (by intros; first | rfl | trivial), hW⟩
   ·refine XInv.yes_tab [] (by kernel_rfl) ?_
    intro Q2 K2 hK2
    simp only [XInv.puts, XPrint.pw]
    go_simp
    exact hK2.out (.pointer (some ⟨w.heap.size, 0, none⟩)) w' ⟨bq, rfl, (by intros; first | rfl | trivial), hW⟩
   ·refine XInv.yes_tab [(13, 1)] (by kernel_rfl) ?_
    intro Q2 K2 hK2
    simp only [XInv.puts, XPrint.pw]
    go_simp
    exact hK2.out (.pointer (some ⟨w.heap.size, 2, none⟩)) w' ⟨bq, rfl, (by intros; first | rfl | trivial), hW⟩
   ·refine XInv.yes_tab [(14, 2)] (by kernel_rfl) ?_
    intro Q2 K2 hK2
    simp only [XInv.puts, XPrint.pw]
    go_simp
    exact hK2.out (.slice (some ad) nn cn) w' ⟨bq, rfl, (by intros; first | rfl | trivial), hW⟩
   ·refine XInv.yes_tab [] (by kernel_rfl) ?_
    intro Q2 K2 hK2
    simp only [XInv.puts, XPrint.pw]
    go_simp
    exact hK2.out (.int .i64 j) w' ⟨bq, rfl, (by intros; first | rfl | trivial), hW⟩
   ·refine XInv.yes_tab [(16, 4), (15, 3)] (by kernel_rfl) ?_
    intro Q2 K2 hK2
    simp only [XInv.puts, XPrint.pw]
    go_simp
    exact hK2.out (.pointer (some (ad.add (j * 3)))) w' ⟨bq, rfl, (by intros; first | rfl | trivial), hW⟩
   ·refine XInv.yes_tab [(17, 5)] (by kernel_rfl) ?_
    intro Q2 K2 hK2
    simp only [XInv.puts, XPrint.pw]
    go_simp
    exact hK2.out (.pointer (some (ad.add (j * 3)))) w' ⟨bq, rfl, (by intros; first | rfl | trivial), hW⟩
   ·refine XInv.yes_tab [(18, 6)] (by kernel_rfl) ?_
    intro Q2 K2 hK2
    simp only [XInv.puts, XPrint.pw]
    go_simp
    exact hK2.out (.int .u32 i) w' ⟨bq, rfl, (by intros; first | rfl | trivial), hW⟩
   ·refine XInv.yes_tab [(19, 7), (12, 0)] (by kernel_rfl) ?_
    intro Q2 K2 hK2
    simp only [XInv.puts, XPrint.pw]
    go_simp
    go_at_call 75
    (with_reducible refine (RC2.out _ (below_step Y.out.1 hW)).mono ?_)
    rintro e wz ⟨rfl, hb⟩
    exact hK2.out (.int .i64 rm) wz ⟨bq, rfl, (by intros; first | rfl | trivial), below_step hW hb⟩
   ·refine XInv.yes_tab [(20, 8)] (by kernel_rfl) ?_
    intro Q2 K2 hK2
    simp only [XInv.puts, XPrint.pw]
    go_simp
    exact hK2.out (.bool q) w' ⟨bq, rfl, (by intros; first | rfl | trivial), hW⟩
  ·intro bq w' hW
   refine XInv.end_nil [(21, 9), (20, 8), (19, 7), (18, 6), (17, 5), (16, 4), (15, 3), (14, 2), (13, 1), (12, 0)] (by kernel_rfl) (by kernel_rfl) ?_
   simp only [XInv.puts, XPrint.pw]
   have E := Aside0.mk (below_step Y.out.1 hW)
   have kb := blk_below Y.out.2.1 hW
   have q2 := (blk_cell kb 2).trans rfl
   have d0 := pw_cell_below hW Y.out.2.2.1
   obtain ⟨w2, hw2⟩ : ∃ w2, w' = w2 := ⟨_, rfl⟩
   rw [hw2] at E kb q2 d0 ⊢
   clear hW hw2
   cases q
   ·have hle : ¬ (0 : Int) < rm := of_decide_eq_false hq
    have F := Aside0.mk hle
    clear hle hq
    go_wp2
    clear q2 d0
    go_roundg (nn - (j + 1))
    case measure => omega
    case rel => exact ⟨j + 1, rfl, by go_num, by omega, E.out, by rw [Y.out.2.2.2.2.2.1]; intro x hx; rcases List.mem_append.1 hx with hx | hx; exact Y.out.2.2.2.1 x hx; rw [List.mem_singleton.1 hx, Y.out.2.2.2.2.2.2.1, Y.out.2.2.2.2.2.2.2]; have := F.out; omega⟩
   ·have hle : (0 : Int) < rm := of_decide_eq_true hq
    have F := Aside0.mk hle
    clear hle hq
    go_wp2
    go_ret
    exact ⟨by rw [← PP.out, Y.out.2.2.2.2.1 (by rw [Y.out.2.2.2.2.2.2.2]; exact F.out)]; rfl, below_then H.out.2.2.1 H.out.2.2.1.size E.out⟩
 ·have hlt' : ¬ (j : Int) < (nn : Int) := by omega
  have htk : ns.take j = ns := List.take_of_length_le (by rw [H.out.2.1]; omega)
  rw [htk] at hno
  have F : Aside0 (placeN u0 u1 ns bx = 0) := ⟨by
   unfold placeN
   rw [List.find?_eq_none.2 fun x hx => by have := hno x hx; simp; omega]⟩
  have Y := Aside0.mk hB
  clear hB hno htk ka
  go_wp2
  go_ret
  exact ⟨by rw [← PP.out, F.out]; rfl, below_then H.out.2.2.1 H.out.2.2.1.size Y.out⟩
end Go.Proofs.YthibppfdonepoaaGreat.LedT
set_option linter.unusedVariables false
set_option linter.unusedSimpArgs false
namespace Go.Proofs.YthibppfdonepoaaGreat.LedT
open Go.RowKit Go.MapKept Go.Maps Go.ChangeMaps Go.Proofs.YthibppfdonepoaaGreat.XBut Go.Proofs.YthibppfdonepoaaGreat.XMap Go.Proofs.YthibppfdonepoaaGreat.NodeT Go.Proofs.YthibppfdonepoaaGreatW.PrintWords Go.Proofs.YthibppfdonepoaaGreatW.PrintLast
theorem without_left {bx g : List Bx} (hr : bx.Pairwise fun a c => a.f0 < c.f0) (hs : ∀ y ∈ g, y ∈ bx) : (bx.filter fun x => !(g.any fun y => y.f0 == x.f0)) = leftN bx g := by
 unfold leftN
 refine List.filter_congr fun x hx => ?_
 congr 1
 rw [Bool.eq_iff_iff, List.any_eq_true, decide_eq_true_iff]
 refine ⟨fun ⟨y, hy, he⟩ => ?_, fun h => ⟨x, h, by simp⟩⟩
 have he : y.f0 = x.f0 := by simpa using he
 have hyb := hs y hy
 obtain ⟨i, hi, rfl⟩ := List.mem_iff_getElem.1 hyb
 obtain ⟨j, hj, rfl⟩ := List.mem_iff_getElem.1 hx
 have h1 := List.pairwise_iff_getElem.1 hr
 rcases Nat.lt_trichotomy i j with h | h | h
 ·have := h1 i j hi hj h
  omega
 ·subst h
  exact hy
 ·have := h1 j i hj hi h
  omega
theorem gone_sub (bx : List Bx) (o : Int) (s : Bool) (n : Nat) : ∀ y ∈ goneN bx o s n, y ∈ bx := fun y hy => (List.mem_filter.1 (List.mem_of_mem_drop hy)).1
abbrev LT : TypeId := 37
abbrev db (u0 u1 : Int) (vn vb : Value) (last : Int) : Obj := .cells #[.int .i64 u0, .int .i64 u1, vn, vb, .int .u32 last] LT
theorem set5 {w : World} {q : Nat} {a0 a1 a2 a3 a4 b0 b1 b2 b3 b4 : Value} (h : w.heap[q]? = some (.cells #[a0, a1, a2, a3, a4] LT (0, 0))) :
  (((((w.setCell ⟨q, 0, none⟩ b0).setCell ⟨q, 1, none⟩ b1).setCell ⟨q, 2, none⟩ b2).setCell ⟨q, 3, none⟩ b3).setCell ⟨q, 4, none⟩ b4).heap[q]? = some (.cells #[b0, b1, b2, b3, b4] LT (0, 0)) := by
 have h0 : (w.setCell ⟨q, 0, none⟩ b0).heap[q]? = some (.cells #[b0, a1, a2, a3, a4] LT (0, 0)) := by simpa using blk_set h 0 b0
 have h1 : ((w.setCell ⟨q, 0, none⟩ b0).setCell ⟨q, 1, none⟩ b1).heap[q]? = some (.cells #[b0, b1, a2, a3, a4] LT (0, 0)) := by simpa using blk_set h0 1 b1
 have h2 : (((w.setCell ⟨q, 0, none⟩ b0).setCell ⟨q, 1, none⟩ b1).setCell ⟨q, 2, none⟩ b2).heap[q]? = some (.cells #[b0, b1, b2, a3, a4] LT (0, 0)) := by simpa using blk_set h1 2 b2
 have h3 : ((((w.setCell ⟨q, 0, none⟩ b0).setCell ⟨q, 1, none⟩ b1).setCell ⟨q, 2, none⟩ b2).setCell ⟨q, 3, none⟩ b3).heap[q]? = some (.cells #[b0, b1, b2, b3, a4] LT (0, 0)) := by simpa using blk_set h2 3 b3
 simpa using blk_set h3 4 b4
theorem but5 {T : Nat → Prop} {w0 w : World} {q : Nat} (hb : But T w0 w) (hq : w0.heap.size ≤ q) (b0 b1 b2 b3 b4 : Value) : But T w0 (((((w.setCell ⟨q, 0, none⟩ b0).setCell ⟨q, 1, none⟩ b1).setCell ⟨q, 2, none⟩ b2).setCell ⟨q, 3, none⟩ b3).setCell ⟨q, 4, none⟩ b4) :=
 but_new (but_new (but_new (but_new (but_new hb hq 0 _) hq 1 _) hq 2 _) hq 3 _) hq 4 _
theorem But.belowF {w w' : World} (h : But (fun _ => False) w w') : Below w.heap.size w w' := ⟨h.os, h.tape, h.output, h.size, fun k hk => h.block k hk id⟩
set_option maxHeartbeats 8000000 in
set_option maxRecDepth 100000 in
theorem dtake_bad (u0 u1 : Int) (An A : Option Addr) (nn cn n c : Nat) (last o m : Int) (s : Bool) (w : World) (hm : mayc o m = 2) :
  Calls Tryz.prog 62 #[dv u0 u1 (.slice An nn cn) (.slice A n c) last, .int .u32 o, .bool s, .int .i64 m] w fun e w' => e = .returned (.tuple #[dv u0 u1 (.slice An nn cn) (.slice A n c) last, .slice none 0 0, .int .i64 2]) ∧ Below w.heap.size w w' := by
 have hu118 := Tryz.underlying37
 have B := dbad o m
 rw [hm] at B
 have B := Aside0.mk B
 obtain ⟨W0, hW0⟩ : ∃ W0, (w.alloc (db u0 u1 (.slice An nn cn) (.slice A n c) last)).alloc (db 0 0 (.slice none 0 0) (.slice none 0 0) 0) = W0 := ⟨_, rfl⟩
 have hB0 : Below w.heap.size w W0 := by rw [← hW0]; exact below_alloc (below_alloc (Below.refl _ _) _) _
 have k0 : W0.heap[w.heap.size]? = some (.cells #[.int .i64 u0, .int .i64 u1, .slice An nn cn, .slice A n c, .int .u32 last] LT (0, 0)) := by rw [← hW0]; exact blk_alloc (blk_new w _) _
 have k1 : W0.heap[w.heap.size + 1]? = some (.cells #[.int .i64 0, .int .i64 0, .slice none 0 0, .slice none 0 0, .int .u32 0] LT (0, 0)) := by
  have := blk_new (w.alloc (db u0 u1 (.slice An nn cn) (.slice A n c) last)) (db 0 0 (.slice none 0 0) (.slice none 0 0) 0)
  rw [World.size_alloc] at this
  rw [← hW0]; exact this
 have H := Aside0.mk (And.intro hB0 (And.intro k0 (And.intro k1 hW0)))
 unfold dv
 clear hm hB0 k0 k1 hW0
 go_enter Tryz.func62, Tryz.ntmps62
 go_wp2_with fail
 rw [H.out.2.2.2]
 refine (B.out W0).mono ?_
 rintro e wz ⟨rfl, hz⟩
 obtain rfl := hz.symm
 clear hz B
 have q0 := (blk_cell H.out.2.1 0).trans rfl
 have q1 := (blk_cell H.out.2.1 1).trans rfl
 have q2 := (blk_cell H.out.2.1 2).trans rfl
 have q3 := (blk_cell H.out.2.1 3).trans rfl
 have q4 := (blk_cell H.out.2.1 4).trans rfl
 have r0 := (blk_cell H.out.2.2.1 0).trans rfl
 have r1 := (blk_cell H.out.2.2.1 1).trans rfl
 have r2 := (blk_cell H.out.2.2.1 2).trans rfl
 have r3 := (blk_cell H.out.2.2.1 3).trans rfl
 have r4 := (blk_cell H.out.2.2.1 4).trans rfl
 have g0 := blk_frozen H.out.2.2.1 0
 have g1 := blk_frozen H.out.2.2.1 1
 have g2 := blk_frozen H.out.2.2.1 2
 have g3 := blk_frozen H.out.2.2.1 3
 have g4 := blk_frozen H.out.2.2.1 4
 dsimp only
 go_wp2
 have z0 := set5 (b0 := .int .i64 u0) (b1 := .int .i64 u1) (b2 := .slice An nn cn) (b3 := .slice A n c) (b4 := .int .u32 last) H.out.2.2.1
 have y0 := (blk_cell z0 0).trans rfl
 have y1 := (blk_cell z0 1).trans rfl
 have y2 := (blk_cell z0 2).trans rfl
 have y3 := (blk_cell z0 3).trans rfl
 have y4 := (blk_cell z0 4).trans rfl
 refine bodyPost_ret (v := .tuple #[dv u0 u1 (.slice An nn cn) (.slice A n c) last, .slice none 0 0, .int .i64 2]) (by simp [results, Tryz.results62, go_sem, dv, y0, y1, y2, y3, y4]) rfl ⟨rfl, ?_⟩
 have h2 := but5 (But.of_below (T := fun _ => False) H.out.1) (Nat.le_succ w.heap.size) (.int .i64 u0) (.int .i64 u1) (.slice An nn cn) (.slice A n c) (.int .u32 last)
 exact But.belowF h2
end Go.Proofs.YthibppfdonepoaaGreat.LedT
set_option linter.unusedVariables false
set_option linter.unusedSimpArgs false
namespace Go.Proofs.YthibppfdonepoaaGreat.LedT
open Go.RowKit Go.MapKept Go.Maps Go.ChangeMaps Go.Proofs.YthibppfdonepoaaGreat.XBut Go.Proofs.YthibppfdonepoaaGreat.XMap Go.Proofs.YthibppfdonepoaaGreat.NodeT Go.Proofs.YthibppfdonepoaaGreatW.PrintWords Go.Proofs.YthibppfdonepoaaGreatW.PrintLast
theorem but5T {T : Nat → Prop} {w0 w : World} {q : Nat} (hb : But T w0 w) (hq : T q) (b0 b1 b2 b3 b4 : Value) : But T w0 (((((w.setCell ⟨q, 0, none⟩ b0).setCell ⟨q, 1, none⟩ b1).setCell ⟨q, 2, none⟩ b2).setCell ⟨q, 3, none⟩ b3).setCell ⟨q, 4, none⟩ b4) :=
 ((((hb.setCell hq 0 _).setCell hq 1 _).setCell hq 2 _).setCell hq 3 _).setCell hq 4 _
set_option maxHeartbeats 8000000 in
set_option maxRecDepth 100000 in
theorem dtake_few (u0 u1 : Int) (An A : Option Addr) (nn cn n c : Nat) (last o m : Int) (s : Bool) (bx : List Bx) (w : World) (hC : Kd.C PLedLib.k100 w A n bx) (hn : bx.length = n) (hl : bx.length ≤ 1000000) (hm : mayc o m = 0) (hf : ((ownN bx o s).length : Int) < m) :
  Calls Tryz.prog 62 #[dv u0 u1 (.slice An nn cn) (.slice A n c) last, .int .u32 o, .bool s, .int .i64 m] w fun e w' => e = .returned (.tuple #[dv u0 u1 (.slice An nn cn) (.slice A n c) last, .slice none 0 0, .int .i64 7]) ∧ Below w.heap.size w w' := by
 have hu118 := Tryz.underlying37
 have B := dbad o m
 rw [hm] at B
 have B := Aside0.mk B
 obtain ⟨W0, hW0⟩ : ∃ W0, (w.alloc (db u0 u1 (.slice An nn cn) (.slice A n c) last)).alloc (db 0 0 (.slice none 0 0) (.slice none 0 0) 0) = W0 := ⟨_, rfl⟩
 have hB0 : Below w.heap.size w W0 := by rw [← hW0]; exact below_alloc (below_alloc (Below.refl _ _) _) _
 have k0 : W0.heap[w.heap.size]? = some (.cells #[.int .i64 u0, .int .i64 u1, .slice An nn cn, .slice A n c, .int .u32 last] LT (0, 0)) := by rw [← hW0]; exact blk_alloc (blk_new w _) _
 have k1 : W0.heap[w.heap.size + 1]? = some (.cells #[.int .i64 0, .int .i64 0, .slice none 0 0, .slice none 0 0, .int .u32 0] LT (0, 0)) := by
  have := blk_new (w.alloc (db u0 u1 (.slice An nn cn) (.slice A n c) last)) (db 0 0 (.slice none 0 0) (.slice none 0 0) 0)
  rw [World.size_alloc] at this
  rw [← hW0]; exact this
 have OF := fun w' (h : Below W0.heap.size W0 w') => dof u0 u1 (.slice An nn cn) bx A c last o s w' (hn ▸ Kd.C_below (Kd.C_below hC hB0) h) hl
 have hol : (ownN bx o s).length ≤ bx.length := List.length_filter_le _ _
 obtain ⟨q, hq⟩ : ∃ q, (ownN bx o s).length = q := ⟨_, rfl⟩
 rw [hq] at hf hol
 rw [hn] at OF
 unfold dv at OF
 have OF := Aside0.mk OF
 have t1 : decide ((q : Int) < m) = true := decide_eq_true hf
 have H := Aside0.mk (And.intro hB0 (And.intro k0 (And.intro k1 (And.intro hW0 hq))))
 unfold dv
 clear hC hn hm hB0 k0 k1 hW0 hq
 go_enter Tryz.func62, Tryz.ntmps62
 go_wp2_with fail
 rw [H.out.2.2.2.1]
 refine (B.out W0).mono ?_
 rintro e wz ⟨rfl, hz⟩
 obtain rfl := hz.symm
 clear hz B
 have q0 := (blk_cell H.out.2.1 0).trans rfl
 have q1 := (blk_cell H.out.2.1 1).trans rfl
 have q2 := (blk_cell H.out.2.1 2).trans rfl
 have q3 := (blk_cell H.out.2.1 3).trans rfl
 have q4 := (blk_cell H.out.2.1 4).trans rfl
 dsimp only
 go_wp2_with fail
 refine (OF.out W0 (Below.refl _ _)).mono ?_
 rintro e w1 ⟨v1, rfl, hR, hb1⟩
 obtain ⟨Ao, co, rfl⟩ := Kd.R_slice hR
 rw [H.out.2.2.2.2]
 have X := Aside0.mk hb1
 have k0 := blk_below H.out.2.1 hb1
 have k1 := blk_below H.out.2.2.1 hb1
 have K1 := Aside0.mk k1
 clear hb1 hR q0 q1 q2 q3 q4 OF
 have q0 := (blk_cell k0 0).trans rfl
 have q1 := (blk_cell k0 1).trans rfl
 have q2 := (blk_cell k0 2).trans rfl
 have q3 := (blk_cell k0 3).trans rfl
 have q4 := (blk_cell k0 4).trans rfl
 have r0 := (blk_cell k1 0).trans rfl
 have r1 := (blk_cell k1 1).trans rfl
 have r2 := (blk_cell k1 2).trans rfl
 have r3 := (blk_cell k1 3).trans rfl
 have r4 := (blk_cell k1 4).trans rfl
 have g0 := blk_frozen k1 0
 have g1 := blk_frozen k1 1
 have g2 := blk_frozen k1 2
 have g3 := blk_frozen k1 3
 have g4 := blk_frozen k1 4
 clear k0 k1
 dsimp only
 go_wp2
 have z0 := set5 (b0 := .int .i64 u0) (b1 := .int .i64 u1) (b2 := .slice An nn cn) (b3 := .slice A n c) (b4 := .int .u32 last) K1.out
 have y0 := (blk_cell z0 0).trans rfl
 have y1 := (blk_cell z0 1).trans rfl
 have y2 := (blk_cell z0 2).trans rfl
 have y3 := (blk_cell z0 3).trans rfl
 have y4 := (blk_cell z0 4).trans rfl
 refine bodyPost_ret (v := .tuple #[dv u0 u1 (.slice An nn cn) (.slice A n c) last, .slice none 0 0, .int .i64 7]) (by simp [results, Tryz.results62, go_sem, dv, y0, y1, y2, y3, y4]) rfl ⟨rfl, ?_⟩
 exact But.belowF (but5 (But.of_below (T := fun _ => False) (below_then H.out.1 H.out.1.size X.out)) (Nat.le_succ w.heap.size) (.int .i64 u0) (.int .i64 u1) (.slice An nn cn) (.slice A n c) (.int .u32 last))
set_option maxHeartbeats 8000000 in
set_option maxRecDepth 100000 in
theorem dtake_ok (u0 u1 : Int) (An A : Option Addr) (nn cn n c : Nat) (last o : Int) (N : Nat) (s : Bool) (bx : List Bx) (w : World) (hC : Kd.C PLedLib.k100 w A n bx) (hn : bx.length = n) (hl : bx.length ≤ 1000000) (hr : bx.Pairwise fun a c => a.f0 < c.f0) (hm : mayc o N = 0) (hf : N ≤ (ownN bx o s).length) :
  Calls Tryz.prog 62 #[dv u0 u1 (.slice An nn cn) (.slice A n c) last, .int .u32 o, .bool s, .int .i64 N] w fun e w' => ∃ vb' Ag cg, e = .returned (.tuple #[dv u0 u1 (.slice An nn cn) vb' last, .slice Ag N cg, .int .i64 0]) ∧ RB w' w.heap.size vb' (leftN bx (goneN bx o s N)) ∧ (∀ (T : Nat → Prop) (w'' : World), (∀ k, T k → k < w.heap.size) → But T w' w'' → Kd.C PLedLib.k100 w'' Ag N (goneN bx o s N)) ∧ N ≤ cg ∧ Below w.heap.size w w' := by
 have hu118 := Tryz.underlying37
 have B := dbad o N
 rw [hm] at B
 have B := Aside0.mk B
 obtain ⟨W0, hW0⟩ : ∃ W0, (w.alloc (db u0 u1 (.slice An nn cn) (.slice A n c) last)).alloc (db 0 0 (.slice none 0 0) (.slice none 0 0) 0) = W0 := ⟨_, rfl⟩
 have hB0 : Below w.heap.size w W0 := by rw [← hW0]; exact below_alloc (below_alloc (Below.refl _ _) _) _
 have k0 : W0.heap[w.heap.size]? = some (.cells #[.int .i64 u0, .int .i64 u1, .slice An nn cn, .slice A n c, .int .u32 last] LT (0, 0)) := by rw [← hW0]; exact blk_alloc (blk_new w _) _
 have k1 : W0.heap[w.heap.size + 1]? = some (.cells #[.int .i64 0, .int .i64 0, .slice none 0 0, .slice none 0 0, .int .u32 0] LT (0, 0)) := by
  have := blk_new (w.alloc (db u0 u1 (.slice An nn cn) (.slice A n c) last)) (db 0 0 (.slice none 0 0) (.slice none 0 0) 0)
  rw [World.size_alloc] at this
  rw [← hW0]; exact this
 have C0 := Kd.C_below hC hB0
 have OF := fun w' (h : Below W0.heap.size W0 w') => dof u0 u1 (.slice An nn cn) bx A c last o s w' (hn ▸ Kd.C_below C0 h) hl
 have hol : (ownN bx o s).length ≤ bx.length := List.length_filter_le _ _
 have hgl : (goneN bx o s N).length = N := by unfold goneN; rw [List.length_drop]; omega
 have hwl := without_left hr (gone_sub bx o s N)
 obtain ⟨q, hq⟩ : ∃ q, (ownN bx o s).length = q := ⟨_, rfl⟩
 rw [hq] at hf hol
 rw [hn] at OF hol hl
 unfold dv at OF
 have OF := Aside0.mk OF
 have t1 : decide ((q : Int) < (N : Int)) = false := decide_eq_false (by omega)
 have t2 : ¬ (q : Int) < (N : Int) := by omega
 have t3 : decide (q < N) = false := decide_eq_false (by omega)
 obtain ⟨d, hd⟩ : ∃ d, q - N = d := ⟨_, rfl⟩
 have hw : IntKind.i64.wrap ((q : Int) - (N : Int)) = (d : Int) := by rw [IntKind.wrap_i64]; omega
 have hdq : d + N = q := by omega
 have H := Aside0.mk (And.intro hB0 (And.intro k0 (And.intro k1 (And.intro hW0 (And.intro hq (And.intro hd (And.intro hgl (And.intro hwl (And.intro C0 hn)))))))))
 unfold dv
 clear hC hn hm hB0 k0 k1 hW0 hq hd hgl hwl hr C0
 go_enter Tryz.func62, Tryz.ntmps62
 go_wp2_with fail
 rw [H.out.2.2.2.1]
 refine (B.out W0).mono ?_
 rintro e wz ⟨rfl, hz⟩
 obtain rfl := hz.symm
 clear hz B
 have q0 := (blk_cell H.out.2.1 0).trans rfl
 have q1 := (blk_cell H.out.2.1 1).trans rfl
 have q2 := (blk_cell H.out.2.1 2).trans rfl
 have q3 := (blk_cell H.out.2.1 3).trans rfl
 have q4 := (blk_cell H.out.2.1 4).trans rfl
 dsimp only
 go_wp2_with fail
 refine (OF.out W0 (Below.refl _ _)).mono ?_
 rintro e w1 ⟨v1, rfl, hR, hb1⟩
 obtain ⟨Ao, co, rfl⟩ := Kd.R_slice hR
 obtain ⟨_, hmc, hC1⟩ := Kd.R_reads' hR
 have eg : (ownN bx o s).drop d = goneN bx o s N := by unfold goneN; rw [H.out.2.2.2.2.1, H.out.2.2.2.2.2.1]
 rw [H.out.2.2.2.2.1] at hmc hR ⊢
 have OR := Aside0.mk hR
 obtain ⟨i0, hi0, _, hsz, _⟩ := info_parts PLedLib.info100
 have hcut := cut_from (P := Tryz.prog) 34 100 .i64 Tryz.underlying34 hi0 4 hsz Ao q co (d : Int) (by omega) (by omega)
 simp only [Int.toNat_natCast] at hcut
 obtain ⟨A2, hA2⟩ : ∃ A2, (if co = d then Ao else Option.map (fun x => x.add (d * 4)) Ao) = A2 := ⟨_, rfl⟩
 have DD : Aside0 (∀ W', RB W' W0.heap.size (.slice Ao q co) (ownN bx o s) → Kd.C PLedLib.k100 W' A2 N (goneN bx o s N)) := ⟨fun W' hr => by
  have hD := Kd.C_drop (m := d) (c := co) (Kd.R_reads' hr).2.2 (by rw [H.out.2.2.2.2.1]; omega) (by rw [H.out.2.2.2.2.1]; exact hmc)
  rw [eg, H.out.2.2.2.2.2.2.1] at hD
  rw [← hA2]
  exact hD⟩
 have hD := DD.out w1 hR
 rw [hA2] at hcut
 have emN : q - d = N := by omega
 rw [emN] at hcut
 obtain ⟨c2, hc2⟩ : ∃ c2, co - d = c2 := ⟨_, rfl⟩
 rw [hc2] at hcut
 have hNc : N ≤ c2 := by omega
 have WC := dwithout bx (goneN bx o s N) A A2 c c2 w1 (H.out.2.2.2.2.2.2.2.2.2.symm ▸ Kd.C_below H.out.2.2.2.2.2.2.2.2.1 hb1) (H.out.2.2.2.2.2.2.1.symm ▸ hD) (by rw [H.out.2.2.2.2.2.2.2.2.2]; exact hl) (by rw [H.out.2.2.2.2.2.2.1]; omega)
 rw [H.out.2.2.2.2.2.2.1, H.out.2.2.2.2.2.2.2.2.2, H.out.2.2.2.2.2.2.2.1] at WC
 have WC := Aside0.mk WC
 have k0 := blk_below H.out.2.1 hb1
 have k1 := blk_below H.out.2.2.1 hb1
 have X := Aside0.mk (And.intro hb1 (And.intro k0 (And.intro k1 (And.intro hD hNc))))
 clear hb1 hR q0 q1 q2 q3 q4 OF hmc hC1 eg hi0 hsz hA2 hD hc2 hNc emN k1
 have q3 := (blk_cell k0 3).trans rfl
 clear k0
 dsimp only
 go_wp2_with fail
 refine WC.out.mono ?_
 rintro e w2 ⟨vb, rfl, hRb, hb2⟩
 obtain ⟨Ab, cb, rfl⟩ := Kd.R_slice hRb
 obtain ⟨lb, hlb⟩ : ∃ lb, (leftN bx (goneN bx o s N)).length = lb := ⟨_, rfl⟩
 rw [hlb] at hRb ⊢
 have k0 := blk_below X.out.2.1 hb2
 have k1 := blk_below X.out.2.2.1 hb2
 have f3 := blk_frozen k0 3
 have p3 := (blk_cell k0 3).trans rfl
 obtain ⟨w3, hw3⟩ : ∃ w3, w2.setCell ⟨w.heap.size, 3, none⟩ (.slice Ab lb cb) = w3 := ⟨_, rfl⟩
 have k03 : w3.heap[w.heap.size]? = some (.cells #[.int .i64 u0, .int .i64 u1, .slice An nn cn, .slice Ab lb cb, .int .u32 last] LT (0, 0)) := by rw [← hw3]; simpa using blk_set k0 3 (.slice Ab lb cb)
 have hB3 : But (fun k => k = w.heap.size) w2 w3 := by rw [← hw3]; exact (But.refl (fun k => k = w.heap.size) w2).setCell (b := w.heap.size) rfl 3 _
 have k13 := hB3.heap k1 (by omega)
 have hb12 := below_step X.out.1 hb2
 have hBw : Below w.heap.size w w2 := below_then H.out.1 H.out.1.size hb12
 have hs0 := H.out.1.size
 have hs1 := X.out.1.size
 have hW1 : w.heap.size + 1 < W0.heap.size := blk_lt H.out.2.2.1
 have V := Aside0.mk (And.intro hRb (And.intro k03 (And.intro k13 (And.intro hB3 (And.intro hBw (Kd.C_below X.out.2.2.2.1 hb2))))))
 have HW3 := Aside0.mk hw3
 have HB2 := Aside0.mk hb2
 clear hRb hlb hb2 q3 k0 k1 WC hb12 hBw hw3
 dsimp only
 go_upto_region 9 with (fail)
 rw [HW3.out]
 have q0 := (blk_cell k03 0).trans rfl
 have q1 := (blk_cell k03 1).trans rfl
 have q2 := (blk_cell k03 2).trans rfl
 have q3 := (blk_cell k03 3).trans rfl
 have q4 := (blk_cell k03 4).trans rfl
 have r0 := (blk_cell k13 0).trans rfl
 have r1 := (blk_cell k13 1).trans rfl
 have r2 := (blk_cell k13 2).trans rfl
 have r3 := (blk_cell k13 3).trans rfl
 have r4 := (blk_cell k13 4).trans rfl
 have g0 := blk_frozen k13 0
 have g1 := blk_frozen k13 1
 have g2 := blk_frozen k13 2
 have g3 := blk_frozen k13 3
 have g4 := blk_frozen k13 4
 clear f3 p3 k03 k13 hB3
 go_wp2
 have z0 := set5 (b0 := .int .i64 u0) (b1 := .int .i64 u1) (b2 := .slice An nn cn) (b3 := .slice Ab lb cb) (b4 := .int .u32 last) V.out.2.2.1
 have y0 := (blk_cell z0 0).trans rfl
 have y1 := (blk_cell z0 1).trans rfl
 have y2 := (blk_cell z0 2).trans rfl
 have y3 := (blk_cell z0 3).trans rfl
 have y4 := (blk_cell z0 4).trans rfl
 have FIN := Aside0.mk (but5T ((But.refl (fun k => k = w.heap.size ∨ k = w.heap.size + 1) w2).trans (V.out.2.2.2.1.mono fun k h => .inl h)) (q := w.heap.size + 1) (.inr rfl) (.int .i64 u0) (.int .i64 u1) (.slice An nn cn) (.slice Ab lb cb) (.int .u32 last))
 refine bodyPost_ret (v := .tuple #[dv u0 u1 (.slice An nn cn) (.slice Ab lb cb) last, .slice A2 N c2, .int .i64 0]) (by simp [results, Tryz.results62, go_sem, dv, y0, y1, y2, y3, y4]) rfl ⟨_, _, _, rfl, ?_, ?_, X.out.2.2.2.2, ?_⟩
 ·exact Kd.R_lower (Kd.R_step V.out.1 (fun k hk hlt => (FIN.out).block k hlt (by have := Kd.R_base V.out.1 k hk; omega))) (by omega)
 ·intro T w'' hT hbT
  exact DD.out _ (Kd.R_step (Kd.R_step (Kd.R_below OR.out HB2.out) (fun k hk hlt => (FIN.out).block k hlt (by have := Kd.R_base OR.out k hk; omega))) (fun k hk hlt => hbT.block k hlt (fun ht => by have := Kd.R_base OR.out k hk; have := hT k ht; omega)))
 ·exact But.below V.out.2.2.2.2.1 (Nat.le_refl _) FIN.out (fun k hk => by omega)
end Go.Proofs.YthibppfdonepoaaGreat.LedT
set_option linter.unusedVariables false
set_option linter.unusedSimpArgs false
namespace Go.Proofs.YthibppfdonepoaaGreat.LedT
open Go.RowKit Go.MapKept Go.Maps Go.ChangeMaps Go.Proofs.YthibppfdonepoaaGreat.XBut Go.Proofs.YthibppfdonepoaaGreat.XMap Go.Proofs.YthibppfdonepoaaGreat.NodeT Go.Proofs.YthibppfdonepoaaGreatW.PrintWords Go.Proofs.YthibppfdonepoaaGreatW.PrintLast
theorem set3 {w : World} {q : Nat} {t : TypeId} {a0 a1 a2 b0 b1 b2 : Value} (h : w.heap[q]? = some (.cells #[a0, a1, a2] t (0, 0))) :
  (((w.setCell ⟨q, 0, none⟩ b0).setCell ⟨q, 1, none⟩ b1).setCell ⟨q, 2, none⟩ b2).heap[q]? = some (.cells #[b0, b1, b2] t (0, 0)) := by
 have h0 : (w.setCell ⟨q, 0, none⟩ b0).heap[q]? = some (.cells #[b0, a1, a2] t (0, 0)) := by simpa using blk_set h 0 b0
 have h1 : ((w.setCell ⟨q, 0, none⟩ b0).setCell ⟨q, 1, none⟩ b1).heap[q]? = some (.cells #[b0, b1, a2] t (0, 0)) := by simpa using blk_set h0 1 b1
 simpa using blk_set h1 2 b2
theorem but3T {T : Nat → Prop} {w0 w : World} {q : Nat} (hb : But T w0 w) (hq : T q) (b0 b1 b2 : Value) : But T w0 (((w.setCell ⟨q, 0, none⟩ b0).setCell ⟨q, 1, none⟩ b1).setCell ⟨q, 2, none⟩ b2) :=
 ((hb.setCell hq 0 _).setCell hq 1 _).setCell hq 2 _
set_option maxHeartbeats 8000000 in
set_option maxRecDepth 100000 in
theorem rlose_no (u0 u1 i : Int) (An : Option Addr) (nn cn : Nat) (ns : List Nd) (w : World) (hC : Kd.C PNodePlays.k59 w An nn ns) (hn : ns.length = nn) (hc : nn ≤ cn) (hl : nn ≤ 32) (hw : who ns i = none) :
  Calls Tryz.prog 113 #[.agg #[.int .i64 u0, .int .i64 u1, .slice An nn cn], .int .u32 i] w fun e w' => e = .returned (.tuple #[.agg #[.int .i64 u0, .int .i64 u1, .slice An nn cn], .agg #[.int .u32 0, .int .i64 0, .int .i64 0], .int .i64 7]) ∧ Below w.heap.size w w' := by
 have hu31 := Tryz.underlying33
 have hu39 := Tryz.underlying59
 subst hn
 have AT := rat_f u0 u1 i ns (by omega) (ns.length + 1) (by omega)
 have hpl := (place_who ns i).2 hw
 obtain ⟨pl, hpe⟩ : ∃ pl, place ns i = pl := ⟨_, rfl⟩
 rw [hpe] at AT hpl
 have t1 : decide (pl < 0) = true := decide_eq_true hpl
 have AC := fun w' (h : Below w.heap.size w w') => PNodePlays.liveryref22_At.calls (ns.length + 1) u0 u1 An cn ns i pl w' (Kd.C_below hC h) hc AT
 obtain ⟨nn, hnn⟩ : ∃ nn, ns.length = nn := ⟨_, rfl⟩
 rw [hnn] at AC ⊢
 have AC := Aside0.mk AC
 obtain ⟨W0, hW0⟩ : ∃ W0, ((w.alloc (.cells #[.int .i64 u0, .int .i64 u1, .slice An nn cn] 33)).alloc (.cells #[.int .i64 0, .int .i64 0, .slice none 0 0] 33)).alloc (.cells #[.int .u32 0, .int .i64 0, .int .i64 0] 59) = W0 := ⟨_, rfl⟩
 have hB0 : Below w.heap.size w W0 := by rw [← hW0]; exact below_alloc (below_alloc (below_alloc (Below.refl _ _) _) _) _
 have k0 : W0.heap[w.heap.size]? = some (.cells #[.int .i64 u0, .int .i64 u1, .slice An nn cn] 33 (0, 0)) := by rw [← hW0]; exact blk_alloc (blk_alloc (blk_new w _) _) _
 have k1 : W0.heap[w.heap.size + 1]? = some (.cells #[.int .i64 0, .int .i64 0, .slice none 0 0] 33 (0, 0)) := by
  have := blk_alloc (blk_new (w.alloc (.cells #[.int .i64 u0, .int .i64 u1, .slice An nn cn] 33)) (.cells #[.int .i64 0, .int .i64 0, .slice none 0 0] 33)) (.cells #[.int .u32 0, .int .i64 0, .int .i64 0] 59)
  rw [World.size_alloc] at this
  rw [← hW0]; exact this
 have k2 : W0.heap[w.heap.size + 1 + 1]? = some (.cells #[.int .u32 0, .int .i64 0, .int .i64 0] 59 (0, 0)) := by
  have := blk_new ((w.alloc (.cells #[.int .i64 u0, .int .i64 u1, .slice An nn cn] 33)).alloc (.cells #[.int .i64 0, .int .i64 0, .slice none 0 0] 33)) (.cells #[.int .u32 0, .int .i64 0, .int .i64 0] 59)
  rw [World.size_alloc, World.size_alloc] at this
  rw [← hW0]; exact this
 have H := Aside0.mk (And.intro hB0 (And.intro k0 (And.intro k1 (And.intro k2 hW0))))
 have q0 := (blk_cell k0 0).trans rfl
 have q1 := (blk_cell k0 1).trans rfl
 have q2 := (blk_cell k0 2).trans rfl
 clear hC hc hl hw AT hpl hpe hnn hB0 k0 k1 k2 hW0
 go_enter Tryz.func113, Tryz.ntmps113
 go_wp2_with fail
 rw [H.out.2.2.2.2]
 go_wp2_with fail
 refine (AC.out W0 H.out.1).mono ?_
 rintro e w1 ⟨rfl, hb1⟩
 have X := Aside0.mk hb1
 have k0 := blk_below H.out.2.1 hb1
 have k1 := blk_below H.out.2.2.1 hb1
 have k2 := blk_below H.out.2.2.2.1 hb1
 have K := Aside0.mk (And.intro k1 k2)
 clear q0 q1 q2 hb1 AC
 have q0 := (blk_cell k0 0).trans rfl
 have q1 := (blk_cell k0 1).trans rfl
 have q2 := (blk_cell k0 2).trans rfl
 have r0 := (blk_cell k1 0).trans rfl
 have r1 := (blk_cell k1 1).trans rfl
 have r2 := (blk_cell k1 2).trans rfl
 have g0 := blk_frozen k1 0
 have g1 := blk_frozen k1 1
 have g2 := blk_frozen k1 2
 have s0 := (blk_cell k2 0).trans rfl
 have s1 := (blk_cell k2 1).trans rfl
 have s2 := (blk_cell k2 2).trans rfl
 have f0 := blk_frozen k2 0
 have f1 := blk_frozen k2 1
 have f2 := blk_frozen k2 2
 clear k0 k1 k2
 dsimp only
 go_wp2
 have z1 := set3 (b0 := .int .i64 u0) (b1 := .int .i64 u1) (b2 := .slice An nn cn) K.out.1
 have hb3 := but3T (But.refl (fun k => k = w.heap.size + 1) w1) rfl (.int .i64 u0) (.int .i64 u1) (.slice An nn cn)
 have z2 := set3 (b0 := .int .u32 0) (b1 := .int .i64 0) (b2 := .int .i64 0) (hb3.heap K.out.2 (by omega))
 have hb4 := but3T (T := fun k => k = w.heap.size + 1 ∨ k = w.heap.size + 1 + 1) (hb3.mono fun k h => .inl h) (q := w.heap.size + 1 + 1) (.inr rfl) (.int .u32 0) (.int .i64 0) (.int .i64 0)
 have hb5 := but3T (But.refl (fun k => k = w.heap.size + 1 + 1) (((w1.setCell ⟨w.heap.size + 1, 0, none⟩ (.int .i64 u0)).setCell ⟨w.heap.size + 1, 1, none⟩ (.int .i64 u1)).setCell ⟨w.heap.size + 1, 2, none⟩ (.slice An nn cn))) rfl (.int .u32 0) (.int .i64 0) (.int .i64 0)
 have z1' := hb5.heap z1 (by omega)
 have y0 := (blk_cell z1' 0).trans rfl
 have y1 := (blk_cell z1' 1).trans rfl
 have y2 := (blk_cell z1' 2).trans rfl
 have x0 := (blk_cell z2 0).trans rfl
 have x1 := (blk_cell z2 1).trans rfl
 have x2 := (blk_cell z2 2).trans rfl
 refine bodyPost_ret (v := .tuple #[.agg #[.int .i64 u0, .int .i64 u1, .slice An nn cn], .agg #[.int .u32 0, .int .i64 0, .int .i64 0], .int .i64 7]) (by simp [results, Tryz.results113, go_sem, y0, y1, y2, x0, x1, x2]) rfl ⟨rfl, ?_⟩
 exact But.below (below_then H.out.1 H.out.1.size X.out) (Nat.le_refl _) hb4 (fun k hk => by omega)
set_option maxHeartbeats 8000000 in
set_option maxRecDepth 100000 in
theorem dlose_no (u0 u1 : Int) (An A : Option Addr) (nn cn n c : Nat) (last i : Int) (ns : List Nd) (w : World) (hC : Kd.C PNodePlays.k59 w An nn ns) (hn : ns.length = nn) (hc : nn ≤ cn) (hl : nn ≤ 32) (hw : who ns i = none) :
  Calls Tryz.prog 61 #[dv u0 u1 (.slice An nn cn) (.slice A n c) last, .int .u32 i] w fun e w' => e = .returned (.tuple #[dv u0 u1 (.slice An nn cn) (.slice A n c) last, .slice none 0 0, .int .i64 7]) ∧ Below w.heap.size w w' := by
 have hu118 := Tryz.underlying37
 have hu31 := Tryz.underlying33
 have hu39 := Tryz.underlying59
 obtain ⟨W0, hW0⟩ : ∃ W0, (w.alloc (db u0 u1 (.slice An nn cn) (.slice A n c) last)).alloc (db 0 0 (.slice none 0 0) (.slice none 0 0) 0) = W0 := ⟨_, rfl⟩
 have hB0 : Below w.heap.size w W0 := by rw [← hW0]; exact below_alloc (below_alloc (Below.refl _ _) _) _
 have k0 : W0.heap[w.heap.size]? = some (.cells #[.int .i64 u0, .int .i64 u1, .slice An nn cn, .slice A n c, .int .u32 last] LT (0, 0)) := by rw [← hW0]; exact blk_alloc (blk_new w _) _
 have k1 : W0.heap[w.heap.size + 1]? = some (.cells #[.int .i64 0, .int .i64 0, .slice none 0 0, .slice none 0 0, .int .u32 0] LT (0, 0)) := by
  have := blk_new (w.alloc (db u0 u1 (.slice An nn cn) (.slice A n c) last)) (db 0 0 (.slice none 0 0) (.slice none 0 0) 0)
  rw [World.size_alloc] at this
  rw [← hW0]; exact this
 have LC := Aside0.mk (rlose_no u0 u1 i An nn cn ns W0 (Kd.C_below hC hB0) hn hc hl hw)
 have H := Aside0.mk (And.intro hB0 (And.intro k0 (And.intro k1 hW0)))
 have q0 := (blk_cell k0 0).trans rfl
 have q1 := (blk_cell k0 1).trans rfl
 have q2 := (blk_cell k0 2).trans rfl
 have q3 := (blk_cell k0 3).trans rfl
 have q4 := (blk_cell k0 4).trans rfl
 unfold dv
 clear hC hn hc hl hw hB0 k0 k1 hW0
 go_enter Tryz.func61, Tryz.ntmps61
 go_wp2_with fail
 rw [H.out.2.2.2]
 go_wp2_with fail
 refine LC.out.mono ?_
 rintro e w1 ⟨rfl, hb1⟩
 have X := Aside0.mk hb1
 clear q0 q1 q2 q3 q4 hb1 LC
 dsimp only
 go_upto_region 3 with (fail)
 obtain ⟨w2, hw2⟩ : ∃ w2, (w1.alloc (.cells #[.int .i64 u0, .int .i64 u1, .slice An nn cn] 33)).alloc (.cells #[.int .u32 0, .int .i64 0, .int .i64 0] 59) = w2 := ⟨_, rfl⟩
 have hb2 : Below W0.heap.size W0 w2 := by rw [← hw2]; exact below_alloc (below_alloc X.out _) _
 rw [hw2]
 have k0 := blk_below H.out.2.1 hb2
 have k1 := blk_below H.out.2.2.1 hb2
 have Z := Aside0.mk (And.intro hb2 k1)
 clear hw2 hb2
 have q0 := (blk_cell k0 0).trans rfl
 have q1 := (blk_cell k0 1).trans rfl
 have q2 := (blk_cell k0 2).trans rfl
 have q3 := (blk_cell k0 3).trans rfl
 have q4 := (blk_cell k0 4).trans rfl
 have r0 := (blk_cell k1 0).trans rfl
 have r1 := (blk_cell k1 1).trans rfl
 have r2 := (blk_cell k1 2).trans rfl
 have r3 := (blk_cell k1 3).trans rfl
 have r4 := (blk_cell k1 4).trans rfl
 have g0 := blk_frozen k1 0
 have g1 := blk_frozen k1 1
 have g2 := blk_frozen k1 2
 have g3 := blk_frozen k1 3
 have g4 := blk_frozen k1 4
 clear k0 k1
 go_wp2
 have z0 := set5 (b0 := .int .i64 u0) (b1 := .int .i64 u1) (b2 := .slice An nn cn) (b3 := .slice A n c) (b4 := .int .u32 last) Z.out.2
 have y0 := (blk_cell z0 0).trans rfl
 have y1 := (blk_cell z0 1).trans rfl
 have y2 := (blk_cell z0 2).trans rfl
 have y3 := (blk_cell z0 3).trans rfl
 have y4 := (blk_cell z0 4).trans rfl
 refine bodyPost_ret (v := .tuple #[dv u0 u1 (.slice An nn cn) (.slice A n c) last, .slice none 0 0, .int .i64 7]) (by simp [results, Tryz.results61, go_sem, dv, y0, y1, y2, y3, y4]) rfl ⟨rfl, ?_⟩
 exact But.belowF (but5 (But.of_below (T := fun _ => False) (below_then H.out.1 H.out.1.size Z.out.1)) (Nat.le_succ w.heap.size) (.int .i64 u0) (.int .i64 u1) (.slice An nn cn) (.slice A n c) (.int .u32 last))
end Go.Proofs.YthibppfdonepoaaGreat.LedT
set_option linter.unusedVariables false
set_option linter.unusedSimpArgs false
namespace Go.Proofs.YthibppfdonepoaaGreat.LedT
open Go.RowKit Go.MapKept Go.Maps Go.ChangeMaps Go.Proofs.YthibppfdonepoaaGreat.XBut Go.Proofs.YthibppfdonepoaaGreat.XMap Go.Proofs.YthibppfdonepoaaGreat.NodeT Go.Proofs.YthibppfdonepoaaGreatW.PrintWords Go.Proofs.YthibppfdonepoaaGreatW.PrintLast
theorem but_drop {T S : Nat → Prop} {w0 w w' : World} (h : But T w0 w) (h2 : But S w w') (hS : ∀ k, S k → w0.heap.size ≤ k) : But T w0 w' :=
 ⟨h2.os.trans h.os, h2.tape.trans h.tape, h2.output.trans h.output, Nat.le_trans h.size h2.size, fun k hk hn => (h2.block k (Nat.lt_of_lt_of_le hk h.size) (fun hs => by have := hS k hs; omega)).trans (h.block k hk hn)⟩
abbrev RNd (w : World) (N : Nat) (ok : Nat → Prop) (v : Value) (xs : List Nd) : Prop := Kd.R PNodePlays.k59 59 w N ok v xs
theorem left_on {bx : List Bx} (i : Int) : leftN bx (onN bx i) = offN bx i := by
 unfold leftN offN
 refine List.filter_congr fun x hx => ?_
 congr 1
 unfold onN
 rw [Bool.eq_iff_iff, decide_eq_true_iff, List.mem_filter]
 exact ⟨fun h => h.2, fun h => ⟨hx, h⟩⟩
theorem kept_but {w w' w0 : World} {S : Nat → Prop} (h0 : Below w0.heap.size w0 w) (h1 : Below w0.heap.size w0 w') (hk : Kept w w' S) : But S w w' := ⟨h1.os.trans h0.os.symm, h1.tape.trans h0.tape.symm, h1.output.trans h0.output.symm, hk.1, fun k hk' hn => hk.2 k hk' hn⟩
set_option maxHeartbeats 16000000 in
set_option maxRecDepth 100000 in
theorem dlose_yes (u0 u1 : Int) (An A : Option Addr) (nn cn n c : Nat) (last i : Int) (ns : List Nd) (bx : List Bx) (okn : Nat → Prop) (wB w : World) (hB : Below wB.heap.size wB w) (hN : RNd w wB.heap.size okn (.slice An nn cn) ns) (hX : RB w wB.heap.size (.slice A n c) bx) (hd : ∀ k, okn k → (Value.slice A n c).ownBlock ≠ some k) (hG : NodeT.Good u0 u1 ns) (hid : bx.Pairwise fun a c => a.f0 < c.f0) (hl : n ≤ 1000000) (y : Nd) (hw : who ns i = some y) :
  Calls Tryz.prog 61 #[dv u0 u1 (.slice An nn cn) (.slice A n c) last, .int .u32 i] w fun e w' => ∃ vn' vb' Ag ng cg, e = .returned (.tuple #[dv u0 u1 vn' vb' last, .slice Ag ng cg, .int .i64 0]) ∧ RNd w' wB.heap.size (fun k => okn k ∨ w.heap.size ≤ k) vn' (less ns i) ∧ RB w' w.heap.size vb' (offN bx i) ∧ (∀ (T : Nat → Prop) (w'' : World), (∀ k, T k → k < w.heap.size) → But T w' w'' → Kd.C PLedLib.k100 w'' Ag ng (onN bx i)) ∧ (onN bx i).length = ng ∧ ng ≤ cg ∧ (∀ k, vb'.ownBlock = some k → w.heap.size ≤ k) ∧ But okn w w' := by
 have hu118 := Tryz.underlying37
 have hu31 := Tryz.underlying33
 have hu39 := Tryz.underlying59
 have hu113 := Tryz.underlying100
 obtain ⟨hnn, hncn, _⟩ := Kd.R_reads' hN
 obtain ⟨hnb, hnc, _⟩ := Kd.R_reads' hX
 have hbw := hB.size
 obtain ⟨W0, hW0⟩ : ∃ W0, (w.alloc (db u0 u1 (.slice An nn cn) (.slice A n c) last)).alloc (db 0 0 (.slice none 0 0) (.slice none 0 0) 0) = W0 := ⟨_, rfl⟩
 have hB0 : Below w.heap.size w W0 := by rw [← hW0]; exact below_alloc (below_alloc (Below.refl _ _) _) _
 have k0 : W0.heap[w.heap.size]? = some (.cells #[.int .i64 u0, .int .i64 u1, .slice An nn cn, .slice A n c, .int .u32 last] LT (0, 0)) := by rw [← hW0]; exact blk_alloc (blk_new w _) _
 have k1 : W0.heap[w.heap.size + 1]? = some (.cells #[.int .i64 0, .int .i64 0, .slice none 0 0, .slice none 0 0, .int .u32 0] LT (0, 0)) := by
  have := blk_new (w.alloc (db u0 u1 (.slice An nn cn) (.slice A n c) last)) (db 0 0 (.slice none 0 0) (.slice none 0 0) 0)
  rw [World.size_alloc] at this
  rw [← hW0]; exact this
 have LF := rlose_f u0 u1 i ns hG.len hG.rising (ns.length + 1) (by omega)
 have hlo : lost ns i = (y, 0) := by unfold lost; rw [hw]
 rw [hlo] at LF
 have hBW0 : Below wB.heap.size wB W0 := below_step hB hB0
 have hN0 : RNd W0 wB.heap.size (fun k => okn k ∧ k < w.heap.size) (.slice An nn cn) ns := Kd.R_below (Kd.R_mono (Kd.R_bound hN) (fun k hk => ⟨hk.1, hk.2.2.1⟩)) hB0
 have LC := Aside0.mk (PNodePlays.liveryref22_Lose.calls (ns.length + 1) u0 u1 (fun k => okn k ∧ k < w.heap.size) (.slice An nn cn) ns i u0 u1 (less ns i) y.f0 y.f1.f0 y.f1.f1 0 wB W0 hBW0 hN0 LF)
 obtain ⟨y0, y1, y2⟩ := y
 dsimp only at LC
 have H := Aside0.mk (And.intro hB0 (And.intro k0 (And.intro k1 (And.intro hW0 (And.intro (Kd.R_below hX hB0) (And.intro hd (And.intro hBW0 (And.intro hid (And.intro hnb (And.intro hnc (And.intro hB hbw)))))))))))
 have hnl6 : (n : Int) ≤ 1000000 := by omega
 have XLT := Aside0.mk (fun k (hk : (Value.slice A n c).ownBlock = some k) => Kd.R_lt hX k hk)
 have q0 := (blk_cell k0 0).trans rfl
 have q1 := (blk_cell k0 1).trans rfl
 have q2 := (blk_cell k0 2).trans rfl
 have q3 := (blk_cell k0 3).trans rfl
 have q4 := (blk_cell k0 4).trans rfl
 unfold dv
 clear hB hN hX hd hG hid hl hw hB0 k0 k1 hW0 LF hlo hBW0 hN0 hnn hncn hnb hnc hbw
 go_enter Tryz.func61, Tryz.ntmps61
 go_wp2_with fail
 rw [H.out.2.2.2.1]
 go_wp2_with fail
 refine LC.out.mono ?_
 rintro e w1 ⟨v2, rfl, hR2, hb1, hk1⟩
 obtain ⟨A2, c2, rfl⟩ := Kd.R_slice hR2
 obtain ⟨n2, hn2⟩ : ∃ n2, (less ns i).length = n2 := ⟨_, rfl⟩
 rw [hn2] at hR2 ⊢
 have hbk := kept_but H.out.2.2.2.2.2.2.1 hb1 hk1
 have hw0s : w.heap.size + 1 < W0.heap.size := blk_lt H.out.2.2.1
 have k0 := hbk.heap H.out.2.1 (by omega)
 have k1 := hbk.heap H.out.2.2.1 (by omega)
 have hX1 : RB w1 wB.heap.size (.slice A n c) bx := Kd.R_step H.out.2.2.2.2.1 (fun k hk hlt => hbk.block k hlt (fun h => H.out.2.2.2.2.2.1 k h.1 hk))
 clear q0 q1 q2 q3 q4 LC hk1
 dsimp only
 go_upto_region 4 with (fail)
 obtain ⟨w2, hw2⟩ : ∃ w2, (w1.alloc (.cells #[.int .i64 u0, .int .i64 u1, .slice A2 n2 c2] 33)).alloc (.cells #[.int .u32 y0, .int .i64 y1, .int .i64 y2] 59) = w2 := ⟨_, rfl⟩
 have hb2 : Below w1.heap.size w1 w2 := by rw [← hw2]; exact below_alloc (below_alloc (Below.refl _ _) _) _
 have kz : w2.heap[w1.heap.size]? = some (.cells #[.int .i64 u0, .int .i64 u1, .slice A2 n2 c2] 33 (0, 0)) := by rw [← hw2]; exact blk_alloc (blk_new w1 _) _
 rw [hw2]
 have hs12 := hbk.size
 have Z := Aside0.mk (And.intro (blk_below k0 hb2) (And.intro (blk_below k1 hb2) (And.intro kz (And.intro (Kd.R_below hX1 hb2) (And.intro (Kd.R_below hR2 hb2) (And.intro (hbk.trans (But.of_below hb2)) (And.intro hs12 hb2.size)))))))
 clear k0 k1 kz hX1 hR2 hb1 hbk hw2 hb2 hs12 hn2
 go_wp2_with fail
 go_loopg [10, 11] n (fun kk v10 v11 wr => ∃ j : Nat, kk = n - j ∧ v11 = .int .i64 j ∧ j ≤ n ∧ Below w2.heap.size w2 wr ∧ RB wr w2.heap.size v10 (onN (bx.take j) i))
 case atStart => exact ⟨0, rfl, rfl, Nat.zero_le _, Below.refl _ _, Kd.R_nil _ _ _ _ _⟩
 obtain ⟨j, rfl, rfl, hj, hBj, hR⟩ := hrel
 have c3 := (blk_cell (blk_below Z.out.1 hBj) 3).trans rfl
 by_cases hlt : j < n
 ·have hjb : j < bx.length := by rw [← H.out.2.2.2.2.2.2.2.2.1]; exact hlt
  obtain ⟨ad, rfl, d0, d1, d2, d3⟩ := box_at (H.out.2.2.2.2.2.2.2.2.1 ▸ Kd.C_below (Kd.R_reads' Z.out.2.2.2.1).2.2 hBj) H.out.2.2.2.2.2.2.2.2.1.symm j hlt hjb
  have hf := filter_snoc (fun x : Bx => x.f1 == i) hjb
  have hfl : (onN (bx.take j) i).length ≤ j := Nat.le_trans (List.length_filter_le _ _) (by rw [List.length_take]; omega)
  obtain ⟨x, hx⟩ : ∃ x, bx[j] = x := ⟨_, rfl⟩
  rw [hx] at d0 d1 d2 d3 hf
  obtain ⟨x0, x1, x2, x3⟩ := x
  dsimp only at d0 d1 d2 d3 hf
  obtain ⟨q, hq⟩ : ∃ q, (x1 == i) = q := ⟨_, rfl⟩
  rw [hq] at hf
  have hlt' : (j : Int) < (n : Int) := by omega
  have hf' : onN (bx.take (j + 1)) i = onN (bx.take j) i ++ (if q = true then [⟨x0, x1, x2, x3⟩] else []) := hf
  obtain ⟨ls, hls⟩ : ∃ ls, onN (bx.take j) i = ls := ⟨_, rfl⟩
  rw [hls] at hR hf' hfl
  have Y := Aside0.mk (And.intro hBj (And.intro hR (And.intro hf' hfl)))
  clear hBj hR hf hf' hfl hx hls
  cases q
  ·go_wp2
   go_roundg (n - (j + 1))
   case measure => omega
   case rel => exact ⟨j + 1, rfl, by go_num, by omega, Y.out.1, by rw [Y.out.2.2.1]; simpa using Y.out.2.1⟩
  ·go_wp2_with (refine Kd.R_append PLedLib.k100 (w0 := w2) w2.heap.size (by rfl) (.tmp 39) (.tmp 45) 34 100 (.agg #[.int .u32 0, .int .u32 0, .int .u32 0, .bool false]) 16 rfl Tryz.underlying34 PLedLib.info100 rfl (by decide) (by omega) u10 ls ⟨x0, x1, x2, x3⟩ [.int .u32 x0, .int .u32 x1, .int .u32 x2, .bool x3] (fun _ => True) (fun _ => False) rfl rfl (PLedLib.k100_mkM _ _ _ _) (fun _ h => h.elim) (fun _ _ => trivial) (Kd.R_mono Y.out.2.1 (fun _ _ => trivial)) Y.out.1 Y.out.1.size ?hl ?_)
   case hl => have h := Y.out.2.2.2; exact Nat.le_trans (Nat.mul_le_mul_right _ (Nat.add_le_add_right h 1)) (by omega)
   intro v1 w3 hR2 hB2 hg2 hat2
   have hm : RB w3 w2.heap.size v1 _ := Kd.R_mono (Kd.R_tight (by rfl) hR2) (fun k hk => hk.symm)
   have V := Aside0.mk (And.intro hm hB2)
   clear hR2 hB2 hg2 hat2 hm
   go_wp2
   go_roundg (n - (j + 1))
   case measure => omega
   case rel => exact ⟨j + 1, rfl, by go_num, by omega, V.out.2, by rw [Y.out.2.2.1]; exact V.out.1⟩
 ·have hlt' : ¬ (j : Int) < (n : Int) := by omega
  have htk : bx.take j = bx := List.take_of_length_le (by rw [← H.out.2.2.2.2.2.2.2.2.1]; omega)
  rw [htk] at hR
  obtain ⟨Ag, cg, rfl⟩ := Kd.R_slice hR
  have hgl : (onN bx i).length ≤ bx.length := List.length_filter_le _ _
  obtain ⟨ng, hng⟩ : ∃ ng, (onN bx i).length = ng := ⟨_, rfl⟩
  rw [hng] at hR hgl ⊢
  have k0 := blk_below Z.out.1 hBj
  have k1 := blk_below Z.out.2.1 hBj
  have kz := blk_below Z.out.2.2.1 hBj
  have f0 := blk_frozen k0 0
  have f1 := blk_frozen k0 1
  have f2 := blk_frozen k0 2
  have p0 := (blk_cell k0 0).trans rfl
  have p1 := (blk_cell k0 1).trans rfl
  have p2 := (blk_cell k0 2).trans rfl
  have m0 := (blk_cell kz 0).trans rfl
  have m1 := (blk_cell kz 1).trans rfl
  have m2 := (blk_cell kz 2).trans rfl
  have hsj := hBj.size
  have hz7 := Z.out.2.2.2.2.2.2
  obtain ⟨w3, hw3⟩ : ∃ w3, ((wr.setCell ⟨w.heap.size, 0, none⟩ (.int .i64 u0)).setCell ⟨w.heap.size, 1, none⟩ (.int .i64 u1)).setCell ⟨w.heap.size, 2, none⟩ (.slice A2 n2 c2) = w3 := ⟨_, rfl⟩
  have hB3 : But (fun k => k = w.heap.size) wr w3 := by rw [← hw3]; exact but3T (But.refl (fun k => k = w.heap.size) wr) (q := w.heap.size) rfl _ _ _
  have k03 : w3.heap[w.heap.size]? = some (.cells #[.int .i64 u0, .int .i64 u1, .slice A2 n2 c2, .slice A n c, .int .u32 last] LT (0, 0)) := by
   have e0 : (wr.setCell ⟨w.heap.size, 0, none⟩ (.int .i64 u0)).heap[w.heap.size]? = some (.cells #[.int .i64 u0, .int .i64 u1, .slice An nn cn, .slice A n c, .int .u32 last] LT (0, 0)) := by simpa using blk_set k0 0 (.int .i64 u0)
   have e1 : ((wr.setCell ⟨w.heap.size, 0, none⟩ (.int .i64 u0)).setCell ⟨w.heap.size, 1, none⟩ (.int .i64 u1)).heap[w.heap.size]? = some (.cells #[.int .i64 u0, .int .i64 u1, .slice An nn cn, .slice A n c, .int .u32 last] LT (0, 0)) := by simpa using blk_set e0 1 (.int .i64 u1)
   rw [← hw3]; simpa using blk_set e1 2 (.slice A2 n2 c2)
  have k13 := hB3.heap k1 (by omega)
  have hxo := H.out.2.2.2.2.2.1
  have X3 : RB w3 wB.heap.size (.slice A n c) bx := Kd.R_step (Kd.R_below Z.out.2.2.2.1 hBj) (fun k hk hlt => hB3.block k hlt (by have := Kd.R_lt H.out.2.2.2.2.1 k hk; have := XLT.out k hk; omega))
  have G3 : RB w3 w2.heap.size (.slice Ag ng cg) (onN bx i) := Kd.R_step hR (fun k hk hlt => hB3.block k hlt (by have := Kd.R_base hR k hk; omega))
  have N3 : RNd w3 wB.heap.size _ (.slice A2 n2 c2) (less ns i) := Kd.R_step (Kd.R_below Z.out.2.2.2.2.1 hBj) (fun k hk hlt => hB3.block k hlt (by rcases hk with hk | hk <;> omega))
  have WC := dwithout bx (onN bx i) A Ag c cg w3 (Kd.R_reads' X3).2.2 (Kd.R_reads' G3).2.2 (by rw [← H.out.2.2.2.2.2.2.2.2.1]; omega) (by rw [hng]; have := H.out.2.2.2.2.2.2.2.2.1; omega)
  rw [hng, ← H.out.2.2.2.2.2.2.2.2.1, without_left (g := onN bx i) H.out.2.2.2.2.2.2.2.1 (fun z hz => (List.mem_filter.1 hz).1), left_on] at WC
  have WC := Aside0.mk WC
  have V := Aside0.mk (And.intro hBj (And.intro k03 (And.intro k13 (And.intro G3 (And.intro N3 (And.intro hB3 (And.intro hng (Kd.R_reads' G3).2.1)))))))
  have HW3 := Aside0.mk hw3
  clear hBj hR htk k0 k1 kz hw3 hB3 k13 X3 G3 N3 hng hgl hxo
  go_upto_region 11 with (fail)
  rw [HW3.out]
  have q3 := (blk_cell k03 3).trans rfl
  clear f0 f1 f2 p0 p1 p2 m0 m1 m2 k03 c3
  go_wp2_with fail
  refine WC.out.mono ?_
  rintro e w4 ⟨vb, rfl, hRb, hb4⟩
  obtain ⟨Ab, cb, rfl⟩ := Kd.R_slice hRb
  obtain ⟨lb, hlb⟩ : ∃ lb, (offN bx i).length = lb := ⟨_, rfl⟩
  rw [hlb] at hRb ⊢
  have k0 := blk_below V.out.2.1 hb4
  have k1 := blk_below V.out.2.2.1 hb4
  have f3 := blk_frozen k0 3
  have p3 := (blk_cell k0 3).trans rfl
  obtain ⟨w5, hw5⟩ : ∃ w5, w4.setCell ⟨w.heap.size, 3, none⟩ (.slice Ab lb cb) = w5 := ⟨_, rfl⟩
  have k05 : w5.heap[w.heap.size]? = some (.cells #[.int .i64 u0, .int .i64 u1, .slice A2 n2 c2, .slice Ab lb cb, .int .u32 last] LT (0, 0)) := by rw [← hw5]; simpa using blk_set k0 3 (.slice Ab lb cb)
  have hB5 : But (fun k => k = w.heap.size) w4 w5 := by rw [← hw5]; exact (But.refl (fun k => k = w.heap.size) w4).setCell (b := w.heap.size) rfl 3 _
  have k15 := hB5.heap k1 (by omega)
  have U := Aside0.mk (And.intro hRb (And.intro hb4 (And.intro hB5 k15)))
  have HW5 := Aside0.mk hw5
  have hs4 := hb4.size
  have hs3 := V.out.2.2.2.2.2.1.size
  clear hRb hlb hb4 q3 k0 k1 WC hw5 hB5
  dsimp only
  go_upto_region 12 with (fail)
  rw [HW5.out]
  have q0 := (blk_cell k05 0).trans rfl
  have q1 := (blk_cell k05 1).trans rfl
  have q2 := (blk_cell k05 2).trans rfl
  have q3 := (blk_cell k05 3).trans rfl
  have q4 := (blk_cell k05 4).trans rfl
  have r0 := (blk_cell k15 0).trans rfl
  have r1 := (blk_cell k15 1).trans rfl
  have r2 := (blk_cell k15 2).trans rfl
  have r3 := (blk_cell k15 3).trans rfl
  have r4 := (blk_cell k15 4).trans rfl
  have g0 := blk_frozen k15 0
  have g1 := blk_frozen k15 1
  have g2 := blk_frozen k15 2
  have g3 := blk_frozen k15 3
  have g4 := blk_frozen k15 4
  clear f3 p3 k05 k15
  go_wp2
  have z0 := set5 (b0 := .int .i64 u0) (b1 := .int .i64 u1) (b2 := .slice A2 n2 c2) (b3 := .slice Ab lb cb) (b4 := .int .u32 last) U.out.2.2.2
  have y0 := (blk_cell z0 0).trans rfl
  have y1 := (blk_cell z0 1).trans rfl
  have y2 := (blk_cell z0 2).trans rfl
  have y3 := (blk_cell z0 3).trans rfl
  have y4 := (blk_cell z0 4).trans rfl
  have FIN := Aside0.mk (but5T ((But.refl (fun k => k = w.heap.size ∨ k = w.heap.size + 1) w4).trans (U.out.2.2.1.mono fun k h => .inl h)) (q := w.heap.size + 1) (.inr rfl) (.int .i64 u0) (.int .i64 u1) (.slice A2 n2 c2) (.slice Ab lb cb) (.int .u32 last))
  refine bodyPost_ret (v := .tuple #[dv u0 u1 (.slice A2 n2 c2) (.slice Ab lb cb) last, .slice Ag ng cg, .int .i64 0]) (by simp [results, Tryz.results61, go_sem, dv, y0, y1, y2, y3, y4]) rfl ⟨_, _, _, _, _, rfl, ?_, ?_, ?_, V.out.2.2.2.2.2.2.1, V.out.2.2.2.2.2.2.2, ?_, ?_⟩
  ·exact Kd.R_mono (Kd.R_step (Kd.R_below V.out.2.2.2.2.1 U.out.2.1) (fun k hk hlt => FIN.out.block k hlt (by rcases hk with hk | hk <;> omega))) (fun k hk => hk.elim (fun h => .inl h.1) (fun h => .inr (by omega)))
  ·exact Kd.R_lower (Kd.R_step U.out.1 (fun k hk hlt => FIN.out.block k hlt (by have := Kd.R_base U.out.1 k hk; omega))) (by omega)
  ·intro T w'' hT hbT
   have h := (Kd.R_reads' (Kd.R_step (Kd.R_step (Kd.R_below V.out.2.2.2.1 U.out.2.1) (fun k hk hlt => FIN.out.block k hlt (by have := Kd.R_base V.out.2.2.2.1 k hk; omega))) (fun k hk hlt => hbT.block k hlt (fun ht => by have := hT k ht; have := Kd.R_base V.out.2.2.2.1 k hk; omega)))).2.2
   rw [V.out.2.2.2.2.2.2.1] at h
   exact h
  ·exact fun k hk => by have := Kd.R_base U.out.1 k hk; omega
  ·have h1 := (But.of_below H.out.1 (T := okn)).trans (Z.out.2.2.2.2.2.1.mono fun k h => h.1)
   have h2 := h1.trans (But.of_below V.out.1)
   have h3 := but_drop h2 V.out.2.2.2.2.2.1 (fun k hk => by omega)
   have h4 := but_drop (h3.trans (But.of_below U.out.2.1)) FIN.out (fun k hk => by omega)
   exact h4
end Go.Proofs.YthibppfdonepoaaGreat.LedT
set_option linter.unusedVariables false
set_option linter.unusedSimpArgs false
namespace Go.Proofs.YthibppfdonepoaaGreat.LedT
open Go.RowKit Go.MapKept Go.Maps Go.ChangeMaps Go.Proofs.YthibppfdonepoaaGreat.XBut Go.Proofs.YthibppfdonepoaaGreat.XMap Go.Proofs.YthibppfdonepoaaGreat.NodeT Go.Proofs.YthibppfdonepoaaGreatW.PrintWords Go.Proofs.YthibppfdonepoaaGreatW.PrintLast
set_option maxHeartbeats 8000000 in
set_option maxRecDepth 100000 in
theorem dgive_bad (u0 u1 : Int) (An A : Option Addr) (nn cn n c : Nat) (last o m : Int) (s : Bool) (w : World) (hm : mayc o m = 2) :
  Calls Tryz.prog 41 #[dv u0 u1 (.slice An nn cn) (.slice A n c) last, .int .u32 o, .bool s, .int .i64 m] w fun e w' => e = .returned (.tuple #[dv u0 u1 (.slice An nn cn) (.slice A n c) last, .slice none 0 0, .int .i64 2]) ∧ Below w.heap.size w w' := by
 have hu118 := Tryz.underlying37
 have B := dbad o m
 rw [hm] at B
 have B := Aside0.mk B
 obtain ⟨W0, hW0⟩ : ∃ W0, (w.alloc (db u0 u1 (.slice An nn cn) (.slice A n c) last)).alloc (db 0 0 (.slice none 0 0) (.slice none 0 0) 0) = W0 := ⟨_, rfl⟩
 have hB0 : Below w.heap.size w W0 := by rw [← hW0]; exact below_alloc (below_alloc (Below.refl _ _) _) _
 have k0 : W0.heap[w.heap.size]? = some (.cells #[.int .i64 u0, .int .i64 u1, .slice An nn cn, .slice A n c, .int .u32 last] LT (0, 0)) := by rw [← hW0]; exact blk_alloc (blk_new w _) _
 have k1 : W0.heap[w.heap.size + 1]? = some (.cells #[.int .i64 0, .int .i64 0, .slice none 0 0, .slice none 0 0, .int .u32 0] LT (0, 0)) := by
  have := blk_new (w.alloc (db u0 u1 (.slice An nn cn) (.slice A n c) last)) (db 0 0 (.slice none 0 0) (.slice none 0 0) 0)
  rw [World.size_alloc] at this
  rw [← hW0]; exact this
 have H := Aside0.mk (And.intro hB0 (And.intro k0 (And.intro k1 hW0)))
 unfold dv
 clear hm hB0 k0 k1 hW0
 go_enter Tryz.func41, Tryz.ntmps41
 go_wp2_with fail
 rw [H.out.2.2.2]
 refine (B.out W0).mono ?_
 rintro e wz ⟨rfl, hz⟩
 obtain rfl := hz.symm
 clear hz B
 have q0 := (blk_cell H.out.2.1 0).trans rfl
 have q1 := (blk_cell H.out.2.1 1).trans rfl
 have q2 := (blk_cell H.out.2.1 2).trans rfl
 have q3 := (blk_cell H.out.2.1 3).trans rfl
 have q4 := (blk_cell H.out.2.1 4).trans rfl
 have r0 := (blk_cell H.out.2.2.1 0).trans rfl
 have r1 := (blk_cell H.out.2.2.1 1).trans rfl
 have r2 := (blk_cell H.out.2.2.1 2).trans rfl
 have r3 := (blk_cell H.out.2.2.1 3).trans rfl
 have r4 := (blk_cell H.out.2.2.1 4).trans rfl
 have g0 := blk_frozen H.out.2.2.1 0
 have g1 := blk_frozen H.out.2.2.1 1
 have g2 := blk_frozen H.out.2.2.1 2
 have g3 := blk_frozen H.out.2.2.1 3
 have g4 := blk_frozen H.out.2.2.1 4
 dsimp only
 go_wp2
 have z0 := set5 (b0 := .int .i64 u0) (b1 := .int .i64 u1) (b2 := .slice An nn cn) (b3 := .slice A n c) (b4 := .int .u32 last) H.out.2.2.1
 have y0 := (blk_cell z0 0).trans rfl
 have y1 := (blk_cell z0 1).trans rfl
 have y2 := (blk_cell z0 2).trans rfl
 have y3 := (blk_cell z0 3).trans rfl
 have y4 := (blk_cell z0 4).trans rfl
 refine bodyPost_ret (v := .tuple #[dv u0 u1 (.slice An nn cn) (.slice A n c) last, .slice none 0 0, .int .i64 2]) (by simp [results, Tryz.results41, go_sem, dv, y0, y1, y2, y3, y4]) rfl ⟨rfl, ?_⟩
 have h2 := but5 (But.of_below (T := fun _ => False) H.out.1) (Nat.le_succ w.heap.size) (.int .i64 u0) (.int .i64 u1) (.slice An nn cn) (.slice A n c) (.int .u32 last)
 exact But.belowF h2
set_option maxHeartbeats 8000000 in
set_option maxRecDepth 100000 in
theorem dgive_full (u0 u1 : Int) (An A : Option Addr) (nn cn n c : Nat) (last o m : Int) (s : Bool) (ns : List Nd) (bx : List Bx) (w : World) (hD : DocAt w An cn A c ns bx) (hG : NodeT.Good u0 u1 ns) (hnn : ns.length = nn) (hn : bx.length = n) (hl : bx.length ≤ 1000000) (hm : mayc o m = 0) (hf : freeN u0 u1 ns bx < m) :
  Calls Tryz.prog 41 #[dv u0 u1 (.slice An nn cn) (.slice A n c) last, .int .u32 o, .bool s, .int .i64 m] w fun e w' => e = .returned (.tuple #[dv u0 u1 (.slice An nn cn) (.slice A n c) last, .slice none 0 0, .int .i64 6]) ∧ Below w.heap.size w w' := by
 have hu118 := Tryz.underlying37
 have B := dbad o m
 rw [hm] at B
 have B := Aside0.mk B
 obtain ⟨W0, hW0⟩ : ∃ W0, (w.alloc (db u0 u1 (.slice An nn cn) (.slice A n c) last)).alloc (db 0 0 (.slice none 0 0) (.slice none 0 0) 0) = W0 := ⟨_, rfl⟩
 have hB0 : Below w.heap.size w W0 := by rw [← hW0]; exact below_alloc (below_alloc (Below.refl _ _) _) _
 have k0 : W0.heap[w.heap.size]? = some (.cells #[.int .i64 u0, .int .i64 u1, .slice An nn cn, .slice A n c, .int .u32 last] LT (0, 0)) := by rw [← hW0]; exact blk_alloc (blk_new w _) _
 have k1 : W0.heap[w.heap.size + 1]? = some (.cells #[.int .i64 0, .int .i64 0, .slice none 0 0, .slice none 0 0, .int .u32 0] LT (0, 0)) := by
  have := blk_new (w.alloc (db u0 u1 (.slice An nn cn) (.slice A n c) last)) (db 0 0 (.slice none 0 0) (.slice none 0 0) 0)
  rw [World.size_alloc] at this
  rw [← hW0]; exact this
 have OF := dfree u0 u1 ns An cn bx A c last W0 (hD.below hB0) hG hl
 obtain ⟨q, hq⟩ : ∃ q, freeN u0 u1 ns bx = q := ⟨_, rfl⟩
 rw [hq] at hf OF
 rw [hn, hnn] at OF
 unfold dv at OF
 have OF := Aside0.mk OF
 have t1 : decide (q < m) = true := decide_eq_true hf
 have H := Aside0.mk (And.intro hB0 (And.intro k0 (And.intro k1 hW0)))
 unfold dv
 clear hD hG hn hnn hm hB0 k0 k1 hW0 hq
 go_enter Tryz.func41, Tryz.ntmps41
 go_wp2_with fail
 rw [H.out.2.2.2]
 refine (B.out W0).mono ?_
 rintro e wz ⟨rfl, hz⟩
 obtain rfl := hz.symm
 clear hz B
 have q0 := (blk_cell H.out.2.1 0).trans rfl
 have q1 := (blk_cell H.out.2.1 1).trans rfl
 have q2 := (blk_cell H.out.2.1 2).trans rfl
 have q3 := (blk_cell H.out.2.1 3).trans rfl
 have q4 := (blk_cell H.out.2.1 4).trans rfl
 dsimp only
 go_wp2_with fail
 refine OF.out.mono ?_
 rintro e w1 ⟨rfl, hb1⟩
 have X := Aside0.mk hb1
 have k0 := blk_below H.out.2.1 hb1
 have k1 := blk_below H.out.2.2.1 hb1
 have K1 := Aside0.mk k1
 clear hb1 q0 q1 q2 q3 q4 OF
 have q0 := (blk_cell k0 0).trans rfl
 have q1 := (blk_cell k0 1).trans rfl
 have q2 := (blk_cell k0 2).trans rfl
 have q3 := (blk_cell k0 3).trans rfl
 have q4 := (blk_cell k0 4).trans rfl
 have r0 := (blk_cell k1 0).trans rfl
 have r1 := (blk_cell k1 1).trans rfl
 have r2 := (blk_cell k1 2).trans rfl
 have r3 := (blk_cell k1 3).trans rfl
 have r4 := (blk_cell k1 4).trans rfl
 have g0 := blk_frozen k1 0
 have g1 := blk_frozen k1 1
 have g2 := blk_frozen k1 2
 have g3 := blk_frozen k1 3
 have g4 := blk_frozen k1 4
 clear k0 k1
 dsimp only
 go_wp2
 have z0 := set5 (b0 := .int .i64 u0) (b1 := .int .i64 u1) (b2 := .slice An nn cn) (b3 := .slice A n c) (b4 := .int .u32 last) K1.out
 have y0 := (blk_cell z0 0).trans rfl
 have y1 := (blk_cell z0 1).trans rfl
 have y2 := (blk_cell z0 2).trans rfl
 have y3 := (blk_cell z0 3).trans rfl
 have y4 := (blk_cell z0 4).trans rfl
 refine bodyPost_ret (v := .tuple #[dv u0 u1 (.slice An nn cn) (.slice A n c) last, .slice none 0 0, .int .i64 6]) (by simp [results, Tryz.results41, go_sem, dv, y0, y1, y2, y3, y4]) rfl ⟨rfl, ?_⟩
 exact But.belowF (but5 (But.of_below (T := fun _ => False) (below_then H.out.1 H.out.1.size X.out)) (Nat.le_succ w.heap.size) (.int .i64 u0) (.int .i64 u1) (.slice An nn cn) (.slice A n c) (.int .u32 last))
end Go.Proofs.YthibppfdonepoaaGreat.LedT
set_option linter.unusedVariables false
set_option linter.unusedSimpArgs false
namespace Go.Proofs.YthibppfdonepoaaGreat.LedT
open Go.RowKit Go.MapKept Go.Maps Go.ChangeMaps Go.Proofs.YthibppfdonepoaaGreat.XBut Go.Proofs.YthibppfdonepoaaGreat.XMap Go.Proofs.YthibppfdonepoaaGreat.NodeT Go.Proofs.YthibppfdonepoaaGreatW.PrintWords Go.Proofs.YthibppfdonepoaaGreatW.PrintLast
abbrev RX (w : World) (N : Nat) (ok : Nat → Prop) (v : Value) (xs : List Bx) : Prop := Kd.R PLedLib.k100 100 w N ok v xs
abbrev V4 := Value × Value × Value × Value
def JB (N : Nat) (Ws : World) (x : Bx) (tk : List Bx) (b : V4) (l : Nat → Bool) (w' : World) : Prop :=
  Below N Ws w' ∧
    (if l 6 = true then RX w' N (fun _ => True) b.2.2.2 (tk ++ [x])
     else (l 5 = true → RX w' N (fun k => b.2.2.1.ownBlock = some k) b.2.2.1 [x]) ∧
          (if l 3 = true then RX w' N (fun k => l 5 = true → b.2.2.1.ownBlock ≠ some k) b.2.1 tk
           else l 0 = true → RX w' N (fun k => l 5 = true → b.2.2.1.ownBlock ≠ some k) b.1 []))
section
variable {N : Nat} {Ws w' w1 : World} {x : Bx} {tk : List Bx} {b : V4} {l : Nat → Bool}
theorem JB.start (h : Below N Ws w') : JB N Ws x tk b (fun _ => false) w' := by
 unfold JB
 simp [h]
theorem JB.below (h : JB N Ws x tk b l w') : Below N Ws w' := h.1
theorem JB.up (h : JB N Ws x tk b l w') (i : Nat) (hi : i ≠ 0 ∧ i ≠ 3 ∧ i ≠ 5 ∧ i ≠ 6) : JB N Ws x tk b (XInv.up l i) w' := by
 have e : ∀ j, j ≠ i → XInv.up l i j = l j := fun j hj => by unfold XInv.up; rw [if_neg hj]
 unfold JB at *
 rw [e 6 (Ne.symm hi.2.2.2), e 5 (Ne.symm hi.2.2.1), e 3 (Ne.symm hi.2.1), e 0 (Ne.symm hi.1)]
 exact h
theorem JB.s0 (h : JB N Ws x tk b l w') (h6 : l 6 = false) (h3 : l 3 = false) (v : Value) (hb : Below w'.heap.size w' w1) (hR : RX w1 w'.heap.size (fun _ => True) v []) (hN : N ≤ w'.heap.size) : JB N Ws x tk (v, b.2) (XInv.up l 0) w1 := by
 have e : ∀ j, j ≠ 0 → XInv.up l 0 j = l j := fun j hj => by unfold XInv.up; rw [if_neg hj]
 unfold JB at *
 rw [e 6 (by decide), e 5 (by decide), e 3 (by decide)]
 rw [if_neg (by rw [h6]; decide), if_neg (by rw [h3]; decide)] at h ⊢
 obtain ⟨h1, h2, h3⟩ := h
 refine ⟨h1.trans (hb.mono hN), fun h7 => Kd.R_below (h2 h7) hb, fun _ => ?_⟩
 refine Kd.R_mono (Kd.R_lower (Kd.R_bound hR) hN) (fun k hk h7 he => ?_)
 have := Kd.R_lt (h2 h7) k he
 have := hk.2.1
 omega
theorem JB.row0 (h : JB N Ws x tk b l w') (h6 : l 6 = false) (h3 : l 3 = false) (h0 : l 0 = true) : RX w' N (fun k => l 5 = true → b.2.2.1.ownBlock ≠ some k) b.1 [] := by
 unfold JB at h
 rw [if_neg (by rw [h6]; decide), if_neg (by rw [h3]; decide)] at h
 exact h.2.2 h0
theorem JB.row3 (h : JB N Ws x tk b l w') (h6 : l 6 = false) (h3 : l 3 = true) : RX w' N (fun k => l 5 = true → b.2.2.1.ownBlock ≠ some k) b.2.1 tk := by
 unfold JB at h
 rw [if_neg (by rw [h6]; decide), if_pos h3] at h
 exact h.2.2
theorem JB.row5 (h : JB N Ws x tk b l w') (h6 : l 6 = false) (h5 : l 5 = true) : RX w' N (fun k => b.2.2.1.ownBlock = some k) b.2.2.1 [x] := by
 unfold JB at h
 rw [if_neg (by rw [h6]; decide)] at h
 exact h.2.1 h5
theorem JB.row6 (h : JB N Ws x tk b l w') (h6 : l 6 = true) : RX w' N (fun _ => True) b.2.2.2 (tk ++ [x]) := by
 unfold JB at h
 rw [if_pos h6] at h
 exact h.2
theorem JB.s3 (h : JB N Ws x tk b l w') (h6 : l 6 = false) (h3 : l 3 = false) (h0 : l 0 = true) (v : Value) (hR : RX w1 N (fun k => l 5 = true → b.2.2.1.ownBlock ≠ some k) v tk) (hB : Below N Ws w1) (hg : w'.grownBy w1 b.1.ownBlock) : JB N Ws x tk (b.1, v, b.2.2) (XInv.up l 3) w1 := by
 have e : ∀ j, j ≠ 3 → XInv.up l 3 j = l j := fun j hj => by unfold XInv.up; rw [if_neg hj]
 have e5 : XInv.up l 3 3 = true := by unfold XInv.up; rw [if_pos rfl]
 have r0 := h.row0 h6 h3 h0
 unfold JB at *
 rw [e 6 (by decide), e 5 (by decide), e5, e 0 (by decide)]
 rw [if_neg (by rw [h6]; decide)] at h ⊢
 rw [if_pos rfl]
 refine ⟨hB, fun h7 => Kd.R_grown (h.2.1 h7) hg (fun k hk he => ?_), hR⟩
 exact r0.1 k he.symm h7 hk
theorem JB.s5 (h : JB N Ws x tk b l w') (h6 : l 6 = false) (v : Value) (hb : Below w'.heap.size w' w1) (hR : RX w1 w'.heap.size (fun _ => True) v [x]) (hN : N ≤ w'.heap.size) : JB N Ws x tk (b.1, b.2.1, v, b.2.2.2) (XInv.up l 5) w1 := by
 have e : ∀ j, j ≠ 5 → XInv.up l 5 j = l j := fun j hj => by unfold XInv.up; rw [if_neg hj]
 have e7 : XInv.up l 5 5 = true := by unfold XInv.up; rw [if_pos rfl]
 have old : ∀ u (xs : List Bx), RX w' N (fun k => l 5 = true → b.2.2.1.ownBlock ≠ some k) u xs → RX w1 N (fun k => True → v.ownBlock ≠ some k) u xs := fun u xs hu =>
  Kd.R_mono (Kd.R_below (Kd.R_bound hu) hb) (fun k hk _ he => by have := Kd.R_base hR k he; have := hk.2.2.1; omega)
 unfold JB at *
 rw [e 6 (by decide), e7, e 3 (by decide), e 0 (by decide)]
 rw [if_neg (by rw [h6]; decide)] at h ⊢
 obtain ⟨h1, h2, h3⟩ := h
 refine ⟨h1.trans (hb.mono hN), fun _ => Kd.R_lower (Kd.R_tight (by rfl) (Kd.R_mono hR fun _ _ => trivial) |> fun hz => Kd.R_mono hz fun k hk => hk.symm) hN, ?_⟩
 split at h3
 ·rename_i h5
  rw [if_pos h5]
  exact Kd.R_mono (old _ _ h3) (fun k hk _ => hk trivial)
 ·rename_i h5
  rw [if_neg h5]
  exact fun h0 => Kd.R_mono (old _ _ (h3 h0)) (fun k hk _ => hk trivial)
theorem JB.s6 (h : JB N Ws x tk b l w') (v : Value) (hR : RX w1 N (fun _ => True) v (tk ++ [x])) (hB : Below N Ws w1) : JB N Ws x tk (b.1, b.2.1, b.2.2.1, v) (XInv.up l 6) w1 := by
 have e8 : XInv.up l 6 6 = true := by unfold XInv.up; rw [if_pos rfl]
 unfold JB
 rw [e8, if_pos rfl]
 exact ⟨hB, hR⟩
end
end Go.Proofs.YthibppfdonepoaaGreat.LedT
