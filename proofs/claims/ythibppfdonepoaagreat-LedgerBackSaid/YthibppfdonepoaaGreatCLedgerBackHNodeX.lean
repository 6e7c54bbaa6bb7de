/- liveryref23.Give, granted. ledger: what a law's act may change; the document's ledger beside the program's. liveryref23.New. liveryref23.Take, whatever is asked. liveryref23.Give, whatever is asked. Rows of nodes and of boxes lie apart. liverylaw23: acts, great. liveryref22.Join: the world while the new row is put together. -/
import Derived.Test.YthibppfdonepoaaGreatCLedgerBackHLedEE
import Derived.Test.YthibppfdonepoaaGreatCLedgerBackHLedP
import Derived.Test.YthibppfdonepoaaGreatCLedgerBackHNodeV
import Derived.Test.YthibppfdonepoaaGreatCLedgerBackW
set_option linter.unusedVariables false
set_option linter.unusedSimpArgs false
namespace Go.Proofs.YthibppfdonepoaaGreat.LedT
open Go.RowKit Go.MapKept Go.Maps Go.ChangeMaps Go.Proofs.YthibppfdonepoaaGreat.XBut Go.Proofs.YthibppfdonepoaaGreat.XMap Go.Proofs.YthibppfdonepoaaGreat.NodeT Go.Proofs.YthibppfdonepoaaGreatW.PrintWords Go.Proofs.YthibppfdonepoaaGreatW.PrintLast
theorem but_low {T : Nat → Prop} {w0 w w' : World} {B : Nat} (h : But T w0 w) (hb : Below B w w') (hB : w0.heap.size ≤ B) : But T w0 w' :=
 ⟨hb.os.trans h.os, hb.tape.trans h.tape, hb.output.trans h.output, Nat.le_trans h.size hb.size, fun k hk hn => (hb.block k (Nat.lt_of_lt_of_le hk hB)).trans (h.block k hk hn)⟩
theorem but_or {T S : Nat → Prop} {w0 w w' : World} (h : But T w0 w) (h2 : But S w w') : But (fun k => T k ∨ S k) w0 w' := (h.mono fun _ => .inl).trans (h2.mono fun _ => .inr)
structure GD (w W0 wr : World) (wB : Nat) (u0 u1 : Int) (An A : Option Addr) (nn cn n c : Nat) (last o : Int) (s : Bool) (ns : List Nd) (bx : List Bx) (i : Nat) (Ai : Option Addr) (li ci : Nat) (vo : Value) : Prop where
 box : wr.heap[w.heap.size]? = some (.cells #[.int .i64 u0, .int .i64 u1, .slice An nn cn, .slice Ai li ci, .int .u32 (last + i)] LT (0, 0))
 res : wr.heap[w.heap.size + 1]? = some (.cells #[.int .i64 0, .int .i64 0, .slice none 0 0, .slice none 0 0, .int .u32 0] LT (0, 0))
 but : But (fun k => k = w.heap.size) W0 wr
 row : RX wr wB (fun k => (Value.slice A n c).ownBlock = some k ∨ W0.heap.size ≤ k) (.slice Ai li ci) (bx ++ grow u0 u1 ns bx last o s i)
 out : RB wr W0.heap.size vo (grow u0 u1 ns bx last o s i)
set_option maxHeartbeats 16000000 in
set_option maxRecDepth 100000 in
theorem dgive_ok (u0 u1 : Int) (An A : Option Addr) (nn cn n c : Nat) (last o : Int) (N : Nat) (s : Bool) (ns : List Nd) (bx : List Bx) (okn : Nat → Prop) (wB w : World) (hB : Below wB.heap.size wB w) (hN : RNd w wB.heap.size okn (.slice An nn cn) ns) (hX : RB w wB.heap.size (.slice A n c) bx) (hG : LG u0 u1 ns bx last) (hla : last ≤ 4000000000) (hm : mayc o N = 0) (hf : (N : Int) ≤ freeN u0 u1 ns bx) :
  Calls Tryz.prog 41 #[dv u0 u1 (.slice An nn cn) (.slice A n c) last, .int .u32 o, .bool s, .int .i64 N] w fun e w' => ∃ vb' vo, e = .returned (.tuple #[dv u0 u1 (.slice An nn cn) vb' (last + N), vo, .int .i64 0]) ∧ RX w' wB.heap.size (fun k => (Value.slice A n c).ownBlock = some k ∨ w.heap.size ≤ k) vb' (bx ++ grow u0 u1 ns bx last o s N) ∧ RB w' w.heap.size vo (grow u0 u1 ns bx last o s N) ∧ Below w.heap.size w w' := by
 have hu118 := Tryz.underlying37
 have hu113 := Tryz.underlying100
 have B := dbad o N
 rw [hm] at B
 have B := Aside0.mk B
 obtain ⟨hnn, hncn, _⟩ := Kd.R_reads' hN
 obtain ⟨hnb, hnc, _⟩ := Kd.R_reads' hX
 have hbl := hG.len
 obtain ⟨W0, hW0⟩ : ∃ W0, (w.alloc (db u0 u1 (.slice An nn cn) (.slice A n c) last)).alloc (db 0 0 (.slice none 0 0) (.slice none 0 0) 0) = W0 := ⟨_, rfl⟩
 have hB0 : Below w.heap.size w W0 := by rw [← hW0]; exact below_alloc (below_alloc (Below.refl _ _) _) _
 have k0 : W0.heap[w.heap.size]? = some (.cells #[.int .i64 u0, .int .i64 u1, .slice An nn cn, .slice A n c, .int .u32 last] LT (0, 0)) := by rw [← hW0]; exact blk_alloc (blk_new w _) _
 have k1 : W0.heap[w.heap.size + 1]? = some (.cells #[.int .i64 0, .int .i64 0, .slice none 0 0, .slice none 0 0, .int .u32 0] LT (0, 0)) := by
  have := blk_new (w.alloc (db u0 u1 (.slice An nn cn) (.slice A n c) last)) (db 0 0 (.slice none 0 0) (.slice none 0 0) 0)
  rw [World.size_alloc] at this
  rw [← hW0]; exact this
 have hW0s : w.heap.size + 1 < W0.heap.size := blk_lt k1
 have hXl := fun k hk => Kd.R_lt hX k hk
 have DN := fun (wr : World) (hb : But (fun k => k = w.heap.size) W0 wr) => (show RNd wr wB.heap.size (fun k => okn k ∧ k < w.heap.size) (.slice An nn cn) ns from Kd.R_step (Kd.R_below (Kd.R_mono (Kd.R_bound hN) (fun k hk => ⟨hk.1, hk.2.2.1⟩)) hB0) (fun k hk hlt => hb.block k hlt (by omega)))
 have OF := dfree u0 u1 ns An cn bx A c last W0 ⟨by rw [← hnn]; exact (Kd.R_reads' (Kd.R_below hN hB0)).1 ▸ (Kd.R_reads' (Kd.R_below hN hB0)).2.2, by omega, (Kd.R_reads' (Kd.R_below hX hB0)).2.2, by omega⟩ hG.nodes (by omega)
 obtain ⟨q, hq⟩ : ∃ q, freeN u0 u1 ns bx = q := ⟨_, rfl⟩
 rw [hq] at OF
 rw [← hnb, ← hnn] at OF
 unfold dv at OF
 have OF := Aside0.mk OF
 have t1 : decide (q < (N : Int)) = false := decide_eq_false (by omega)
 have hN2 : (N : Int) ≤ 131072 := by omega
 have G0 : GD w W0 W0 wB.heap.size u0 u1 An A nn cn n c last o s ns bx 0 A n c (.slice none 0 0) := ⟨by simpa using k0, k1, But.refl _ _, by simpa [grow] using (Kd.R_mono (Kd.R_below hX hB0) (fun k hk => .inl hk) : RX W0 wB.heap.size (fun k => (Value.slice A n c).ownBlock = some k ∨ W0.heap.size ≤ k) (.slice A n c) bx), Kd.R_nil _ _ _ _ _⟩
 have H := Aside0.mk (And.intro hB0 (And.intro G0 (And.intro DN (And.intro hW0 (And.intro hG (And.intro hq (And.intro hnn (And.intro hnb (And.intro hla (And.intro hbl (And.intro hXl (And.intro hncn hB))))))))))))
 have o0 := (mayc_zero (o := o) (n := (N : Int)) (by rw [hm]; decide)).1
 have HO := Aside0.mk (And.intro o0 hf)
 have q0 := (blk_cell k0 0).trans rfl
 have q1 := (blk_cell k0 1).trans rfl
 have q2 := (blk_cell k0 2).trans rfl
 have q3 := (blk_cell k0 3).trans rfl
 have q4 := (blk_cell k0 4).trans rfl
 unfold dv
 clear hB hN hX hG hla hm hf hnn hncn hnb hnc hbl hB0 k0 k1 DN hq G0 hXl hW0 o0
 go_enter Tryz.func41, Tryz.ntmps41
 go_wp2_with fail
 rw [H.out.2.2.2.1]
 refine (B.out W0).mono ?_
 rintro e wz ⟨rfl, hz⟩
 obtain rfl := hz.symm
 clear hz B
 dsimp only
 go_wp2_with fail
 refine OF.out.mono ?_
 rintro e w1 ⟨rfl, hb1⟩
 have X := Aside0.mk hb1
 clear hb1 q0 q1 q2 q3 q4 OF
 dsimp only
 go_wp2_with fail
 go_loopg [12, 13] N (fun kk v12 v13 wr => ∃ (i : Nat) (Ai : Option Addr) (li ci : Nat), kk = N - i ∧ v13 = .int .i64 i ∧ i ≤ N ∧ GD w W0 wr wB.heap.size u0 u1 An A nn cn n c last o s ns bx i Ai li ci v12)
 case atStart => exact ⟨0, A, n, c, rfl, rfl, Nat.zero_le _, ⟨blk_below H.out.2.1.box X.out, blk_below H.out.2.1.res X.out, But.of_below X.out, Kd.R_below H.out.2.1.row X.out, Kd.R_nil _ _ _ _ _⟩⟩
 obtain ⟨i, Ai, li, ci, rfl, rfl, hi, hS⟩ := hrel
 by_cases hlt : i < N
 ·have hlt' : (i : Int) < (N : Int) := by omega
  have hli := (Kd.R_reads' hS.row).1
  rw [List.length_append, grow_len] at hli
  have hGi := H.out.2.2.2.2.1.grow o s HO.out.1 i (by have := HO.out.2; omega)
  have DA : ∀ w', Below wr.heap.size wr w' → DocAt w' An cn Ai ci ns (bx ++ grow u0 u1 ns bx last o s i) := fun w' hb => by
   have hN' := Kd.R_reads' (H.out.2.2.1 w' (hS.but.trans (But.of_below hb)))
   have hR' := Kd.R_reads' (Kd.R_below hS.row hb)
   exact ⟨hN'.1 ▸ hN'.2.2, by have := hN'.1; have := hN'.2.1; omega, hR'.1 ▸ hR'.2.2, by have := hR'.1; have := hR'.2.1; omega⟩
  have PC := fun w' (hb : Below wr.heap.size wr w') => dplace u0 u1 ns An cn (bx ++ grow u0 u1 ns bx last o s i) Ai ci (last + i) w' (DA w' hb) H.out.2.2.2.2.1.nodes (by rw [List.length_append, grow_len]; have := H.out.2.2.2.2.2.2.2.2.2.1; omega)
  unfold dv at PC
  have hlen2 : (bx ++ grow u0 u1 ns bx last o s i).length = li := by rw [List.length_append, grow_len]; exact hli.symm
  rw [hlen2, ← H.out.2.2.2.2.2.2.1] at PC
  obtain ⟨pl, hpl⟩ : ∃ pl, placeN u0 u1 ns (bx ++ grow u0 u1 ns bx last o s i) = pl := ⟨_, rfl⟩
  rw [hpl] at PC
  have hgs : grow u0 u1 ns bx last o s (i + 1) = grow u0 u1 ns bx last o s i ++ [⟨last + i + 1, pl, o, s⟩] := by rw [grow, hpl]
  obtain ⟨l0, hl0⟩ : ∃ l0, last + (i : Int) = l0 := ⟨_, rfl⟩
  obtain ⟨l1, hl1⟩ : ∃ l1, l0 + 1 = l1 := ⟨_, rfl⟩
  have hlow := H.out.2.2.2.2.1.low
  have hla := H.out.2.2.2.2.2.2.2.2.1
  have hw1 : IntKind.u32.wrap (l0 + 1) = l1 := by rw [IntKind.wrap_u32]; omega
  rw [hl0] at PC hgs
  rw [hl1] at hgs
  have kb := hS.box
  rw [hl0] at kb
  have PC := Aside0.mk PC
  have Y := Aside0.mk (And.intro hS (And.intro hgs (And.intro hl0 (And.intro hl1 (And.intro kb (And.intro hlen2 hli))))))
  clear hS hgs hl0 hl1 hli hGi DA hlen2 hpl hlow hla kb
  go_upto_region 10 with (fail)
  refine XInv.region_tab [9] [[], [0], [1], [], [3], [], [], [2, 4, 5, 6], [], [8, 7, 4, 0, 1, 2, 3, 4, 5, 6, 7, 8]] (fun bq jq => match jq with
    | 0 => .pointer (some ⟨w.heap.size, 4, none⟩)
    | 1 => .int .u32 l0
    | 2 => .int .u32 l1
    | 3 => .agg #[.int .i64 u0, .int .i64 u1, .slice An nn cn, .slice Ai li ci, .int .u32 l0]
    | 4 => .int .u32 pl
    | 5 => .int .u32 o
    | 6 => .bool s
    | 7 => .agg #[.int .u32 l1, .int .u32 pl, .int .u32 o, .bool s]
    | 8 => .pointer (some ⟨bq, 0, none⟩)
    | _ => undef)
    (fun bq l w' => if l 8 = true then (Below wr.heap.size wr w' ∧ wr.heap.size ≤ bq ∧ w'.heap[bq]? = some (.cells #[.int .u32 0, .int .u32 0, .int .u32 0, .bool false] 100 (0, 0))) else Below wr.heap.size wr w')
    (by kernel_rfl) rfl (by kernel_rfl) (by kernel_rfl) (by kernel_rfl) ⟨(0 : Nat), (by rw [if_neg (by simp)]; exact below_drew (Below.refl _ _))⟩ ?_ ?_
  ·intro i1 hi1 hds oi hoi bq lb w' hW hlb hcl hneed hclo
   have hi1 : i1 < 10 := hi1
   have hcs : i1 = 0 ∨ i1 = 1 ∨ i1 = 2 ∨ i1 = 3 ∨ i1 = 4 ∨ i1 = 5 ∨ i1 = 6 ∨ i1 = 7 ∨ i1 = 8 ∨ i1 = 9 := by omega
   clear hi1
   rcases hcs with rfl | rfl | rfl | rfl | rfl | rfl | rfl | rfl | rfl | rfl
   all_goals simp only [List.getElem?_toArray, List.getElem?_cons_succ, List.getElem?_cons_zero, Option.some.injEq] at hoi
   all_goals subst hoi
   ·refine XInv.yes_tab [] (by kernel_rfl) ?_
    cases hs0 : lb 8
    case false =>
     rw [if_neg (by rw [hs0]; decide)] at hW
     have kx := blk_below Y.out.2.2.2.2.1 hW
     have q0 := (blk_cell kx 0).trans rfl
     have q1 := (blk_cell kx 1).trans rfl
     have q2 := (blk_cell kx 2).trans rfl
     have q3 := (blk_cell kx 3).trans rfl
     have q4 := (blk_cell kx 4).trans rfl
     clear hcl hneed hclo
     intro Q2 K2 hK2
     simp only [XInv.puts, XPrint.pw]
     go_simp
     exact hK2.out (.pointer (some ⟨w.heap.size, 4, none⟩)) w' ⟨bq, rfl, fun _ _ _ => rfl, (by rw [if_neg (by simp [XInv.up, hs0])]; exact hW)⟩
    case true =>
     rw [if_pos hs0] at hW
     have kx := blk_below Y.out.2.2.2.2.1 hW.1
     have q0 := (blk_cell kx 0).trans rfl
     have q1 := (blk_cell kx 1).trans rfl
     have q2 := (blk_cell kx 2).trans rfl
     have q3 := (blk_cell kx 3).trans rfl
     have q4 := (blk_cell kx 4).trans rfl
     clear hcl hneed hclo
     intro Q2 K2 hK2
     simp only [XInv.puts, XPrint.pw]
     go_simp
     exact hK2.out (.pointer (some ⟨w.heap.size, 4, none⟩)) w' ⟨bq, rfl, fun _ _ _ => rfl, (by rw [if_pos (by simp [XInv.up, hs0])]; exact hW)⟩
   ·refine XInv.yes_tab [(32, 0)] (by kernel_rfl) ?_
    cases hs0 : lb 8
    case false =>
     rw [if_neg (by rw [hs0]; decide)] at hW
     have kx := blk_below Y.out.2.2.2.2.1 hW
     have q0 := (blk_cell kx 0).trans rfl
     have q1 := (blk_cell kx 1).trans rfl
     have q2 := (blk_cell kx 2).trans rfl
     have q3 := (blk_cell kx 3).trans rfl
     have q4 := (blk_cell kx 4).trans rfl
     clear hcl hneed hclo
     intro Q2 K2 hK2
     simp only [XInv.puts, XPrint.pw]
     go_simp
     exact hK2.out (.int .u32 l0) w' ⟨bq, rfl, fun _ _ _ => rfl, (by rw [if_neg (by simp [XInv.up, hs0])]; exact hW)⟩
    case true =>
     rw [if_pos hs0] at hW
     have kx := blk_below Y.out.2.2.2.2.1 hW.1
     have q0 := (blk_cell kx 0).trans rfl
     have q1 := (blk_cell kx 1).trans rfl
     have q2 := (blk_cell kx 2).trans rfl
     have q3 := (blk_cell kx 3).trans rfl
     have q4 := (blk_cell kx 4).trans rfl
     clear hcl hneed hclo
     intro Q2 K2 hK2
     simp only [XInv.puts, XPrint.pw]
     go_simp
     exact hK2.out (.int .u32 l0) w' ⟨bq, rfl, fun _ _ _ => rfl, (by rw [if_pos (by simp [XInv.up, hs0])]; exact hW)⟩
   ·refine XInv.yes_tab [(33, 1)] (by kernel_rfl) ?_
    cases hs0 : lb 8
    case false =>
     rw [if_neg (by rw [hs0]; decide)] at hW
     have kx := blk_below Y.out.2.2.2.2.1 hW
     have q0 := (blk_cell kx 0).trans rfl
     have q1 := (blk_cell kx 1).trans rfl
     have q2 := (blk_cell kx 2).trans rfl
     have q3 := (blk_cell kx 3).trans rfl
     have q4 := (blk_cell kx 4).trans rfl
     clear hcl hneed hclo
     intro Q2 K2 hK2
     simp only [XInv.puts, XPrint.pw]
     go_simp
     exact hK2.out (.int .u32 l1) w' ⟨bq, rfl, fun _ _ _ => rfl, (by rw [if_neg (by simp [XInv.up, hs0])]; exact hW)⟩
    case true =>
     rw [if_pos hs0] at hW
     have kx := blk_below Y.out.2.2.2.2.1 hW.1
     have q0 := (blk_cell kx 0).trans rfl
     have q1 := (blk_cell kx 1).trans rfl
     have q2 := (blk_cell kx 2).trans rfl
     have q3 := (blk_cell kx 3).trans rfl
     have q4 := (blk_cell kx 4).trans rfl
     clear hcl hneed hclo
     intro Q2 K2 hK2
     simp only [XInv.puts, XPrint.pw]
     go_simp
     exact hK2.out (.int .u32 l1) w' ⟨bq, rfl, fun _ _ _ => rfl, (by rw [if_pos (by simp [XInv.up, hs0])]; exact hW)⟩
   ·refine XInv.yes_tab [] (by kernel_rfl) ?_
    cases hs0 : lb 8
    case false =>
     rw [if_neg (by rw [hs0]; decide)] at hW
     have kx := blk_below Y.out.2.2.2.2.1 hW
     have q0 := (blk_cell kx 0).trans rfl
     have q1 := (blk_cell kx 1).trans rfl
     have q2 := (blk_cell kx 2).trans rfl
     have q3 := (blk_cell kx 3).trans rfl
     have q4 := (blk_cell kx 4).trans rfl
     clear hcl hneed hclo
     intro Q2 K2 hK2
     simp only [XInv.puts, XPrint.pw]
     go_simp
     exact hK2.out (.agg #[.int .i64 u0, .int .i64 u1, .slice An nn cn, .slice Ai li ci, .int .u32 l0]) w' ⟨bq, rfl, fun _ _ _ => rfl, (by rw [if_neg (by simp [XInv.up, hs0])]; exact hW)⟩
    case true =>
     rw [if_pos hs0] at hW
     have kx := blk_below Y.out.2.2.2.2.1 hW.1
     have q0 := (blk_cell kx 0).trans rfl
     have q1 := (blk_cell kx 1).trans rfl
     have q2 := (blk_cell kx 2).trans rfl
     have q3 := (blk_cell kx 3).trans rfl
     have q4 := (blk_cell kx 4).trans rfl
     clear hcl hneed hclo
     intro Q2 K2 hK2
     simp only [XInv.puts, XPrint.pw]
     go_simp
     exact hK2.out (.agg #[.int .i64 u0, .int .i64 u1, .slice An nn cn, .slice Ai li ci, .int .u32 l0]) w' ⟨bq, rfl, fun _ _ _ => rfl, (by rw [if_pos (by simp [XInv.up, hs0])]; exact hW)⟩
   ·refine XInv.yes_tab [(35, 3)] (by kernel_rfl) ?_
    cases hs0 : lb 8
    case false =>
     rw [if_neg (by rw [hs0]; decide)] at hW
     have kx := blk_below Y.out.2.2.2.2.1 hW
     have q0 := (blk_cell kx 0).trans rfl
     have q1 := (blk_cell kx 1).trans rfl
     have q2 := (blk_cell kx 2).trans rfl
     have q3 := (blk_cell kx 3).trans rfl
     have q4 := (blk_cell kx 4).trans rfl
     clear hcl hneed
     intro Q2 K2 hK2
     simp only [XInv.puts, XPrint.pw]
     go_simp
     go_at_call 91
     (with_reducible refine (PC.out _ hW).mono ?_)
     rintro e wz ⟨rfl, hb⟩
     exact hK2.out (.int .u32 pl) wz ⟨bq, rfl, fun _ _ _ => rfl, (by rw [if_neg (by simp [XInv.up, hs0])]; exact below_step hW hb)⟩
    case true =>
     rw [if_pos hs0] at hW
     have kx := blk_below Y.out.2.2.2.2.1 hW.1
     have q0 := (blk_cell kx 0).trans rfl
     have q1 := (blk_cell kx 1).trans rfl
     have q2 := (blk_cell kx 2).trans rfl
     have q3 := (blk_cell kx 3).trans rfl
     have q4 := (blk_cell kx 4).trans rfl
     clear hcl hneed
     intro Q2 K2 hK2
     simp only [XInv.puts, XPrint.pw]
     go_simp
     go_at_call 91
     (with_reducible refine (PC.out _ hW.1).mono ?_)
     rintro e wz ⟨rfl, hb⟩
     exact hK2.out (.int .u32 pl) wz ⟨bq, rfl, fun _ _ _ => rfl, (by rw [if_pos (by simp [XInv.up, hs0])]; exact ⟨below_step hW.1 hb, hW.2.1, blk_below hW.2.2 hb⟩)⟩
   ·refine XInv.yes_tab [] (by kernel_rfl) ?_
    cases hs0 : lb 8
    case false =>
     rw [if_neg (by rw [hs0]; decide)] at hW
     have kx := blk_below Y.out.2.2.2.2.1 hW
     have q0 := (blk_cell kx 0).trans rfl
     have q1 := (blk_cell kx 1).trans rfl
     have q2 := (blk_cell kx 2).trans rfl
     have q3 := (blk_cell kx 3).trans rfl
     have q4 := (blk_cell kx 4).trans rfl
     clear hcl hneed hclo
     intro Q2 K2 hK2
     simp only [XInv.puts, XPrint.pw]
     go_simp
     exact hK2.out (.int .u32 o) w' ⟨bq, rfl, fun _ _ _ => rfl, (by rw [if_neg (by simp [XInv.up, hs0])]; exact hW)⟩
    case true =>
     rw [if_pos hs0] at hW
     have kx := blk_below Y.out.2.2.2.2.1 hW.1
     have q0 := (blk_cell kx 0).trans rfl
     have q1 := (blk_cell kx 1).trans rfl
     have q2 := (blk_cell kx 2).trans rfl
     have q3 := (blk_cell kx 3).trans rfl
     have q4 := (blk_cell kx 4).trans rfl
     clear hcl hneed hclo
     intro Q2 K2 hK2
     simp only [XInv.puts, XPrint.pw]
     go_simp
     exact hK2.out (.int .u32 o) w' ⟨bq, rfl, fun _ _ _ => rfl, (by rw [if_pos (by simp [XInv.up, hs0])]; exact hW)⟩
   ·refine XInv.yes_tab [] (by kernel_rfl) ?_
    cases hs0 : lb 8
    case false =>
     rw [if_neg (by rw [hs0]; decide)] at hW
     have kx := blk_below Y.out.2.2.2.2.1 hW
     have q0 := (blk_cell kx 0).trans rfl
     have q1 := (blk_cell kx 1).trans rfl
     have q2 := (blk_cell kx 2).trans rfl
     have q3 := (blk_cell kx 3).trans rfl
     have q4 := (blk_cell kx 4).trans rfl
     clear hcl hneed hclo
     intro Q2 K2 hK2
     simp only [XInv.puts, XPrint.pw]
     go_simp
     exact hK2.out (.bool s) w' ⟨bq, rfl, fun _ _ _ => rfl, (by rw [if_neg (by simp [XInv.up, hs0])]; exact hW)⟩
    case true =>
     rw [if_pos hs0] at hW
     have kx := blk_below Y.out.2.2.2.2.1 hW.1
     have q0 := (blk_cell kx 0).trans rfl
     have q1 := (blk_cell kx 1).trans rfl
     have q2 := (blk_cell kx 2).trans rfl
     have q3 := (blk_cell kx 3).trans rfl
     have q4 := (blk_cell kx 4).trans rfl
     clear hcl hneed hclo
     intro Q2 K2 hK2
     simp only [XInv.puts, XPrint.pw]
     go_simp
     exact hK2.out (.bool s) w' ⟨bq, rfl, fun _ _ _ => rfl, (by rw [if_pos (by simp [XInv.up, hs0])]; exact hW)⟩
   ·refine XInv.yes_tab [(38, 6), (37, 5), (36, 4), (34, 2)] (by kernel_rfl) ?_
    cases hs0 : lb 8
    case false =>
     rw [if_neg (by rw [hs0]; decide)] at hW
     have kx := blk_below Y.out.2.2.2.2.1 hW
     have q0 := (blk_cell kx 0).trans rfl
     have q1 := (blk_cell kx 1).trans rfl
     have q2 := (blk_cell kx 2).trans rfl
     have q3 := (blk_cell kx 3).trans rfl
     have q4 := (blk_cell kx 4).trans rfl
     clear hcl hneed hclo
     intro Q2 K2 hK2
     simp only [XInv.puts, XPrint.pw] at hK2 ⊢
     go_simp
     exact hK2.out (.agg #[.int .u32 l1, .int .u32 pl, .int .u32 o, .bool s]) w' ⟨bq, rfl, fun _ _ _ => rfl, (by rw [if_neg (by simp [XInv.up, hs0])]; exact hW)⟩
    case true =>
     rw [if_pos hs0] at hW
     have kx := blk_below Y.out.2.2.2.2.1 hW.1
     have q0 := (blk_cell kx 0).trans rfl
     have q1 := (blk_cell kx 1).trans rfl
     have q2 := (blk_cell kx 2).trans rfl
     have q3 := (blk_cell kx 3).trans rfl
     have q4 := (blk_cell kx 4).trans rfl
     clear hcl hneed hclo
     intro Q2 K2 hK2
     simp only [XInv.puts, XPrint.pw] at hK2 ⊢
     go_simp
     exact hK2.out (.agg #[.int .u32 l1, .int .u32 pl, .int .u32 o, .bool s]) w' ⟨bq, rfl, fun _ _ _ => rfl, (by rw [if_pos (by simp [XInv.up, hs0])]; exact hW)⟩
   ·refine XInv.yes_tab [] (by kernel_rfl) ?_
    have hs0 := hlb
    rw [if_neg (by rw [hs0]; decide)] at hW
    have kx := blk_below Y.out.2.2.2.2.1 hW
    have q0 := (blk_cell kx 0).trans rfl
    have q1 := (blk_cell kx 1).trans rfl
    have q2 := (blk_cell kx 2).trans rfl
    have q3 := (blk_cell kx 3).trans rfl
    have q4 := (blk_cell kx 4).trans rfl
    clear hcl hneed
    intro Q2 K2 hK2
    simp only [XInv.puts, XPrint.pw]
    go_simp
    exact hK2.out (.pointer (some ⟨w'.heap.size, 0, none⟩)) _ ⟨w'.heap.size, rfl, (by intro jj hjj hlj; have hjj : jj < 10 := hjj; rcases (by omega : jj = 0 ∨ jj = 1 ∨ jj = 2 ∨ jj = 3 ∨ jj = 4 ∨ jj = 5 ∨ jj = 6 ∨ jj = 7 ∨ jj = 8 ∨ jj = 9) with rfl | rfl | rfl | rfl | rfl | rfl | rfl | rfl | rfl | rfl <;> first | rfl | (rw [hlb] at hlj; cases hlj)), (by rw [if_pos (by simp [XInv.up, hs0])]; exact ⟨below_alloc hW _, hW.size, blk_new w' _⟩)⟩
   ·cases hds
  ·intro bq w' hW
   refine XInv.end_of [(14, 8), (39, 7), (38, 6), (37, 5), (36, 4), (35, 3), (34, 2), (33, 1), (32, 0)] (by kernel_rfl) ?_
   refine XInv.end_seq _ 9 rfl rfl (by kernel_rfl) ?_
   simp only [XInv.puts, XPrint.pw]
   rw [if_pos (by kernel_rfl)] at hW
   have kq := hW.2.2
   have E := Aside0.mk hW
   obtain ⟨w4, hw4⟩ : ∃ w4, w' = w4 := ⟨_, rfl⟩
   rw [hw4] at E kq ⊢
   have z0 := (blk_cell kq 0).trans rfl
   have z1 := (blk_cell kq 1).trans rfl
   have z2 := (blk_cell kq 2).trans rfl
   have z3 := (blk_cell kq 3).trans rfl
   have g0 := blk_frozen kq 0
   have g1 := blk_frozen kq 1
   have g2 := blk_frozen kq 2
   have g3 := blk_frozen kq 3
   clear hW hw4 kq
   go_upto_region 11 with (fail)
   obtain ⟨w5, hw5⟩ : ∃ w5, (((w4.setCell ⟨bq, 0, none⟩ (.int .u32 l1)).setCell ⟨bq, 1, none⟩ (.int .u32 pl)).setCell ⟨bq, 2, none⟩ (.int .u32 o)).setCell ⟨bq, 3, none⟩ (.bool s) = w5 := ⟨_, rfl⟩
   have hb5 : But (fun k => k = bq) w4 w5 := by rw [← hw5]; exact (((((But.refl (fun k => k = bq) w4).setCell (b := bq) rfl 0 _).setCell (b := bq) rfl 1 _).setCell (b := bq) rfl 2 _).setCell (b := bq) rfl 3 _)
   have kq5 : w5.heap[bq]? = some (.cells #[.int .u32 l1, .int .u32 pl, .int .u32 o, .bool s] 100 (0, 0)) := by
    have e0 : (w4.setCell ⟨bq, 0, none⟩ (.int .u32 l1)).heap[bq]? = some (.cells #[.int .u32 l1, .int .u32 0, .int .u32 0, .bool false] 100 (0, 0)) := by simpa using blk_set E.out.2.2 0 (.int .u32 l1)
    have e1 : ((w4.setCell ⟨bq, 0, none⟩ (.int .u32 l1)).setCell ⟨bq, 1, none⟩ (.int .u32 pl)).heap[bq]? = some (.cells #[.int .u32 l1, .int .u32 pl, .int .u32 0, .bool false] 100 (0, 0)) := by simpa using blk_set e0 1 (.int .u32 pl)
    have e2 : (((w4.setCell ⟨bq, 0, none⟩ (.int .u32 l1)).setCell ⟨bq, 1, none⟩ (.int .u32 pl)).setCell ⟨bq, 2, none⟩ (.int .u32 o)).heap[bq]? = some (.cells #[.int .u32 l1, .int .u32 pl, .int .u32 o, .bool false] 100 (0, 0)) := by simpa using blk_set e1 2 (.int .u32 o)
    rw [← hw5]; simpa using blk_set e2 3 (.bool s)
   have hwr := Y.out.1.but.size
   have kb5 := hb5.heap (blk_below Y.out.2.2.2.2.1 E.out.1) (by have := E.out.2.1; omega)
   have kr5 := hb5.heap (blk_below Y.out.1.res E.out.1) (by have := E.out.2.1; omega)
   have hB5 : But (fun k => k = w.heap.size) W0 w5 := but_drop (Y.out.1.but.trans (But.of_below E.out.1)) hb5 (fun k hk => by have := E.out.2.1; omega)
   have R5 : RX w5 wB.heap.size (fun k => (Value.slice A n c).ownBlock = some k ∨ W0.heap.size ≤ k) (.slice Ai li ci) (bx ++ grow u0 u1 ns bx last o s i) := Kd.R_step (Kd.R_below (Kd.R_mono (Kd.R_bound Y.out.1.row) (fun k hk => hk)) E.out.1) (fun k hk hlt => hb5.block k hlt (by have := hk.2.2.1; have := E.out.2.1; omega)) |> fun h => Kd.R_mono h (fun k hk => hk.1)
   have O5 : RB w5 W0.heap.size u12 (grow u0 u1 ns bx last o s i) := Kd.R_step (Kd.R_below Y.out.1.out E.out.1) (fun k hk hlt => hb5.block k hlt (by have := Kd.R_lt Y.out.1.out k hk; have := E.out.2.1; omega))
   rw [hw5]
   have q4 := (blk_cell kb5 4).trans rfl
   have g4 := blk_frozen kb5 4
   clear z0 z1 z2 z3 g0 g1 g2 g3
   go_upto_region 12 with (fail)
   obtain ⟨w6, hw6⟩ : ∃ w6, w5.setCell ⟨w.heap.size, 4, none⟩ (.int .u32 l1) = w6 := ⟨_, rfl⟩
   have kb6 : w6.heap[w.heap.size]? = some (.cells #[.int .i64 u0, .int .i64 u1, .slice An nn cn, .slice Ai li ci, .int .u32 l1] LT (0, 0)) := by rw [← hw6]; simpa using blk_set kb5 4 (.int .u32 l1)
   have hb6 : But (fun k => k = w.heap.size) w5 w6 := by rw [← hw6]; exact (But.refl (fun k => k = w.heap.size) w5).setCell (b := w.heap.size) rfl 4 _
   have kr6 := hb6.heap kr5 (by omega)
   have hsz4 := E.out.1.size
   have hqw : w.heap.size ≠ bq := by have := E.out.2.1; omega
   have kq6 := hb6.heap kq5 (fun h => hqw h.symm)
   have hXl := H.out.2.2.2.2.2.2.2.2.2.2.1
   have R6 : RX w6 wB.heap.size (fun k => (Value.slice A n c).ownBlock = some k ∨ W0.heap.size ≤ k) (.slice Ai li ci) (bx ++ grow u0 u1 ns bx last o s i) := Kd.R_step R5 (fun k hk hlt => hb6.block k hlt (by rcases hk with hk | hk; (have := hXl k hk; omega); omega))
   have O6 : RB w6 W0.heap.size u12 (grow u0 u1 ns bx last o s i) := Kd.R_step O5 (fun k hk hlt => hb6.block k hlt (by have := Kd.R_base O5 k hk; omega))
   have hB6 := hB5.trans hb6
   rw [hw6]
   have C6 := (Kd.R_reads' R6).2.2
   rw [Y.out.2.2.2.2.2.1] at C6
   have hli6 : (li : Int) ≤ 300000 := by have := Y.out.2.2.2.2.2.2; have := H.out.2.2.2.2.2.2.2.1; have := H.out.2.2.2.2.2.2.2.2.2.1; omega
   have V := Aside0.mk (And.intro kb6 (And.intro kr6 (And.intro kq6 (And.intro R6 (And.intro O6 (And.intro hB6 C6))))))
   clear kb5 kr5 kq5 hb5 hB5 R5 O5 hw5 q4 g4 kb6 kr6 kq6 hb6 R6 O6 hB6 C6 hw6
   obtain ⟨bq2, hbq2⟩ : ∃ b, bq = b := ⟨_, rfl⟩
   rw [hbq2] at V hqw E ⊢
   clear hbq2
   refine XInv.region_tab [8] [[], [], [1], [0, 2], [], [4], [3, 5, 3], [0, 1, 2, 3, 4, 5, 6], [7, 6, 6, 0, 1, 2, 3, 4, 5, 6]] (fun bq jq => match jq with
     | 0 => bq.1
     | 1 => .pointer (some ⟨w.heap.size, 3, none⟩)
     | 2 => .slice Ai li ci
     | 3 => bq.2.1
     | 4 => .agg #[.int .u32 l1, .int .u32 pl, .int .u32 o, .bool s]
     | 5 => bq.2.2.1
     | 6 => bq.2.2.2
     | 7 => .pointer (some ⟨w.heap.size, 3, none⟩)
     | _ => undef)
     (fun bq l w' => JB w6.heap.size w6 ⟨l1, pl, o, s⟩ (bx ++ grow u0 u1 ns bx last o s i) bq l w')
     (by kernel_rfl) rfl (by kernel_rfl) (by kernel_rfl) (by kernel_rfl) ⟨((undef, undef, undef, undef) : V4), JB.start (below_drew (Below.refl _ _))⟩ ?_ ?_
   ·intro i1 hi1 hds oi hoi bq lb w' hW hlb hcl hneed hclo
    have hi1 : i1 < 9 := hi1
    have hcs : i1 = 0 ∨ i1 = 1 ∨ i1 = 2 ∨ i1 = 3 ∨ i1 = 4 ∨ i1 = 5 ∨ i1 = 6 ∨ i1 = 7 ∨ i1 = 8 := by omega
    clear hi1
    rcases hcs with rfl | rfl | rfl | rfl | rfl | rfl | rfl | rfl | rfl
    all_goals simp only [List.getElem?_toArray, List.getElem?_cons_succ, List.getElem?_cons_zero, Option.some.injEq] at hoi
    all_goals subst hoi
    ·refine XInv.yes_tab [] (by kernel_rfl) ?_
     have n3 : lb 3 = false := hcl 3 (by decide) (by kernel_rfl)
     have n6 : lb 6 = false := (Bool.eq_false_or_eq_true (lb 6)).elim (fun h => absurd (hclo 6 3 (by decide) h (by kernel_rfl)) (by rw [n3]; decide)) id
     clear hcl hneed hclo
     intro Q2 K2 hK2
     refine Kd.R_lit_step PLedLib.k100 _ 100 (by rfl) (N := 44) rfl (xs := ([] : List Bx)) (inner := []) (ok := fun _ => True) (okp := fun _ => True) (by (try simp only [XInv.puts, XPrint.pw]); first | (go_simp; done) | (go_simp; rfl)) (Reps.none _ _) (fun _ hk => hk) trivial (Below.refl _ _) (Nat.le_refl _) (by simp) ?_
     intro v1 w1 hR hB hg _
     exact hK2.out v1 w1 ⟨(v1, bq.2), rfl, (by intro jj hjj hlj; have hjj : jj < 9 := hjj; rcases (by omega : jj = 0 ∨ jj = 1 ∨ jj = 2 ∨ jj = 3 ∨ jj = 4 ∨ jj = 5 ∨ jj = 6 ∨ jj = 7 ∨ jj = 8) with rfl | rfl | rfl | rfl | rfl | rfl | rfl | rfl | rfl <;> first | rfl | (rw [hlb] at hlj; cases hlj)), hW.s0 n6 n3 v1 hB hR hW.below.size⟩
    ·refine XInv.yes_tab [] (by kernel_rfl) ?_
     clear hcl hneed hclo
     intro Q2 K2 hK2
     simp only [XInv.puts, XPrint.pw]
     go_simp
     exact hK2.out (.pointer (some ⟨w.heap.size, 3, none⟩)) w' ⟨bq, rfl, fun _ _ _ => rfl, hW.up 1 (by decide)⟩
    ·refine XInv.yes_tab [(45, 1)] (by kernel_rfl) ?_
     have kx := blk_below V.out.1 hW.below
     have q3 := (blk_cell kx 3).trans rfl
     clear hcl hneed hclo
     intro Q2 K2 hK2
     simp only [XInv.puts, XPrint.pw]
     go_simp
     exact hK2.out (.slice Ai li ci) w' ⟨bq, rfl, fun _ _ _ => rfl, hW.up 2 (by decide)⟩
    ·refine XInv.yes_tab [(46, 2), (44, 0)] (by kernel_rfl) ?_
     have n6 : lb 6 = false := hcl 6 (by decide) (by kernel_rfl)
     have y0 : lb 0 = true := hneed 0 (by kernel_rfl)
     have r0 := hW.row0 n6 hlb y0
     clear hcl hneed hclo
     intro Q2 K2 hK2
     simp only [XInv.puts]
     refine Kd.R_append_rows_step PLedLib.k100 (w0 := w6) w6.heap.size (by rfl) (.tmp 44) (.tmp 46) 34 100 (.agg #[.int .u32 0, .int .u32 0, .int .u32 0, .bool false]) 16 rfl Tryz.underlying34 PLedLib.info100 rfl (by decide) (by omega) (bq.1) ([]) (bx ++ grow u0 u1 ns bx last o s i) (Ai) (li) (ci) (fun k => lb 5 = true → bq.2.2.1.ownBlock ≠ some k) (fun _ => False) rfl rfl r0 (Kd.C_below V.out.2.2.2.2.2.2 hW.below) (fun x cs hK => by obtain rfl := PLedLib.k100_open hK; exact PLedLib.k100_mkM _ _ _ _) (fun _ h => h.elim) (fun k hk h7 he => by have := Kd.R_lt (hW.row5 n6 h7) k he; omega) hW.below hW.below.size (by simp only [List.length_nil]; omega) ?_
     intro v1 w1 hR hB hg _
     exact hK2.out v1 w1 ⟨(bq.1, v1, bq.2.2), rfl, (by intro jj hjj hlj; have hjj : jj < 9 := hjj; rcases (by omega : jj = 0 ∨ jj = 1 ∨ jj = 2 ∨ jj = 3 ∨ jj = 4 ∨ jj = 5 ∨ jj = 6 ∨ jj = 7 ∨ jj = 8) with rfl | rfl | rfl | rfl | rfl | rfl | rfl | rfl | rfl <;> first | rfl | (rw [hlb] at hlj; cases hlj)), hW.s3 n6 hlb y0 v1 hR hB hg⟩
    ·refine XInv.yes_tab [] (by kernel_rfl) ?_
     have kx := blk_below V.out.2.2.1 hW.below
     have q0 := (blk_cell kx 0).trans rfl
     have q1 := (blk_cell kx 1).trans rfl
     have q2 := (blk_cell kx 2).trans rfl
     have q3 := (blk_cell kx 3).trans rfl
     clear hcl hneed hclo
     intro Q2 K2 hK2
     simp only [XInv.puts, XPrint.pw]
     go_simp
     exact hK2.out (.agg #[.int .u32 l1, .int .u32 pl, .int .u32 o, .bool s]) w' ⟨bq, rfl, fun _ _ _ => rfl, hW.up 4 (by decide)⟩
    ·refine XInv.yes_tab [(48, 4)] (by kernel_rfl) ?_
     have n6 : lb 6 = false := hcl 6 (by decide) (by kernel_rfl)
     clear hcl hneed hclo
     intro Q2 K2 hK2
     simp only [XInv.puts]
     refine Kd.R_lit_step PLedLib.k100 _ 100 (by rfl) (N := 49) rfl (xs := ([⟨l1, pl, o, s⟩] : List Bx)) (inner := [.int .u32 l1, .int .u32 pl, .int .u32 o, .bool s]) (ok := fun _ => True) (okp := fun _ => True) (by (try simp only [XInv.puts, XPrint.pw]); first | (go_simp; done) | (go_simp; rfl)) (Reps.c4 (PLedLib.k100_mkM _ _ _ (⟨l1, pl, o, s⟩ : Bx)) (Reps.none _ _)) (fun _ hk => hk) trivial (Below.refl _ _) (Nat.le_refl _) (by simp) ?_
     intro v1 w1 hR hB hg _
     exact hK2.out v1 w1 ⟨(bq.1, bq.2.1, v1, bq.2.2.2), rfl, (by intro jj hjj hlj; have hjj : jj < 9 := hjj; rcases (by omega : jj = 0 ∨ jj = 1 ∨ jj = 2 ∨ jj = 3 ∨ jj = 4 ∨ jj = 5 ∨ jj = 6 ∨ jj = 7 ∨ jj = 8) with rfl | rfl | rfl | rfl | rfl | rfl | rfl | rfl | rfl <;> first | rfl | (rw [hlb] at hlj; cases hlj)), hW.s5 n6 v1 hB hR hW.below.size⟩
    ·refine XInv.yes_tab [(49, 5), (47, 3)] (by kernel_rfl) ?_
     have y3 : lb 3 = true := hneed 3 (by kernel_rfl)
     have y5 : lb 5 = true := hneed 5 (by kernel_rfl)
     have r3 := Kd.R_mono (ok' := fun _ => True) (hW.row3 hlb y3) (fun _ _ => trivial)
     have r5 := hW.row5 hlb y5
     obtain ⟨A7, c7, e7⟩ := Kd.R_slice r5
     rw [e7] at r5
     obtain ⟨_, _, hC7⟩ := Kd.R_reads' r5
     clear hcl hneed hclo
     intro Q2 K2 hK2
     simp only [XInv.puts]
     refine Kd.R_append_rows_step PLedLib.k100 (w0 := w6) w6.heap.size (by rfl) (.tmp 47) (.tmp 49) 34 100 (.agg #[.int .u32 0, .int .u32 0, .int .u32 0, .bool false]) 16 rfl Tryz.underlying34 PLedLib.info100 rfl (by decide) (by omega) (bq.2.1) (bx ++ grow u0 u1 ns bx last o s i) ([⟨l1, pl, o, s⟩]) (A7) (1) (c7) (fun _ => True) (fun _ => False) rfl e7 r3 (hC7) (fun x cs hK => by obtain rfl := PLedLib.k100_open hK; exact PLedLib.k100_mkM _ _ _ _) (fun _ h => h.elim) (fun _ _ => trivial) hW.below hW.below.size (by rw [Y.out.2.2.2.2.2.1]; omega) ?_
     intro v1 w1 hR hB hg _
     exact hK2.out v1 w1 ⟨(bq.1, bq.2.1, bq.2.2.1, v1), rfl, (by intro jj hjj hlj; have hjj : jj < 9 := hjj; rcases (by omega : jj = 0 ∨ jj = 1 ∨ jj = 2 ∨ jj = 3 ∨ jj = 4 ∨ jj = 5 ∨ jj = 6 ∨ jj = 7 ∨ jj = 8) with rfl | rfl | rfl | rfl | rfl | rfl | rfl | rfl | rfl <;> first | rfl | (rw [hlb] at hlj; cases hlj)), hW.s6 v1 hR hB⟩
    ·refine XInv.yes_tab [(50, 6), (49, 5), (48, 4), (47, 3), (46, 2), (45, 1), (44, 0)] (by kernel_rfl) ?_
     clear hcl hneed hclo
     intro Q2 K2 hK2
     simp only [XInv.puts, XPrint.pw]
     go_simp
     exact hK2.out (.pointer (some ⟨w.heap.size, 3, none⟩)) w' ⟨bq, rfl, fun _ _ _ => rfl, hW.up 7 (by decide)⟩
    ·cases hds
   ·intro bq w' hW
    refine XInv.end_of [(51, 7), (50, 6), (49, 5), (48, 4), (47, 3), (46, 2), (45, 1), (44, 0)] (by kernel_rfl) ?_
    refine XInv.end_seq _ 8 rfl rfl (by kernel_rfl) ?_
    simp only [XInv.puts, XPrint.pw]
    have hR7 := hW.row6 (by kernel_rfl)
    have hb7 := hW.below
    obtain ⟨b0, b3, b5, b6⟩ := bq
    dsimp only at hR7 ⊢
    obtain ⟨A7, c7, rfl⟩ := Kd.R_slice hR7
    have hl7 : (bx ++ grow u0 u1 ns bx last o s i ++ [(⟨l1, pl, o, s⟩ : Bx)]).length = li + 1 := by rw [List.length_append, Y.out.2.2.2.2.2.1]; rfl
    rw [hl7] at hR7 ⊢
    obtain ⟨w7, hw7⟩ : ∃ w7, w' = w7 := ⟨_, rfl⟩
    rw [hw7] at hR7 hb7 ⊢
    have kx := blk_below V.out.1 hb7
    have f3 := blk_frozen kx 3
    have q3 := (blk_cell kx 3).trans rfl
    clear hW hw7
    have kq7 := blk_below V.out.2.2.1 hb7
    have kr7 := blk_below V.out.2.1 hb7
    have O7 := Kd.R_below V.out.2.2.2.2.1 hb7
    go_upto_region 13 with (fail)
    obtain ⟨w8, hw8⟩ : ∃ w8, w7.setCell ⟨w.heap.size, 3, none⟩ (.slice A7 (li + 1) c7) = w8 := ⟨_, rfl⟩
    have kb8 : w8.heap[w.heap.size]? = some (.cells #[.int .i64 u0, .int .i64 u1, .slice An nn cn, .slice A7 (li + 1) c7, .int .u32 l1] LT (0, 0)) := by rw [← hw8]; simpa using blk_set kx 3 (.slice A7 (li + 1) c7)
    have hb8 : But (fun k => k = w.heap.size) w7 w8 := by rw [← hw8]; exact (But.refl (fun k => k = w.heap.size) w7).setCell (b := w.heap.size) rfl 3 _
    have kq8 := hb8.heap kq7 (fun h => hqw h.symm)
    have kr8 := hb8.heap kr7 (by omega)
    have O8 : RB w8 W0.heap.size u12 (grow u0 u1 ns bx last o s i) := Kd.R_step O7 (fun k hk hlt => hb8.block k hlt (by have := Kd.R_base O7 k hk; omega))
    have hs6 := V.out.2.2.2.2.2.1.size
    have R8 : RX w8 w6.heap.size (fun _ => True) (.slice A7 (li + 1) c7) (bx ++ grow u0 u1 ns bx last o s i ++ [⟨l1, pl, o, s⟩]) := Kd.R_mono (Kd.R_step (Kd.R_bound hR7) (fun k hk hlt => hb8.block k hlt (by have := hk.2.1; omega))) (fun _ _ => trivial)
    have hB8 : But (fun k => k = w.heap.size) W0 w8 := (V.out.2.2.2.2.2.1.trans (But.of_below hb7)).trans hb8
    have hul := Kd.R_lt V.out.2.2.2.2.1
    rw [hw8]
    have p0 := (blk_cell kq8 0).trans rfl
    have p1 := (blk_cell kq8 1).trans rfl
    have p2 := (blk_cell kq8 2).trans rfl
    have p3 := (blk_cell kq8 3).trans rfl
    have Z := Aside0.mk (And.intro kb8 (And.intro kr8 (And.intro O8 (And.intro R8 (And.intro hB8 hul)))))
    have hsz8 := hB8.size
    clear kb8 kr8 O8 R8 hB8 hul kx f3 q3 kq7 kr7 O7 hR7 hb7 hw8 hb8 kq8
    go_wp2_with (refine Kd.R_append PLedLib.k100 (w0 := w8) (W := w8) W0.heap.size (by rfl) (.tmp 52) (.tmp 54) 34 100 (.agg #[.int .u32 0, .int .u32 0, .int .u32 0, .bool false]) 16 rfl Tryz.underlying34 PLedLib.info100 rfl (by decide) (by omega) u12 _ ⟨l1, pl, o, s⟩ [.int .u32 l1, .int .u32 pl, .int .u32 o, .bool s] (fun _ => True) (fun _ => False) rfl rfl (PLedLib.k100_mkM _ _ _ _) (fun _ h => h.elim) (fun _ _ => trivial) (Kd.R_mono Z.out.2.2.1 (fun _ _ => trivial)) (Below.refl _ _) hsz8 ?hl ?_)
    case hl => rw [grow_len]; omega
    intro v9 w9 hR9 hB9 hg9 hat9
    have M9 : RB w9 W0.heap.size v9 (grow u0 u1 ns bx last o s i ++ [⟨l1, pl, o, s⟩]) := Kd.R_mono (Kd.R_tight (by rfl) hR9) (fun k hk => hk.symm)
    have R9 : RX w9 w6.heap.size (fun _ => True) (.slice A7 (li + 1) c7) (bx ++ grow u0 u1 ns bx last o s i ++ [⟨l1, pl, o, s⟩]) := Kd.R_mono (Kd.R_grown (Kd.R_bound Z.out.2.2.2.1) hg9 (fun k hk he => by have := Z.out.2.2.2.2.2 k he.symm; have := hk.2.1; omega)) (fun _ _ => trivial)
    have U := Aside0.mk (And.intro M9 (And.intro R9 hB9))
    clear hR9 hB9 hg9 hat9 M9 R9 p0 p1 p2 p3
    go_wp2
    have hl9 := Y.out.2.2.1
    have hl8 := Y.out.2.2.2.1
    have hwb := H.out.2.2.2.2.2.2.2.2.2.2.2.2.size
    have hbs := H.out.1.size
    clear hw1
    go_roundg (N - (i + 1))
    case measure => omega
    case rel =>
     refine ⟨i + 1, A7, li + 1, c7, rfl, by go_num, by omega, ⟨?_, ?_, ?_, ?_, ?_⟩⟩
     ·rw [show last + ((i + 1 : Nat) : Int) = l1 by omega]
      exact (U.out.2.2.block w.heap.size (by omega)).trans Z.out.1
     ·exact (U.out.2.2.block (w.heap.size + 1) (by omega)).trans Z.out.2.1
     ·exact but_low Z.out.2.2.2.2.1 U.out.2.2 (Nat.le_refl _)
     ·rw [Y.out.2.1, ← List.append_assoc]
      exact Kd.R_mono (Kd.R_lower (Kd.R_bound U.out.2.1) (by omega)) (fun k hk => .inr (by have := hk.2.1; omega))
     ·rw [Y.out.2.1]
      exact U.out.1
 ·have hlt' : ¬ (i : Int) < (N : Int) := by omega
  have eN : i = N := by omega
  subst eN
  obtain ⟨Ao, co, rfl⟩ := Kd.R_slice hS.out
  rw [grow_len] at hS ⊢
  have Y := Aside0.mk hS
  have kb := hS.box
  have kr := hS.res
  obtain ⟨ln, hln⟩ : ∃ ln, last + (i : Int) = ln := ⟨_, rfl⟩
  rw [hln] at kb
  have LN := Aside0.mk hln
  have q0 := (blk_cell kb 0).trans rfl
  have q1 := (blk_cell kb 1).trans rfl
  have q2 := (blk_cell kb 2).trans rfl
  have q3 := (blk_cell kb 3).trans rfl
  have q4 := (blk_cell kb 4).trans rfl
  have r0 := (blk_cell kr 0).trans rfl
  have r1 := (blk_cell kr 1).trans rfl
  have r2 := (blk_cell kr 2).trans rfl
  have r3 := (blk_cell kr 3).trans rfl
  have r4 := (blk_cell kr 4).trans rfl
  have g0 := blk_frozen kr 0
  have g1 := blk_frozen kr 1
  have g2 := blk_frozen kr 2
  have g3 := blk_frozen kr 3
  have g4 := blk_frozen kr 4
  clear hS kb kr hln
  go_wp2
  have z0 := set5 (b0 := .int .i64 u0) (b1 := .int .i64 u1) (b2 := .slice An nn cn) (b3 := .slice Ai li ci) (b4 := .int .u32 ln) Y.out.res
  have y0 := (blk_cell z0 0).trans rfl
  have y1 := (blk_cell z0 1).trans rfl
  have y2 := (blk_cell z0 2).trans rfl
  have y3 := (blk_cell z0 3).trans rfl
  have y4 := (blk_cell z0 4).trans rfl
  have hwb := H.out.2.2.2.2.2.2.2.2.2.2.2.2.size
  have hbs := H.out.1.size
  have hXl := H.out.2.2.2.2.2.2.2.2.2.2.1
  have FIN := Aside0.mk (but5T (But.refl (fun k => k = w.heap.size + 1) wr) (q := w.heap.size + 1) rfl (.int .i64 u0) (.int .i64 u1) (.slice An nn cn) (.slice Ai li ci) (.int .u32 ln))
  refine bodyPost_ret (v := .tuple #[dv u0 u1 (.slice An nn cn) (.slice Ai li ci) ln, .slice Ao i co, .int .i64 0]) (by simp [results, Tryz.results41, go_sem, dv, y0, y1, y2, y3, y4]) rfl ⟨.slice Ai li ci, .slice Ao i co, by rw [LN.out]; rfl, ?_, ?_, ?_⟩
  ·exact Kd.R_mono (Kd.R_step Y.out.row (fun k hk hlt => FIN.out.block k hlt (by rcases hk with hk | hk; (have := hXl k hk; omega); omega))) (fun k hk => hk.elim .inl (fun h => .inr (by omega)))
  ·exact Kd.R_lower (Kd.R_step Y.out.out (fun k hk hlt => FIN.out.block k hlt (by have := Kd.R_base Y.out.out k hk; omega))) (by omega)
  ·exact But.below H.out.1 (Nat.le_refl _) (but_or Y.out.but FIN.out) (fun k hk => by omega)
end Go.Proofs.YthibppfdonepoaaGreat.LedT
set_option linter.unusedVariables false
set_option linter.unusedSimpArgs false
namespace Go.Proofs.YthibppfdonepoaaGreat.LedT
open Go.RowKit Go.MapKept Go.Maps Go.ChangeMaps Go.Proofs.YthibppfdonepoaaGreat.XBut Go.Proofs.YthibppfdonepoaaGreat.XMap Go.Proofs.YthibppfdonepoaaGreat.NodeT Go.Proofs.YthibppfdonepoaaGreatW.PrintWords Go.Proofs.YthibppfdonepoaaGreatW.PrintLast
def May (p g : Nat) (v : Value) (k : Nat) : Prop := (k = p ∨ k = g) ∨ v.ownBlock = some k
section
variable {w0 w w' : World} {p b g : Nat} {u0 u1 : Int} {ns ns' : List Nd} {v v' : Value} {bx bx' : List Bx} {last last' : Int} {rows rows' : List (Value × List Bx)}
theorem HS.joinB (h : HS w0 w p b g u0 u1 ns v bx last rows) (x0 x1 x2 : Int) (hx : (Lit.int .u32 x0).wf = true) :
  Calls Tryz.prog 39 #[.pointer (some ⟨p, 0, none⟩), .agg #[.int .u32 x0, .int .i64 x1, .int .i64 x2]] w fun e w' => e = .returned (.int .i64 (code u0 u1 ns ⟨x0, ⟨x1, x2⟩⟩)) ∧ HS w0 w' p b g u0 u1 (nsJ u0 u1 ns ⟨x0, ⟨x1, x2⟩⟩) v bx last rows ∧ But (May p g v) w w' := by
 refine (ljoin x0 x1 x2 w h.led h.good.nodes hx).mono ?_
 rintro e w' ⟨rfl, hb, hL⟩
 have hb2 := hb.mono (T' := May p g v) fun k hk => .inl (.inr hk)
 exact ⟨rfl, h.next (h.good.join ⟨x0, ⟨x1, x2⟩⟩ (wf32 hx)) hL hb2 (fun k hk => .inl hk), hb2⟩
theorem HS.loseB (h : HS w0 w p b g u0 u1 ns v bx last rows) (i : Int) (hi : (Lit.int .u32 i).wf = true) :
  Calls Tryz.prog 59 #[.pointer (some ⟨p, 0, none⟩), .int .u32 i] w fun e w' => ∃ vo v', e = .returned (.tuple #[vo, .int .i64 (lost ns i).2]) ∧ HS w0 w' p b g u0 u1 (less ns i) v' (offN bx i) last ((vo, onN bx i) :: rows) ∧ But (May p g v) w w' ∧ (∀ k, v'.ownBlock = some k → v.ownBlock = some k ∨ w.heap.size ≤ k) ∧ (∀ k, vo.ownBlock = some k → w.heap.size ≤ k) := by
 refine (llose i w h.led h.good h.len hi).mono ?_
 rintro e w' ⟨vo, v', rfl, hL, hR, hd, hb, ho⟩
 have hb2 := hb.mono (T' := May p g v) fun k hk => .inl hk
 exact ⟨vo, v', rfl, (h.next (h.good.lose i) hL hb2 ho).add hR (h.up (Nat.le_refl _)) hd, hb2, ho, fun k hk => Kd.R_base hR k hk⟩
theorem HS.giveM (h : HS w0 w p b g u0 u1 ns v bx last rows) (o n : Int) (s : Bool) (hla : last ≤ 4000000000) :
  Calls Tryz.prog 28 #[.pointer (some ⟨p, 0, none⟩), .int .u32 o, .bool s, .int .i64 n] w fun e w' => ∃ vo v', e = .returned (.tuple #[vo, .int .i64 (gcode u0 u1 ns bx o n)]) ∧ HS w0 w' p b g u0 u1 ns v' (bx ++ given u0 u1 ns bx last o s n) (last + (given u0 u1 ns bx last o s n).length) ((vo, given u0 u1 ns bx last o s n) :: rows) ∧ But (May p g v) w w' ∧ (∀ k, v'.ownBlock = some k → v.ownBlock = some k ∨ w.heap.size ≤ k) ∧ (∀ k, vo.ownBlock = some k → w.heap.size ≤ k) := by
 refine (lgive o n s w h.led h.good hla).mono ?_
 rintro e w' ⟨vo, v', rfl, hL, hR, hd, hb, ho⟩
 have hb2 := hb.mono (T' := May p g v) fun k hk => hk.elim (fun e => .inl (.inl e)) .inr
 exact ⟨vo, v', rfl, (h.next (h.good.give o s n) hL hb2 ho).add hR (h.up (Nat.le_refl _)) hd, hb2, ho, fun k hk => Kd.R_base hR k hk⟩
theorem HS.takeB (h : HS w0 w p b g u0 u1 ns v bx last rows) (o n : Int) (s : Bool) :
  Calls Tryz.prog 30 #[.pointer (some ⟨p, 0, none⟩), .int .u32 o, .bool s, .int .i64 n] w fun e w' => ∃ vo v', e = .returned (.tuple #[vo, .int .i64 (tcode bx o s n)]) ∧ HS w0 w' p b g u0 u1 ns v' (leftN bx (taken bx o s n)) last ((vo, taken bx o s n) :: rows) ∧ But (May p g v) w w' ∧ (∀ k, v'.ownBlock = some k → v.ownBlock = some k ∨ w.heap.size ≤ k) ∧ (∀ k, vo.ownBlock = some k → w.heap.size ≤ k) := by
 refine (ltake o n s w h.led h.len).mono ?_
 rintro e w' ⟨vo, v', rfl, hL, hR, hd, hb, ho⟩
 have hb2 := hb.mono (T' := May p g v) fun k hk => .inl (.inl hk)
 exact ⟨vo, v', rfl, (h.next (h.good.take _) hL hb2 ho).add hR (h.up (Nat.le_refl _)) hd, hb2, ho, fun k hk => Kd.R_base hR k hk⟩
theorem HS.may (h : HS w0 w p b g u0 u1 ns v bx last rows) : ∀ k, May p g v k → w0.heap.size ≤ k := fun k hk => by
 rcases hk with (rfl | rfl) | hk
 ·exact h.led.ne.2.2
 ·exact h.led.tab.base2
 ·exact Kd.R_base h.led.row k hk
end
structure DS (w0 w : World) (p b g : Nat) (u0 u1 : Int) (ns : List Nd) (v : Value) (bx : List Bx) (last : Int) (vn vb : Value) (okn : Nat → Prop) : Prop where
 hs : HS w0 w p b g u0 u1 ns v bx last []
 nrow : RNd w w0.heap.size okn vn ns
 brow : RB w w0.heap.size vb bx
 okp : ∀ k, okn k → ¬ May p g v k ∧ k ≠ b ∧ vb.ownBlock ≠ some k
 okb : ∀ k, vb.ownBlock = some k → ¬ May p g v k ∧ k ≠ b
 okl : ∀ k, okn k → k < w.heap.size
theorem DS.same {w0 w w' : World} {p b g : Nat} {u0 u1 : Int} {ns : List Nd} {v : Value} {bx : List Bx} {last : Int} {vn vb : Value} {okn : Nat → Prop} (h : DS w0 w p b g u0 u1 ns v bx last vn vb okn) (hb : Below w.heap.size w w') : DS w0 w' p b g u0 u1 ns v bx last vn vb okn :=
 ⟨h.hs.same hb, Kd.R_below h.nrow hb, Kd.R_below h.brow hb, h.okp, h.okb, fun k hk => Nat.lt_of_lt_of_le (h.okl k hk) hb.size⟩
theorem DS.rows {w0 w w' : World} {p b g : Nat} {u0 u1 : Int} {ns : List Nd} {v : Value} {bx : List Bx} {last : Int} {vn vb : Value} {okn : Nat → Prop} (h : DS w0 w p b g u0 u1 ns v bx last vn vb okn) (hb : But (May p g v) w w') : RNd w' w0.heap.size okn vn ns ∧ RB w' w0.heap.size vb bx :=
 ⟨Kd.R_step h.nrow (fun k hk hlt => hb.block k hlt (h.okp k hk).1), Kd.R_step h.brow (fun k hk hlt => hb.block k hlt (h.okb k hk).1)⟩
theorem DS.put {w0 w w' : World} {p b g Q : Nat} {u0 u1 : Int} {ns : List Nd} {v : Value} {bx : List Bx} {last : Int} {vn vb : Value} {okn : Nat → Prop} (h : DS w0 w p b g u0 u1 ns v bx last vn vb okn) (hb : But (fun k => k = Q) w w') (hQ : w0.heap.size ≤ Q) (h1 : ¬ May p g v Q) (h2 : Q ≠ b) (h3 : ¬ okn Q) (h4 : vb.ownBlock ≠ some Q) : DS w0 w' p b g u0 u1 ns v bx last vn vb okn := by
 refine ⟨⟨But.below h.hs.below (Nat.le_refl _) hb (fun k hk => by rw [hk]; exact hQ), h.hs.led.but hb (fun e => h1 (.inl (.inl e.symm))) (fun e => h2 e.symm) (fun e => h1 (.inl (.inr e.symm))) (fun k hk e => h1 (.inr (by rw [← e]; exact hk))), h.hs.good, fun r hr => by cases hr⟩, Kd.R_step h.nrow (fun k hk hlt => hb.block k hlt (fun e => h3 (by rw [← e]; exact hk))), Kd.R_step h.brow (fun k hk hlt => hb.block k hlt (fun e => h4 (by rw [← e]; exact hk))), h.okp, h.okb, fun k hk => Nat.lt_of_lt_of_le (h.okl k hk) hb.size⟩
theorem set3of5 {w : World} {q : Nat} {a0 a1 a2 a3 a4 b0 b1 b2 : Value} (h : w.heap[q]? = some (.cells #[a0, a1, a2, a3, a4] LT (0, 0))) :
  (((w.setCell ⟨q, 0, none⟩ b0).setCell ⟨q, 1, none⟩ b1).setCell ⟨q, 2, none⟩ b2).heap[q]? = some (.cells #[b0, b1, b2, a3, a4] LT (0, 0)) := by
 have h0 : (w.setCell ⟨q, 0, none⟩ b0).heap[q]? = some (.cells #[b0, a1, a2, a3, a4] LT (0, 0)) := by simpa using blk_set h 0 b0
 have h1 : ((w.setCell ⟨q, 0, none⟩ b0).setCell ⟨q, 1, none⟩ b1).heap[q]? = some (.cells #[b0, b1, a2, a3, a4] LT (0, 0)) := by simpa using blk_set h0 1 b1
 simpa using blk_set h1 2 b2
theorem nil_row (w : World) : Kd.C PLedLib.k100 w none 0 [] := (Kd.R_reads' (Kd.R_nil PLedLib.k100 100 w 0 (fun _ => True))).2.2
theorem DS.lt {w0 w : World} {p b g : Nat} {u0 u1 : Int} {ns : List Nd} {v : Value} {bx : List Bx} {last : Int} {vn vb : Value} {okn : Nat → Prop} (h : DS w0 w p b g u0 u1 ns v bx last vn vb okn) : ∀ k, May p g v k ∨ okn k ∨ vb.ownBlock = some k → k < w.heap.size := fun k hk => by
 have hl := h.hs.led.lt
 rcases hk with ((rfl | rfl) | hk) | hk | hk
 ·exact hl.1
 ·exact hl.2.2.1
 ·exact hl.2.2.2 k hk
 ·exact h.okl k hk
 ·exact Kd.R_lt h.brow k hk
end Go.Proofs.YthibppfdonepoaaGreat.LedT
set_option linter.unusedVariables false
set_option linter.unusedSimpArgs false
namespace Go.Proofs.YthibppfdonepoaaGreat.LedT
open Go.RowKit Go.MapKept Go.Maps Go.ChangeMaps Go.Proofs.YthibppfdonepoaaGreat.XBut Go.Proofs.YthibppfdonepoaaGreat.XMap Go.Proofs.YthibppfdonepoaaGreat.NodeT Go.Proofs.YthibppfdonepoaaGreatW.PrintWords Go.Proofs.YthibppfdonepoaaGreatW.PrintLast
set_option maxHeartbeats 8000000 in
set_option maxRecDepth 100000 in
theorem dnew (u0 u1 : Int) (w : World) (hu : okV 1 ⟨u0, u1⟩) :
  Calls Tryz.prog 24 #[.agg #[.int .i64 u0, .int .i64 u1]] w fun e w' => ∃ vn, e = .returned (.tuple #[dv u0 u1 vn (.slice none 0 0) 0, .int .i64 0]) ∧ RNd w' w.heap.size (fun _ => True) vn [] ∧ Below w.heap.size w w' := by
 have hu118 := Tryz.underlying37
 have hu31 := Tryz.underlying33
 have hu23 := Tryz.underlying23
 have NF := rnew_f u0 u1
 rw [if_pos hu] at NF
 obtain ⟨W0, hW0⟩ : ∃ W0, (w.alloc (.cells #[.int .i64 u0, .int .i64 u1] 23)).alloc (db 0 0 (.slice none 0 0) (.slice none 0 0) 0) = W0 := ⟨_, rfl⟩
 have hB0 : Below w.heap.size w W0 := by rw [← hW0]; exact below_alloc (below_alloc (Below.refl _ _) _) _
 have k1 : W0.heap[w.heap.size + 1]? = some (.cells #[.int .i64 0, .int .i64 0, .slice none 0 0, .slice none 0 0, .int .u32 0] LT (0, 0)) := by
  have := blk_new (w.alloc (.cells #[.int .i64 u0, .int .i64 u1] 23)) (db 0 0 (.slice none 0 0) (.slice none 0 0) 0)
  rw [World.size_alloc] at this
  rw [← hW0]; exact this
 have k0 : W0.heap[w.heap.size]? = some (.cells #[.int .i64 u0, .int .i64 u1] 23 (0, 0)) := by rw [← hW0]; exact blk_alloc (blk_new w _) _
 have q0 := (blk_cell k0 0).trans rfl
 have q1 := (blk_cell k0 1).trans rfl
 have NC := Aside0.mk (PNodePlays.liveryref22_New.calls u0 u1 u0 u1 [] 0 W0 NF)
 have H := Aside0.mk (And.intro hB0 (And.intro k1 hW0))
 clear hu NF hB0 k0 k1 hW0
 go_enter Tryz.func24, Tryz.ntmps24
 go_wp2_with fail
 rw [H.out.2.2]
 go_wp2_with fail
 refine NC.out.mono ?_
 rintro e w1 ⟨v2, rfl, hR, hb⟩
 obtain ⟨A2, c2, rfl⟩ := Kd.R_slice hR
 dsimp only [List.length_nil] at hR ⊢
 have X := Aside0.mk (And.intro hR hb)
 clear q0 q1 hR hb NC
 go_upto_region 2 with (fail)
 obtain ⟨w2, hw2⟩ : ∃ w2, w1.alloc (.cells #[.int .i64 u0, .int .i64 u1, .slice A2 0 c2] 33) = w2 := ⟨_, rfl⟩
 have hb2 : Below w1.heap.size w1 w2 := by rw [← hw2]; exact below_alloc (Below.refl _ _) _
 have kz : w2.heap[w1.heap.size]? = some (.cells #[.int .i64 u0, .int .i64 u1, .slice A2 0 c2] 33 (0, 0)) := by rw [← hw2]; exact blk_new w1 _
 have k1 := blk_below (blk_below H.out.2.1 X.out.2) hb2
 rw [hw2]
 have Z := Aside0.mk (And.intro hb2 k1)
 have m0 := (blk_cell kz 0).trans rfl
 have m1 := (blk_cell kz 1).trans rfl
 have m2 := (blk_cell kz 2).trans rfl
 have r0 := (blk_cell k1 0).trans rfl
 have r1 := (blk_cell k1 1).trans rfl
 have r2 := (blk_cell k1 2).trans rfl
 have r3 := (blk_cell k1 3).trans rfl
 have r4 := (blk_cell k1 4).trans rfl
 have g0 := blk_frozen k1 0
 have g1 := blk_frozen k1 1
 have g2 := blk_frozen k1 2
 have g3 := blk_frozen k1 3
 have g4 := blk_frozen k1 4
 clear hw2 hb2 kz k1
 go_wp2
 have z0 := set5 (b0 := .int .i64 u0) (b1 := .int .i64 u1) (b2 := .slice A2 0 c2) (b3 := .slice none 0 0) (b4 := .int .u32 0) Z.out.2
 have y0 := (blk_cell z0 0).trans rfl
 have y1 := (blk_cell z0 1).trans rfl
 have y2 := (blk_cell z0 2).trans rfl
 have y3 := (blk_cell z0 3).trans rfl
 have y4 := (blk_cell z0 4).trans rfl
 have hs := H.out.1.size
 have hlt := blk_lt H.out.2.1
 have FIN := Aside0.mk (but5T (But.refl (fun k => k = w.heap.size + 1) w2) (q := w.heap.size + 1) rfl (.int .i64 u0) (.int .i64 u1) (.slice A2 0 c2) (.slice none 0 0) (.int .u32 0))
 refine bodyPost_ret (v := .tuple #[dv u0 u1 (.slice A2 0 c2) (.slice none 0 0) 0, .int .i64 0]) (by simp [results, Tryz.results24, go_sem, dv, y0, y1, y2, y3, y4]) rfl ⟨.slice A2 0 c2, rfl, ?_, ?_⟩
 ·exact Kd.R_mono (Kd.R_lower (Kd.R_step (Kd.R_below (Kd.R_bound X.out.1) Z.out.1) (fun k hk hlt => FIN.out.block k hlt (by have := hk.2.1; omega))) hs) (fun _ _ => trivial)
 ·exact But.below (below_then H.out.1 H.out.1.size (below_step X.out.2 Z.out.1)) (Nat.le_refl _) FIN.out (fun k hk => by omega)
end Go.Proofs.YthibppfdonepoaaGreat.LedT
set_option linter.unusedVariables false
set_option linter.unusedSimpArgs false
namespace Go.Proofs.YthibppfdonepoaaGreat.LedT
open Go.RowKit Go.MapKept Go.Maps Go.ChangeMaps Go.Proofs.YthibppfdonepoaaGreat.XBut Go.Proofs.YthibppfdonepoaaGreat.XMap Go.Proofs.YthibppfdonepoaaGreat.NodeT Go.Proofs.YthibppfdonepoaaGreatW.PrintWords Go.Proofs.YthibppfdonepoaaGreatW.PrintLast
theorem dtake (u0 u1 : Int) (An A : Option Addr) (nn cn n c N0 : Nat) (last o m : Int) (s : Bool) (bx : List Bx) (w : World) (hX : RB w N0 (.slice A n c) bx) (hN : N0 ≤ w.heap.size) (hl : bx.length ≤ 1000000) (hr : bx.Pairwise fun a c => a.f0 < c.f0) :
  Calls Tryz.prog 62 #[dv u0 u1 (.slice An nn cn) (.slice A n c) last, .int .u32 o, .bool s, .int .i64 m] w fun e w' => ∃ Ab lb cb Ag ng cg, e = .returned (.tuple #[dv u0 u1 (.slice An nn cn) (.slice Ab lb cb) last, .slice Ag ng cg, .int .i64 (tcode bx o s m)]) ∧ RB w' N0 (.slice Ab lb cb) (leftN bx (taken bx o s m)) ∧ (∀ k, (Value.slice Ab lb cb).ownBlock = some k → (Value.slice A n c).ownBlock = some k ∨ w.heap.size ≤ k) ∧ (∀ (T : Nat → Prop) (w'' : World), (∀ k, T k → k < w.heap.size) → But T w' w'' → Kd.C PLedLib.k100 w'' Ag ng (taken bx o s m)) ∧ (taken bx o s m).length = ng ∧ Below w.heap.size w w' := by
 obtain ⟨hn, hc, hC⟩ := Kd.R_reads' hX
 rw [← hn] at hC
 by_cases hm : mayc o m = 2
 ·have hcd : tcode bx o s m = 2 := if_pos hm
  have hg : taken bx o s m = [] := if_neg (by rw [hcd]; decide)
  rw [hcd, hg, left_nil]
  refine (dtake_bad u0 u1 An A nn cn n c last o m s w hm).mono ?_
  rintro e w' ⟨rfl, hb⟩
  exact ⟨A, n, c, none, 0, 0, rfl, Kd.R_below hX hb, fun k hk => .inl hk, fun _ w'' _ _ => nil_row w'', rfl, hb⟩
 ·have hm0 := (mayc_cases o m).resolve_left hm
  by_cases hf : ((ownN bx o s).length : Int) < m
  ·have hcd : tcode bx o s m = 7 := by unfold tcode; rw [if_neg hm, if_pos hf]
   have hg : taken bx o s m = [] := if_neg (by rw [hcd]; decide)
   rw [hcd, hg, left_nil]
   refine (dtake_few u0 u1 An A nn cn n c last o m s bx w hC hn.symm hl hm0 hf).mono ?_
   rintro e w' ⟨rfl, hb⟩
   exact ⟨A, n, c, none, 0, 0, rfl, Kd.R_below hX hb, fun k hk => .inl hk, fun _ w'' _ _ => nil_row w'', rfl, hb⟩
  ·have hcd : tcode bx o s m = 0 := by unfold tcode; rw [if_neg hm, if_neg hf]
   have hg : taken bx o s m = goneN bx o s m.toNat := if_pos hcd
   have hz := mayc_zero hm
   obtain ⟨N, hNm⟩ : ∃ N : Nat, m = N := ⟨m.toNat, by omega⟩
   subst hNm
   have eN : ((N : Int)).toNat = N := by simp
   have hgl : (goneN bx o s N).length = N := by unfold goneN; rw [List.length_drop]; omega
   rw [hcd, hg, eN]
   refine (dtake_ok u0 u1 An A nn cn n c last o N s bx w hC hn.symm hl hr hm0 (by omega)).mono ?_
   rintro e w' ⟨vb', Ag, cg, rfl, hR, hCg, _, hb⟩
   obtain ⟨Ab, cb, rfl⟩ := Kd.R_slice hR
   exact ⟨Ab, _, cb, Ag, N, cg, rfl, Kd.R_lower hR hN, fun k hk => .inr (Kd.R_base hR k hk), hCg, hgl, hb⟩
end Go.Proofs.YthibppfdonepoaaGreat.LedT
set_option linter.unusedVariables false
set_option linter.unusedSimpArgs false
namespace Go.Proofs.YthibppfdonepoaaGreat.LedT
open Go.RowKit Go.MapKept Go.Maps Go.ChangeMaps Go.Proofs.YthibppfdonepoaaGreat.XBut Go.Proofs.YthibppfdonepoaaGreat.XMap Go.Proofs.YthibppfdonepoaaGreat.NodeT Go.Proofs.YthibppfdonepoaaGreatW.PrintWords Go.Proofs.YthibppfdonepoaaGreatW.PrintLast
theorem dgive (u0 u1 : Int) (An A : Option Addr) (nn cn n c : Nat) (last o m : Int) (s : Bool) (ns : List Nd) (bx : List Bx) (okn : Nat → Prop) (w0 w : World) (hB : Below w0.heap.size w0 w) (hN : RNd w w0.heap.size okn (.slice An nn cn) ns) (hX : RB w w0.heap.size (.slice A n c) bx) (hG : LG u0 u1 ns bx last) (hla : last ≤ 4000000000) :
  Calls Tryz.prog 41 #[dv u0 u1 (.slice An nn cn) (.slice A n c) last, .int .u32 o, .bool s, .int .i64 m] w fun e w' => ∃ Ab lb cb Ag ng cg, e = .returned (.tuple #[dv u0 u1 (.slice An nn cn) (.slice Ab lb cb) (last + (given u0 u1 ns bx last o s m).length), .slice Ag ng cg, .int .i64 (gcode u0 u1 ns bx o m)]) ∧ RB w' w0.heap.size (.slice Ab lb cb) (bx ++ given u0 u1 ns bx last o s m) ∧ (∀ k, (Value.slice Ab lb cb).ownBlock = some k → (Value.slice A n c).ownBlock = some k ∨ w.heap.size ≤ k) ∧ (∀ (T : Nat → Prop) (w'' : World), (∀ k, T k → k < w.heap.size) → But T w' w'' → Kd.C PLedLib.k100 w'' Ag ng (given u0 u1 ns bx last o s m)) ∧ (given u0 u1 ns bx last o s m).length = ng ∧ Below w.heap.size w w' := by
 obtain ⟨hn, hc, hC⟩ := Kd.R_reads' hX
 obtain ⟨hnn, hcn, hCn⟩ := Kd.R_reads' hN
 have hl := hG.len
 by_cases hm : mayc o m = 2
 ·have hcd : gcode u0 u1 ns bx o m = 2 := if_pos hm
  have hg : given u0 u1 ns bx last o s m = [] := if_neg (by rw [hcd]; decide)
  rw [hcd, hg, List.append_nil]
  refine (dgive_bad u0 u1 An A nn cn n c last o m s w hm).mono ?_
  rintro e w' ⟨rfl, hb⟩
  exact ⟨A, n, c, none, 0, 0, by simp, Kd.R_below hX hb, fun k hk => .inl hk, fun _ w'' _ _ => nil_row w'', rfl, hb⟩
 ·have hm0 := (mayc_cases o m).resolve_left hm
  by_cases hf : freeN u0 u1 ns bx < m
  ·have hcd : gcode u0 u1 ns bx o m = 6 := by unfold gcode; rw [if_neg hm, if_pos hf]
   have hg : given u0 u1 ns bx last o s m = [] := if_neg (by rw [hcd]; decide)
   rw [hcd, hg, List.append_nil]
   refine (dgive_full u0 u1 An A nn cn n c last o m s ns bx w ⟨hCn, by omega, hC, by omega⟩ hG.nodes hnn.symm hn.symm (by omega) hm0 hf).mono ?_
   rintro e w' ⟨rfl, hb⟩
   exact ⟨A, n, c, none, 0, 0, by simp, Kd.R_below hX hb, fun k hk => .inl hk, fun _ w'' _ _ => nil_row w'', rfl, hb⟩
  ·have hcd : gcode u0 u1 ns bx o m = 0 := by unfold gcode; rw [if_neg hm, if_neg hf]
   have hg : given u0 u1 ns bx last o s m = grow u0 u1 ns bx last o s m.toNat := if_pos hcd
   have hz := mayc_zero hm
   obtain ⟨N, hNm⟩ : ∃ N : Nat, m = N := ⟨m.toNat, by omega⟩
   subst hNm
   have eN : ((N : Int)).toNat = N := by simp
   rw [hcd, hg, eN, grow_len]
   refine (dgive_ok u0 u1 An A nn cn n c last o N s ns bx okn w0 w hB hN hX hG hla hm0 (by omega)).mono ?_
   rintro e w' ⟨vb', vo, rfl, hR, hRo, hb⟩
   obtain ⟨Ab, cb, rfl⟩ := Kd.R_slice hR
   obtain ⟨Ag, cg, rfl⟩ := Kd.R_slice hRo
   rw [grow_len] at hRo ⊢
   refine ⟨Ab, _, cb, Ag, N, cg, rfl, Kd.R_mono (Kd.R_tight (by rfl) hR) (fun k hk => hk.symm), fun k hk => hR.1 k hk, fun T w'' hT hbT => ?_, rfl, hb⟩
   have h9 := (Kd.R_reads' (Kd.R_step hRo (fun k hk hlt => hbT.block k hlt (fun ht => by have := hT k ht; have := Kd.R_base hRo k hk; omega)))).2.2
   rw [grow_len] at h9
   exact h9
end Go.Proofs.YthibppfdonepoaaGreat.LedT
set_option linter.unusedVariables false
namespace Go.Proofs.YthibppfdonepoaaGreat.LedT
open Go.RowKit Go.MapKept Go.Maps Go.ChangeMaps Go.Proofs.YthibppfdonepoaaGreat.XBut Go.Proofs.YthibppfdonepoaaGreat.XMap Go.Proofs.YthibppfdonepoaaGreat.NodeT Go.Proofs.YthibppfdonepoaaGreatW.PrintWords Go.Proofs.YthibppfdonepoaaGreatW.PrintLast
theorem row_apart {w : World} {B1 B2 : Nat} {ok1 : Nat → Prop} {v1 v2 : Value} {xs : List Nd} {ys : List Bx} (hN : RNd w B1 ok1 v1 xs) (hX : RB w B2 v2 ys) : ∀ k, v1.ownBlock = some k → v2.ownBlock ≠ some k := fun k h1 h2 => by
 obtain ⟨_, _, _, q, hq, c, h3⟩ := (Kd.R_bound hN).1 k h1
 obtain ⟨_, _, _, q2, hq2, c2, h4⟩ := (Kd.R_bound hX).1 k h2
 have e1 : q = 59 := by rcases List.mem_cons.1 hq with h | h; exact h; exact absurd h (by show q ∉ ([] : List TypeId); simp)
 have e2 : q2 = 100 := by rcases List.mem_cons.1 hq2 with h | h; exact h; exact absurd h (by show q2 ∉ ([] : List TypeId); simp)
 rw [h3] at h4
 subst e1
 subst e2
 cases h4
theorem dlose (u0 u1 : Int) (An A : Option Addr) (nn cn n c : Nat) (last i : Int) (ns : List Nd) (bx : List Bx) (okn : Nat → Prop) (w0 w : World) (hB : Below w0.heap.size w0 w) (hN : RNd w w0.heap.size okn (.slice An nn cn) ns) (hX : RB w w0.heap.size (.slice A n c) bx) (hd : ∀ k, okn k → (Value.slice A n c).ownBlock ≠ some k) (hG : LG u0 u1 ns bx last) :
  Calls Tryz.prog 61 #[dv u0 u1 (.slice An nn cn) (.slice A n c) last, .int .u32 i] w fun e w' => ∃ An2 nn2 cn2 Ab lb cb Ag ng cg, e = .returned (.tuple #[dv u0 u1 (.slice An2 nn2 cn2) (.slice Ab lb cb) last, .slice Ag ng cg, .int .i64 (lost ns i).2]) ∧ RNd w' w0.heap.size (fun k => (Value.slice An2 nn2 cn2).ownBlock = some k) (.slice An2 nn2 cn2) (less ns i) ∧ (∀ k, (Value.slice An2 nn2 cn2).ownBlock = some k → okn k ∨ w.heap.size ≤ k) ∧ RB w' w0.heap.size (.slice Ab lb cb) (offN bx i) ∧ (∀ k, (Value.slice Ab lb cb).ownBlock = some k → (Value.slice A n c).ownBlock = some k ∨ w.heap.size ≤ k) ∧ (∀ (T : Nat → Prop) (w'' : World), (∀ k, T k → k < w.heap.size) → But T w' w'' → Kd.C PLedLib.k100 w'' Ag ng (onN bx i)) ∧ (onN bx i).length = ng ∧ But okn w w' := by
 obtain ⟨hn, hc, hC⟩ := Kd.R_reads' hX
 obtain ⟨hnn, hcn, hCn⟩ := Kd.R_reads' hN
 have hl := hG.len
 have hl2 := hG.nodes.len
 cases hw : who ns i with
 | none =>
  have e1 : (lost ns i).2 = 7 := by unfold lost; rw [hw]
  rw [e1, less_none hw, off_none hG.on hw, onN_none hG.on hw]
  refine (dlose_no u0 u1 An A nn cn n c last i ns w (hnn ▸ hCn) hnn.symm hcn (by omega) hw).mono ?_
  rintro e w' ⟨rfl, hb⟩
  exact ⟨An, nn, cn, A, n, c, none, 0, 0, rfl, Kd.R_mono (Kd.R_tight (by rfl) (Kd.R_below hN hb)) (fun k hk => hk.symm), fun k hk => .inl (hN.1 k hk), Kd.R_below hX hb, fun k hk => .inl hk, fun _ w'' _ _ => nil_row w'', rfl, But.of_below hb⟩
 | some y =>
  have e1 : (lost ns i).2 = 0 := by unfold lost; rw [hw]
  rw [e1]
  refine (dlose_yes u0 u1 An A nn cn n c last i ns bx okn w0 w hB hN hX hd hG.nodes hG.ids (by omega) y hw).mono ?_
  rintro e w' ⟨vn', vb', Ag, ng, cg, rfl, hR, hRb, hCg, hng, _, hown, hb⟩
  obtain ⟨An2, cn2, rfl⟩ := Kd.R_slice hR
  obtain ⟨Ab, cb, rfl⟩ := Kd.R_slice hRb
  exact ⟨An2, _, cn2, Ab, _, cb, Ag, ng, cg, rfl, Kd.R_mono (Kd.R_tight (by rfl) hR) (fun k hk => hk.symm), fun k hk => hR.1 k hk, Kd.R_lower hRb hB.size, fun k hk => .inr (hown k hk), hCg, hng, hb⟩
end Go.Proofs.YthibppfdonepoaaGreat.LedT
set_option linter.unusedVariables false
namespace Go.Proofs.YthibppfdonepoaaGreat.LedT
open Go.RowKit Go.MapKept Go.Maps Go.ChangeMaps Go.Proofs.YthibppfdonepoaaGreat.XBut Go.Proofs.YthibppfdonepoaaGreat.XMap Go.Proofs.YthibppfdonepoaaGreat.NodeT Go.Proofs.YthibppfdonepoaaGreatW.PrintWords Go.Proofs.YthibppfdonepoaaGreatW.PrintLast
structure AcAt (w : World) (ad : Addr) (x : Ac) : Prop where
 c0 : w.cell? ad = some (.int .u8 x.what)
 c1 : w.cell? ⟨ad.block, ad.off + 1, none⟩ = some (.int .u32 x.n.f0)
 c2 : w.cell? ⟨ad.block, ad.off + 2, none⟩ = some (.int .i64 x.n.f1.f0)
 c3 : w.cell? ⟨ad.block, ad.off + 3, none⟩ = some (.int .i64 x.n.f1.f1)
 c4 : w.cell? ⟨ad.block, ad.off + 4, none⟩ = some (.int .u32 x.o)
 c5 : w.cell? ⟨ad.block, ad.off + 5, none⟩ = some (.bool x.s)
 c6 : w.cell? ⟨ad.block, ad.off + 6, none⟩ = some (.int .i64 x.many)
theorem AcAt.below {w w' : World} {ad : Addr} {x : Ac} (h : AcAt w ad x) (hb : Below w.heap.size w w') : AcAt w' ad x :=
 ⟨pw_cell_below hb h.c0, pw_cell_below hb h.c1, pw_cell_below hb h.c2, pw_cell_below hb h.c3, pw_cell_below hb h.c4, pw_cell_below hb h.c5, pw_cell_below hb h.c6⟩
structure AcRow (w : World) (A : Option Addr) (l : List Ac) : Prop where
 at_ : ∀ j (h : j < l.length), ∃ ad, A = some ad ∧ AcAt w (ad.add (j * 7)) l[j]
 wf : ∀ x ∈ l, (Lit.int .u8 x.what).wf = true ∧ (Lit.int .u32 x.n.f0).wf = true ∧ (Lit.int .u32 x.o).wf = true ∧ (Lit.int .i64 x.many).wf = true
theorem AcRow.below {w w' : World} {A : Option Addr} {l : List Ac} (h : AcRow w A l) (hb : Below w.heap.size w w') : AcRow w' A l :=
 ⟨fun j hj => by obtain ⟨ad, h1, h2⟩ := h.at_ j hj; exact ⟨ad, h1, h2.below hb⟩, h.wf⟩
def big (x : Ac) : Bool := decide (200 < x.many) && decide (x.many ≤ 1048576)
def gr (l : List Ac) : Bool := l.any big || decide (80 < l.length)
set_option maxHeartbeats 8000000 in
set_option maxRecDepth 100000 in
theorem great (A : Option Addr) (c : Nat) (l : List Ac) (w : World) (hA : AcRow w A l) (hl : l.length ≤ 9223372036854775807) :
  Calls Tryz.prog 22 #[.slice A l.length c] w fun e w' => e = .returned (.bool (gr l)) ∧ Below w.heap.size w w' := by
 have hu107 := Tryz.underlying61
 have H := Aside0.mk (And.intro hA hl)
 clear hA
 go_enter Tryz.func22, Tryz.ntmps22
 go_wp2_with fail
 go_loopg [3] l.length (fun kk v3 wr => ∃ j : Nat, kk = l.length - j ∧ v3 = .int .i64 j ∧ j ≤ l.length ∧ Below w.heap.size w wr ∧ ∀ x ∈ l.take j, big x = false)
 case atStart => exact ⟨0, rfl, rfl, Nat.zero_le _, Below.refl _ _, by simp⟩
 obtain ⟨j, rfl, rfl, hj, hB, hno⟩ := hrel
 by_cases hlt : j < l.length
 ·obtain ⟨ad, rfl, hAc⟩ := H.out.1.at_ j hlt
  have htk : l.take (j + 1) = l.take j ++ [l[j]] := by rw [List.take_add_one, List.getElem?_eq_getElem hlt]; rfl
  have hmem : l[j] ∈ l := List.getElem_mem hlt
  obtain ⟨x, hx⟩ : ∃ x, l[j] = x := ⟨_, rfl⟩
  rw [hx] at hAc htk hmem
  have d6 := (hAc.below hB).c6
  obtain ⟨m, hm⟩ : ∃ m, x.many = m := ⟨_, rfl⟩
  rw [hm] at d6
  have hlt' : (j : Int) < (l.length : Int) := by omega
  have hjl : (j : Int) + 1 ≤ 9223372036854775807 := by omega
  have X := Aside0.mk (And.intro hB (And.intro hno (And.intro htk (And.intro hmem hm))))
  clear hB hno htk hmem hm hx hAc
  by_cases h1 : (200 : Int) < m
  ·have t1 : decide ((200 : Int) < m) = true := decide_eq_true h1
   by_cases h2 : m ≤ 1048576
   ·have t2 : decide (m ≤ (1048576 : Int)) = true := decide_eq_true h2
    have G : Aside0 (gr l = true) := ⟨by
     unfold gr
     rw [List.any_eq_true.2 ⟨x, X.out.2.2.2.1, by unfold big; rw [X.out.2.2.2.2, t1, t2]; rfl⟩]
     rfl⟩
    clear h1 h2
    go_wp2
    go_ret
    exact ⟨by rw [G.out]; rfl, X.out.1⟩
   ·have t2 : decide (m ≤ (1048576 : Int)) = false := decide_eq_false h2
    have G : Aside0 (big x = false) := ⟨by unfold big; rw [X.out.2.2.2.2, t1, t2]; rfl⟩
    clear h1 h2
    go_wp2
    go_roundg (l.length - (j + 1))
    case measure => omega
    case rel => exact ⟨j + 1, rfl, by go_num, by omega, X.out.1, by rw [X.out.2.2.1]; intro y hy; rcases List.mem_append.1 hy with hy | hy; exact X.out.2.1 y hy; rw [List.mem_singleton.1 hy]; exact G.out⟩
  ·have t1 : decide ((200 : Int) < m) = false := decide_eq_false h1
   have G : Aside0 (big x = false) := ⟨by unfold big; rw [X.out.2.2.2.2, t1]; rfl⟩
   clear h1
   go_wp2
   go_roundg (l.length - (j + 1))
   case measure => omega
   case rel => exact ⟨j + 1, rfl, by go_num, by omega, X.out.1, by rw [X.out.2.2.1]; intro y hy; rcases List.mem_append.1 hy with hy | hy; exact X.out.2.1 y hy; rw [List.mem_singleton.1 hy]; exact G.out⟩
 ·have hlt' : ¬ (j : Int) < (l.length : Int) := by omega
  have htk : l.take j = l := List.take_of_length_le (by omega)
  rw [htk] at hno
  have G : Aside0 (gr l = decide ((80 : Int) < (l.length : Int))) := ⟨by
   unfold gr
   rw [List.any_eq_false.2 (fun x hx => by rw [hno x hx]; decide), Bool.false_or]
   exact decide_eq_decide.2 (by omega)⟩
  have X := Aside0.mk hB
  clear hB hno htk
  go_wp2
  go_ret
  exact ⟨by rw [G.out]; rfl, X.out⟩
theorem gr_small {l : List Ac} (h : gr l = false) : l.length ≤ 80 ∧ ∀ x ∈ l, big x = false := by
 unfold gr at h
 rw [Bool.or_eq_false_iff] at h
 exact ⟨by have := of_decide_eq_false h.2; omega, fun x hx => by have := List.any_eq_false.1 h.1 x hx; simpa using this⟩
end Go.Proofs.YthibppfdonepoaaGreat.LedT
set_option linter.unusedVariables false
namespace Go.Proofs.YthibppfdonepoaaGreat.NodeT
open Go.RowKit Go.Proofs.YthibppfdonepoaaGreat.XBut Go.Proofs.YthibppfdonepoaaGreat.PNodePlays Go.Proofs.YthibppfdonepoaaGreatW.PrintWords Go.Proofs.YthibppfdonepoaaGreatW.PrintLast
abbrev RN (w : World) (N : Nat) (ok : Nat → Prop) (v : Value) (xs : List S59) : Prop := Kd.R k59 59 w N ok v xs
abbrev V5 := Value × Value × Value × Value × Value
def JW (N : Nat) (Ws : World) (x : S59) (tk dr : List S59) (p : Addr) (b : V5) (l : Nat → Bool) (w' : World) : Prop :=
  if l 15 = true then ∃ wz, Below N Ws wz ∧ RN wz N (fun _ => True) b.2.2.2.2 ((tk ++ [x]) ++ dr) ∧ w' = wz.setCell p b.2.2.2.2
  else Below N Ws w' ∧
    (if l 13 = true then RN w' N (fun _ => True) b.2.2.2.2 ((tk ++ [x]) ++ dr)
     else if l 8 = true then RN w' N (fun _ => True) b.2.2.2.1 (tk ++ [x])
     else (l 7 = true → RN w' N (fun k => b.2.2.1.ownBlock = some k) b.2.2.1 [x]) ∧
          (if l 5 = true then RN w' N (fun k => l 7 = true → b.2.2.1.ownBlock ≠ some k) b.2.1 tk
           else l 0 = true → RN w' N (fun k => l 7 = true → b.2.2.1.ownBlock ≠ some k) b.1 []))
theorem JW.start {N : Nat} {Ws w' : World} {x : S59} {tk dr : List S59} {p : Addr} {b : V5} (h : Below N Ws w') : JW N Ws x tk dr p b (fun _ => false) w' := by
 unfold JW
 simp [h]
theorem JW.below {N : Nat} {Ws w' : World} {x : S59} {tk dr : List S59} {p : Addr} {b : V5} {l : Nat → Bool} (h : JW N Ws x tk dr p b l w') (h15 : l 15 = false) : Below N Ws w' := by
 unfold JW at h
 rw [if_neg (by rw [h15]; decide)] at h
 exact h.1
theorem JW.up {N : Nat} {Ws w' : World} {x : S59} {tk dr : List S59} {p : Addr} {b : V5} {l : Nat → Bool} (h : JW N Ws x tk dr p b l w') (i : Nat) (hi : i ≠ 0 ∧ i ≠ 5 ∧ i ≠ 7 ∧ i ≠ 8 ∧ i ≠ 13 ∧ i ≠ 15) : JW N Ws x tk dr p b (XInv.up l i) w' := by
 have e : ∀ j, j ≠ i → XInv.up l i j = l j := fun j hj => by unfold XInv.up; rw [if_neg hj]
 unfold JW at *
 rw [e 15 (Ne.symm hi.2.2.2.2.2), e 13 (Ne.symm hi.2.2.2.2.1), e 8 (Ne.symm hi.2.2.2.1), e 7 (Ne.symm hi.2.2.1), e 5 (Ne.symm hi.2.1), e 0 (Ne.symm hi.1)]
 exact h
theorem JW.s0 {N : Nat} {Ws w' w1 : World} {x : S59} {tk dr : List S59} {p : Addr} {b : V5} {l : Nat → Bool} (h : JW N Ws x tk dr p b l w') (h15 : l 15 = false) (h13 : l 13 = false) (h8 : l 8 = false) (h5 : l 5 = false)
  (v : Value) (hb : Below w'.heap.size w' w1) (hR : RN w1 w'.heap.size (fun _ => True) v []) (hN : N ≤ w'.heap.size) : JW N Ws x tk dr p (v, b.2) (XInv.up l 0) w1 := by
 have e : ∀ j, j ≠ 0 → XInv.up l 0 j = l j := fun j hj => by unfold XInv.up; rw [if_neg hj]
 unfold JW at *
 rw [e 15 (by decide), e 13 (by decide), e 8 (by decide), e 7 (by decide), e 5 (by decide)]
 rw [if_neg (by rw [h15]; decide), if_neg (by rw [h13]; decide), if_neg (by rw [h8]; decide), if_neg (by rw [h5]; decide)] at h ⊢
 obtain ⟨h1, h2, h3⟩ := h
 refine ⟨h1.trans (hb.mono hN), fun h7 => Kd.R_below (h2 h7) hb, fun _ => ?_⟩
 refine Kd.R_mono (Kd.R_lower (Kd.R_bound hR) hN) (fun k hk h7 he => ?_)
 have := Kd.R_lt (h2 h7) k he
 have := hk.2.1
 omega
theorem JW.row0 {N : Nat} {Ws w' : World} {x : S59} {tk dr : List S59} {p : Addr} {b : V5} {l : Nat → Bool} (h : JW N Ws x tk dr p b l w') (h15 : l 15 = false) (h13 : l 13 = false) (h8 : l 8 = false) (h5 : l 5 = false) (h0 : l 0 = true) : RN w' N (fun k => l 7 = true → b.2.2.1.ownBlock ≠ some k) b.1 [] := by
 unfold JW at h
 rw [if_neg (by rw [h15]; decide), if_neg (by rw [h13]; decide), if_neg (by rw [h8]; decide), if_neg (by rw [h5]; decide)] at h
 exact h.2.2 h0
theorem JW.row5 {N : Nat} {Ws w' : World} {x : S59} {tk dr : List S59} {p : Addr} {b : V5} {l : Nat → Bool} (h : JW N Ws x tk dr p b l w') (h15 : l 15 = false) (h13 : l 13 = false) (h8 : l 8 = false) (h5 : l 5 = true) : RN w' N (fun k => l 7 = true → b.2.2.1.ownBlock ≠ some k) b.2.1 tk := by
 unfold JW at h
 rw [if_neg (by rw [h15]; decide), if_neg (by rw [h13]; decide), if_neg (by rw [h8]; decide), if_pos h5] at h
 exact h.2.2
theorem JW.row7 {N : Nat} {Ws w' : World} {x : S59} {tk dr : List S59} {p : Addr} {b : V5} {l : Nat → Bool} (h : JW N Ws x tk dr p b l w') (h15 : l 15 = false) (h13 : l 13 = false) (h8 : l 8 = false) (h7 : l 7 = true) : RN w' N (fun k => b.2.2.1.ownBlock = some k) b.2.2.1 [x] := by
 unfold JW at h
 rw [if_neg (by rw [h15]; decide), if_neg (by rw [h13]; decide), if_neg (by rw [h8]; decide)] at h
 exact h.2.1 h7
theorem JW.row8 {N : Nat} {Ws w' : World} {x : S59} {tk dr : List S59} {p : Addr} {b : V5} {l : Nat → Bool} (h : JW N Ws x tk dr p b l w') (h15 : l 15 = false) (h13 : l 13 = false) (h8 : l 8 = true) : RN w' N (fun _ => True) b.2.2.2.1 (tk ++ [x]) := by
 unfold JW at h
 rw [if_neg (by rw [h15]; decide), if_neg (by rw [h13]; decide), if_pos h8] at h
 exact h.2
theorem JW.row13 {N : Nat} {Ws w' : World} {x : S59} {tk dr : List S59} {p : Addr} {b : V5} {l : Nat → Bool} (h : JW N Ws x tk dr p b l w') (h15 : l 15 = false) (h13 : l 13 = true) : RN w' N (fun _ => True) b.2.2.2.2 ((tk ++ [x]) ++ dr) := by
 unfold JW at h
 rw [if_neg (by rw [h15]; decide), if_pos h13] at h
 exact h.2
theorem JW.s5 {N : Nat} {Ws w' w1 : World} {x : S59} {tk dr : List S59} {p : Addr} {b : V5} {l : Nat → Bool} (h : JW N Ws x tk dr p b l w') (h15 : l 15 = false) (h13 : l 13 = false) (h8 : l 8 = false) (h5 : l 5 = false) (h0 : l 0 = true)
  (v : Value) (hR : RN w1 N (fun k => l 7 = true → b.2.2.1.ownBlock ≠ some k) v tk) (hB : Below N Ws w1) (hg : w'.grownBy w1 b.1.ownBlock) : JW N Ws x tk dr p (b.1, v, b.2.2) (XInv.up l 5) w1 := by
 have e : ∀ j, j ≠ 5 → XInv.up l 5 j = l j := fun j hj => by unfold XInv.up; rw [if_neg hj]
 have e5 : XInv.up l 5 5 = true := by unfold XInv.up; rw [if_pos rfl]
 have r0 := h.row0 h15 h13 h8 h5 h0
 unfold JW at *
 rw [e 15 (by decide), e 13 (by decide), e 8 (by decide), e 7 (by decide), e5, e 0 (by decide)]
 rw [if_neg (by rw [h15]; decide), if_neg (by rw [h13]; decide), if_neg (by rw [h8]; decide)] at h ⊢
 rw [if_pos rfl]
 refine ⟨hB, fun h7 => Kd.R_grown (h.2.1 h7) hg (fun k hk he => ?_), hR⟩
 exact r0.1 k he.symm h7 hk
theorem JW.s7 {N : Nat} {Ws w' w1 : World} {x : S59} {tk dr : List S59} {p : Addr} {b : V5} {l : Nat → Bool} (h : JW N Ws x tk dr p b l w') (h15 : l 15 = false) (h13 : l 13 = false) (h8 : l 8 = false) (h7 : l 7 = false)
  (v : Value) (hb : Below w'.heap.size w' w1) (hR : RN w1 w'.heap.size (fun _ => True) v [x]) (hN : N ≤ w'.heap.size) : JW N Ws x tk dr p (b.1, b.2.1, v, b.2.2.2) (XInv.up l 7) w1 := by
 have e : ∀ j, j ≠ 7 → XInv.up l 7 j = l j := fun j hj => by unfold XInv.up; rw [if_neg hj]
 have e7 : XInv.up l 7 7 = true := by unfold XInv.up; rw [if_pos rfl]
 have old : ∀ u (xs : List S59), RN w' N (fun k => l 7 = true → b.2.2.1.ownBlock ≠ some k) u xs → RN w1 N (fun k => True → v.ownBlock ≠ some k) u xs := fun u xs hu =>
  Kd.R_mono (Kd.R_below (Kd.R_bound hu) hb) (fun k hk _ he => by have := Kd.R_base hR k he; have := hk.2.2.1; omega)
 unfold JW at *
 rw [e 15 (by decide), e 13 (by decide), e 8 (by decide), e7, e 5 (by decide), e 0 (by decide)]
 rw [if_neg (by rw [h15]; decide), if_neg (by rw [h13]; decide), if_neg (by rw [h8]; decide)] at h ⊢
 obtain ⟨h1, h2, h3⟩ := h
 refine ⟨h1.trans (hb.mono hN), fun _ => Kd.R_lower (Kd.R_tight (by rfl) (Kd.R_mono hR fun _ _ => trivial) |> fun hz => Kd.R_mono hz fun k hk => hk.symm) hN, ?_⟩
 split at h3
 ·rename_i h5
  rw [if_pos h5]
  exact Kd.R_mono (old _ _ h3) (fun k hk _ => hk trivial)
 ·rename_i h5
  rw [if_neg h5]
  exact fun h0 => Kd.R_mono (old _ _ (h3 h0)) (fun k hk _ => hk trivial)
theorem JW.s8 {N : Nat} {Ws w' w1 : World} {x : S59} {tk dr : List S59} {p : Addr} {b : V5} {l : Nat → Bool} (h : JW N Ws x tk dr p b l w') (h15 : l 15 = false) (h13 : l 13 = false) (v : Value) (hR : RN w1 N (fun _ => True) v (tk ++ [x])) (hB : Below N Ws w1) : JW N Ws x tk dr p (b.1, b.2.1, b.2.2.1, v, b.2.2.2.2) (XInv.up l 8) w1 := by
 have e : ∀ j, j ≠ 8 → XInv.up l 8 j = l j := fun j hj => by unfold XInv.up; rw [if_neg hj]
 have e8 : XInv.up l 8 8 = true := by unfold XInv.up; rw [if_pos rfl]
 unfold JW
 rw [e 15 (by decide), e 13 (by decide), e8, if_neg (by rw [h15]; decide), if_neg (by rw [h13]; decide), if_pos rfl]
 exact ⟨hB, hR⟩
theorem JW.s13 {N : Nat} {Ws w' w1 : World} {x : S59} {tk dr : List S59} {p : Addr} {b : V5} {l : Nat → Bool} (h : JW N Ws x tk dr p b l w') (h15 : l 15 = false) (v : Value) (hR : RN w1 N (fun _ => True) v ((tk ++ [x]) ++ dr)) (hB : Below N Ws w1) : JW N Ws x tk dr p (b.1, b.2.1, b.2.2.1, b.2.2.2.1, v) (XInv.up l 13) w1 := by
 have e : ∀ j, j ≠ 13 → XInv.up l 13 j = l j := fun j hj => by unfold XInv.up; rw [if_neg hj]
 have e13 : XInv.up l 13 13 = true := by unfold XInv.up; rw [if_pos rfl]
 unfold JW
 rw [e 15 (by decide), e13, if_neg (by rw [h15]; decide), if_pos rfl]
 exact ⟨hB, hR⟩
theorem JW.s15 {N : Nat} {Ws w' w1 : World} {x : S59} {tk dr : List S59} {p : Addr} {b : V5} {l : Nat → Bool} (h : JW N Ws x tk dr p b l w') (h15 : l 15 = false) (h13 : l 13 = true) (hw : w1 = w'.setCell p b.2.2.2.2) : JW N Ws x tk dr p b (XInv.up l 15) w1 := by
 have e15 : XInv.up l 15 15 = true := by unfold XInv.up; rw [if_pos rfl]
 have r := h.row13 h15 h13
 have hb := h.below h15
 unfold JW
 rw [e15, if_pos rfl]
 exact ⟨w', hb, r, hw⟩
end Go.Proofs.YthibppfdonepoaaGreat.NodeT
