/- liverylaw23.same. -/
import Derived.Test.YthibppfdonepoaaGreatCLedgerPlaysHLedWW
import Derived.Test.YthibppfdonepoaaGreatCLedgerPlaysHLedTT
import Derived.Test.YthibppfdonepoaaGreatCLedgerPlaysHLedJ
set_option linter.unusedVariables false
set_option linter.unusedSimpArgs false
namespace Go.Proofs.YthibppfdonepoaaGreat.LedT
open Go.RowKit Go.MapKept Go.Maps Go.ChangeMaps Go.Proofs.YthibppfdonepoaaGreat.XBut Go.Proofs.YthibppfdonepoaaGreat.XMap Go.Proofs.YthibppfdonepoaaGreat.NodeT Go.Proofs.YthibppfdonepoaaGreatW.PrintWords Go.Proofs.YthibppfdonepoaaGreatW.PrintLast
theorem ids_l0 (xs : List Int) (hl : xs.length ≤ 1000000) : ∀ (d k i : Nat), i + d = xs.length → d < k → PLedLib.liveryref23_SameIds.l0 k xs xs i = some true
 | 0, k, i, h, hk => by
  obtain ⟨k, rfl⟩ : ∃ m, k = m + 1 := ⟨k - 1, by omega⟩
  simp only [PLedLib.liveryref23_SameIds.l0]
  rw [if_neg (by omega)]
 | d + 1, k, i, h, hk => by
  obtain ⟨k, rfl⟩ : ∃ m, k = m + 1 := ⟨k - 1, by omega⟩
  simp only [PLedLib.liveryref23_SameIds.l0]
  rw [if_pos (by omega), if_pos (by omega), if_pos (by omega), if_pos trivial]
  rw [show wrap64 ((i : Int) + 1) = ((i + 1 : Nat) : Int) by unfold wrap64; omega]
  exact ids_l0 xs hl d k (i + 1) (by omega) (by omega)
theorem ids_self (xs : List Int) (hl : xs.length ≤ 1000000) : PLedLib.liveryref23_SameIds.f (xs.length + 1) xs xs = some true := by
 unfold PLedLib.liveryref23_SameIds.f
 rw [if_pos rfl]
 exact ids_l0 xs hl xs.length (xs.length + 1) 0 (by omega) (by omega)
theorem sids (xs : List Int) (A A2 : Option Addr) (n c c2 : Nat) (w : World) (h1 : Kd.C (Kd.int .u32) w A n xs) (h2 : Kd.C (Kd.int .u32) w A2 n xs) (hn : xs.length = n) (hl : n ≤ 1000000) (hc : n ≤ c) (hc2 : n ≤ c2) :
  Calls Tryz.prog 20 #[.slice A n c, .slice A2 n c2] w fun e w' => e = .returned (.bool true) ∧ Below w.heap.size w w' := by
 subst hn
 exact (PLedLib.liveryref23_SameIds.calls (xs.length + 1) A c xs A2 c2 xs true w h1 hc h2 hc2 (ids_self xs hl)).mono fun e w' h => ⟨h.1, h.2.below⟩
theorem nsame (xs : List Nd) (A A2 : Option Addr) (n c c2 : Nat) (w : World) (h1 : Kd.C PNodePlays.k59 w A n xs) (h2 : Kd.C PNodePlays.k59 w A2 n xs) (hn : xs.length = n) (hl : n ≤ 1000000) (hc : n ≤ c) (hc2 : n ≤ c2) :
  Calls Tryz.prog 73 #[.slice A n c, .slice A2 n c2] w fun e w' => e = .returned (.bool true) ∧ Below w.heap.size w w' := by
 subst hn
 exact (PNodePlays.liveryref22_Same.calls (xs.length + 1) A c xs A2 c2 xs true w h1 hc h2 hc2 (same_self xs hl _ (Nat.lt_succ_self _))).mono fun e w' h => ⟨h.1, h.2.below⟩
theorem cs23 (P : Nat → Prop) (h0 : P 0) (h1 : P 1) (h2 : P 2) (h3 : P 3) (h4 : P 4) (h5 : P 5) (h6 : P 6) (h7 : P 7) (h8 : P 8) (h9 : P 9) (h10 : P 10) (h11 : P 11) (h12 : P 12) (h13 : P 13) (h14 : P 14) (h15 : P 15) (h16 : P 16) (h17 : P 17) (h18 : P 18) (h19 : P 19) (h20 : P 20) (h21 : P 21) (h22 : P 22) : ∀ i, i < 23 → P i := by
 intro i hi
 rcases (by omega : i = 0 ∨ i = 1 ∨ i = 2 ∨ i = 3 ∨ i = 4 ∨ i = 5 ∨ i = 6 ∨ i = 7 ∨ i = 8 ∨ i = 9 ∨ i = 10 ∨ i = 11 ∨ i = 12 ∨ i = 13 ∨ i = 14 ∨ i = 15 ∨ i = 16 ∨ i = 17 ∨ i = 18 ∨ i = 19 ∨ i = 20 ∨ i = 21 ∨ i = 22) with rfl | rfl | rfl | rfl | rfl | rfl | rfl | rfl | rfl | rfl | rfl | rfl | rfl | rfl | rfl | rfl | rfl | rfl | rfl | rfl | rfl | rfl | rfl
 all_goals assumption
theorem cs18b (P : Nat → Prop) (h0 : P 0) (h1 : P 1) (h2 : P 2) (h3 : P 3) (h4 : P 4) (h5 : P 5) (h6 : P 6) (h7 : P 7) (h8 : P 8) (h9 : P 9) (h10 : P 10) (h11 : P 11) (h12 : P 12) (h13 : P 13) (h14 : P 14) (h15 : P 15) (h16 : P 16) (h17 : P 17) : ∀ i, i < 18 → P i := by
 intro i hi
 rcases (by omega : i = 0 ∨ i = 1 ∨ i = 2 ∨ i = 3 ∨ i = 4 ∨ i = 5 ∨ i = 6 ∨ i = 7 ∨ i = 8 ∨ i = 9 ∨ i = 10 ∨ i = 11 ∨ i = 12 ∨ i = 13 ∨ i = 14 ∨ i = 15 ∨ i = 16 ∨ i = 17) with rfl | rfl | rfl | rfl | rfl | rfl | rfl | rfl | rfl | rfl | rfl | rfl | rfl | rfl | rfl | rfl | rfl | rfl
 all_goals assumption
set_option maxHeartbeats 16000000 in
set_option maxRecDepth 100000 in
theorem same (p b g : Nat) (u0 u1 : Int) (ns : List Nd) (v : Value) (bx : List Bx) (last : Int) (An A : Option Addr) (nn cn n c : Nat) (okn : Nat → Prop) (w0 w : World) (h : DS w0 w p b g u0 u1 ns v bx last (.slice An nn cn) (.slice A n c) okn) :
  Calls Tryz.prog 31 #[.pointer (some ⟨p, 0, none⟩), dv u0 u1 (.slice An nn cn) (.slice A n c) last] w fun e w' => e = .returned (.bool true) ∧ Below w.heap.size w w' := by
 have hu118 := Tryz.underlying37
 have hu31 := Tryz.underlying33
 have hu39 := Tryz.underlying59
 obtain ⟨W0, hW0⟩ : ∃ W0, w.alloc (db u0 u1 (.slice An nn cn) (.slice A n c) last) = W0 := ⟨_, rfl⟩
 have hB0 : Below w.heap.size w W0 := by rw [← hW0]; exact below_alloc (Below.refl _ _) _
 have k0 : W0.heap[w.heap.size]? = some (.cells #[.int .i64 u0, .int .i64 u1, .slice An nn cn, .slice A n c, .int .u32 last] LT (0, 0)) := by rw [← hW0]; exact blk_new w _
 have D0 := h.same hB0
 have hrn := Kd.R_reads' D0.nrow
 have hrb := Kd.R_reads' D0.brow
 have hnn : ns.length = nn := hrn.1.symm
 have hnb : bx.length = n := hrb.1.symm
 have hl1 : nn ≤ 32 := by rw [← hnn]; exact D0.hs.good.nodes.len
 have hl2 : n ≤ 1000000 := by rw [← hnb]; exact D0.hs.len
 have DA : DocAt W0 An cn A c ns bx := ⟨hrn.2.2, by rw [hnn]; exact hrn.2.1, hrb.2.2, by rw [hnb]; exact hrb.2.1⟩
 have FD := fun (w' : World) (hb : Below W0.heap.size W0 w') => dfree u0 u1 ns An cn bx A c last w' (DA.below hb) D0.hs.good.nodes D0.hs.len
 have RD := fun (w' : World) (hb : Below W0.heap.size W0 w') (i : Int) => droom u0 u1 ns An cn bx A c last i w' (DA.below hb) D0.hs.good.nodes D0.hs.len
 have OD := fun (w' : World) (hb : Below W0.heap.size W0 w') (s : Bool) => downers u0 u1 An A nn cn n c last s bx w' (by have := Kd.C_below DA.boxes hb; rwa [hnb] at this) hnb D0.hs.len
 have PD := fun (w' : World) (hb : Below W0.heap.size W0 w') (o : Int) (s : Bool) => dof u0 u1 (.slice An nn cn) bx A c last o s w' (Kd.C_below DA.boxes hb) D0.hs.len
 have FP := fun (w' : World) (hb : Below W0.heap.size W0 w') => (D0.hs.same hb).free
 obtain ⟨fr, hfr⟩ : ∃ fr, freeN u0 u1 ns bx = fr := ⟨_, rfl⟩
 rw [hnn, hnb, hfr] at FD
 rw [hfr] at FP
 rw [hnn, hnb] at RD
 rw [hnb] at PD
 unfold dv at FD RD OD PD
 have K := Aside0.mk (And.intro FD (And.intro RD (And.intro OD (And.intro PD FP))))
 have H := Aside0.mk (And.intro D0 (And.intro DA (And.intro hnn (And.intro hnb (And.intro hB0 (And.intro k0 hW0))))))
 have c3 := (blk_cell k0 3).trans rfl
 unfold dv
 clear h hB0 k0 hW0 D0 hrn hrb hnn hnb DA FD RD OD PD FP hfr
 go_enter Tryz.func31, Tryz.ntmps31
 go_upto_region 1 with (fail)
 rw [H.out.2.2.2.2.2.2]
 clear c3
 have tf : (fr != fr) = false := by simp
 refine XInv.region_tab [] [[], [0], [], [2], [1, 3, 1], [4], [5, 4], [6], [7, 6, 6], [6], [9, 8, 6], [8, 10, 6], [6, 11], [12, 10], [13], [14, 13, 13], [15, 15, 13], [13], [17, 13], [18, 13], [16, 19, 16, 13], [20, 13], [13, 21]] (fun bq jq => match jq with
   | 0 => .pointer (some ⟨p, 0, none⟩)
   | 1 => .slice bq.1.1 n bq.1.2
   | 2 => .pointer (some ⟨w.heap.size, 3, none⟩)
   | 3 => .slice A n c
   | 4 => .bool true
   | 5 => .bool false
   | 6 => .bool false
   | 7 => .pointer (some ⟨p, 0, none⟩)
   | 8 => .int .i64 fr
   | 9 => .agg #[.int .i64 u0, .int .i64 u1, .slice An nn cn, .slice A n c, .int .u32 last]
   | 10 => .int .i64 fr
   | 11 => .bool false
   | 12 => .bool false
   | 13 => .bool false
   | 14 => .pointer (some ⟨p, 0, none⟩)
   | 15 => .pointer (some ⟨bq.2.1.1, 0, none⟩)
   | 16 => .slice bq.2.2.1 nn bq.2.2.2
   | 17 => .pointer (some ⟨w.heap.size, 0, none⟩)
   | 18 => .pointer (some ⟨w.heap.size, 2, none⟩)
   | 19 => .slice An nn cn
   | 20 => .bool true
   | 21 => .bool false
   | 22 => .bool false
   | _ => undef)
   (fun bq l w' => if l 16 = true then (Below W0.heap.size W0 w' ∧ RNd w' W0.heap.size (fun _ => True) (.slice bq.2.2.1 nn bq.2.2.2) ns) else if l 15 = true then (Below W0.heap.size W0 w' ∧ TabAt w' W0.heap.size bq.2.1.1 bq.2.1.2 u0 u1 ns) else if l 1 = true then (Below W0.heap.size W0 w' ∧ RB w' W0.heap.size (.slice bq.1.1 n bq.1.2) bx) else Below W0.heap.size W0 w')
   (by kernel_rfl) rfl (by kernel_rfl) (by kernel_rfl) (by kernel_rfl) ⟨(((none, 0), (0, 0), (none, 0)) : (Option Addr × Nat) × (Nat × Nat) × (Option Addr × Nat)), (by rw [if_neg (by simp)]; rw [if_neg (by simp)]; rw [if_neg (by simp)]; exact below_drew (Below.refl _ _))⟩ ?_ ?_
 ·refine cs23 _ ?_ ?_ ?_ ?_ ?_ ?_ ?_ ?_ ?_ ?_ ?_ ?_ ?_ ?_ ?_ ?_ ?_ ?_ ?_ ?_ ?_ ?_ ?_
  all_goals intro hds oi hoi bq lb w' hW hlb hcl hneed hclo
  all_goals simp only [List.getElem?_toArray, List.getElem?_cons_succ, List.getElem?_cons_zero, Option.some.injEq] at hoi
  all_goals subst hoi
  ·refine XInv.yes_tab [] (by kernel_rfl) ?_
   have hs0 := hcl 1 (by decide) (by kernel_rfl)
   have hs1 := XInv.unreach hclo [13, 10, 6, 4, 1] 15 0 (by kernel_rfl) hlb
   have hs2 := XInv.unreach hclo [13, 10, 6, 4, 1] 16 0 (by kernel_rfl) hlb
   rw [if_neg (by rw [hs2]; decide)] at hW
   rw [if_neg (by rw [hs1]; decide)] at hW
   rw [if_neg (by rw [hs0]; decide)] at hW
   clear hcl hneed hclo
   intro Q2 K2 hK2
   simp only [XInv.puts, XPrint.pw]
   go_simp
   exact hK2.out (.pointer (some ⟨p, 0, none⟩)) w' ⟨bq, rfl, (by intros; first | rfl | trivial), (by rw [if_neg (by simp [XInv.up, hs2])]; rw [if_neg (by simp [XInv.up, hs1])]; rw [if_neg (by simp [XInv.up, hs0])]; exact hW)⟩
  ·refine XInv.yes_tab [(9, 0)] (by kernel_rfl) ?_
   have hs0 := hlb
   have hs1 := XInv.unreach hclo [13, 10, 6, 4] 15 1 (by kernel_rfl) hlb
   have hs2 := XInv.unreach hclo [13, 10, 6, 4] 16 1 (by kernel_rfl) hlb
   rw [if_neg (by rw [hs2]; decide)] at hW
   rw [if_neg (by rw [hs1]; decide)] at hW
   rw [if_neg (by rw [hs0]; decide)] at hW
   have kq := blk_below H.out.2.2.2.2.2.1 hW
   have q0 := (blk_cell kq 0).trans rfl
   have q1 := (blk_cell kq 1).trans rfl
   have q2 := (blk_cell kq 2).trans rfl
   have q3 := (blk_cell kq 3).trans rfl
   have q4 := (blk_cell kq 4).trans rfl
   clear hcl hneed
   intro Q2 K2 hK2
   simp only [XInv.puts, XPrint.pw]
   go_simp
   go_at_call 13
   (with_reducible refine ((H.out.1.hs.same hW).boxes).mono ?_)
   rintro e wz ⟨va, rfl, hR, hb⟩
   obtain ⟨A1, c1, rfl⟩ := Kd.R_slice hR
   rw [H.out.2.2.2.1] at hR ⊢
   exact hK2.out (.slice A1 n c1) wz ⟨((A1, c1), bq.2), rfl, (cs23 _ (fun _ => rfl) (fun hlj => absurd (hlb.symm.trans hlj) (by decide)) (fun _ => rfl) (fun _ => rfl) (fun hlj => absurd (hlb.symm.trans (XInv.reach hclo [] 4 1 (by kernel_rfl) hlj)) (by decide)) (fun hlj => absurd (hlb.symm.trans (XInv.reach hclo [4] 5 1 (by kernel_rfl) hlj)) (by decide)) (fun hlj => absurd (hlb.symm.trans (XInv.reach hclo [4] 6 1 (by kernel_rfl) hlj)) (by decide)) (fun hlj => absurd (hlb.symm.trans (XInv.reach hclo [6, 4] 7 1 (by kernel_rfl) hlj)) (by decide)) (fun hlj => absurd (hlb.symm.trans (XInv.reach hclo [6, 4] 8 1 (by kernel_rfl) hlj)) (by decide)) (fun hlj => absurd (hlb.symm.trans (XInv.reach hclo [6, 4] 9 1 (by kernel_rfl) hlj)) (by decide)) (fun hlj => absurd (hlb.symm.trans (XInv.reach hclo [6, 4] 10 1 (by kernel_rfl) hlj)) (by decide)) (fun hlj => absurd (hlb.symm.trans (XInv.reach hclo [6, 4] 11 1 (by kernel_rfl) hlj)) (by decide)) (fun hlj => absurd (hlb.symm.trans (XInv.reach hclo [6, 4] 12 1 (by kernel_rfl) hlj)) (by decide)) (fun hlj => absurd (hlb.symm.trans (XInv.reach hclo [10, 6, 4] 13 1 (by kernel_rfl) hlj)) (by decide)) (fun hlj => absurd (hlb.symm.trans (XInv.reach hclo [13, 10, 6, 4] 14 1 (by kernel_rfl) hlj)) (by decide)) (fun hlj => absurd (hlb.symm.trans (XInv.reach hclo [13, 10, 6, 4] 15 1 (by kernel_rfl) hlj)) (by decide)) (fun hlj => absurd (hlb.symm.trans (XInv.reach hclo [13, 10, 6, 4] 16 1 (by kernel_rfl) hlj)) (by decide)) (fun hlj => absurd (hlb.symm.trans (XInv.reach hclo [13, 10, 6, 4] 17 1 (by kernel_rfl) hlj)) (by decide)) (fun hlj => absurd (hlb.symm.trans (XInv.reach hclo [13, 10, 6, 4] 18 1 (by kernel_rfl) hlj)) (by decide)) (fun hlj => absurd (hlb.symm.trans (XInv.reach hclo [13, 10, 6, 4] 19 1 (by kernel_rfl) hlj)) (by decide)) (fun hlj => absurd (hlb.symm.trans (XInv.reach hclo [13, 10, 6, 4] 20 1 (by kernel_rfl) hlj)) (by decide)) (fun hlj => absurd (hlb.symm.trans (XInv.reach hclo [13, 10, 6, 4] 21 1 (by kernel_rfl) hlj)) (by decide)) (fun hlj => absurd (hlb.symm.trans (XInv.reach hclo [13, 10, 6, 4] 22 1 (by kernel_rfl) hlj)) (by decide))), (by rw [if_neg (by simp [XInv.up, hs2])]; rw [if_neg (by simp [XInv.up, hs1])]; rw [if_pos (by simp [XInv.up, hs0])]; exact ⟨below_step hW hb, Kd.R_lower hR hW.size⟩)⟩
  ·refine XInv.yes_tab [] (by kernel_rfl) ?_
   have hs1 := XInv.unreach hclo [13, 10, 6, 4, 3] 15 2 (by kernel_rfl) hlb
   have hs2 := XInv.unreach hclo [13, 10, 6, 4, 3] 16 2 (by kernel_rfl) hlb
   cases hs0 : lb 1
   case false =>
    rw [if_neg (by rw [hs2]; decide)] at hW
    rw [if_neg (by rw [hs1]; decide)] at hW
    rw [if_neg (by rw [hs0]; decide)] at hW
    clear hcl hneed hclo
    intro Q2 K2 hK2
    simp only [XInv.puts, XPrint.pw]
    go_simp
    exact hK2.out (.pointer (some ⟨w.heap.size, 3, none⟩)) w' ⟨bq, rfl, (by intros; first | rfl | trivial), (by rw [if_neg (by simp [XInv.up, hs2])]; rw [if_neg (by simp [XInv.up, hs1])]; rw [if_neg (by simp [XInv.up, hs0])]; exact hW)⟩
   case true =>
    rw [if_neg (by rw [hs2]; decide)] at hW
    rw [if_neg (by rw [hs1]; decide)] at hW
    rw [if_pos hs0] at hW
    clear hcl hneed hclo
    intro Q2 K2 hK2
    simp only [XInv.puts, XPrint.pw]
    go_simp
    exact hK2.out (.pointer (some ⟨w.heap.size, 3, none⟩)) w' ⟨bq, rfl, (by intros; first | rfl | trivial), (by rw [if_neg (by simp [XInv.up, hs2])]; rw [if_neg (by simp [XInv.up, hs1])]; rw [if_pos (by simp [XInv.up, hs0])]; exact hW)⟩
  ·refine XInv.yes_tab [(11, 2)] (by kernel_rfl) ?_
   have hs1 := XInv.unreach hclo [13, 10, 6, 4] 15 3 (by kernel_rfl) hlb
   have hs2 := XInv.unreach hclo [13, 10, 6, 4] 16 3 (by kernel_rfl) hlb
   cases hs0 : lb 1
   case false =>
    rw [if_neg (by rw [hs2]; decide)] at hW
    rw [if_neg (by rw [hs1]; decide)] at hW
    rw [if_neg (by rw [hs0]; decide)] at hW
    have kq := blk_below H.out.2.2.2.2.2.1 hW
    have q0 := (blk_cell kq 0).trans rfl
    have q1 := (blk_cell kq 1).trans rfl
    have q2 := (blk_cell kq 2).trans rfl
    have q3 := (blk_cell kq 3).trans rfl
    have q4 := (blk_cell kq 4).trans rfl
    clear hcl hneed hclo
    intro Q2 K2 hK2
    simp only [XInv.puts, XPrint.pw]
    go_simp
    exact hK2.out (.slice A n c) w' ⟨bq, rfl, (by intros; first | rfl | trivial), (by rw [if_neg (by simp [XInv.up, hs2])]; rw [if_neg (by simp [XInv.up, hs1])]; rw [if_neg (by simp [XInv.up, hs0])]; exact hW)⟩
   case true =>
    rw [if_neg (by rw [hs2]; decide)] at hW
    rw [if_neg (by rw [hs1]; decide)] at hW
    rw [if_pos hs0] at hW
    have kq := blk_below H.out.2.2.2.2.2.1 hW.1
    have q0 := (blk_cell kq 0).trans rfl
    have q1 := (blk_cell kq 1).trans rfl
    have q2 := (blk_cell kq 2).trans rfl
    have q3 := (blk_cell kq 3).trans rfl
    have q4 := (blk_cell kq 4).trans rfl
    clear hcl hneed hclo
    intro Q2 K2 hK2
    simp only [XInv.puts, XPrint.pw]
    go_simp
    exact hK2.out (.slice A n c) w' ⟨bq, rfl, (by intros; first | rfl | trivial), (by rw [if_neg (by simp [XInv.up, hs2])]; rw [if_neg (by simp [XInv.up, hs1])]; rw [if_pos (by simp [XInv.up, hs0])]; exact hW)⟩
  ·refine XInv.yes_tab [(12, 3), (10, 1)] (by kernel_rfl) ?_
   have hs0 := hneed 1 (by kernel_rfl)
   have hs1 := XInv.unreach hclo [13, 10, 6] 15 4 (by kernel_rfl) hlb
   have hs2 := XInv.unreach hclo [13, 10, 6] 16 4 (by kernel_rfl) hlb
   rw [if_neg (by rw [hs2]; decide)] at hW
   rw [if_neg (by rw [hs1]; decide)] at hW
   rw [if_pos hs0] at hW
   have kq := blk_below H.out.2.2.2.2.2.1 hW.1
   have q0 := (blk_cell kq 0).trans rfl
   have q1 := (blk_cell kq 1).trans rfl
   have q2 := (blk_cell kq 2).trans rfl
   have q3 := (blk_cell kq 3).trans rfl
   have q4 := (blk_cell kq 4).trans rfl
   clear hcl hneed
   intro Q2 K2 hK2
   simp only [XInv.puts, XPrint.pw]
   have C1 := (Kd.R_reads' hW.2).2.2
   rw [H.out.2.2.2.1] at C1
   have C2 := Kd.C_below H.out.2.1.boxes hW.1
   rw [H.out.2.2.2.1] at C2
   go_simp
   go_at_call 29
   (with_reducible refine (dsame bx _ _ n _ _ w' C1 C2 H.out.2.2.2.1 hl2).mono ?_)
   rintro e wz ⟨rfl, hb⟩
   exact hK2.out (.bool true) wz ⟨bq, rfl, (by intros; first | rfl | trivial), (by rw [if_neg (by simp [XInv.up, hs2])]; rw [if_neg (by simp [XInv.up, hs1])]; rw [if_pos (by simp [XInv.up, hs0])]; exact ⟨below_step hW.1 hb, Kd.R_below hW.2 hb⟩)⟩
  ·refine XInv.yes_tab [(13, 4)] (by kernel_rfl) ?_
   have hs0 := (XInv.reach hclo [] 4 1 (by kernel_rfl) (hneed 4 (by kernel_rfl)))
   have hs1 := XInv.unreach hclo [13, 10, 6] 15 5 (by kernel_rfl) hlb
   have hs2 := XInv.unreach hclo [13, 10, 6] 16 5 (by kernel_rfl) hlb
   rw [if_neg (by rw [hs2]; decide)] at hW
   rw [if_neg (by rw [hs1]; decide)] at hW
   rw [if_pos hs0] at hW
   clear hcl hneed hclo
   intro Q2 K2 hK2
   simp only [XInv.puts, XPrint.pw]
   go_simp
   exact hK2.out (.bool false) w' ⟨bq, rfl, (by intros; first | rfl | trivial), (by rw [if_neg (by simp [XInv.up, hs2])]; rw [if_neg (by simp [XInv.up, hs1])]; rw [if_pos (by simp [XInv.up, hs0])]; exact hW)⟩
  ·refine XInv.yes_tab [(14, 5), (13, 4)] (by kernel_rfl) ?_
   have hs0 := (XInv.reach hclo [] 4 1 (by kernel_rfl) (hneed 4 (by kernel_rfl)))
   have hs1 := XInv.unreach hclo [13, 10] 15 6 (by kernel_rfl) hlb
   have hs2 := XInv.unreach hclo [13, 10] 16 6 (by kernel_rfl) hlb
   rw [if_neg (by rw [hs2]; decide)] at hW
   rw [if_neg (by rw [hs1]; decide)] at hW
   rw [if_pos hs0] at hW
   clear hcl hneed hclo
   intro Q2 K2 hK2
   simp only [XInv.puts, XPrint.pw]
   go_simp
   exact hK2.out (.bool false) w' ⟨bq, rfl, (by intros; first | rfl | trivial), (by rw [if_neg (by simp [XInv.up, hs2])]; rw [if_neg (by simp [XInv.up, hs1])]; rw [if_pos (by simp [XInv.up, hs0])]; exact hW)⟩
  ·refine XInv.yes_tab [(15, 6)] (by kernel_rfl) ?_
   have hs0 := (XInv.reach hclo [4] 6 1 (by kernel_rfl) (hneed 6 (by kernel_rfl)))
   have hs1 := XInv.unreach hclo [13, 10, 8] 15 7 (by kernel_rfl) hlb
   have hs2 := XInv.unreach hclo [13, 10, 8] 16 7 (by kernel_rfl) hlb
   rw [if_neg (by rw [hs2]; decide)] at hW
   rw [if_neg (by rw [hs1]; decide)] at hW
   rw [if_pos hs0] at hW
   clear hcl hneed hclo
   intro Q2 K2 hK2
   simp only [XInv.puts, XPrint.pw]
   go_simp
   exact hK2.out (.pointer (some ⟨p, 0, none⟩)) w' ⟨bq, rfl, (by intros; first | rfl | trivial), (by rw [if_neg (by simp [XInv.up, hs2])]; rw [if_neg (by simp [XInv.up, hs1])]; rw [if_pos (by simp [XInv.up, hs0])]; exact hW)⟩
  ·refine XInv.yes_tab [(16, 7), (15, 6)] (by kernel_rfl) ?_
   have hs0 := (XInv.reach hclo [4] 6 1 (by kernel_rfl) (hneed 6 (by kernel_rfl)))
   have hs1 := XInv.unreach hclo [13, 10] 15 8 (by kernel_rfl) hlb
   have hs2 := XInv.unreach hclo [13, 10] 16 8 (by kernel_rfl) hlb
   rw [if_neg (by rw [hs2]; decide)] at hW
   rw [if_neg (by rw [hs1]; decide)] at hW
   rw [if_pos hs0] at hW
   have kq := blk_below H.out.2.2.2.2.2.1 hW.1
   have q0 := (blk_cell kq 0).trans rfl
   have q1 := (blk_cell kq 1).trans rfl
   have q2 := (blk_cell kq 2).trans rfl
   have q3 := (blk_cell kq 3).trans rfl
   have q4 := (blk_cell kq 4).trans rfl
   clear hcl hneed
   intro Q2 K2 hK2
   simp only [XInv.puts, XPrint.pw]
   go_simp
   go_at_call 26
   (with_reducible refine (K.out.2.2.2.2 _ hW.1).mono ?_)
   rintro e wz ⟨rfl, hb⟩
   exact hK2.out (.int .i64 fr) wz ⟨bq, rfl, (by intros; first | rfl | trivial), (by rw [if_neg (by simp [XInv.up, hs2])]; rw [if_neg (by simp [XInv.up, hs1])]; rw [if_pos (by simp [XInv.up, hs0])]; exact ⟨below_step hW.1 hb, Kd.R_below hW.2 hb⟩)⟩
  ·refine XInv.yes_tab [(15, 6)] (by kernel_rfl) ?_
   have hs0 := (XInv.reach hclo [4] 6 1 (by kernel_rfl) (hneed 6 (by kernel_rfl)))
   have hs1 := XInv.unreach hclo [13, 10] 15 9 (by kernel_rfl) hlb
   have hs2 := XInv.unreach hclo [13, 10] 16 9 (by kernel_rfl) hlb
   rw [if_neg (by rw [hs2]; decide)] at hW
   rw [if_neg (by rw [hs1]; decide)] at hW
   rw [if_pos hs0] at hW
   have kq := blk_below H.out.2.2.2.2.2.1 hW.1
   have q0 := (blk_cell kq 0).trans rfl
   have q1 := (blk_cell kq 1).trans rfl
   have q2 := (blk_cell kq 2).trans rfl
   have q3 := (blk_cell kq 3).trans rfl
   have q4 := (blk_cell kq 4).trans rfl
   clear hcl hneed hclo
   intro Q2 K2 hK2
   simp only [XInv.puts, XPrint.pw]
   go_simp
   exact hK2.out (.agg #[.int .i64 u0, .int .i64 u1, .slice An nn cn, .slice A n c, .int .u32 last]) w' ⟨bq, rfl, (by intros; first | rfl | trivial), (by rw [if_neg (by simp [XInv.up, hs2])]; rw [if_neg (by simp [XInv.up, hs1])]; rw [if_pos (by simp [XInv.up, hs0])]; exact hW)⟩
  ·refine XInv.yes_tab [(18, 9), (17, 8), (15, 6)] (by kernel_rfl) ?_
   have hs0 := (XInv.reach hclo [4] 6 1 (by kernel_rfl) (hneed 6 (by kernel_rfl)))
   have hs1 := XInv.unreach hclo [13] 15 10 (by kernel_rfl) hlb
   have hs2 := XInv.unreach hclo [13] 16 10 (by kernel_rfl) hlb
   rw [if_neg (by rw [hs2]; decide)] at hW
   rw [if_neg (by rw [hs1]; decide)] at hW
   rw [if_pos hs0] at hW
   have kq := blk_below H.out.2.2.2.2.2.1 hW.1
   have q0 := (blk_cell kq 0).trans rfl
   have q1 := (blk_cell kq 1).trans rfl
   have q2 := (blk_cell kq 2).trans rfl
   have q3 := (blk_cell kq 3).trans rfl
   have q4 := (blk_cell kq 4).trans rfl
   clear hcl hneed
   intro Q2 K2 hK2
   simp only [XInv.puts, XPrint.pw]
   go_simp
   go_at_call 72
   (with_reducible refine (K.out.1 _ hW.1).mono ?_)
   rintro e wz ⟨rfl, hb⟩
   exact hK2.out (.int .i64 fr) wz ⟨bq, rfl, (by intros; first | rfl | trivial), (by rw [if_neg (by simp [XInv.up, hs2])]; rw [if_neg (by simp [XInv.up, hs1])]; rw [if_pos (by simp [XInv.up, hs0])]; exact ⟨below_step hW.1 hb, Kd.R_below hW.2 hb⟩)⟩
  ·refine XInv.yes_tab [(19, 10), (17, 8), (15, 6)] (by kernel_rfl) ?_
   have hs0 := (XInv.reach hclo [4] 6 1 (by kernel_rfl) (hneed 6 (by kernel_rfl)))
   have hs1 := XInv.unreach hclo [13, 12] 15 11 (by kernel_rfl) hlb
   have hs2 := XInv.unreach hclo [13, 12] 16 11 (by kernel_rfl) hlb
   rw [if_neg (by rw [hs2]; decide)] at hW
   rw [if_neg (by rw [hs1]; decide)] at hW
   rw [if_pos hs0] at hW
   clear hcl hneed hclo
   intro Q2 K2 hK2
   simp only [XInv.puts, XPrint.pw]
   go_simp
   exact hK2.out (.bool false) w' ⟨bq, rfl, (by intros; first | rfl | trivial), (by rw [if_neg (by simp [XInv.up, hs2])]; rw [if_neg (by simp [XInv.up, hs1])]; rw [if_pos (by simp [XInv.up, hs0])]; exact hW)⟩
  ·refine XInv.yes_tab [(20, 11), (15, 6)] (by kernel_rfl) ?_
   have hs0 := (XInv.reach hclo [4] 6 1 (by kernel_rfl) (hneed 6 (by kernel_rfl)))
   have hs1 := XInv.unreach hclo [13] 15 12 (by kernel_rfl) hlb
   have hs2 := XInv.unreach hclo [13] 16 12 (by kernel_rfl) hlb
   rw [if_neg (by rw [hs2]; decide)] at hW
   rw [if_neg (by rw [hs1]; decide)] at hW
   rw [if_pos hs0] at hW
   clear hcl hneed hclo
   intro Q2 K2 hK2
   simp only [XInv.puts, XPrint.pw]
   go_simp
   exact hK2.out (.bool false) w' ⟨bq, rfl, (by intros; first | rfl | trivial), (by rw [if_neg (by simp [XInv.up, hs2])]; rw [if_neg (by simp [XInv.up, hs1])]; rw [if_pos (by simp [XInv.up, hs0])]; exact hW)⟩
  ·refine XInv.yes_tab [(21, 12), (19, 10)] (by kernel_rfl) ?_
   have hs0 := (XInv.reach hclo [6, 4] 10 1 (by kernel_rfl) (hneed 10 (by kernel_rfl)))
   have hs1 := hcl 15 (by decide) (by kernel_rfl)
   have hs2 := hcl 16 (by decide) (by kernel_rfl)
   rw [if_neg (by rw [hs2]; decide)] at hW
   rw [if_neg (by rw [hs1]; decide)] at hW
   rw [if_pos hs0] at hW
   clear hcl hneed hclo
   intro Q2 K2 hK2
   simp only [XInv.puts, XPrint.pw]
   go_simp
   exact hK2.out (.bool false) w' ⟨bq, rfl, (by intros; first | rfl | trivial), (by rw [if_neg (by simp [XInv.up, hs2])]; rw [if_neg (by simp [XInv.up, hs1])]; rw [if_pos (by simp [XInv.up, hs0])]; exact hW)⟩
  ·refine XInv.yes_tab [(22, 13)] (by kernel_rfl) ?_
   have hs0 := (XInv.reach hclo [10, 6, 4] 13 1 (by kernel_rfl) (hneed 13 (by kernel_rfl)))
   have hs1 := hcl 15 (by decide) (by kernel_rfl)
   have hs2 := XInv.unreach hclo [15] 16 14 (by kernel_rfl) hlb
   rw [if_neg (by rw [hs2]; decide)] at hW
   rw [if_neg (by rw [hs1]; decide)] at hW
   rw [if_pos hs0] at hW
   clear hcl hneed hclo
   intro Q2 K2 hK2
   simp only [XInv.puts, XPrint.pw]
   go_simp
   exact hK2.out (.pointer (some ⟨p, 0, none⟩)) w' ⟨bq, rfl, (by intros; first | rfl | trivial), (by rw [if_neg (by simp [XInv.up, hs2])]; rw [if_neg (by simp [XInv.up, hs1])]; rw [if_pos (by simp [XInv.up, hs0])]; exact hW)⟩
  ·refine XInv.yes_tab [(23, 14), (22, 13)] (by kernel_rfl) ?_
   have hs0 := (XInv.reach hclo [10, 6, 4] 13 1 (by kernel_rfl) (hneed 13 (by kernel_rfl)))
   have hs1 := hlb
   have hs2 := hcl 16 (by decide) (by kernel_rfl)
   rw [if_neg (by rw [hs2]; decide)] at hW
   rw [if_neg (by rw [hs1]; decide)] at hW
   rw [if_pos hs0] at hW
   have kq := blk_below H.out.2.2.2.2.2.1 hW.1
   have q0 := (blk_cell kq 0).trans rfl
   have q1 := (blk_cell kq 1).trans rfl
   have q2 := (blk_cell kq 2).trans rfl
   have q3 := (blk_cell kq 3).trans rfl
   have q4 := (blk_cell kq 4).trans rfl
   clear hcl hneed
   intro Q2 K2 hK2
   simp only [XInv.puts, XPrint.pw]
   go_simp
   go_at_call 74
   (with_reducible refine (lnodes w' (H.out.1.hs.same hW.1).led).mono ?_)
   rintro e wz ⟨bz, gz, rfl, hb, hT⟩
   exact hK2.out (.pointer (some ⟨bz, 0, none⟩)) wz ⟨(bq.1, (bz, gz), bq.2.2), rfl, (cs23 _ (fun _ => rfl) (fun _ => rfl) (fun _ => rfl) (fun _ => rfl) (fun _ => rfl) (fun _ => rfl) (fun _ => rfl) (fun _ => rfl) (fun _ => rfl) (fun _ => rfl) (fun _ => rfl) (fun _ => rfl) (fun _ => rfl) (fun _ => rfl) (fun _ => rfl) (fun hlj => absurd (hlb.symm.trans hlj) (by decide)) (fun hlj => absurd (hlb.symm.trans (XInv.reach hclo [] 16 15 (by kernel_rfl) hlj)) (by decide)) (fun _ => rfl) (fun _ => rfl) (fun _ => rfl) (fun hlj => absurd (hlb.symm.trans (XInv.reach hclo [16] 20 15 (by kernel_rfl) hlj)) (by decide)) (fun hlj => absurd (hlb.symm.trans (XInv.reach hclo [20, 16] 21 15 (by kernel_rfl) hlj)) (by decide)) (fun hlj => absurd (hlb.symm.trans (XInv.reach hclo [21, 20, 16] 22 15 (by kernel_rfl) hlj)) (by decide))), (by rw [if_neg (by simp [XInv.up, hs2])]; rw [if_pos (by simp [XInv.up, hs1])]; exact ⟨below_step hW.1 hb, tab_low hT hW.1.size⟩)⟩
  ·refine XInv.yes_tab [(24, 15), (22, 13)] (by kernel_rfl) ?_
   have hs0 := (XInv.reach hclo [10, 6, 4] 13 1 (by kernel_rfl) (hneed 13 (by kernel_rfl)))
   have hs1 := hneed 15 (by kernel_rfl)
   have hs2 := hlb
   rw [if_neg (by rw [hs2]; decide)] at hW
   rw [if_pos hs1] at hW
   have kq := blk_below H.out.2.2.2.2.2.1 hW.1
   have q0 := (blk_cell kq 0).trans rfl
   have q1 := (blk_cell kq 1).trans rfl
   have q2 := (blk_cell kq 2).trans rfl
   have q3 := (blk_cell kq 3).trans rfl
   have q4 := (blk_cell kq 4).trans rfl
   clear hcl hneed
   intro Q2 K2 hK2
   simp only [XInv.puts, XPrint.pw]
   go_simp
   go_at_call 68
   (with_reducible refine (nodes _ _ _ u0 u1 ns w' hW.2 (by have := H.out.1.hs.good.nodes.len; omega)).mono ?_)
   rintro e wz ⟨va, rfl, hR, hb⟩
   obtain ⟨A1, c1, rfl⟩ := Kd.R_slice hR
   rw [H.out.2.2.1] at hR ⊢
   exact hK2.out (.slice A1 nn c1) wz ⟨(bq.1, bq.2.1, (A1, c1)), rfl, (cs23 _ (fun _ => rfl) (fun _ => rfl) (fun _ => rfl) (fun _ => rfl) (fun _ => rfl) (fun _ => rfl) (fun _ => rfl) (fun _ => rfl) (fun _ => rfl) (fun _ => rfl) (fun _ => rfl) (fun _ => rfl) (fun _ => rfl) (fun _ => rfl) (fun _ => rfl) (fun _ => rfl) (fun hlj => absurd (hlb.symm.trans hlj) (by decide)) (fun _ => rfl) (fun _ => rfl) (fun _ => rfl) (fun hlj => absurd (hlb.symm.trans (XInv.reach hclo [] 20 16 (by kernel_rfl) hlj)) (by decide)) (fun hlj => absurd (hlb.symm.trans (XInv.reach hclo [20] 21 16 (by kernel_rfl) hlj)) (by decide)) (fun hlj => absurd (hlb.symm.trans (XInv.reach hclo [21, 20] 22 16 (by kernel_rfl) hlj)) (by decide))), (by rw [if_pos (by simp [XInv.up, hs2])]; exact ⟨below_step hW.1 hb, Kd.R_lower hR hW.1.size⟩)⟩
  ·refine XInv.yes_tab [(22, 13)] (by kernel_rfl) ?_
   have hs0 := (XInv.reach hclo [10, 6, 4] 13 1 (by kernel_rfl) (hneed 13 (by kernel_rfl)))
   cases hs1 : lb 15
   case false =>
    cases hs2 : lb 16
    case false =>
     rw [if_neg (by rw [hs2]; decide)] at hW
     rw [if_neg (by rw [hs1]; decide)] at hW
     rw [if_pos hs0] at hW
     clear hcl hneed hclo
     intro Q2 K2 hK2
     simp only [XInv.puts, XPrint.pw]
     go_simp
     exact hK2.out (.pointer (some ⟨w.heap.size, 0, none⟩)) w' ⟨bq, rfl, (by intros; first | rfl | trivial), (by rw [if_neg (by simp [XInv.up, hs2])]; rw [if_neg (by simp [XInv.up, hs1])]; rw [if_pos (by simp [XInv.up, hs0])]; exact hW)⟩
    case true =>
     exact absurd (XInv.reach hclo [] 16 15 (by kernel_rfl) hs2) (by rw [hs1]; decide)
   case true =>
    cases hs2 : lb 16
    case false =>
     rw [if_neg (by rw [hs2]; decide)] at hW
     rw [if_pos hs1] at hW
     clear hcl hneed hclo
     intro Q2 K2 hK2
     simp only [XInv.puts, XPrint.pw]
     go_simp
     exact hK2.out (.pointer (some ⟨w.heap.size, 0, none⟩)) w' ⟨bq, rfl, (by intros; first | rfl | trivial), (by rw [if_neg (by simp [XInv.up, hs2])]; rw [if_pos (by simp [XInv.up, hs1])]; exact hW)⟩
    case true =>
     rw [if_pos hs2] at hW
     clear hcl hneed hclo
     intro Q2 K2 hK2
     simp only [XInv.puts, XPrint.pw]
     go_simp
     exact hK2.out (.pointer (some ⟨w.heap.size, 0, none⟩)) w' ⟨bq, rfl, (by intros; first | rfl | trivial), (by rw [if_pos (by simp [XInv.up, hs2])]; exact hW)⟩
  ·refine XInv.yes_tab [(26, 17), (22, 13)] (by kernel_rfl) ?_
   have hs0 := (XInv.reach hclo [10, 6, 4] 13 1 (by kernel_rfl) (hneed 13 (by kernel_rfl)))
   cases hs1 : lb 15
   case false =>
    cases hs2 : lb 16
    case false =>
     rw [if_neg (by rw [hs2]; decide)] at hW
     rw [if_neg (by rw [hs1]; decide)] at hW
     rw [if_pos hs0] at hW
     clear hcl hneed hclo
     intro Q2 K2 hK2
     simp only [XInv.puts, XPrint.pw]
     go_simp
     exact hK2.out (.pointer (some ⟨w.heap.size, 2, none⟩)) w' ⟨bq, rfl, (by intros; first | rfl | trivial), (by rw [if_neg (by simp [XInv.up, hs2])]; rw [if_neg (by simp [XInv.up, hs1])]; rw [if_pos (by simp [XInv.up, hs0])]; exact hW)⟩
    case true =>
     exact absurd (XInv.reach hclo [] 16 15 (by kernel_rfl) hs2) (by rw [hs1]; decide)
   case true =>
    cases hs2 : lb 16
    case false =>
     rw [if_neg (by rw [hs2]; decide)] at hW
     rw [if_pos hs1] at hW
     clear hcl hneed hclo
     intro Q2 K2 hK2
     simp only [XInv.puts, XPrint.pw]
     go_simp
     exact hK2.out (.pointer (some ⟨w.heap.size, 2, none⟩)) w' ⟨bq, rfl, (by intros; first | rfl | trivial), (by rw [if_neg (by simp [XInv.up, hs2])]; rw [if_pos (by simp [XInv.up, hs1])]; exact hW)⟩
    case true =>
     rw [if_pos hs2] at hW
     clear hcl hneed hclo
     intro Q2 K2 hK2
     simp only [XInv.puts, XPrint.pw]
     go_simp
     exact hK2.out (.pointer (some ⟨w.heap.size, 2, none⟩)) w' ⟨bq, rfl, (by intros; first | rfl | trivial), (by rw [if_pos (by simp [XInv.up, hs2])]; exact hW)⟩
  ·refine XInv.yes_tab [(27, 18), (22, 13)] (by kernel_rfl) ?_
   have hs0 := (XInv.reach hclo [10, 6, 4] 13 1 (by kernel_rfl) (hneed 13 (by kernel_rfl)))
   cases hs1 : lb 15
   case false =>
    cases hs2 : lb 16
    case false =>
     rw [if_neg (by rw [hs2]; decide)] at hW
     rw [if_neg (by rw [hs1]; decide)] at hW
     rw [if_pos hs0] at hW
     have kq := blk_below H.out.2.2.2.2.2.1 hW.1
     have q0 := (blk_cell kq 0).trans rfl
     have q1 := (blk_cell kq 1).trans rfl
     have q2 := (blk_cell kq 2).trans rfl
     have q3 := (blk_cell kq 3).trans rfl
     have q4 := (blk_cell kq 4).trans rfl
     clear hcl hneed hclo
     intro Q2 K2 hK2
     simp only [XInv.puts, XPrint.pw]
     go_simp
     exact hK2.out (.slice An nn cn) w' ⟨bq, rfl, (by intros; first | rfl | trivial), (by rw [if_neg (by simp [XInv.up, hs2])]; rw [if_neg (by simp [XInv.up, hs1])]; rw [if_pos (by simp [XInv.up, hs0])]; exact hW)⟩
    case true =>
     exact absurd (XInv.reach hclo [] 16 15 (by kernel_rfl) hs2) (by rw [hs1]; decide)
   case true =>
    cases hs2 : lb 16
    case false =>
     rw [if_neg (by rw [hs2]; decide)] at hW
     rw [if_pos hs1] at hW
     have kq := blk_below H.out.2.2.2.2.2.1 hW.1
     have q0 := (blk_cell kq 0).trans rfl
     have q1 := (blk_cell kq 1).trans rfl
     have q2 := (blk_cell kq 2).trans rfl
     have q3 := (blk_cell kq 3).trans rfl
     have q4 := (blk_cell kq 4).trans rfl
     clear hcl hneed hclo
     intro Q2 K2 hK2
     simp only [XInv.puts, XPrint.pw]
     go_simp
     exact hK2.out (.slice An nn cn) w' ⟨bq, rfl, (by intros; first | rfl | trivial), (by rw [if_neg (by simp [XInv.up, hs2])]; rw [if_pos (by simp [XInv.up, hs1])]; exact hW)⟩
    case true =>
     rw [if_pos hs2] at hW
     have kq := blk_below H.out.2.2.2.2.2.1 hW.1
     have q0 := (blk_cell kq 0).trans rfl
     have q1 := (blk_cell kq 1).trans rfl
     have q2 := (blk_cell kq 2).trans rfl
     have q3 := (blk_cell kq 3).trans rfl
     have q4 := (blk_cell kq 4).trans rfl
     clear hcl hneed hclo
     intro Q2 K2 hK2
     simp only [XInv.puts, XPrint.pw]
     go_simp
     exact hK2.out (.slice An nn cn) w' ⟨bq, rfl, (by intros; first | rfl | trivial), (by rw [if_pos (by simp [XInv.up, hs2])]; exact hW)⟩
  ·refine XInv.yes_tab [(28, 19), (25, 16), (22, 13)] (by kernel_rfl) ?_
   have hs0 := (XInv.reach hclo [10, 6, 4] 13 1 (by kernel_rfl) (hneed 13 (by kernel_rfl)))
   have hs1 := (XInv.reach hclo [] 16 15 (by kernel_rfl) (hneed 16 (by kernel_rfl)))
   have hs2 := hneed 16 (by kernel_rfl)
   rw [if_pos hs2] at hW
   have kq := blk_below H.out.2.2.2.2.2.1 hW.1
   have q0 := (blk_cell kq 0).trans rfl
   have q1 := (blk_cell kq 1).trans rfl
   have q2 := (blk_cell kq 2).trans rfl
   have q3 := (blk_cell kq 3).trans rfl
   have q4 := (blk_cell kq 4).trans rfl
   clear hcl hneed
   intro Q2 K2 hK2
   simp only [XInv.puts, XPrint.pw]
   have C1 := Kd.R_reads' hW.2
   have C2 := Kd.C_below H.out.2.1.nodes hW.1
   rw [H.out.2.2.1] at C1 C2
   have hcn := H.out.2.1.cn
   rw [H.out.2.2.1] at hcn
   go_simp
   go_at_call 73
   (with_reducible refine (nsame ns _ _ nn _ _ w' C1.2.2 C2 H.out.2.2.1 (by omega) C1.2.1 hcn).mono ?_)
   rintro e wz ⟨rfl, hb⟩
   exact hK2.out (.bool true) wz ⟨bq, rfl, (by intros; first | rfl | trivial), (by rw [if_pos (by simp [XInv.up, hs2])]; exact ⟨below_step hW.1 hb, Kd.R_below hW.2 hb⟩)⟩
  ·refine XInv.yes_tab [(29, 20), (22, 13)] (by kernel_rfl) ?_
   have hs0 := (XInv.reach hclo [10, 6, 4] 13 1 (by kernel_rfl) (hneed 13 (by kernel_rfl)))
   have hs1 := (XInv.reach hclo [16] 20 15 (by kernel_rfl) (hneed 20 (by kernel_rfl)))
   have hs2 := (XInv.reach hclo [] 20 16 (by kernel_rfl) (hneed 20 (by kernel_rfl)))
   rw [if_pos hs2] at hW
   clear hcl hneed hclo
   intro Q2 K2 hK2
   simp only [XInv.puts, XPrint.pw]
   go_simp
   exact hK2.out (.bool false) w' ⟨bq, rfl, (by intros; first | rfl | trivial), (by rw [if_pos (by simp [XInv.up, hs2])]; exact hW)⟩
  ·refine XInv.yes_tab [(30, 21), (22, 13)] (by kernel_rfl) ?_
   have hs0 := (XInv.reach hclo [10, 6, 4] 13 1 (by kernel_rfl) (hneed 13 (by kernel_rfl)))
   have hs1 := (XInv.reach hclo [20, 16] 21 15 (by kernel_rfl) (hneed 21 (by kernel_rfl)))
   have hs2 := (XInv.reach hclo [20] 21 16 (by kernel_rfl) (hneed 21 (by kernel_rfl)))
   rw [if_pos hs2] at hW
   clear hcl hneed hclo
   intro Q2 K2 hK2
   simp only [XInv.puts, XPrint.pw]
   go_simp
   exact hK2.out (.bool false) w' ⟨bq, rfl, (by intros; first | rfl | trivial), (by rw [if_pos (by simp [XInv.up, hs2])]; exact hW)⟩
 ·intro bq w' hW
  refine XInv.end_nil [(31, 22), (30, 21), (29, 20), (28, 19), (27, 18), (26, 17), (25, 16), (24, 15), (23, 14), (22, 13), (21, 12), (20, 11), (19, 10), (18, 9), (17, 8), (16, 7), (15, 6), (14, 5), (13, 4), (12, 3), (11, 2), (10, 1), (9, 0)] (by kernel_rfl) (by kernel_rfl) ?_
  simp only [XInv.puts, XPrint.pw]
  rw [if_pos (by kernel_rfl)] at hW
  have X := Aside0.mk hW.1
  obtain ⟨w1, hw1⟩ : ∃ w1, w' = w1 := ⟨_, rfl⟩
  rw [hw1] at X ⊢
  clear hW hw1
  go_wp2_with fail
  go_loopg [5] nn (fun kk v5 wr => ∃ k : Nat, kk = nn - k ∧ v5 = .int .i64 k ∧ k ≤ nn ∧ Below W0.heap.size W0 wr)
  case atStart => exact ⟨0, rfl, rfl, Nat.zero_le _, X.out⟩
  obtain ⟨k, rfl, rfl, hk, hB⟩ := hrel
  clear X
  have kq := blk_below H.out.2.2.2.2.2.1 hB
  have q2 := (blk_cell kq 2).trans rfl
  by_cases hlt : k < nn
  ·as_aux_lemma =>
   have hkn : k < ns.length := by rw [H.out.2.2.1]; exact hlt
   obtain ⟨an, rfl, d0, _⟩ := PNodePlays.at_T59 (Kd.C_below H.out.2.1.nodes hB) (k : Int) (by omega) (by omega)
   have ek : (k : Int).toNat = k := by simp
   have er : PNodePlays.rd_T59 ns (k : Int) = ns[k] := by unfold PNodePlays.rd_T59; rw [ek, List.getD_eq_getElem?_getD, List.getElem?_eq_getElem hkn]; rfl
   rw [er, ek] at d0
   have hall := H.out.1.hs.good.nodes.all _ (List.getElem_mem hkn)
   obtain ⟨y, hy⟩ : ∃ y, ns[k].f0 = y := ⟨_, rfl⟩
   rw [hy] at d0 hall
   have hwf : (Lit.int .u32 y).wf = true := by have := hall.1; simp [Lit.wf, IntKind.min, IntKind.max, IntKind.signed, IntKind.bits]; omega
   have RP := Aside0.mk (fun (w' : World) (hb : Below W0.heap.size W0 w') => (H.out.1.hs.same hb).room y hwf)
   have RD := Aside0.mk (fun (w' : World) (hb : Below W0.heap.size W0 w') => K.out.2.1 w' hb y)
   obtain ⟨rm, hrm⟩ : ∃ rm, roomN u0 u1 ns bx y = rm := ⟨_, rfl⟩
   rw [hrm] at RP RD
   have tr : (rm != rm) = false := by simp
   have hlt' : (k : Int) < (nn : Int) := by omega
   have Y := Aside0.mk (And.intro hB d0)
   clear hB d0 hall hwf hrm hy er ek kq
   go_upto_region 6 with (fail)
   refine XInv.region_tab [] [[], [], [1], [2], [], [3, 4], [5], [6], [0, 7], [], [], [10], [11], [], [12, 13], [14], [15], [9, 16, 8], [8, 17]] (fun bq jq => match jq with
     | 0 => .pointer (some ⟨p, 0, none⟩)
     | 1 => .pointer (some ⟨w.heap.size, 0, none⟩)
     | 2 => .pointer (some ⟨w.heap.size, 2, none⟩)
     | 3 => .slice (some an) nn cn
     | 4 => .int .i64 k
     | 5 => .pointer (some (an.add (k * 3)))
     | 6 => .pointer (some (an.add (k * 3)))
     | 7 => .int .u32 y
     | 8 => .int .i64 rm
     | 9 => .agg #[.int .i64 u0, .int .i64 u1, .slice (some an) nn cn, .slice A n c, .int .u32 last]
     | 10 => .pointer (some ⟨w.heap.size, 0, none⟩)
     | 11 => .pointer (some ⟨w.heap.size, 2, none⟩)
     | 12 => .slice (some an) nn cn
     | 13 => .int .i64 k
     | 14 => .pointer (some (an.add (k * 3)))
     | 15 => .pointer (some (an.add (k * 3)))
     | 16 => .int .u32 y
     | 17 => .int .i64 rm
     | 18 => .bool false
     | _ => undef)
     (fun bq l w' => Below wr.heap.size wr w')
     (by kernel_rfl) rfl (by kernel_rfl) (by kernel_rfl) (by kernel_rfl) ⟨fun _ : Nat => (0 : Nat), below_drew (Below.refl _ _)⟩ ?_ ?_
   ·intro i1 hi1 hds oi hoi bq lb w' hW hlb hcl hneed hclo
    have hi1 : i1 < 19 := hi1
    have hcs : i1 = 0 ∨ i1 = 1 ∨ i1 = 2 ∨ i1 = 3 ∨ i1 = 4 ∨ i1 = 5 ∨ i1 = 6 ∨ i1 = 7 ∨ i1 = 8 ∨ i1 = 9 ∨ i1 = 10 ∨ i1 = 11 ∨ i1 = 12 ∨ i1 = 13 ∨ i1 = 14 ∨ i1 = 15 ∨ i1 = 16 ∨ i1 = 17 ∨ i1 = 18 := by omega
    clear hi1 hcl hneed hclo
    have d0 := pw_cell_below hW Y.out.2
    have kq := blk_below H.out.2.2.2.2.2.1 (below_step Y.out.1 hW)
    have q0 := (blk_cell kq 0).trans rfl
    have q1 := (blk_cell kq 1).trans rfl
    have q2 := (blk_cell kq 2).trans rfl
    have q3 := (blk_cell kq 3).trans rfl
    have q4 := (blk_cell kq 4).trans rfl
    rcases hcs with rfl | rfl | rfl | rfl | rfl | rfl | rfl | rfl | rfl | rfl | rfl | rfl | rfl | rfl | rfl | rfl | rfl | rfl | rfl
    all_goals simp only [List.getElem?_toArray, List.getElem?_cons_succ, List.getElem?_cons_zero, Option.some.injEq] at hoi
    all_goals subst hoi
    ·refine XInv.yes_tab [] (by kernel_rfl) ?_
     intro Q2 K2 hK2
     simp only [XInv.puts, XPrint.pw]
     go_simp
     exact hK2.out (.pointer (some ⟨p, 0, none⟩)) w' ⟨bq, rfl, (by intros; first | rfl | trivial), hW⟩
    ·refine XInv.yes_tab [] (by kernel_rfl) ?_
     intro Q2 K2 hK2
     simp only [XInv.puts, XPrint.pw]
     go_simp
     exact hK2.out (.pointer (some ⟨w.heap.size, 0, none⟩)) w' ⟨bq, rfl, (by intros; first | rfl | trivial), hW⟩
    ·refine XInv.yes_tab [(41, 1)] (by kernel_rfl) ?_
     intro Q2 K2 hK2
     simp only [XInv.puts, XPrint.pw]
     go_simp
     exact hK2.out (.pointer (some ⟨w.heap.size, 2, none⟩)) w' ⟨bq, rfl, (by intros; first | rfl | trivial), hW⟩
    ·refine XInv.yes_tab [(42, 2)] (by kernel_rfl) ?_
     intro Q2 K2 hK2
     simp only [XInv.puts, XPrint.pw]
     go_simp
     exact hK2.out (.slice (some an) nn cn) w' ⟨bq, rfl, (by intros; first | rfl | trivial), hW⟩
    ·refine XInv.yes_tab [] (by kernel_rfl) ?_
     intro Q2 K2 hK2
     simp only [XInv.puts, XPrint.pw]
     go_simp
     exact hK2.out (.int .i64 k) w' ⟨bq, rfl, (by intros; first | rfl | trivial), hW⟩
    ·refine XInv.yes_tab [(44, 4), (43, 3)] (by kernel_rfl) ?_
     intro Q2 K2 hK2
     simp only [XInv.puts, XPrint.pw]
     go_simp
     exact hK2.out (.pointer (some (an.add (k * 3)))) w' ⟨bq, rfl, (by intros; first | rfl | trivial), hW⟩
    ·refine XInv.yes_tab [(45, 5)] (by kernel_rfl) ?_
     intro Q2 K2 hK2
     simp only [XInv.puts, XPrint.pw]
     go_simp
     exact hK2.out (.pointer (some (an.add (k * 3)))) w' ⟨bq, rfl, (by intros; first | rfl | trivial), hW⟩
    ·refine XInv.yes_tab [(46, 6)] (by kernel_rfl) ?_
     intro Q2 K2 hK2
     simp only [XInv.puts, XPrint.pw]
     go_simp
     exact hK2.out (.int .u32 y) w' ⟨bq, rfl, (by intros; first | rfl | trivial), hW⟩
    ·refine XInv.yes_tab [(47, 7), (40, 0)] (by kernel_rfl) ?_
     intro Q2 K2 hK2
     simp only [XInv.puts, XPrint.pw]
     go_simp
     go_at_call 58
     (with_reducible refine (RP.out _ (below_step Y.out.1 hW)).mono ?_)
     rintro e wz ⟨rfl, hb⟩
     exact hK2.out (.int .i64 rm) wz ⟨bq, rfl, (by intros; first | rfl | trivial), below_step hW hb⟩
    ·refine XInv.yes_tab [] (by kernel_rfl) ?_
     intro Q2 K2 hK2
     simp only [XInv.puts, XPrint.pw]
     go_simp
     exact hK2.out (.agg #[.int .i64 u0, .int .i64 u1, .slice (some an) nn cn, .slice A n c, .int .u32 last]) w' ⟨bq, rfl, (by intros; first | rfl | trivial), hW⟩
    ·refine XInv.yes_tab [] (by kernel_rfl) ?_
     intro Q2 K2 hK2
     simp only [XInv.puts, XPrint.pw]
     go_simp
     exact hK2.out (.pointer (some ⟨w.heap.size, 0, none⟩)) w' ⟨bq, rfl, (by intros; first | rfl | trivial), hW⟩
    ·refine XInv.yes_tab [(50, 10)] (by kernel_rfl) ?_
     intro Q2 K2 hK2
     simp only [XInv.puts, XPrint.pw]
     go_simp
     exact hK2.out (.pointer (some ⟨w.heap.size, 2, none⟩)) w' ⟨bq, rfl, (by intros; first | rfl | trivial), hW⟩
    ·refine XInv.yes_tab [(51, 11)] (by kernel_rfl) ?_
     intro Q2 K2 hK2
     simp only [XInv.puts, XPrint.pw]
     go_simp
     exact hK2.out (.slice (some an) nn cn) w' ⟨bq, rfl, (by intros; first | rfl | trivial), hW⟩
    ·refine XInv.yes_tab [] (by kernel_rfl) ?_
     intro Q2 K2 hK2
     simp only [XInv.puts, XPrint.pw]
     go_simp
     exact hK2.out (.int .i64 k) w' ⟨bq, rfl, (by intros; first | rfl | trivial), hW⟩
    ·refine XInv.yes_tab [(53, 13), (52, 12)] (by kernel_rfl) ?_
     intro Q2 K2 hK2
     simp only [XInv.puts, XPrint.pw]
     go_simp
     exact hK2.out (.pointer (some (an.add (k * 3)))) w' ⟨bq, rfl, (by intros; first | rfl | trivial), hW⟩
    ·refine XInv.yes_tab [(54, 14)] (by kernel_rfl) ?_
     intro Q2 K2 hK2
     simp only [XInv.puts, XPrint.pw]
     go_simp
     exact hK2.out (.pointer (some (an.add (k * 3)))) w' ⟨bq, rfl, (by intros; first | rfl | trivial), hW⟩
    ·refine XInv.yes_tab [(55, 15)] (by kernel_rfl) ?_
     intro Q2 K2 hK2
     simp only [XInv.puts, XPrint.pw]
     go_simp
     exact hK2.out (.int .u32 y) w' ⟨bq, rfl, (by intros; first | rfl | trivial), hW⟩
    ·refine XInv.yes_tab [(56, 16), (49, 9), (48, 8)] (by kernel_rfl) ?_
     intro Q2 K2 hK2
     simp only [XInv.puts, XPrint.pw]
     go_simp
     go_at_call 75
     (with_reducible refine (RD.out _ (below_step Y.out.1 hW)).mono ?_)
     rintro e wz ⟨rfl, hb⟩
     exact hK2.out (.int .i64 rm) wz ⟨bq, rfl, (by intros; first | rfl | trivial), below_step hW hb⟩
    ·refine XInv.yes_tab [(57, 17), (48, 8)] (by kernel_rfl) ?_
     intro Q2 K2 hK2
     simp only [XInv.puts, XPrint.pw]
     go_simp
     exact hK2.out (.bool false) w' ⟨bq, rfl, (by intros; first | rfl | trivial), hW⟩
   ·intro bq w' hW
    refine XInv.end_nil [(58, 18), (57, 17), (56, 16), (55, 15), (54, 14), (53, 13), (52, 12), (51, 11), (50, 10), (49, 9), (48, 8), (47, 7), (46, 6), (45, 5), (44, 4), (43, 3), (42, 2), (41, 1), (40, 0)] (by kernel_rfl) (by kernel_rfl) ?_
    simp only [XInv.puts, XPrint.pw]
    have G := Aside0.mk (below_step Y.out.1 hW)
    clear hW q2
    go_wp2
    go_roundg (nn - (k + 1))
    case measure => omega
    case rel => exact ⟨k + 1, rfl, by go_num, by omega, G.out⟩
  ·have hlt' : ¬ (k : Int) < (nn : Int) := by omega
   have X := Aside0.mk hB
   clear hB kq
   go_wp2_with fail
   clear q2
   go_loopg [6, 7, 8] 2 (fun kk v6 v7 v8 wq => ∃ i : Nat, kk = 2 - i ∧ v6 = .int .i64 i ∧ i ≤ 2 ∧ Below W0.heap.size W0 wq)
   case atStart => exact ⟨0, rfl, rfl, Nat.zero_le _, X.out⟩
   obtain ⟨i, rfl, rfl, hi, hB⟩ := hrel
   clear X
   by_cases hlti : i < 2
   ·have hlti' : (i : Int) < 2 := by omega
    obtain ⟨sp, hsp⟩ : ∃ sp, ((i : Int) == 1) = sp := ⟨_, rfl⟩
    have kq := blk_below H.out.2.2.2.2.2.1 hB
    have q0 := (blk_cell kq 0).trans rfl
    have q1 := (blk_cell kq 1).trans rfl
    have q2 := (blk_cell kq 2).trans rfl
    have q3 := (blk_cell kq 3).trans rfl
    have q4 := (blk_cell kq 4).trans rfl
    have Y := Aside0.mk hB
    clear hB kq
    go_wp2_with fail
    refine (K.out.2.2.1 _ Y.out sp).mono ?_
    rintro e w2 ⟨vo, rfl, hRo, hb2⟩
    obtain ⟨Ao, co, rfl⟩ := Kd.R_slice hRo
    have hol := owners_len bx sp
    rw [H.out.2.2.2.1] at hol
    obtain ⟨ow, how⟩ : ∃ ow, ownersN bx sp = ow := ⟨_, rfl⟩
    rw [how] at hRo hol ⊢
    obtain ⟨m, hm⟩ : ∃ m, ow.length = m := ⟨_, rfl⟩
    rw [hm] at hRo hol ⊢
    have Z := Aside0.mk (And.intro (below_step Y.out hb2) (And.intro (Kd.R_reads' hRo) (And.intro how hm)))
    clear hRo hb2 how hm q0 q1 q2 q3 q4
    dsimp only
    go_wp2_with fail
    refine (lowners sp w2 (H.out.1.hs.same Z.out.1).led H.out.1.hs.len).mono ?_
    rintro e w3 ⟨vp, rfl, hRp, hb3⟩
    obtain ⟨Ap, cp, rfl⟩ := Kd.R_slice hRp
    rw [Z.out.2.2.1, Z.out.2.2.2] at hRp ⊢
    have CO := Z.out.2.1.2.2
    rw [Z.out.2.2.2] at CO
    have CP := (Kd.R_reads' hRp).2.2
    rw [Z.out.2.2.2] at CP
    have W := Aside0.mk (And.intro (below_step Z.out.1 hb3) (And.intro (Kd.C_below CO hb3) (And.intro CP (Kd.R_reads' hRp).2.1)))
    clear hRp hb3 CO CP
    dsimp only
    go_wp2_with fail
    refine (sids ow Ap Ao m cp co w3 W.out.2.2.1 W.out.2.1 Z.out.2.2.2 (by omega) W.out.2.2.2 Z.out.2.1.2.1).mono ?_
    rintro e w4 ⟨rfl, hb4⟩
    have U := Aside0.mk (And.intro (below_step W.out.1 hb4) (Kd.C_below W.out.2.1 hb4))
    clear hb4
    dsimp only
    go_wp2_with fail
    go_loopg [8] m (fun kk v8 wq => ∃ k : Nat, kk = m - k ∧ v8 = .int .i64 k ∧ k ≤ m ∧ Below w4.heap.size w4 wq)
    case atStart => exact ⟨0, rfl, rfl, Nat.zero_le _, Below.refl _ _⟩
    obtain ⟨k, rfl, rfl, hk, hBk⟩ := hrel
    by_cases hltk : k < m
    ·as_aux_lemma =>
     have hko : k < ow.length := by rw [Z.out.2.2.2]; exact hltk
     obtain ⟨ao, rfl, d0⟩ := u_at (Kd.C_below U.out.2 hBk) k hltk hko
     obtain ⟨y, hy⟩ : ∃ y, ow[k] = y := ⟨_, rfl⟩
     rw [hy] at d0
     have hltk' : (k : Int) < (m : Int) := by omega
     have hpl : (ownN bx y sp).length ≤ n := by rw [← H.out.2.2.2.1]; exact List.length_filter_le _ _
     obtain ⟨ob, hob⟩ : ∃ ob, ownN bx y sp = ob := ⟨_, rfl⟩
     rw [hob] at hpl
     obtain ⟨no, hno⟩ : ∃ no, ob.length = no := ⟨_, rfl⟩
     rw [hno] at hpl
     have OP := fun (w' : World) (hb : Below W0.heap.size W0 w') => of_at y sp w' (H.out.1.hs.same hb).led H.out.1.hs.len
     have PDy := fun (w' : World) (hb : Below W0.heap.size W0 w') => K.out.2.2.2.1 w' hb y sp
     rw [hob] at OP PDy
     have OP := Aside0.mk OP
     have PDy := Aside0.mk PDy
     have NO := Aside0.mk hno
     have T := Aside0.mk (And.intro (below_step U.out.1 hBk) d0)
     have TB := Aside0.mk hBk
     clear hBk d0 hy hob hno hko
     go_upto_region 17 with (fail)
     refine XInv.region_tab [] [[], [], [], [1, 2], [3], [], [5], [0, 4, 6], [], [], [], [9, 10], [11], [], [13], [8, 12, 14, 7], [7, 15, 15], [16]] (fun bq jq => match jq with
       | 0 => .pointer (some ⟨p, 0, none⟩)
       | 1 => .slice (some ao) m co
       | 2 => .int .i64 k
       | 3 => .pointer (some (ao.add k))
       | 4 => .int .u32 y
       | 5 => .int .i64 i
       | 6 => .bool sp
       | 7 => .slice bq.1.1 no bq.1.2
       | 8 => .agg #[.int .i64 u0, .int .i64 u1, .slice An nn cn, .slice A n c, .int .u32 last]
       | 9 => .slice (some ao) m co
       | 10 => .int .i64 k
       | 11 => .pointer (some (ao.add k))
       | 12 => .int .u32 y
       | 13 => .int .i64 i
       | 14 => .bool sp
       | 15 => .slice bq.2.1 no bq.2.2
       | 16 => .bool true
       | 17 => .bool false
       | _ => undef)
       (fun bq l w' => if l 15 = true then (Below wr.heap.size wr w' ∧ RB w' wr.heap.size (.slice bq.1.1 no bq.1.2) ob ∧ RB w' wr.heap.size (.slice bq.2.1 no bq.2.2) ob) else if l 7 = true then (Below wr.heap.size wr w' ∧ RB w' wr.heap.size (.slice bq.1.1 no bq.1.2) ob) else Below wr.heap.size wr w')
       (by kernel_rfl) rfl (by kernel_rfl) (by kernel_rfl) (by kernel_rfl) ⟨(((none, 0), (none, 0)) : (Option Addr × Nat) × (Option Addr × Nat)), (by rw [if_neg (by simp)]; rw [if_neg (by simp)]; exact below_drew (Below.refl _ _))⟩ ?_ ?_
     ·refine cs18b _ ?_ ?_ ?_ ?_ ?_ ?_ ?_ ?_ ?_ ?_ ?_ ?_ ?_ ?_ ?_ ?_ ?_ ?_
      all_goals intro hds oi hoi bq lb w' hW hlb hcl hneed hclo
      all_goals simp only [List.getElem?_toArray, List.getElem?_cons_succ, List.getElem?_cons_zero, Option.some.injEq] at hoi
      all_goals subst hoi
      ·refine XInv.yes_tab [] (by kernel_rfl) ?_
       have hs0 := hcl 7 (by decide) (by kernel_rfl)
       have hs1 := XInv.unreach hclo [7] 15 0 (by kernel_rfl) hlb
       rw [if_neg (by rw [hs1]; decide)] at hW
       rw [if_neg (by rw [hs0]; decide)] at hW
       clear hcl hneed hclo
       intro Q2 K2 hK2
       simp only [XInv.puts, XPrint.pw]
       go_simp
       exact hK2.out (.pointer (some ⟨p, 0, none⟩)) w' ⟨bq, rfl, (by intros; first | rfl | trivial), (by rw [if_neg (by simp [XInv.up, hs1])]; rw [if_neg (by simp [XInv.up, hs0])]; exact hW)⟩
      ·refine XInv.yes_tab [] (by kernel_rfl) ?_
       have hs0 := XInv.unreach hclo [4, 3] 7 1 (by kernel_rfl) hlb
       have hs1 := XInv.unreach hclo [7, 4, 3] 15 1 (by kernel_rfl) hlb
       rw [if_neg (by rw [hs1]; decide)] at hW
       rw [if_neg (by rw [hs0]; decide)] at hW
       clear hcl hneed hclo
       intro Q2 K2 hK2
       simp only [XInv.puts, XPrint.pw]
       go_simp
       exact hK2.out (.slice (some ao) m co) w' ⟨bq, rfl, (by intros; first | rfl | trivial), (by rw [if_neg (by simp [XInv.up, hs1])]; rw [if_neg (by simp [XInv.up, hs0])]; exact hW)⟩
      ·refine XInv.yes_tab [] (by kernel_rfl) ?_
       have hs0 := XInv.unreach hclo [4, 3] 7 2 (by kernel_rfl) hlb
       have hs1 := XInv.unreach hclo [7, 4, 3] 15 2 (by kernel_rfl) hlb
       rw [if_neg (by rw [hs1]; decide)] at hW
       rw [if_neg (by rw [hs0]; decide)] at hW
       clear hcl hneed hclo
       intro Q2 K2 hK2
       simp only [XInv.puts, XPrint.pw]
       go_simp
       exact hK2.out (.int .i64 k) w' ⟨bq, rfl, (by intros; first | rfl | trivial), (by rw [if_neg (by simp [XInv.up, hs1])]; rw [if_neg (by simp [XInv.up, hs0])]; exact hW)⟩
      ·refine XInv.yes_tab [(82, 2), (81, 1)] (by kernel_rfl) ?_
       have hs0 := XInv.unreach hclo [4] 7 3 (by kernel_rfl) hlb
       have hs1 := XInv.unreach hclo [7, 4] 15 3 (by kernel_rfl) hlb
       rw [if_neg (by rw [hs1]; decide)] at hW
       rw [if_neg (by rw [hs0]; decide)] at hW
       clear hcl hneed hclo
       intro Q2 K2 hK2
       simp only [XInv.puts, XPrint.pw]
       go_simp
       exact hK2.out (.pointer (some (ao.add k))) w' ⟨bq, rfl, (by intros; first | rfl | trivial), (by rw [if_neg (by simp [XInv.up, hs1])]; rw [if_neg (by simp [XInv.up, hs0])]; exact hW)⟩
      ·refine XInv.yes_tab [(83, 3)] (by kernel_rfl) ?_
       have hs0 := hcl 7 (by decide) (by kernel_rfl)
       have hs1 := XInv.unreach hclo [7] 15 4 (by kernel_rfl) hlb
       rw [if_neg (by rw [hs1]; decide)] at hW
       rw [if_neg (by rw [hs0]; decide)] at hW
       have d0 := pw_cell_below hW T.out.2
       have kq := blk_below H.out.2.2.2.2.2.1 (below_step T.out.1 hW)
       have q0 := (blk_cell kq 0).trans rfl
       have q1 := (blk_cell kq 1).trans rfl
       have q2 := (blk_cell kq 2).trans rfl
       have q3 := (blk_cell kq 3).trans rfl
       have q4 := (blk_cell kq 4).trans rfl
       clear hcl hneed hclo
       intro Q2 K2 hK2
       simp only [XInv.puts, XPrint.pw]
       go_simp
       exact hK2.out (.int .u32 y) w' ⟨bq, rfl, (by intros; first | rfl | trivial), (by rw [if_neg (by simp [XInv.up, hs1])]; rw [if_neg (by simp [XInv.up, hs0])]; exact hW)⟩
      ·refine XInv.yes_tab [] (by kernel_rfl) ?_
       have hs0 := XInv.unreach hclo [6] 7 5 (by kernel_rfl) hlb
       have hs1 := XInv.unreach hclo [7, 6] 15 5 (by kernel_rfl) hlb
       rw [if_neg (by rw [hs1]; decide)] at hW
       rw [if_neg (by rw [hs0]; decide)] at hW
       clear hcl hneed hclo
       intro Q2 K2 hK2
       simp only [XInv.puts, XPrint.pw]
       go_simp
       exact hK2.out (.int .i64 i) w' ⟨bq, rfl, (by intros; first | rfl | trivial), (by rw [if_neg (by simp [XInv.up, hs1])]; rw [if_neg (by simp [XInv.up, hs0])]; exact hW)⟩
      ·refine XInv.yes_tab [(85, 5)] (by kernel_rfl) ?_
       have hs0 := hcl 7 (by decide) (by kernel_rfl)
       have hs1 := XInv.unreach hclo [7] 15 6 (by kernel_rfl) hlb
       rw [if_neg (by rw [hs1]; decide)] at hW
       rw [if_neg (by rw [hs0]; decide)] at hW
       clear hcl hneed hclo
       intro Q2 K2 hK2
       simp only [XInv.puts, XPrint.pw]
       go_simp
       exact hK2.out (.bool sp) w' ⟨bq, rfl, (by intros; first | rfl | trivial), (by rw [if_neg (by simp [XInv.up, hs1])]; rw [if_neg (by simp [XInv.up, hs0])]; exact hW)⟩
      ·refine XInv.yes_tab [(86, 6), (84, 4), (80, 0)] (by kernel_rfl) ?_
       have hs0 := hlb
       have hs1 := hcl 15 (by decide) (by kernel_rfl)
       rw [if_neg (by rw [hs1]; decide)] at hW
       rw [if_neg (by rw [hs0]; decide)] at hW
       have d0 := pw_cell_below hW T.out.2
       have kq := blk_below H.out.2.2.2.2.2.1 (below_step T.out.1 hW)
       have q0 := (blk_cell kq 0).trans rfl
       have q1 := (blk_cell kq 1).trans rfl
       have q2 := (blk_cell kq 2).trans rfl
       have q3 := (blk_cell kq 3).trans rfl
       have q4 := (blk_cell kq 4).trans rfl
       clear hcl hneed
       intro Q2 K2 hK2
       simp only [XInv.puts, XPrint.pw]
       go_simp
       go_at_call 17
       (with_reducible refine (OP.out _ (below_step T.out.1 hW)).mono ?_)
       rintro e wz ⟨va, rfl, hR, hb⟩
       obtain ⟨A1, c1, rfl⟩ := Kd.R_slice hR
       rw [NO.out] at hR ⊢
       exact hK2.out (.slice A1 no c1) wz ⟨((A1, c1), bq.2), rfl, (cs18b _ (fun _ => rfl) (fun _ => rfl) (fun _ => rfl) (fun _ => rfl) (fun _ => rfl) (fun _ => rfl) (fun _ => rfl) (fun hlj => absurd (hlb.symm.trans hlj) (by decide)) (fun _ => rfl) (fun _ => rfl) (fun _ => rfl) (fun _ => rfl) (fun _ => rfl) (fun _ => rfl) (fun _ => rfl) (fun hlj => absurd (hlb.symm.trans (XInv.reach hclo [] 15 7 (by kernel_rfl) hlj)) (by decide)) (fun hlj => absurd (hlb.symm.trans (XInv.reach hclo [] 16 7 (by kernel_rfl) hlj)) (by decide)) (fun hlj => absurd (hlb.symm.trans (XInv.reach hclo [16] 17 7 (by kernel_rfl) hlj)) (by decide))), (by rw [if_neg (by simp [XInv.up, hs1])]; rw [if_pos (by simp [XInv.up, hs0])]; exact ⟨below_step hW hb, Kd.R_lower hR hW.size⟩)⟩
      ·refine XInv.yes_tab [] (by kernel_rfl) ?_
       have hs1 := hcl 15 (by decide) (by kernel_rfl)
       cases hs0 : lb 7
       case false =>
        rw [if_neg (by rw [hs1]; decide)] at hW
        rw [if_neg (by rw [hs0]; decide)] at hW
        have d0 := pw_cell_below hW T.out.2
        have kq := blk_below H.out.2.2.2.2.2.1 (below_step T.out.1 hW)
        have q0 := (blk_cell kq 0).trans rfl
        have q1 := (blk_cell kq 1).trans rfl
        have q2 := (blk_cell kq 2).trans rfl
        have q3 := (blk_cell kq 3).trans rfl
        have q4 := (blk_cell kq 4).trans rfl
        clear hcl hneed hclo
        intro Q2 K2 hK2
        simp only [XInv.puts, XPrint.pw]
        go_simp
        exact hK2.out (.agg #[.int .i64 u0, .int .i64 u1, .slice An nn cn, .slice A n c, .int .u32 last]) w' ⟨bq, rfl, (by intros; first | rfl | trivial), (by rw [if_neg (by simp [XInv.up, hs1])]; rw [if_neg (by simp [XInv.up, hs0])]; exact hW)⟩
       case true =>
        rw [if_neg (by rw [hs1]; decide)] at hW
        rw [if_pos hs0] at hW
        have d0 := pw_cell_below hW.1 T.out.2
        have kq := blk_below H.out.2.2.2.2.2.1 (below_step T.out.1 hW.1)
        have q0 := (blk_cell kq 0).trans rfl
        have q1 := (blk_cell kq 1).trans rfl
        have q2 := (blk_cell kq 2).trans rfl
        have q3 := (blk_cell kq 3).trans rfl
        have q4 := (blk_cell kq 4).trans rfl
        clear hcl hneed hclo
        intro Q2 K2 hK2
        simp only [XInv.puts, XPrint.pw]
        go_simp
        exact hK2.out (.agg #[.int .i64 u0, .int .i64 u1, .slice An nn cn, .slice A n c, .int .u32 last]) w' ⟨bq, rfl, (by intros; first | rfl | trivial), (by rw [if_neg (by simp [XInv.up, hs1])]; rw [if_pos (by simp [XInv.up, hs0])]; exact hW)⟩
      ·refine XInv.yes_tab [] (by kernel_rfl) ?_
       have hs1 := XInv.unreach hclo [12, 11] 15 9 (by kernel_rfl) hlb
       cases hs0 : lb 7
       case false =>
        rw [if_neg (by rw [hs1]; decide)] at hW
        rw [if_neg (by rw [hs0]; decide)] at hW
        clear hcl hneed hclo
        intro Q2 K2 hK2
        simp only [XInv.puts, XPrint.pw]
        go_simp
        exact hK2.out (.slice (some ao) m co) w' ⟨bq, rfl, (by intros; first | rfl | trivial), (by rw [if_neg (by simp [XInv.up, hs1])]; rw [if_neg (by simp [XInv.up, hs0])]; exact hW)⟩
       case true =>
        rw [if_neg (by rw [hs1]; decide)] at hW
        rw [if_pos hs0] at hW
        clear hcl hneed hclo
        intro Q2 K2 hK2
        simp only [XInv.puts, XPrint.pw]
        go_simp
        exact hK2.out (.slice (some ao) m co) w' ⟨bq, rfl, (by intros; first | rfl | trivial), (by rw [if_neg (by simp [XInv.up, hs1])]; rw [if_pos (by simp [XInv.up, hs0])]; exact hW)⟩
      ·refine XInv.yes_tab [] (by kernel_rfl) ?_
       have hs1 := XInv.unreach hclo [12, 11] 15 10 (by kernel_rfl) hlb
       cases hs0 : lb 7
       case false =>
        rw [if_neg (by rw [hs1]; decide)] at hW
        rw [if_neg (by rw [hs0]; decide)] at hW
        clear hcl hneed hclo
        intro Q2 K2 hK2
        simp only [XInv.puts, XPrint.pw]
        go_simp
        exact hK2.out (.int .i64 k) w' ⟨bq, rfl, (by intros; first | rfl | trivial), (by rw [if_neg (by simp [XInv.up, hs1])]; rw [if_neg (by simp [XInv.up, hs0])]; exact hW)⟩
       case true =>
        rw [if_neg (by rw [hs1]; decide)] at hW
        rw [if_pos hs0] at hW
        clear hcl hneed hclo
        intro Q2 K2 hK2
        simp only [XInv.puts, XPrint.pw]
        go_simp
        exact hK2.out (.int .i64 k) w' ⟨bq, rfl, (by intros; first | rfl | trivial), (by rw [if_neg (by simp [XInv.up, hs1])]; rw [if_pos (by simp [XInv.up, hs0])]; exact hW)⟩
      ·refine XInv.yes_tab [(90, 10), (89, 9)] (by kernel_rfl) ?_
       have hs1 := XInv.unreach hclo [12] 15 11 (by kernel_rfl) hlb
       cases hs0 : lb 7
       case false =>
        rw [if_neg (by rw [hs1]; decide)] at hW
        rw [if_neg (by rw [hs0]; decide)] at hW
        clear hcl hneed hclo
        intro Q2 K2 hK2
        simp only [XInv.puts, XPrint.pw]
        go_simp
        exact hK2.out (.pointer (some (ao.add k))) w' ⟨bq, rfl, (by intros; first | rfl | trivial), (by rw [if_neg (by simp [XInv.up, hs1])]; rw [if_neg (by simp [XInv.up, hs0])]; exact hW)⟩
       case true =>
        rw [if_neg (by rw [hs1]; decide)] at hW
        rw [if_pos hs0] at hW
        clear hcl hneed hclo
        intro Q2 K2 hK2
        simp only [XInv.puts, XPrint.pw]
        go_simp
        exact hK2.out (.pointer (some (ao.add k))) w' ⟨bq, rfl, (by intros; first | rfl | trivial), (by rw [if_neg (by simp [XInv.up, hs1])]; rw [if_pos (by simp [XInv.up, hs0])]; exact hW)⟩
      ·refine XInv.yes_tab [(91, 11)] (by kernel_rfl) ?_
       have hs1 := hcl 15 (by decide) (by kernel_rfl)
       cases hs0 : lb 7
       case false =>
        rw [if_neg (by rw [hs1]; decide)] at hW
        rw [if_neg (by rw [hs0]; decide)] at hW
        have d0 := pw_cell_below hW T.out.2
        have kq := blk_below H.out.2.2.2.2.2.1 (below_step T.out.1 hW)
        have q0 := (blk_cell kq 0).trans rfl
        have q1 := (blk_cell kq 1).trans rfl
        have q2 := (blk_cell kq 2).trans rfl
        have q3 := (blk_cell kq 3).trans rfl
        have q4 := (blk_cell kq 4).trans rfl
        clear hcl hneed hclo
        intro Q2 K2 hK2
        simp only [XInv.puts, XPrint.pw]
        go_simp
        exact hK2.out (.int .u32 y) w' ⟨bq, rfl, (by intros; first | rfl | trivial), (by rw [if_neg (by simp [XInv.up, hs1])]; rw [if_neg (by simp [XInv.up, hs0])]; exact hW)⟩
       case true =>
        rw [if_neg (by rw [hs1]; decide)] at hW
        rw [if_pos hs0] at hW
        have d0 := pw_cell_below hW.1 T.out.2
        have kq := blk_below H.out.2.2.2.2.2.1 (below_step T.out.1 hW.1)
        have q0 := (blk_cell kq 0).trans rfl
        have q1 := (blk_cell kq 1).trans rfl
        have q2 := (blk_cell kq 2).trans rfl
        have q3 := (blk_cell kq 3).trans rfl
        have q4 := (blk_cell kq 4).trans rfl
        clear hcl hneed hclo
        intro Q2 K2 hK2
        simp only [XInv.puts, XPrint.pw]
        go_simp
        exact hK2.out (.int .u32 y) w' ⟨bq, rfl, (by intros; first | rfl | trivial), (by rw [if_neg (by simp [XInv.up, hs1])]; rw [if_pos (by simp [XInv.up, hs0])]; exact hW)⟩
      ·refine XInv.yes_tab [] (by kernel_rfl) ?_
       have hs1 := XInv.unreach hclo [14] 15 13 (by kernel_rfl) hlb
       cases hs0 : lb 7
       case false =>
        rw [if_neg (by rw [hs1]; decide)] at hW
        rw [if_neg (by rw [hs0]; decide)] at hW
        clear hcl hneed hclo
        intro Q2 K2 hK2
        simp only [XInv.puts, XPrint.pw]
        go_simp
        exact hK2.out (.int .i64 i) w' ⟨bq, rfl, (by intros; first | rfl | trivial), (by rw [if_neg (by simp [XInv.up, hs1])]; rw [if_neg (by simp [XInv.up, hs0])]; exact hW)⟩
       case true =>
        rw [if_neg (by rw [hs1]; decide)] at hW
        rw [if_pos hs0] at hW
        clear hcl hneed hclo
        intro Q2 K2 hK2
        simp only [XInv.puts, XPrint.pw]
        go_simp
        exact hK2.out (.int .i64 i) w' ⟨bq, rfl, (by intros; first | rfl | trivial), (by rw [if_neg (by simp [XInv.up, hs1])]; rw [if_pos (by simp [XInv.up, hs0])]; exact hW)⟩
      ·refine XInv.yes_tab [(93, 13)] (by kernel_rfl) ?_
       have hs1 := hcl 15 (by decide) (by kernel_rfl)
       cases hs0 : lb 7
       case false =>
        rw [if_neg (by rw [hs1]; decide)] at hW
        rw [if_neg (by rw [hs0]; decide)] at hW
        clear hcl hneed hclo
        intro Q2 K2 hK2
        simp only [XInv.puts, XPrint.pw]
        go_simp
        exact hK2.out (.bool sp) w' ⟨bq, rfl, (by intros; first | rfl | trivial), (by rw [if_neg (by simp [XInv.up, hs1])]; rw [if_neg (by simp [XInv.up, hs0])]; exact hW)⟩
       case true =>
        rw [if_neg (by rw [hs1]; decide)] at hW
        rw [if_pos hs0] at hW
        clear hcl hneed hclo
        intro Q2 K2 hK2
        simp only [XInv.puts, XPrint.pw]
        go_simp
        exact hK2.out (.bool sp) w' ⟨bq, rfl, (by intros; first | rfl | trivial), (by rw [if_neg (by simp [XInv.up, hs1])]; rw [if_pos (by simp [XInv.up, hs0])]; exact hW)⟩
      ·refine XInv.yes_tab [(94, 14), (92, 12), (88, 8), (87, 7)] (by kernel_rfl) ?_
       have hs0 := hneed 7 (by kernel_rfl)
       have hs1 := hlb
       rw [if_neg (by rw [hs1]; decide)] at hW
       rw [if_pos hs0] at hW
       have d0 := pw_cell_below hW.1 T.out.2
       have kq := blk_below H.out.2.2.2.2.2.1 (below_step T.out.1 hW.1)
       have q0 := (blk_cell kq 0).trans rfl
       have q1 := (blk_cell kq 1).trans rfl
       have q2 := (blk_cell kq 2).trans rfl
       have q3 := (blk_cell kq 3).trans rfl
       have q4 := (blk_cell kq 4).trans rfl
       clear hcl hneed
       intro Q2 K2 hK2
       simp only [XInv.puts, XPrint.pw] at hK2 ⊢
       go_simp
       go_at_call 77
       (with_reducible refine (PDy.out _ (below_step T.out.1 hW.1)).mono ?_)
       rintro e wz ⟨va, rfl, hR, hb⟩
       obtain ⟨A1, c1, rfl⟩ := Kd.R_slice hR
       rw [NO.out] at hR ⊢
       exact hK2.out (.slice A1 no c1) wz ⟨(bq.1, (A1, c1)), rfl, (cs18b _ (fun _ => rfl) (fun _ => rfl) (fun _ => rfl) (fun _ => rfl) (fun _ => rfl) (fun _ => rfl) (fun _ => rfl) (fun _ => rfl) (fun _ => rfl) (fun _ => rfl) (fun _ => rfl) (fun _ => rfl) (fun _ => rfl) (fun _ => rfl) (fun _ => rfl) (fun hlj => absurd (hlb.symm.trans hlj) (by decide)) (fun hlj => absurd (hlb.symm.trans (XInv.reach hclo [] 16 15 (by kernel_rfl) hlj)) (by decide)) (fun hlj => absurd (hlb.symm.trans (XInv.reach hclo [16] 17 15 (by kernel_rfl) hlj)) (by decide))), (by rw [if_pos (by simp [XInv.up, hs1])]; exact ⟨below_step hW.1 hb, Kd.R_below hW.2 hb, Kd.R_lower hR hW.1.size⟩)⟩
      ·refine XInv.yes_tab [(95, 15), (87, 7)] (by kernel_rfl) ?_
       have hs0 := hneed 7 (by kernel_rfl)
       have hs1 := hneed 15 (by kernel_rfl)
       rw [if_pos hs1] at hW
       have d0 := pw_cell_below hW.1 T.out.2
       have kq := blk_below H.out.2.2.2.2.2.1 (below_step T.out.1 hW.1)
       have q0 := (blk_cell kq 0).trans rfl
       have q1 := (blk_cell kq 1).trans rfl
       have q2 := (blk_cell kq 2).trans rfl
       have q3 := (blk_cell kq 3).trans rfl
       have q4 := (blk_cell kq 4).trans rfl
       clear hcl hneed
       intro Q2 K2 hK2
       simp only [XInv.puts, XPrint.pw]
       have C1 := (Kd.R_reads' hW.2.1).2.2
       have C2 := (Kd.R_reads' hW.2.2).2.2
       rw [NO.out] at C1 C2
       go_simp
       go_at_call 29
       (with_reducible refine (dsame ob _ _ no _ _ w' C1 C2 NO.out (by omega)).mono ?_)
       rintro e wz ⟨rfl, hb⟩
       exact hK2.out (.bool true) wz ⟨bq, rfl, (by intros; first | rfl | trivial), (by rw [if_pos (by simp [XInv.up, hs1])]; exact ⟨below_step hW.1 hb, Kd.R_below hW.2.1 hb, Kd.R_below hW.2.2 hb⟩)⟩
      ·refine XInv.yes_tab [(96, 16)] (by kernel_rfl) ?_
       have hs0 := (XInv.reach hclo [] 16 7 (by kernel_rfl) (hneed 16 (by kernel_rfl)))
       have hs1 := (XInv.reach hclo [] 16 15 (by kernel_rfl) (hneed 16 (by kernel_rfl)))
       rw [if_pos hs1] at hW
       clear hcl hneed hclo
       intro Q2 K2 hK2
       simp only [XInv.puts, XPrint.pw]
       go_simp
       exact hK2.out (.bool false) w' ⟨bq, rfl, (by intros; first | rfl | trivial), (by rw [if_pos (by simp [XInv.up, hs1])]; exact hW)⟩
     ·intro bq w' hW
      refine XInv.end_nil [(97, 17), (96, 16), (95, 15), (94, 14), (93, 13), (92, 12), (91, 11), (90, 10), (89, 9), (88, 8), (87, 7), (86, 6), (85, 5), (84, 4), (83, 3), (82, 2), (81, 1), (80, 0)] (by kernel_rfl) (by kernel_rfl) ?_
      simp only [XInv.puts, XPrint.pw]
      rw [if_pos (by kernel_rfl)] at hW
      have G := Aside0.mk (below_step TB.out hW.1)
      clear hW
      go_wp2
      go_roundg (m - (k + 1))
      case measure => omega
      case rel => exact ⟨k + 1, rfl, by go_num, by omega, G.out⟩
    ·have hltk' : ¬ (k : Int) < (m : Int) := by omega
     have G := Aside0.mk (below_step U.out.1 hBk)
     clear hBk
     go_wp2
     go_roundg (2 - (i + 1))
     case measure => omega
     case rel => exact ⟨i + 1, rfl, by go_num, by omega, G.out⟩
   ·have hlti' : ¬ (i : Int) < 2 := by omega
    have X := Aside0.mk hB
    have hw0 : who ns 0 = none := by
     unfold who
     refine List.find?_eq_none.2 fun x hx => ?_
     have := (H.out.1.hs.good.nodes.all x hx).1
     simp
     omega
    have RM := (H.out.1.hs.same hB).room 0 (by decide)
    rw [room_none hw0] at RM
    have RM := Aside0.mk RM
    clear hB hw0
    go_wp2_with fail
    refine RM.out.mono ?_
    rintro e w5 ⟨rfl, hb5⟩
    have Z := Aside0.mk (below_step X.out hb5)
    clear hb5
    dsimp only
    go_wp2
    go_ret
    exact ⟨rfl, below_then H.out.2.2.2.2.1 H.out.2.2.2.2.1.size Z.out⟩
end Go.Proofs.YthibppfdonepoaaGreat.LedT
