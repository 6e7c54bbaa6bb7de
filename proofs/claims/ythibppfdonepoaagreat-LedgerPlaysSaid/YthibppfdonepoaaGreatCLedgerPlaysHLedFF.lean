/- liveryref22.Lose where such a node is. liveryref23.Lose where the node is. liveryref23.Give, refused. liveryref23.Give: the world while a row with one box more is put together. liveryref23.Give, granted. -/
import Derived.Test.YthibppfdonepoaaGreatCLedgerPlaysHLedBB
import Derived.Test.YthibppfdonepoaaGreatCLedgerPlaysW
set_option maxHeartbeats 16000000
set_option maxRecDepth 100000
set_option linter.unusedVariables false
set_option linter.unusedSimpArgs false
namespace Go.Proofs.YthibppfdonepoaaGreat.LedT
open Go.RowKit Go.MapKept Go.Maps Go.ChangeMaps Go.Proofs.YthibppfdonepoaaGreat.XBut Go.Proofs.YthibppfdonepoaaGreat.XMap Go.Proofs.YthibppfdonepoaaGreat.NodeT Go.Proofs.YthibppfdonepoaaGreatW.PrintWords Go.Proofs.YthibppfdonepoaaGreatW.PrintLast
abbrev RNt (w : World) (N : Nat) (v : Value) (xs : List Nd) : Prop := Kd.R PNodePlays.k59 59 w N (fun _ => True) v xs
theorem cs14l (P : Nat → Prop) (h0 : P 0) (h1 : P 1) (h2 : P 2) (h3 : P 3) (h4 : P 4) (h5 : P 5) (h6 : P 6) (h7 : P 7) (h8 : P 8) (h9 : P 9) (h10 : P 10) (h11 : P 11) (h12 : P 12) (h13 : P 13) : ∀ i, i < 14 → P i := by
 intro i hi
 rcases (by omega : i = 0 ∨ i = 1 ∨ i = 2 ∨ i = 3 ∨ i = 4 ∨ i = 5 ∨ i = 6 ∨ i = 7 ∨ i = 8 ∨ i = 9 ∨ i = 10 ∨ i = 11 ∨ i = 12 ∨ i = 13) with rfl | rfl | rfl | rfl | rfl | rfl | rfl | rfl | rfl | rfl | rfl | rfl | rfl | rfl
 all_goals assumption
theorem rlose_yes (u0 u1 i : Int) (An : Option Addr) (nn cn : Nat) (ns : List Nd) (y : Nd) (w : World) (hC : Kd.C PNodePlays.k59 w An nn ns) (hn : ns.length = nn) (hc : nn ≤ cn) (hl : nn ≤ 32) (hr : ns.Pairwise fun x y => x.f0 < y.f0) (hw : who ns i = some y) :
  Calls Tryz.prog 113 #[.agg #[.int .i64 u0, .int .i64 u1, .slice An nn cn], .int .u32 i] w fun e w' => ∃ v, e = .returned (.tuple #[.agg #[.int .i64 u0, .int .i64 u1, v], .agg #[.int .u32 y.f0, .int .i64 y.f1.f0, .int .i64 y.f1.f1], .int .i64 0]) ∧ RNt w' w.heap.size v (less ns i) ∧ Below w.heap.size w w' := by
 have hu31 := Tryz.underlying33
 have hu39 := Tryz.underlying59
 subst hn
 have AT := rat_f u0 u1 i ns (by omega) (ns.length + 1) (by omega)
 have hpl : 0 ≤ place ns i := by
  rcases Int.lt_or_le (place ns i) 0 with h | h
  ·have := (place_who ns i).1 h
   rw [hw] at this
   cases this
  ·exact h
 obtain ⟨hj, hwj⟩ := place_at hpl
 have hls := place_less hr hpl
 obtain ⟨j, hje⟩ : ∃ j : Nat, place ns i = j := ⟨(place ns i).toNat, by omega⟩
 have hjn : (place ns i).toNat = j := by omega
 simp only [hjn] at hj hwj hls
 rw [hw] at hwj
 have hyj : ns[j]? = some y := by rw [List.getElem?_eq_getElem hj]; exact hwj.symm
 rw [hje] at AT
 have AC := fun w' (h : Below w.heap.size w w') => PNodePlays.liveryref22_At.calls (ns.length + 1) u0 u1 An cn ns i j w' (Kd.C_below hC h) hc AT
 obtain ⟨nn, hnn⟩ : ∃ nn, ns.length = nn := ⟨_, rfl⟩
 rw [hnn] at AC hc hj hl ⊢
 have AC := Aside0.mk AC
 obtain ⟨W0, hW0⟩ : ∃ W0, ((w.alloc (.cells #[.int .i64 u0, .int .i64 u1, .slice An nn cn] 33)).alloc (.cells #[.int .i64 0, .int .i64 0, .slice none 0 0] 33)).alloc (.cells #[.int .u32 0, .int .i64 0, .int .i64 0] 59) = W0 := ⟨_, rfl⟩
 have hB0 : Below w.heap.size w W0 := by rw [← hW0]; exact below_alloc (below_alloc (below_alloc (Below.refl _ _) _) _) _
 have k0 : W0.heap[w.heap.size]? = some (.cells #[.int .i64 u0, .int .i64 u1, .slice An nn cn] 33 (0, 0)) := by rw [← hW0]; exact blk_alloc (blk_alloc (blk_new w _) _) _
 have k1 : W0.heap[w.heap.size + 1]? = some (.cells #[.int .i64 0, .int .i64 0, .slice none 0 0] 33 (0, 0)) := by
  have := blk_alloc (blk_new (w.alloc (.cells #[.int .i64 u0, .int .i64 u1, .slice An nn cn] 33)) (.cells #[.int .i64 0, .int .i64 0, .slice none 0 0] 33)) (.cells #[.int .u32 0, .int .i64 0, .int .i64 0] 59)
  rw [World.size_alloc] at this
  rw [← hW0]; exact this
 have k2 : W0.heap[w.heap.size + 1 + 1]? = some (.cells #[.int .u32 0, .int .i64 0, .int .i64 0] 59 (0, 0)) := by
  have := blk_new ((w.alloc (.cells #[.int .i64 u0, .int .i64 u1, .slice An nn cn] 33)).alloc (.cells #[.int .i64 0, .int .i64 0, .slice none 0 0] 33)) (.cells #[.int .u32 0, .int .i64 0, .int .i64 0] 59)
  rw [World.size_alloc, World.size_alloc] at this
  rw [← hW0]; exact this
 have H := Aside0.mk (And.intro hB0 (And.intro k0 (And.intro k1 (And.intro k2 hW0))))
 have G := Aside0.mk (And.intro (show Kd.C PNodePlays.k59 w An ns.length ns from hC) (And.intro hnn (And.intro hls hyj)))
 have q0 := (blk_cell k0 0).trans rfl
 have q1 := (blk_cell k0 1).trans rfl
 have q2 := (blk_cell k0 2).trans rfl
 clear hC hw AT hpl hje hjn hwj hnn hB0 k0 k1 k2 hW0 hls hyj hr
 go_enter Tryz.func113, Tryz.ntmps113
 go_wp2_with fail
 rw [H.out.2.2.2.2]
 go_wp2_with fail
 refine (AC.out W0 H.out.1).mono ?_
 rintro e w1 ⟨rfl, hb1⟩
 have X := Aside0.mk (below_then H.out.1 H.out.1.size hb1)
 have hs1 := blk_lt H.out.2.2.2.1
 have k0 := blk_below H.out.2.1 hb1
 have K := Aside0.mk (And.intro k0 (And.intro (blk_below H.out.2.2.1 hb1) (blk_below H.out.2.2.2.1 hb1)))
 have hw01 := hb1.size
 clear q0 q1 q2 hb1 AC
 have q2 := (blk_cell k0 2).trans rfl
 have CN := Kd.C_below G.out.1 X.out
 obtain ⟨an, rfl, d0, d1, d2⟩ := PNodePlays.at_T59 CN (j : Int) (by omega) (by rw [G.out.2.1]; omega)
 have ek : (j : Int).toNat = j := by simp
 have hjl : j < ns.length := by rw [G.out.2.1]; exact hj
 have er : PNodePlays.rd_T59 ns (j : Int) = y := by unfold PNodePlays.rd_T59; rw [ek, List.getD_eq_getElem?_getD, G.out.2.2.2]; rfl
 rw [er, ek] at d0 d1 d2
 obtain ⟨y0, y1, y2⟩ := y
 dsimp only at d0 d1 d2
 have hji : (j : Int) < (nn : Int) := by omega
 have t1 : decide ((j : Int) < 0) = false := decide_eq_false (by omega)
 have t2 : ¬ (j : Int) < 0 := by omega
 clear k0 CN ek er
 dsimp only
 go_upto_region 5 with (fail)
 obtain ⟨w3, hw3⟩ : ∃ w3, w1.alloc (.cells #[.int .u32 y0, .int .i64 y1, .int .i64 y2] 59) = w3 := ⟨_, rfl⟩
 have hb3 : Below w1.heap.size w1 w3 := by rw [← hw3]; exact below_alloc (Below.refl _ _) _
 have k8 : w3.heap[w1.heap.size]? = some (.cells #[.int .u32 y0, .int .i64 y1, .int .i64 y2] 59 (0, 0)) := by rw [← hw3]; exact blk_new w1 _
 rw [hw3]
 obtain ⟨N8, hN8⟩ : ∃ N8, w1.heap.size = N8 := ⟨_, rfl⟩
 have hle8 : w.heap.size + 3 ≤ N8 := by omega
 have hs3 := hb3.size
 have K3 := Aside0.mk (And.intro (blk_below K.out.1 hb3) (And.intro (blk_below K.out.2.1 hb3) (And.intro (blk_below K.out.2.2 hb3) (And.intro k8 (And.intro (below_step X.out hb3) (show w1.heap.size < w3.heap.size from blk_lt k8))))))
 rw [hN8] at K3 ⊢
 obtain ⟨i0, hi0, _, hsz, _⟩ := info_parts PNodePlays.info59
 have hcut1 := cut_to (P := Tryz.prog) 24 59 .i64 Tryz.underlying24 hi0 (some an) nn cn (j : Int) (by omega) (by omega) hc
 have hcut2 := cut_from (P := Tryz.prog) 24 59 .i64 Tryz.underlying24 hi0 3 hsz (some an) nn cn ((j : Int) + 1) (by omega) (by omega)
 rw [show ((j : Int) + 1).toNat = j + 1 by omega] at hcut2
 simp only [Int.toNat_natCast] at hcut1
 obtain ⟨A2, hA2⟩ : ∃ A2, (if cn = j + 1 then some an else Option.map (fun x => x.add ((j + 1) * 3)) (some an)) = A2 := ⟨_, rfl⟩
 rw [hA2] at hcut2
 have TK : Aside0 (∀ w', Below w3.heap.size w3 w' → Kd.C PNodePlays.k59 w' (some an) j (ns.take j)) := ⟨fun w' h => by
  have := Kd.C_take (m := j) (Kd.C_below G.out.1 (below_step K3.out.2.2.2.2.1 h)) (by omega)
  rwa [show (ns.take j).length = j by rw [List.length_take]; omega] at this⟩
 have DR : Aside0 (∀ w', Below w3.heap.size w3 w' → Kd.C PNodePlays.k59 w' A2 (nn - (j + 1)) (ns.drop (j + 1))) := ⟨fun w' h => by
  have := Kd.C_drop (m := j + 1) (c := cn) (Kd.C_below G.out.1 (below_step K3.out.2.2.2.2.1 h)) (by omega) (by rw [G.out.2.1]; exact hc)
  rw [List.length_drop, G.out.2.1] at this
  rw [← hA2]
  exact this⟩
 have hjw : IntKind.i64.wrap ((j : Int) + 1) = (j : Int) + 1 := by rw [IntKind.wrap_i64]; omega
 have hlt1 : (ns.take j).length = j := by rw [List.length_take]; omega
 obtain ⟨n2, hn2⟩ : ∃ n2, (less ns i).length = n2 := ⟨_, rfl⟩
 have L2 := Aside0.mk (And.intro hn2 G.out.2.2.1)
 clear hi0 hsz hA2 hw3 hb3 k8 hN8 d0 d1 d2 t1 t2 q2 hn2 hjl
 refine XInv.region_tab [] [[], [], [1], [], [2, 3], [0, 4], [], [6], [], [8], [7, 9], [5, 10, 5], [0, 1, 2, 3, 4, 5, 6, 7, 8, 9, 10, 11], [12, 11, 11, 0, 1, 2, 3, 4, 5, 6, 7, 8, 9, 10, 11]] (fun bq jq => match jq with
   | 0 => bq.1
   | 1 => .pointer (some ⟨w.heap.size, 2, none⟩)
   | 2 => .slice (some an) nn cn
   | 3 => .int .i64 j
   | 4 => .slice (some an) j cn
   | 5 => bq.2.1
   | 6 => .pointer (some ⟨w.heap.size, 2, none⟩)
   | 7 => .slice (some an) nn cn
   | 8 => .int .i64 j
   | 9 => .int .i64 ((j : Int) + 1)
   | 10 => .slice A2 (nn - (j + 1)) (cn - (j + 1))
   | 11 => .slice bq.2.2.1 n2 bq.2.2.2
   | 12 => .pointer (some ⟨w.heap.size, 2, none⟩)
   | 13 => undef
   | _ => undef)
   (fun bq l w' => if l 13 = true then (∃ wz, Below w3.heap.size w3 wz ∧ RNt wz w3.heap.size (.slice bq.2.2.1 n2 bq.2.2.2) (less ns i) ∧ w' = wz.setCell ⟨w.heap.size, 2, none⟩ (.slice bq.2.2.1 n2 bq.2.2.2)) else if l 11 = true then (Below w3.heap.size w3 w' ∧ RNt w' w3.heap.size (.slice bq.2.2.1 n2 bq.2.2.2) (less ns i)) else if l 5 = true then (Below w3.heap.size w3 w' ∧ RNt w' w3.heap.size (bq.2.1) (ns.take j)) else if l 0 = true then (Below w3.heap.size w3 w' ∧ RNt w' w3.heap.size (bq.1) ([])) else Below w3.heap.size w3 w')
   (by kernel_rfl) rfl (by kernel_rfl) (by kernel_rfl) (by kernel_rfl) ⟨((undef, undef, (none, 0)) : Value × Value × (Option Addr × Nat)), (by rw [if_neg (by simp)]; rw [if_neg (by simp)]; rw [if_neg (by simp)]; rw [if_neg (by simp)]; exact below_drew (Below.refl _ _))⟩ ?_ ?_
 ·refine cs14l _ ?_ ?_ ?_ ?_ ?_ ?_ ?_ ?_ ?_ ?_ ?_ ?_ ?_ ?_
  all_goals intro hds oi hoi bq lb w' hW hlb hcl hneed hclo
  all_goals simp only [List.getElem?_toArray, List.getElem?_cons_succ, List.getElem?_cons_zero, Option.some.injEq] at hoi
  all_goals subst hoi
  ·refine XInv.yes_tab [] (by kernel_rfl) ?_
   have hs0 := hlb
   have hs1 := hcl 5 (by decide) (by kernel_rfl)
   have hs2 := XInv.unreach hclo [5] 11 0 (by kernel_rfl) hlb
   have hs3 := hcl 13 (by decide) (by kernel_rfl)
   rw [if_neg (by rw [hs3]; decide)] at hW
   rw [if_neg (by rw [hs2]; decide)] at hW
   rw [if_neg (by rw [hs1]; decide)] at hW
   rw [if_neg (by rw [hs0]; decide)] at hW
   have q2 := (blk_cell (blk_below K3.out.1 hW) 2).trans rfl
   have g2 := blk_frozen (blk_below K3.out.1 hW) 2
   clear hcl hneed
   intro Q2 K2 hK2
   refine Kd.R_lit_step PNodePlays.k59 _ 59 (by rfl) (N := 21) rfl (xs := ([] : List Nd)) (inner := []) (ok := fun _ => True) (okp := fun _ => True) (by (try simp only [XInv.puts, XPrint.pw]); first | (go_simp; done) | (go_simp; rfl)) (Reps.none _ _) (fun _ hk => hk) trivial (Below.refl _ _) (Nat.le_refl _) (by simp) ?_
   intro v1 w1 hR hB hg _
   exact hK2.out v1 w1 ⟨(v1, bq.2), rfl, (cs14l _ (fun hlj => absurd (hlb.symm.trans hlj) (by decide)) (fun _ => rfl) (fun _ => rfl) (fun _ => rfl) (fun _ => rfl) (fun hlj => absurd (hlb.symm.trans (XInv.reach hclo [] 5 0 (by kernel_rfl) hlj)) (by decide)) (fun _ => rfl) (fun _ => rfl) (fun _ => rfl) (fun _ => rfl) (fun _ => rfl) (fun hlj => absurd (hlb.symm.trans (XInv.reach hclo [5] 11 0 (by kernel_rfl) hlj)) (by decide)) (fun hlj => absurd (hlb.symm.trans (XInv.reach hclo [] 12 0 (by kernel_rfl) hlj)) (by decide)) (fun hlj => absurd (hlb.symm.trans (XInv.reach hclo [] 13 0 (by kernel_rfl) hlj)) (by decide))), (by rw [if_neg (by simp [XInv.up, hs3])]; rw [if_neg (by simp [XInv.up, hs2])]; rw [if_neg (by simp [XInv.up, hs1])]; rw [if_pos (by simp [XInv.up, hs0])]; exact ⟨below_step hW hB, Kd.R_lower hR hW.size⟩)⟩
  ·refine XInv.yes_tab [] (by kernel_rfl) ?_
   have hs1 := XInv.unreach hclo [4, 2] 5 1 (by kernel_rfl) hlb
   have hs2 := XInv.unreach hclo [5, 4, 2] 11 1 (by kernel_rfl) hlb
   have hs3 := hcl 13 (by decide) (by kernel_rfl)
   cases hs0 : lb 0
   case false =>
    rw [if_neg (by rw [hs3]; decide)] at hW
    rw [if_neg (by rw [hs2]; decide)] at hW
    rw [if_neg (by rw [hs1]; decide)] at hW
    rw [if_neg (by rw [hs0]; decide)] at hW
    clear hcl hneed hclo
    intro Q2 K2 hK2
    simp only [XInv.puts, XPrint.pw]
    go_simp
    exact hK2.out (.pointer (some ⟨w.heap.size, 2, none⟩)) w' ⟨bq, rfl, (by intros; first | rfl | trivial), (by rw [if_neg (by simp [XInv.up, hs3])]; rw [if_neg (by simp [XInv.up, hs2])]; rw [if_neg (by simp [XInv.up, hs1])]; rw [if_neg (by simp [XInv.up, hs0])]; exact hW)⟩
   case true =>
    rw [if_neg (by rw [hs3]; decide)] at hW
    rw [if_neg (by rw [hs2]; decide)] at hW
    rw [if_neg (by rw [hs1]; decide)] at hW
    rw [if_pos hs0] at hW
    clear hcl hneed hclo
    intro Q2 K2 hK2
    simp only [XInv.puts, XPrint.pw]
    go_simp
    exact hK2.out (.pointer (some ⟨w.heap.size, 2, none⟩)) w' ⟨bq, rfl, (by intros; first | rfl | trivial), (by rw [if_neg (by simp [XInv.up, hs3])]; rw [if_neg (by simp [XInv.up, hs2])]; rw [if_neg (by simp [XInv.up, hs1])]; rw [if_pos (by simp [XInv.up, hs0])]; exact hW)⟩
  ·refine XInv.yes_tab [(22, 1)] (by kernel_rfl) ?_
   have hs1 := XInv.unreach hclo [4] 5 2 (by kernel_rfl) hlb
   have hs2 := XInv.unreach hclo [5, 4] 11 2 (by kernel_rfl) hlb
   have hs3 := hcl 13 (by decide) (by kernel_rfl)
   cases hs0 : lb 0
   case false =>
    rw [if_neg (by rw [hs3]; decide)] at hW
    rw [if_neg (by rw [hs2]; decide)] at hW
    rw [if_neg (by rw [hs1]; decide)] at hW
    rw [if_neg (by rw [hs0]; decide)] at hW
    have q2 := (blk_cell (blk_below K3.out.1 hW) 2).trans rfl
    have g2 := blk_frozen (blk_below K3.out.1 hW) 2
    clear hcl hneed hclo
    intro Q2 K2 hK2
    simp only [XInv.puts, XPrint.pw]
    go_simp
    exact hK2.out (.slice (some an) nn cn) w' ⟨bq, rfl, (by intros; first | rfl | trivial), (by rw [if_neg (by simp [XInv.up, hs3])]; rw [if_neg (by simp [XInv.up, hs2])]; rw [if_neg (by simp [XInv.up, hs1])]; rw [if_neg (by simp [XInv.up, hs0])]; exact hW)⟩
   case true =>
    rw [if_neg (by rw [hs3]; decide)] at hW
    rw [if_neg (by rw [hs2]; decide)] at hW
    rw [if_neg (by rw [hs1]; decide)] at hW
    rw [if_pos hs0] at hW
    have q2 := (blk_cell (blk_below K3.out.1 hW.1) 2).trans rfl
    have g2 := blk_frozen (blk_below K3.out.1 hW.1) 2
    clear hcl hneed hclo
    intro Q2 K2 hK2
    simp only [XInv.puts, XPrint.pw]
    go_simp
    exact hK2.out (.slice (some an) nn cn) w' ⟨bq, rfl, (by intros; first | rfl | trivial), (by rw [if_neg (by simp [XInv.up, hs3])]; rw [if_neg (by simp [XInv.up, hs2])]; rw [if_neg (by simp [XInv.up, hs1])]; rw [if_pos (by simp [XInv.up, hs0])]; exact hW)⟩
  ·refine XInv.yes_tab [] (by kernel_rfl) ?_
   have hs1 := XInv.unreach hclo [4] 5 3 (by kernel_rfl) hlb
   have hs2 := XInv.unreach hclo [5, 4] 11 3 (by kernel_rfl) hlb
   have hs3 := hcl 13 (by decide) (by kernel_rfl)
   cases hs0 : lb 0
   case false =>
    rw [if_neg (by rw [hs3]; decide)] at hW
    rw [if_neg (by rw [hs2]; decide)] at hW
    rw [if_neg (by rw [hs1]; decide)] at hW
    rw [if_neg (by rw [hs0]; decide)] at hW
    clear hcl hneed hclo
    intro Q2 K2 hK2
    simp only [XInv.puts, XPrint.pw]
    go_simp
    exact hK2.out (.int .i64 j) w' ⟨bq, rfl, (by intros; first | rfl | trivial), (by rw [if_neg (by simp [XInv.up, hs3])]; rw [if_neg (by simp [XInv.up, hs2])]; rw [if_neg (by simp [XInv.up, hs1])]; rw [if_neg (by simp [XInv.up, hs0])]; exact hW)⟩
   case true =>
    rw [if_neg (by rw [hs3]; decide)] at hW
    rw [if_neg (by rw [hs2]; decide)] at hW
    rw [if_neg (by rw [hs1]; decide)] at hW
    rw [if_pos hs0] at hW
    clear hcl hneed hclo
    intro Q2 K2 hK2
    simp only [XInv.puts, XPrint.pw]
    go_simp
    exact hK2.out (.int .i64 j) w' ⟨bq, rfl, (by intros; first | rfl | trivial), (by rw [if_neg (by simp [XInv.up, hs3])]; rw [if_neg (by simp [XInv.up, hs2])]; rw [if_neg (by simp [XInv.up, hs1])]; rw [if_pos (by simp [XInv.up, hs0])]; exact hW)⟩
  ·refine XInv.yes_tab [(24, 3), (23, 2)] (by kernel_rfl) ?_
   have hs1 := hcl 5 (by decide) (by kernel_rfl)
   have hs2 := XInv.unreach hclo [5] 11 4 (by kernel_rfl) hlb
   have hs3 := hcl 13 (by decide) (by kernel_rfl)
   cases hs0 : lb 0
   case false =>
    rw [if_neg (by rw [hs3]; decide)] at hW
    rw [if_neg (by rw [hs2]; decide)] at hW
    rw [if_neg (by rw [hs1]; decide)] at hW
    rw [if_neg (by rw [hs0]; decide)] at hW
    clear hcl hneed hclo
    intro Q2 K2 hK2
    simp only [XInv.puts, XPrint.pw]
    go_simp
    exact hK2.out (.slice (some an) j cn) w' ⟨bq, rfl, (by intros; first | rfl | trivial), (by rw [if_neg (by simp [XInv.up, hs3])]; rw [if_neg (by simp [XInv.up, hs2])]; rw [if_neg (by simp [XInv.up, hs1])]; rw [if_neg (by simp [XInv.up, hs0])]; exact hW)⟩
   case true =>
    rw [if_neg (by rw [hs3]; decide)] at hW
    rw [if_neg (by rw [hs2]; decide)] at hW
    rw [if_neg (by rw [hs1]; decide)] at hW
    rw [if_pos hs0] at hW
    clear hcl hneed hclo
    intro Q2 K2 hK2
    simp only [XInv.puts, XPrint.pw]
    go_simp
    exact hK2.out (.slice (some an) j cn) w' ⟨bq, rfl, (by intros; first | rfl | trivial), (by rw [if_neg (by simp [XInv.up, hs3])]; rw [if_neg (by simp [XInv.up, hs2])]; rw [if_neg (by simp [XInv.up, hs1])]; rw [if_pos (by simp [XInv.up, hs0])]; exact hW)⟩
  ·refine XInv.yes_tab [(25, 4), (21, 0)] (by kernel_rfl) ?_
   have hs0 := hneed 0 (by kernel_rfl)
   have hs1 := hlb
   have hs2 := hcl 11 (by decide) (by kernel_rfl)
   have hs3 := hcl 13 (by decide) (by kernel_rfl)
   rw [if_neg (by rw [hs3]; decide)] at hW
   rw [if_neg (by rw [hs2]; decide)] at hW
   rw [if_neg (by rw [hs1]; decide)] at hW
   rw [if_pos hs0] at hW
   have q2 := (blk_cell (blk_below K3.out.1 hW.1) 2).trans rfl
   have g2 := blk_frozen (blk_below K3.out.1 hW.1) 2
   clear hcl hneed
   intro Q2 K2 hK2
   simp only [XInv.puts]
   refine Kd.R_append_rows_step PNodePlays.k59 (w0 := w3) w3.heap.size (by rfl) (.tmp 21) (.tmp 25) 24 59 (.agg #[.int .u32 0, .int .i64 0, .int .i64 0]) 24 rfl Tryz.underlying24 PNodePlays.info59 rfl (by decide) (by omega) (bq.1) ([]) (ns.take j) (some an) (j) (cn) (fun _ => True) (fun _ => False) rfl rfl hW.2 (TK.out _ hW.1) (fun _ _ h => h) (fun _ h => h.elim) (fun _ _ => trivial) hW.1 hW.1.size (by simp only [List.length_nil]; omega) ?_
   intro v1 w1 hR hB hg _
   exact hK2.out v1 w1 ⟨(bq.1, v1, bq.2.2), rfl, (cs14l _ (fun _ => rfl) (fun _ => rfl) (fun _ => rfl) (fun _ => rfl) (fun _ => rfl) (fun hlj => absurd (hlb.symm.trans hlj) (by decide)) (fun _ => rfl) (fun _ => rfl) (fun _ => rfl) (fun _ => rfl) (fun _ => rfl) (fun hlj => absurd (hlb.symm.trans (XInv.reach hclo [] 11 5 (by kernel_rfl) hlj)) (by decide)) (fun hlj => absurd (hlb.symm.trans (XInv.reach hclo [] 12 5 (by kernel_rfl) hlj)) (by decide)) (fun hlj => absurd (hlb.symm.trans (XInv.reach hclo [] 13 5 (by kernel_rfl) hlj)) (by decide))), (by rw [if_neg (by simp [XInv.up, hs3])]; rw [if_neg (by simp [XInv.up, hs2])]; rw [if_pos (by simp [XInv.up, hs1])]; exact ⟨hB, by simpa using hR⟩)⟩
  ·refine XInv.yes_tab [] (by kernel_rfl) ?_
   have hs2 := XInv.unreach hclo [10, 7] 11 6 (by kernel_rfl) hlb
   have hs3 := hcl 13 (by decide) (by kernel_rfl)
   cases hs0 : lb 0
   case false =>
    cases hs1 : lb 5
    case false =>
     rw [if_neg (by rw [hs3]; decide)] at hW
     rw [if_neg (by rw [hs2]; decide)] at hW
     rw [if_neg (by rw [hs1]; decide)] at hW
     rw [if_neg (by rw [hs0]; decide)] at hW
     clear hcl hneed hclo
     intro Q2 K2 hK2
     simp only [XInv.puts, XPrint.pw]
     go_simp
     exact hK2.out (.pointer (some ⟨w.heap.size, 2, none⟩)) w' ⟨bq, rfl, (by intros; first | rfl | trivial), (by rw [if_neg (by simp [XInv.up, hs3])]; rw [if_neg (by simp [XInv.up, hs2])]; rw [if_neg (by simp [XInv.up, hs1])]; rw [if_neg (by simp [XInv.up, hs0])]; exact hW)⟩
    case true =>
     exact absurd (XInv.reach hclo [] 5 0 (by kernel_rfl) hs1) (by rw [hs0]; decide)
   case true =>
    cases hs1 : lb 5
    case false =>
     rw [if_neg (by rw [hs3]; decide)] at hW
     rw [if_neg (by rw [hs2]; decide)] at hW
     rw [if_neg (by rw [hs1]; decide)] at hW
     rw [if_pos hs0] at hW
     clear hcl hneed hclo
     intro Q2 K2 hK2
     simp only [XInv.puts, XPrint.pw]
     go_simp
     exact hK2.out (.pointer (some ⟨w.heap.size, 2, none⟩)) w' ⟨bq, rfl, (by intros; first | rfl | trivial), (by rw [if_neg (by simp [XInv.up, hs3])]; rw [if_neg (by simp [XInv.up, hs2])]; rw [if_neg (by simp [XInv.up, hs1])]; rw [if_pos (by simp [XInv.up, hs0])]; exact hW)⟩
    case true =>
     rw [if_neg (by rw [hs3]; decide)] at hW
     rw [if_neg (by rw [hs2]; decide)] at hW
     rw [if_pos hs1] at hW
     clear hcl hneed hclo
     intro Q2 K2 hK2
     simp only [XInv.puts, XPrint.pw]
     go_simp
     exact hK2.out (.pointer (some ⟨w.heap.size, 2, none⟩)) w' ⟨bq, rfl, (by intros; first | rfl | trivial), (by rw [if_neg (by simp [XInv.up, hs3])]; rw [if_neg (by simp [XInv.up, hs2])]; rw [if_pos (by simp [XInv.up, hs1])]; exact hW)⟩
  ·refine XInv.yes_tab [(27, 6)] (by kernel_rfl) ?_
   have hs2 := XInv.unreach hclo [10] 11 7 (by kernel_rfl) hlb
   have hs3 := hcl 13 (by decide) (by kernel_rfl)
   cases hs0 : lb 0
   case false =>
    cases hs1 : lb 5
    case false =>
     rw [if_neg (by rw [hs3]; decide)] at hW
     rw [if_neg (by rw [hs2]; decide)] at hW
     rw [if_neg (by rw [hs1]; decide)] at hW
     rw [if_neg (by rw [hs0]; decide)] at hW
     have q2 := (blk_cell (blk_below K3.out.1 hW) 2).trans rfl
     have g2 := blk_frozen (blk_below K3.out.1 hW) 2
     clear hcl hneed hclo
     intro Q2 K2 hK2
     simp only [XInv.puts, XPrint.pw]
     go_simp
     exact hK2.out (.slice (some an) nn cn) w' ⟨bq, rfl, (by intros; first | rfl | trivial), (by rw [if_neg (by simp [XInv.up, hs3])]; rw [if_neg (by simp [XInv.up, hs2])]; rw [if_neg (by simp [XInv.up, hs1])]; rw [if_neg (by simp [XInv.up, hs0])]; exact hW)⟩
    case true =>
     exact absurd (XInv.reach hclo [] 5 0 (by kernel_rfl) hs1) (by rw [hs0]; decide)
   case true =>
    cases hs1 : lb 5
    case false =>
     rw [if_neg (by rw [hs3]; decide)] at hW
     rw [if_neg (by rw [hs2]; decide)] at hW
     rw [if_neg (by rw [hs1]; decide)] at hW
     rw [if_pos hs0] at hW
     have q2 := (blk_cell (blk_below K3.out.1 hW.1) 2).trans rfl
     have g2 := blk_frozen (blk_below K3.out.1 hW.1) 2
     clear hcl hneed hclo
     intro Q2 K2 hK2
     simp only [XInv.puts, XPrint.pw]
     go_simp
     exact hK2.out (.slice (some an) nn cn) w' ⟨bq, rfl, (by intros; first | rfl | trivial), (by rw [if_neg (by simp [XInv.up, hs3])]; rw [if_neg (by simp [XInv.up, hs2])]; rw [if_neg (by simp [XInv.up, hs1])]; rw [if_pos (by simp [XInv.up, hs0])]; exact hW)⟩
    case true =>
     rw [if_neg (by rw [hs3]; decide)] at hW
     rw [if_neg (by rw [hs2]; decide)] at hW
     rw [if_pos hs1] at hW
     have q2 := (blk_cell (blk_below K3.out.1 hW.1) 2).trans rfl
     have g2 := blk_frozen (blk_below K3.out.1 hW.1) 2
     clear hcl hneed hclo
     intro Q2 K2 hK2
     simp only [XInv.puts, XPrint.pw]
     go_simp
     exact hK2.out (.slice (some an) nn cn) w' ⟨bq, rfl, (by intros; first | rfl | trivial), (by rw [if_neg (by simp [XInv.up, hs3])]; rw [if_neg (by simp [XInv.up, hs2])]; rw [if_pos (by simp [XInv.up, hs1])]; exact hW)⟩
  ·refine XInv.yes_tab [] (by kernel_rfl) ?_
   have hs2 := XInv.unreach hclo [10, 9] 11 8 (by kernel_rfl) hlb
   have hs3 := hcl 13 (by decide) (by kernel_rfl)
   cases hs0 : lb 0
   case false =>
    cases hs1 : lb 5
    case false =>
     rw [if_neg (by rw [hs3]; decide)] at hW
     rw [if_neg (by rw [hs2]; decide)] at hW
     rw [if_neg (by rw [hs1]; decide)] at hW
     rw [if_neg (by rw [hs0]; decide)] at hW
     clear hcl hneed hclo
     intro Q2 K2 hK2
     simp only [XInv.puts, XPrint.pw]
     go_simp
     exact hK2.out (.int .i64 j) w' ⟨bq, rfl, (by intros; first | rfl | trivial), (by rw [if_neg (by simp [XInv.up, hs3])]; rw [if_neg (by simp [XInv.up, hs2])]; rw [if_neg (by simp [XInv.up, hs1])]; rw [if_neg (by simp [XInv.up, hs0])]; exact hW)⟩
    case true =>
     exact absurd (XInv.reach hclo [] 5 0 (by kernel_rfl) hs1) (by rw [hs0]; decide)
   case true =>
    cases hs1 : lb 5
    case false =>
     rw [if_neg (by rw [hs3]; decide)] at hW
     rw [if_neg (by rw [hs2]; decide)] at hW
     rw [if_neg (by rw [hs1]; decide)] at hW
     rw [if_pos hs0] at hW
     clear hcl hneed hclo
     intro Q2 K2 hK2
     simp only [XInv.puts, XPrint.pw]
     go_simp
     exact hK2.out (.int .i64 j) w' ⟨bq, rfl, (by intros; first | rfl | trivial), (by rw [if_neg (by simp [XInv.up, hs3])]; rw [if_neg (by simp [XInv.up, hs2])]; rw [if_neg (by simp [XInv.up, hs1])]; rw [if_pos (by simp [XInv.up, hs0])]; exact hW)⟩
    case true =>
     rw [if_neg (by rw [hs3]; decide)] at hW
     rw [if_neg (by rw [hs2]; decide)] at hW
     rw [if_pos hs1] at hW
     clear hcl hneed hclo
     intro Q2 K2 hK2
     simp only [XInv.puts, XPrint.pw]
     go_simp
     exact hK2.out (.int .i64 j) w' ⟨bq, rfl, (by intros; first | rfl | trivial), (by rw [if_neg (by simp [XInv.up, hs3])]; rw [if_neg (by simp [XInv.up, hs2])]; rw [if_pos (by simp [XInv.up, hs1])]; exact hW)⟩
  ·refine XInv.yes_tab [(29, 8)] (by kernel_rfl) ?_
   have hs2 := XInv.unreach hclo [10] 11 9 (by kernel_rfl) hlb
   have hs3 := hcl 13 (by decide) (by kernel_rfl)
   cases hs0 : lb 0
   case false =>
    cases hs1 : lb 5
    case false =>
     rw [if_neg (by rw [hs3]; decide)] at hW
     rw [if_neg (by rw [hs2]; decide)] at hW
     rw [if_neg (by rw [hs1]; decide)] at hW
     rw [if_neg (by rw [hs0]; decide)] at hW
     clear hcl hneed hclo
     intro Q2 K2 hK2
     simp only [XInv.puts, XPrint.pw]
     go_simp
     exact hK2.out (.int .i64 ((j : Int) + 1)) w' ⟨bq, rfl, (by intros; first | rfl | trivial), (by rw [if_neg (by simp [XInv.up, hs3])]; rw [if_neg (by simp [XInv.up, hs2])]; rw [if_neg (by simp [XInv.up, hs1])]; rw [if_neg (by simp [XInv.up, hs0])]; exact hW)⟩
    case true =>
     exact absurd (XInv.reach hclo [] 5 0 (by kernel_rfl) hs1) (by rw [hs0]; decide)
   case true =>
    cases hs1 : lb 5
    case false =>
     rw [if_neg (by rw [hs3]; decide)] at hW
     rw [if_neg (by rw [hs2]; decide)] at hW
     rw [if_neg (by rw [hs1]; decide)] at hW
     rw [if_pos hs0] at hW
     clear hcl hneed hclo
     intro Q2 K2 hK2
     simp only [XInv.puts, XPrint.pw]
     go_simp
     exact hK2.out (.int .i64 ((j : Int) + 1)) w' ⟨bq, rfl, (by intros; first | rfl | trivial), (by rw [if_neg (by simp [XInv.up, hs3])]; rw [if_neg (by simp [XInv.up, hs2])]; rw [if_neg (by simp [XInv.up, hs1])]; rw [if_pos (by simp [XInv.up, hs0])]; exact hW)⟩
    case true =>
     rw [if_neg (by rw [hs3]; decide)] at hW
     rw [if_neg (by rw [hs2]; decide)] at hW
     rw [if_pos hs1] at hW
     clear hcl hneed hclo
     intro Q2 K2 hK2
     simp only [XInv.puts, XPrint.pw]
     go_simp
     exact hK2.out (.int .i64 ((j : Int) + 1)) w' ⟨bq, rfl, (by intros; first | rfl | trivial), (by rw [if_neg (by simp [XInv.up, hs3])]; rw [if_neg (by simp [XInv.up, hs2])]; rw [if_pos (by simp [XInv.up, hs1])]; exact hW)⟩
  ·refine XInv.yes_tab [(30, 9), (28, 7)] (by kernel_rfl) ?_
   have hs2 := hcl 11 (by decide) (by kernel_rfl)
   have hs3 := hcl 13 (by decide) (by kernel_rfl)
   cases hs0 : lb 0
   case false =>
    cases hs1 : lb 5
    case false =>
     rw [if_neg (by rw [hs3]; decide)] at hW
     rw [if_neg (by rw [hs2]; decide)] at hW
     rw [if_neg (by rw [hs1]; decide)] at hW
     rw [if_neg (by rw [hs0]; decide)] at hW
     clear hcl hneed hclo
     intro Q2 K2 hK2
     simp only [XInv.puts, XPrint.pw]
     go_simp
     exact hK2.out (.slice A2 (nn - (j + 1)) (cn - (j + 1))) w' ⟨bq, rfl, (by intros; first | rfl | trivial), (by rw [if_neg (by simp [XInv.up, hs3])]; rw [if_neg (by simp [XInv.up, hs2])]; rw [if_neg (by simp [XInv.up, hs1])]; rw [if_neg (by simp [XInv.up, hs0])]; exact hW)⟩
    case true =>
     exact absurd (XInv.reach hclo [] 5 0 (by kernel_rfl) hs1) (by rw [hs0]; decide)
   case true =>
    cases hs1 : lb 5
    case false =>
     rw [if_neg (by rw [hs3]; decide)] at hW
     rw [if_neg (by rw [hs2]; decide)] at hW
     rw [if_neg (by rw [hs1]; decide)] at hW
     rw [if_pos hs0] at hW
     clear hcl hneed hclo
     intro Q2 K2 hK2
     simp only [XInv.puts, XPrint.pw]
     go_simp
     exact hK2.out (.slice A2 (nn - (j + 1)) (cn - (j + 1))) w' ⟨bq, rfl, (by intros; first | rfl | trivial), (by rw [if_neg (by simp [XInv.up, hs3])]; rw [if_neg (by simp [XInv.up, hs2])]; rw [if_neg (by simp [XInv.up, hs1])]; rw [if_pos (by simp [XInv.up, hs0])]; exact hW)⟩
    case true =>
     rw [if_neg (by rw [hs3]; decide)] at hW
     rw [if_neg (by rw [hs2]; decide)] at hW
     rw [if_pos hs1] at hW
     clear hcl hneed hclo
     intro Q2 K2 hK2
     simp only [XInv.puts, XPrint.pw]
     go_simp
     exact hK2.out (.slice A2 (nn - (j + 1)) (cn - (j + 1))) w' ⟨bq, rfl, (by intros; first | rfl | trivial), (by rw [if_neg (by simp [XInv.up, hs3])]; rw [if_neg (by simp [XInv.up, hs2])]; rw [if_pos (by simp [XInv.up, hs1])]; exact hW)⟩
  ·refine XInv.yes_tab [(31, 10), (26, 5)] (by kernel_rfl) ?_
   have hs0 := (XInv.reach hclo [] 5 0 (by kernel_rfl) (hneed 5 (by kernel_rfl)))
   have hs1 := hneed 5 (by kernel_rfl)
   have hs2 := hlb
   have hs3 := hcl 13 (by decide) (by kernel_rfl)
   rw [if_neg (by rw [hs3]; decide)] at hW
   rw [if_neg (by rw [hs2]; decide)] at hW
   rw [if_pos hs1] at hW
   have q2 := (blk_cell (blk_below K3.out.1 hW.1) 2).trans rfl
   have g2 := blk_frozen (blk_below K3.out.1 hW.1) 2
   clear hcl hneed
   intro Q2 K2 hK2
   simp only [XInv.puts]
   refine Kd.R_append_rows_step PNodePlays.k59 (w0 := w3) w3.heap.size (by rfl) (.tmp 26) (.tmp 31) 24 59 (.agg #[.int .u32 0, .int .i64 0, .int .i64 0]) 24 rfl Tryz.underlying24 PNodePlays.info59 rfl (by decide) (by omega) (bq.2.1) (ns.take j) (ns.drop (j + 1)) (A2) (nn - (j + 1)) (cn - (j + 1)) (fun _ => True) (fun _ => False) rfl rfl hW.2 (DR.out _ hW.1) (fun _ _ h => h) (fun _ h => h.elim) (fun _ _ => trivial) hW.1 hW.1.size (by rw [hlt1]; omega) ?_
   intro v1 w1 hR hB hg _
   rw [L2.out.2] at hR
   obtain ⟨A9, c9, rfl⟩ := Kd.R_slice hR
   rw [L2.out.1] at hR ⊢
   exact hK2.out (.slice A9 n2 c9) w1 ⟨(bq.1, bq.2.1, (A9, c9)), rfl, (cs14l _ (fun _ => rfl) (fun _ => rfl) (fun _ => rfl) (fun _ => rfl) (fun _ => rfl) (fun _ => rfl) (fun _ => rfl) (fun _ => rfl) (fun _ => rfl) (fun _ => rfl) (fun _ => rfl) (fun hlj => absurd (hlb.symm.trans hlj) (by decide)) (fun hlj => absurd (hlb.symm.trans (XInv.reach hclo [] 12 11 (by kernel_rfl) hlj)) (by decide)) (fun hlj => absurd (hlb.symm.trans (XInv.reach hclo [] 13 11 (by kernel_rfl) hlj)) (by decide))), (by rw [if_neg (by simp [XInv.up, hs3])]; rw [if_pos (by simp [XInv.up, hs2])]; exact ⟨hB, hR⟩)⟩
  ·refine XInv.yes_tab [(32, 11), (31, 10), (30, 9), (29, 8), (28, 7), (27, 6), (26, 5), (25, 4), (24, 3), (23, 2), (22, 1), (21, 0)] (by kernel_rfl) ?_
   have hs0 := hneed 0 (by kernel_rfl)
   have hs1 := hneed 5 (by kernel_rfl)
   have hs2 := hneed 11 (by kernel_rfl)
   have hs3 := hcl 13 (by decide) (by kernel_rfl)
   rw [if_neg (by rw [hs3]; decide)] at hW
   rw [if_pos hs2] at hW
   clear hcl hneed hclo
   intro Q2 K2 hK2
   simp only [XInv.puts, XPrint.pw] at hK2 ⊢
   go_simp
   exact hK2.out (.pointer (some ⟨w.heap.size, 2, none⟩)) w' ⟨bq, rfl, (by intros; first | rfl | trivial), (by rw [if_neg (by simp [XInv.up, hs3])]; rw [if_pos (by simp [XInv.up, hs2])]; exact hW)⟩
  ·refine XInv.yes_tab [(33, 12), (32, 11), (31, 10), (30, 9), (29, 8), (28, 7), (27, 6), (26, 5), (25, 4), (24, 3), (23, 2), (22, 1), (21, 0)] (by kernel_rfl) ?_
   have hs0 := hneed 0 (by kernel_rfl)
   have hs1 := hneed 5 (by kernel_rfl)
   have hs2 := hneed 11 (by kernel_rfl)
   have hs3 := hlb
   rw [if_neg (by rw [hs3]; decide)] at hW
   rw [if_pos hs2] at hW
   have q2 := (blk_cell (blk_below K3.out.1 hW.1) 2).trans rfl
   have g2 := blk_frozen (blk_below K3.out.1 hW.1) 2
   clear hcl hneed
   intro Q2 K2 hK2
   simp only [XInv.puts, XPrint.pw] at hK2 ⊢
   go_simp
   exact hK2.out undef _ ⟨bq, rfl, (by intros; first | rfl | trivial), (by rw [if_pos (by simp [XInv.up, hs3])]; exact ⟨w', hW.1, hW.2, rfl⟩)⟩
 ·intro bq w' hW
  refine XInv.end_nil [(33, 12), (32, 11), (31, 10), (30, 9), (29, 8), (28, 7), (27, 6), (26, 5), (25, 4), (24, 3), (23, 2), (22, 1), (21, 0)] (by kernel_rfl) (by kernel_rfl) ?_
  simp only [XInv.puts, XPrint.pw]
  rw [if_pos (by kernel_rfl)] at hW
  obtain ⟨b1, b2, ⟨A9, c9⟩⟩ := bq
  obtain ⟨wz, hbz, hRz, rfl⟩ := hW
  dsimp only at hRz ⊢
  have hbut : But (fun k => k = w.heap.size) wz (wz.setCell ⟨w.heap.size, 2, none⟩ (.slice A9 n2 c9)) := (But.refl (fun k => k = w.heap.size) wz).setCell (b := w.heap.size) rfl 2 _
  have kq : (wz.setCell ⟨w.heap.size, 2, none⟩ (.slice A9 n2 c9)).heap[w.heap.size]? = some (.cells #[.int .i64 u0, .int .i64 u1, .slice A9 n2 c9] 33 (0, 0)) := by simpa using blk_set (blk_below K3.out.1 hbz) 2 (.slice A9 n2 c9)
  have ka := hbut.heap (blk_below K3.out.2.1 hbz) (by omega)
  have kb := hbut.heap (blk_below K3.out.2.2.1 hbz) (by omega)
  have kc := hbut.heap (blk_below K3.out.2.2.2.1 hbz) (by omega)
  have hR4 := Kd.R_step (Kd.R_bound hRz) (fun k hk hlt => hbut.block k hlt (by have := hk.2.1; omega))
  have hbf := But.below (below_step K3.out.2.2.2.2.1 hbz) (Nat.le_refl _) hbut (fun k hk => by omega)
  obtain ⟨w4, hw4⟩ : ∃ w4, wz.setCell ⟨w.heap.size, 2, none⟩ (.slice A9 n2 c9) = w4 := ⟨_, rfl⟩
  rw [hw4] at kq ka kb kc hR4 hbf ⊢
  have M := Aside0.mk (And.intro kq (And.intro ka (And.intro kb (And.intro kc (And.intro hR4 hbf)))))
  clear hbut kq ka kb kc hR4 hbf hw4 hRz hbz hcut1 hcut2
  go_upto_region 6 with (fail)
  refine XInv.region_tab [] [[], [], [0, 0], [1, 2, 0, 1, 2], [3, 0, 1, 2, 3]] (fun bq jq => match jq with
    | 0 => .agg #[.int .i64 u0, .int .i64 u1, .slice A9 n2 c9]
    | 1 => .agg #[.int .u32 y0, .int .i64 y1, .int .i64 y2]
    | 2 => undef
    | 3 => undef
    | 4 => .int .i64 0
    | _ => undef)
    (fun bq l w' => if l 3 = true then (But (fun k => k = w.heap.size + 1 ∨ k = w.heap.size + 1 + 1) w4 w' ∧ w'.heap[w.heap.size + 1]? = some (.cells #[.int .i64 u0, .int .i64 u1, .slice A9 n2 c9] 33 (0, 0)) ∧ w'.heap[w.heap.size + 1 + 1]? = some (.cells #[.int .u32 y0, .int .i64 y1, .int .i64 y2] 59 (0, 0))) else if l 2 = true then (But (fun k => k = w.heap.size + 1) w4 w' ∧ w'.heap[w.heap.size + 1]? = some (.cells #[.int .i64 u0, .int .i64 u1, .slice A9 n2 c9] 33 (0, 0))) else Below w4.heap.size w4 w')
    (by kernel_rfl) rfl (by kernel_rfl) (by kernel_rfl) (by kernel_rfl) ⟨fun _ : Nat => (0 : Nat), (by rw [if_neg (by simp)]; rw [if_neg (by simp)]; exact below_drew (Below.refl _ _))⟩ ?_ ?_
  ·intro i1 hi1 hds oi hoi bq lb w' hW hlb hcl hneed hclo
   have hi1 : i1 < 5 := hi1
   have hcs : i1 = 0 ∨ i1 = 1 ∨ i1 = 2 ∨ i1 = 3 ∨ i1 = 4 := by omega
   clear hi1
   rcases hcs with rfl | rfl | rfl | rfl | rfl
   all_goals simp only [List.getElem?_toArray, List.getElem?_cons_succ, List.getElem?_cons_zero, Option.some.injEq] at hoi
   all_goals subst hoi
   ·refine XInv.yes_tab [] (by kernel_rfl) ?_
    have hs0 := hcl 2 (by decide) (by kernel_rfl)
    have hs1 := hcl 3 (by decide) (by kernel_rfl)
    rw [if_neg (by rw [hs1]; decide)] at hW
    rw [if_neg (by rw [hs0]; decide)] at hW
    have zq := blk_below M.out.1 hW
    have zc := blk_below M.out.2.2.2.1 hW
    have zb := blk_below M.out.2.2.1 hW
    have za := blk_below M.out.2.1 hW
    have q0 := (blk_cell zq 0).trans rfl
    have q1 := (blk_cell zq 1).trans rfl
    have q2 := (blk_cell zq 2).trans rfl
    have c0 := (blk_cell zc 0).trans rfl
    have c1 := (blk_cell zc 1).trans rfl
    have c2 := (blk_cell zc 2).trans rfl
    have b0 := (blk_cell zb 0).trans rfl
    have b1 := (blk_cell zb 1).trans rfl
    have b2 := (blk_cell zb 2).trans rfl
    have a0 := (blk_cell za 0).trans rfl
    have a1 := (blk_cell za 1).trans rfl
    have a2 := (blk_cell za 2).trans rfl
    have fb0 := blk_frozen zb 0
    have fb1 := blk_frozen zb 1
    have fb2 := blk_frozen zb 2
    have fa0 := blk_frozen za 0
    have fa1 := blk_frozen za 1
    have fa2 := blk_frozen za 2
    clear hcl hneed hclo
    intro Q2 K2 hK2
    simp only [XInv.puts, XPrint.pw]
    go_simp
    exact hK2.out (.agg #[.int .i64 u0, .int .i64 u1, .slice A9 n2 c9]) w' ⟨bq, rfl, (by intros; first | rfl | trivial), (by rw [if_neg (by simp [XInv.up, hs1])]; rw [if_neg (by simp [XInv.up, hs0])]; exact hW)⟩
   ·refine XInv.yes_tab [] (by kernel_rfl) ?_
    have hs1 := hcl 3 (by decide) (by kernel_rfl)
    cases hs0 : lb 2
    case false =>
     rw [if_neg (by rw [hs1]; decide)] at hW
     rw [if_neg (by rw [hs0]; decide)] at hW
     have zq := blk_below M.out.1 hW
     have zc := blk_below M.out.2.2.2.1 hW
     have zb := blk_below M.out.2.2.1 hW
     have za := blk_below M.out.2.1 hW
     have q0 := (blk_cell zq 0).trans rfl
     have q1 := (blk_cell zq 1).trans rfl
     have q2 := (blk_cell zq 2).trans rfl
     have c0 := (blk_cell zc 0).trans rfl
     have c1 := (blk_cell zc 1).trans rfl
     have c2 := (blk_cell zc 2).trans rfl
     have b0 := (blk_cell zb 0).trans rfl
     have b1 := (blk_cell zb 1).trans rfl
     have b2 := (blk_cell zb 2).trans rfl
     have a0 := (blk_cell za 0).trans rfl
     have a1 := (blk_cell za 1).trans rfl
     have a2 := (blk_cell za 2).trans rfl
     have fb0 := blk_frozen zb 0
     have fb1 := blk_frozen zb 1
     have fb2 := blk_frozen zb 2
     have fa0 := blk_frozen za 0
     have fa1 := blk_frozen za 1
     have fa2 := blk_frozen za 2
     clear hcl hneed hclo
     intro Q2 K2 hK2
     simp only [XInv.puts, XPrint.pw]
     go_simp
     exact hK2.out (.agg #[.int .u32 y0, .int .i64 y1, .int .i64 y2]) w' ⟨bq, rfl, (by intros; first | rfl | trivial), (by rw [if_neg (by simp [XInv.up, hs1])]; rw [if_neg (by simp [XInv.up, hs0])]; exact hW)⟩
    case true =>
     rw [if_neg (by rw [hs1]; decide)] at hW
     rw [if_pos hs0] at hW
     have zq := hW.1.heap M.out.1 (by omega)
     have zc := hW.1.heap M.out.2.2.2.1 (by omega)
     have zb := hW.1.heap M.out.2.2.1 (by omega)
     have q0 := (blk_cell zq 0).trans rfl
     have q1 := (blk_cell zq 1).trans rfl
     have q2 := (blk_cell zq 2).trans rfl
     have c0 := (blk_cell zc 0).trans rfl
     have c1 := (blk_cell zc 1).trans rfl
     have c2 := (blk_cell zc 2).trans rfl
     have b0 := (blk_cell zb 0).trans rfl
     have b1 := (blk_cell zb 1).trans rfl
     have b2 := (blk_cell zb 2).trans rfl
     have fb0 := blk_frozen zb 0
     have fb1 := blk_frozen zb 1
     have fb2 := blk_frozen zb 2
     clear hcl hneed hclo
     intro Q2 K2 hK2
     simp only [XInv.puts, XPrint.pw]
     go_simp
     exact hK2.out (.agg #[.int .u32 y0, .int .i64 y1, .int .i64 y2]) w' ⟨bq, rfl, (by intros; first | rfl | trivial), (by rw [if_neg (by simp [XInv.up, hs1])]; rw [if_pos (by simp [XInv.up, hs0])]; exact hW)⟩
   ·refine XInv.yes_tab [(34, 0)] (by kernel_rfl) ?_
    have hs0 := hlb
    have hs1 := hcl 3 (by decide) (by kernel_rfl)
    rw [if_neg (by rw [hs1]; decide)] at hW
    rw [if_neg (by rw [hs0]; decide)] at hW
    have zq := blk_below M.out.1 hW
    have zc := blk_below M.out.2.2.2.1 hW
    have zb := blk_below M.out.2.2.1 hW
    have za := blk_below M.out.2.1 hW
    have q0 := (blk_cell zq 0).trans rfl
    have q1 := (blk_cell zq 1).trans rfl
    have q2 := (blk_cell zq 2).trans rfl
    have c0 := (blk_cell zc 0).trans rfl
    have c1 := (blk_cell zc 1).trans rfl
    have c2 := (blk_cell zc 2).trans rfl
    have b0 := (blk_cell zb 0).trans rfl
    have b1 := (blk_cell zb 1).trans rfl
    have b2 := (blk_cell zb 2).trans rfl
    have a0 := (blk_cell za 0).trans rfl
    have a1 := (blk_cell za 1).trans rfl
    have a2 := (blk_cell za 2).trans rfl
    have fb0 := blk_frozen zb 0
    have fb1 := blk_frozen zb 1
    have fb2 := blk_frozen zb 2
    have fa0 := blk_frozen za 0
    have fa1 := blk_frozen za 1
    have fa2 := blk_frozen za 2
    clear hcl hneed
    intro Q2 K2 hK2
    simp only [XInv.puts, XPrint.pw]
    go_simp
    exact hK2.out undef _ ⟨bq, rfl, (by intros; first | rfl | trivial), (by rw [if_neg (by simp [XInv.up, hs1])]; rw [if_pos (by simp [XInv.up, hs0])]; exact ⟨but3T (T := fun k => k = w.heap.size + 1) (But.of_below hW) rfl _ _ _, set3 (blk_below M.out.2.1 hW)⟩)⟩
   ·refine XInv.yes_tab [(35, 1), (34, 0)] (by kernel_rfl) ?_
    have hs0 := hneed 2 (by kernel_rfl)
    have hs1 := hlb
    rw [if_neg (by rw [hs1]; decide)] at hW
    rw [if_pos hs0] at hW
    have zq := hW.1.heap M.out.1 (by omega)
    have zc := hW.1.heap M.out.2.2.2.1 (by omega)
    have zb := hW.1.heap M.out.2.2.1 (by omega)
    have q0 := (blk_cell zq 0).trans rfl
    have q1 := (blk_cell zq 1).trans rfl
    have q2 := (blk_cell zq 2).trans rfl
    have c0 := (blk_cell zc 0).trans rfl
    have c1 := (blk_cell zc 1).trans rfl
    have c2 := (blk_cell zc 2).trans rfl
    have b0 := (blk_cell zb 0).trans rfl
    have b1 := (blk_cell zb 1).trans rfl
    have b2 := (blk_cell zb 2).trans rfl
    have fb0 := blk_frozen zb 0
    have fb1 := blk_frozen zb 1
    have fb2 := blk_frozen zb 2
    clear hcl hneed
    intro Q2 K2 hK2
    simp only [XInv.puts, XPrint.pw]
    go_simp
    exact hK2.out undef _ ⟨bq, rfl, (by intros; first | rfl | trivial), (by rw [if_pos (by simp [XInv.up, hs1])]; exact ⟨but3T (T := fun k => k = w.heap.size + 1 ∨ k = w.heap.size + 1 + 1) (hW.1.mono fun k h => .inl h) (.inr rfl) _ _ _, (but3T (But.refl (fun k => k = w.heap.size + 1 + 1) w') (q := w.heap.size + 1 + 1) rfl _ _ _).heap hW.2 (by omega), set3 zb⟩)⟩
   ·refine XInv.yes_tab [(35, 1), (34, 0)] (by kernel_rfl) ?_
    have hs0 := hneed 2 (by kernel_rfl)
    have hs1 := hneed 3 (by kernel_rfl)
    rw [if_pos hs1] at hW
    clear hcl hneed hclo
    intro Q2 K2 hK2
    simp only [XInv.puts, XPrint.pw]
    go_simp
    exact hK2.out (.int .i64 0) w' ⟨bq, rfl, (by intros; first | rfl | trivial), (by rw [if_pos (by simp [XInv.up, hs1])]; exact hW)⟩
  ·intro bq w' hW
   refine XInv.end_nil [(6, 4), (35, 1), (34, 0)] (by kernel_rfl) (by kernel_rfl) ?_
   simp only [XInv.puts, XPrint.pw]
   rw [if_pos (by kernel_rfl)] at hW
   obtain ⟨hbt, za, zb⟩ := hW
   have a0 := (blk_cell za 0).trans rfl
   have a1 := (blk_cell za 1).trans rfl
   have a2 := (blk_cell za 2).trans rfl
   have b0 := (blk_cell zb 0).trans rfl
   have b1 := (blk_cell zb 1).trans rfl
   have b2 := (blk_cell zb 2).trans rfl
   have E := Aside0.mk hbt
   clear hbt za zb
   go_wp2
   refine bodyPost_ret (v := .tuple #[.agg #[.int .i64 u0, .int .i64 u1, .slice A9 n2 c9], .agg #[.int .u32 y0, .int .i64 y1, .int .i64 y2], .int .i64 0]) (by simp [results, Tryz.results113, go_sem, a0, a1, a2, b0, b1, b2]) rfl ⟨_, rfl, ?_, ?_⟩
   ·exact Kd.R_mono (Kd.R_lower (Kd.R_step M.out.2.2.2.2.1 (fun k hk hlt => E.out.block k hlt (by have := hk.2.1; omega))) K3.out.2.2.2.2.1.size) (fun _ _ => trivial)
   ·exact But.below M.out.2.2.2.2.2 (Nat.le_refl _) E.out (fun k hk => by omega)
theorem rlose_as (u0 u1 i : Int) (An : Option Addr) (nn cn : Nat) (ns : List Nd) (y : Nd) (P : Nat → Prop) (wB w : World) (hB : Below wB.heap.size wB w) (hC : Kd.C PNodePlays.k59 w An nn ns) (hn : ns.length = nn) (hc : nn ≤ cn) (hl : nn ≤ 32) (hr : ns.Pairwise fun x y => x.f0 < y.f0) (hw : who ns i = some y) :
  Calls Tryz.prog 113 #[.agg #[.int .i64 u0, .int .i64 u1, .slice An nn cn], .int .u32 i] w fun e w' => ∃ v, e = .returned (.tuple #[.agg #[.int .i64 u0, .int .i64 u1, v], .agg #[.int .u32 y.f0, .int .i64 y.f1.f0, .int .i64 y.f1.f1], .int .i64 0]) ∧ Kd.R PNodePlays.k59 59 w' wB.heap.size (fun k => P k ∨ w.heap.size ≤ k) v (less ns i) ∧ Below wB.heap.size wB w' ∧ Kept w w' P := by
 refine (rlose_yes u0 u1 i An nn cn ns y w hC hn hc hl hr hw).mono ?_
 rintro e w' ⟨v, rfl, hR, hb⟩
 exact ⟨v, rfl, Kd.R_mono (Kd.R_lower (Kd.R_bound hR) hB.size) (fun k hk => .inr hk.2.1), below_step hB hb, hb.size, fun k hk _ => hb.block k hk⟩
theorem but_drop {T S : Nat → Prop} {w0 w w' : World} (h : But T w0 w) (h2 : But S w w') (hS : ∀ k, S k → w0.heap.size ≤ k) : But T w0 w' :=
 ⟨h2.os.trans h.os, h2.tape.trans h.tape, h2.output.trans h.output, Nat.le_trans h.size h2.size, fun k hk hn => (h2.block k (Nat.lt_of_lt_of_le hk h.size) (fun hs => by have := hS k hs; omega)).trans (h.block k hk hn)⟩
abbrev RNd (w : World) (N : Nat) (ok : Nat → Prop) (v : Value) (xs : List Nd) : Prop := Kd.R PNodePlays.k59 59 w N ok v xs
theorem left_on {bx : List Bx} (i : Int) : leftN bx (onN bx i) = offN bx i := by
 unfold leftN offN
 refine List.filter_congr fun x hx => ?_
 congr 1
 unfold onN
 rw [Bool.eq_iff_iff, decide_eq_true_iff, List.mem_filter]
 exact ⟨fun h => h.2, fun h => ⟨hx, h⟩⟩
theorem kept_but {w w' w0 : World} {S : Nat → Prop} (h0 : Below w0.heap.size w0 w) (h1 : Below w0.heap.size w0 w') (hk : Kept w w' S) : But S w w' := ⟨h1.os.trans h0.os.symm, h1.tape.trans h0.tape.symm, h1.output.trans h0.output.symm, hk.1, fun k hk' hn => hk.2 k hk' hn⟩
theorem dlose_yes (u0 u1 : Int) (An A : Option Addr) (nn cn n c : Nat) (last i : Int) (ns : List Nd) (bx : List Bx) (okn : Nat → Prop) (wB w : World) (hB : Below wB.heap.size wB w) (hN : RNd w wB.heap.size okn (.slice An nn cn) ns) (hX : RB w wB.heap.size (.slice A n c) bx) (hd : ∀ k, okn k → (Value.slice A n c).ownBlock ≠ some k) (hG : NodeT.Good u0 u1 ns) (hid : bx.Pairwise fun a c => a.f0 < c.f0) (hl : n ≤ 1000000) (y : Nd) (hw : who ns i = some y) :
  Calls Tryz.prog 61 #[dv u0 u1 (.slice An nn cn) (.slice A n c) last, .int .u32 i] w fun e w' => ∃ vn' vb' Ag ng cg, e = .returned (.tuple #[dv u0 u1 vn' vb' last, .slice Ag ng cg, .int .i64 0]) ∧ RNd w' wB.heap.size (fun k => okn k ∨ w.heap.size ≤ k) vn' (less ns i) ∧ RB w' w.heap.size vb' (offN bx i) ∧ (∀ (T : Nat → Prop) (w'' : World), (∀ k, T k → k < w.heap.size) → But T w' w'' → Kd.C PLedLib.k100 w'' Ag ng (onN bx i)) ∧ (onN bx i).length = ng ∧ ng ≤ cg ∧ (∀ k, vb'.ownBlock = some k → w.heap.size ≤ k) ∧ But okn w w' := by
 have hu118 := Tryz.underlying37
 have hu31 := Tryz.underlying33
 have hu39 := Tryz.underlying59
 have hu113 := Tryz.underlying100
 obtain ⟨hnn, hncn, _⟩ := Kd.R_reads' hN
 obtain ⟨hnb, hnc, _⟩ := Kd.R_reads' hX
 have hbw := hB.size
 obtain ⟨W0, hW0⟩ : ∃ W0, (w.alloc (db u0 u1 (.slice An nn cn) (.slice A n c) last)).alloc (db 0 0 (.slice none 0 0) (.slice none 0 0) 0) = W0 := ⟨_, rfl⟩
 have hB0 : Below w.heap.size w W0 := by rw [← hW0]; exact below_alloc (below_alloc (Below.refl _ _) _) _
 have k0 : W0.heap[w.heap.size]? = some (.cells #[.int .i64 u0, .int .i64 u1, .slice An nn cn, .slice A n c, .int .u32 last] LT (0, 0)) := by rw [← hW0]; exact blk_alloc (blk_new w _) _
 have k1 : W0.heap[w.heap.size + 1]? = some (.cells #[.int .i64 0, .int .i64 0, .slice none 0 0, .slice none 0 0, .int .u32 0] LT (0, 0)) := by
  have := blk_new (w.alloc (db u0 u1 (.slice An nn cn) (.slice A n c) last)) (db 0 0 (.slice none 0 0) (.slice none 0 0) 0)
  rw [World.size_alloc] at this
  rw [← hW0]; exact this
 have hBW0 : Below wB.heap.size wB W0 := below_step hB hB0
 have hN0 : RNd W0 wB.heap.size (fun k => okn k ∧ k < w.heap.size) (.slice An nn cn) ns := Kd.R_below (Kd.R_mono (Kd.R_bound hN) (fun k hk => ⟨hk.1, hk.2.2.1⟩)) hB0
 have LC := Aside0.mk (rlose_as u0 u1 i An nn cn ns y (fun k => okn k ∧ k < w.heap.size) wB W0 hBW0 (by have h := (Kd.R_reads' hN0).2.2; rwa [← hnn] at h) hnn.symm hncn (by rw [hnn]; exact hG.len) hG.rising hw)
 obtain ⟨y0, y1, y2⟩ := y
 dsimp only at LC
 have H := Aside0.mk (And.intro hB0 (And.intro k0 (And.intro k1 (And.intro hW0 (And.intro (Kd.R_below hX hB0) (And.intro hd (And.intro hBW0 (And.intro hid (And.intro hnb (And.intro hnc (And.intro hB hbw)))))))))))
 have hnl6 : (n : Int) ≤ 1000000 := by omega
 have XLT := Aside0.mk (fun k (hk : (Value.slice A n c).ownBlock = some k) => Kd.R_lt hX k hk)
 have q0 := (blk_cell k0 0).trans rfl
 have q1 := (blk_cell k0 1).trans rfl
 have q2 := (blk_cell k0 2).trans rfl
 have q3 := (blk_cell k0 3).trans rfl
 have q4 := (blk_cell k0 4).trans rfl
 unfold dv
 clear hB hN hX hd hG hid hl hw hB0 k0 k1 hW0 hBW0 hN0 hnn hncn hnb hnc hbw
 go_enter Tryz.func61, Tryz.ntmps61
 go_wp2_with fail
 rw [H.out.2.2.2.1]
 go_wp2_with fail
 refine LC.out.mono ?_
 rintro e w1 ⟨v2, rfl, hR2, hb1, hk1⟩
 obtain ⟨A2, c2, rfl⟩ := Kd.R_slice hR2
 obtain ⟨n2, hn2⟩ : ∃ n2, (less ns i).length = n2 := ⟨_, rfl⟩
 rw [hn2] at hR2 ⊢
 have hbk := kept_but H.out.2.2.2.2.2.2.1 hb1 hk1
 have hw0s : w.heap.size + 1 < W0.heap.size := blk_lt H.out.2.2.1
 have k0 := hbk.heap H.out.2.1 (by omega)
 have k1 := hbk.heap H.out.2.2.1 (by omega)
 have hX1 : RB w1 wB.heap.size (.slice A n c) bx := Kd.R_step H.out.2.2.2.2.1 (fun k hk hlt => hbk.block k hlt (fun h => H.out.2.2.2.2.2.1 k h.1 hk))
 clear q0 q1 q2 q3 q4 LC hk1
 dsimp only
 go_upto_region 4 with (fail)
 obtain ⟨w2, hw2⟩ : ∃ w2, (w1.alloc (.cells #[.int .i64 u0, .int .i64 u1, .slice A2 n2 c2] 33)).alloc (.cells #[.int .u32 y0, .int .i64 y1, .int .i64 y2] 59) = w2 := ⟨_, rfl⟩
 have hb2 : Below w1.heap.size w1 w2 := by rw [← hw2]; exact below_alloc (below_alloc (Below.refl _ _) _) _
 have kz : w2.heap[w1.heap.size]? = some (.cells #[.int .i64 u0, .int .i64 u1, .slice A2 n2 c2] 33 (0, 0)) := by rw [← hw2]; exact blk_alloc (blk_new w1 _) _
 rw [hw2]
 have hs12 := hbk.size
 have Z := Aside0.mk (And.intro (blk_below k0 hb2) (And.intro (blk_below k1 hb2) (And.intro kz (And.intro (Kd.R_below hX1 hb2) (And.intro (Kd.R_below hR2 hb2) (And.intro (hbk.trans (But.of_below hb2)) (And.intro hs12 hb2.size)))))))
 clear k0 k1 kz hX1 hR2 hb1 hbk hw2 hb2 hs12 hn2
 go_wp2_with fail
 go_loopg [10, 11] n (fun kk v10 v11 wr => ∃ j : Nat, kk = n - j ∧ v11 = .int .i64 j ∧ j ≤ n ∧ Below w2.heap.size w2 wr ∧ RB wr w2.heap.size v10 (onN (bx.take j) i))
 case atStart => exact ⟨0, rfl, rfl, Nat.zero_le _, Below.refl _ _, Kd.R_nil _ _ _ _ _⟩
 obtain ⟨j, rfl, rfl, hj, hBj, hR⟩ := hrel
 have c3 := (blk_cell (blk_below Z.out.1 hBj) 3).trans rfl
 by_cases hlt : j < n
 ·have hjb : j < bx.length := by rw [← H.out.2.2.2.2.2.2.2.2.1]; exact hlt
  obtain ⟨ad, rfl, d0, d1, d2, d3⟩ := box_at (H.out.2.2.2.2.2.2.2.2.1 ▸ Kd.C_below (Kd.R_reads' Z.out.2.2.2.1).2.2 hBj) H.out.2.2.2.2.2.2.2.2.1.symm j hlt hjb
  have hf := filter_snoc (fun x : Bx => x.f1 == i) hjb
  have hfl : (onN (bx.take j) i).length ≤ j := Nat.le_trans (List.length_filter_le _ _) (by rw [List.length_take]; omega)
  obtain ⟨x, hx⟩ : ∃ x, bx[j] = x := ⟨_, rfl⟩
  rw [hx] at d0 d1 d2 d3 hf
  obtain ⟨x0, x1, x2, x3⟩ := x
  dsimp only at d0 d1 d2 d3 hf
  obtain ⟨q, hq⟩ : ∃ q, (x1 == i) = q := ⟨_, rfl⟩
  rw [hq] at hf
  have hlt' : (j : Int) < (n : Int) := by omega
  have hf' : onN (bx.take (j + 1)) i = onN (bx.take j) i ++ (if q = true then [⟨x0, x1, x2, x3⟩] else []) := hf
  obtain ⟨ls, hls⟩ : ∃ ls, onN (bx.take j) i = ls := ⟨_, rfl⟩
  rw [hls] at hR hf' hfl
  have Y := Aside0.mk (And.intro hBj (And.intro hR (And.intro hf' hfl)))
  clear hBj hR hf hf' hfl hx hls
  cases q
  ·go_wp2
   go_roundg (n - (j + 1))
   case measure => omega
   case rel => exact ⟨j + 1, rfl, by go_num, by omega, Y.out.1, by rw [Y.out.2.2.1]; simpa using Y.out.2.1⟩
  ·go_wp2_with (refine Kd.R_append PLedLib.k100 (w0 := w2) w2.heap.size (by rfl) (.tmp 39) (.tmp 45) 34 100 (.agg #[.int .u32 0, .int .u32 0, .int .u32 0, .bool false]) 16 rfl Tryz.underlying34 PLedLib.info100 rfl (by decide) (by omega) u10 ls ⟨x0, x1, x2, x3⟩ [.int .u32 x0, .int .u32 x1, .int .u32 x2, .bool x3] (fun _ => True) (fun _ => False) rfl rfl (PLedLib.k100_mkM _ _ _ _) (fun _ h => h.elim) (fun _ _ => trivial) (Kd.R_mono Y.out.2.1 (fun _ _ => trivial)) Y.out.1 Y.out.1.size ?hl ?_)
   case hl => have h := Y.out.2.2.2; exact Nat.le_trans (Nat.mul_le_mul_right _ (Nat.add_le_add_right h 1)) (by omega)
   intro v1 w3 hR2 hB2 hg2 hat2
   have hm : RB w3 w2.heap.size v1 _ := Kd.R_mono (Kd.R_tight (by rfl) hR2) (fun k hk => hk.symm)
   have V := Aside0.mk (And.intro hm hB2)
   clear hR2 hB2 hg2 hat2 hm
   go_wp2
   go_roundg (n - (j + 1))
   case measure => omega
   case rel => exact ⟨j + 1, rfl, by go_num, by omega, V.out.2, by rw [Y.out.2.2.1]; exact V.out.1⟩
 ·have hlt' : ¬ (j : Int) < (n : Int) := by omega
  have htk : bx.take j = bx := List.take_of_length_le (by rw [← H.out.2.2.2.2.2.2.2.2.1]; omega)
  rw [htk] at hR
  obtain ⟨Ag, cg, rfl⟩ := Kd.R_slice hR
  have hgl : (onN bx i).length ≤ bx.length := List.length_filter_le _ _
  obtain ⟨ng, hng⟩ : ∃ ng, (onN bx i).length = ng := ⟨_, rfl⟩
  rw [hng] at hR hgl ⊢
  have k0 := blk_below Z.out.1 hBj
  have k1 := blk_below Z.out.2.1 hBj
  have kz := blk_below Z.out.2.2.1 hBj
  have f0 := blk_frozen k0 0
  have f1 := blk_frozen k0 1
  have f2 := blk_frozen k0 2
  have p0 := (blk_cell k0 0).trans rfl
  have p1 := (blk_cell k0 1).trans rfl
  have p2 := (blk_cell k0 2).trans rfl
  have m0 := (blk_cell kz 0).trans rfl
  have m1 := (blk_cell kz 1).trans rfl
  have m2 := (blk_cell kz 2).trans rfl
  have hsj := hBj.size
  have hz7 := Z.out.2.2.2.2.2.2
  obtain ⟨w3, hw3⟩ : ∃ w3, ((wr.setCell ⟨w.heap.size, 0, none⟩ (.int .i64 u0)).setCell ⟨w.heap.size, 1, none⟩ (.int .i64 u1)).setCell ⟨w.heap.size, 2, none⟩ (.slice A2 n2 c2) = w3 := ⟨_, rfl⟩
  have hB3 : But (fun k => k = w.heap.size) wr w3 := by rw [← hw3]; exact but3T (But.refl (fun k => k = w.heap.size) wr) (q := w.heap.size) rfl _ _ _
  have k03 : w3.heap[w.heap.size]? = some (.cells #[.int .i64 u0, .int .i64 u1, .slice A2 n2 c2, .slice A n c, .int .u32 last] LT (0, 0)) := by
   have e0 : (wr.setCell ⟨w.heap.size, 0, none⟩ (.int .i64 u0)).heap[w.heap.size]? = some (.cells #[.int .i64 u0, .int .i64 u1, .slice An nn cn, .slice A n c, .int .u32 last] LT (0, 0)) := by simpa using blk_set k0 0 (.int .i64 u0)
   have e1 : ((wr.setCell ⟨w.heap.size, 0, none⟩ (.int .i64 u0)).setCell ⟨w.heap.size, 1, none⟩ (.int .i64 u1)).heap[w.heap.size]? = some (.cells #[.int .i64 u0, .int .i64 u1, .slice An nn cn, .slice A n c, .int .u32 last] LT (0, 0)) := by simpa using blk_set e0 1 (.int .i64 u1)
   rw [← hw3]; simpa using blk_set e1 2 (.slice A2 n2 c2)
  have k13 := hB3.heap k1 (by omega)
  have hxo := H.out.2.2.2.2.2.1
  have X3 : RB w3 wB.heap.size (.slice A n c) bx := Kd.R_step (Kd.R_below Z.out.2.2.2.1 hBj) (fun k hk hlt => hB3.block k hlt (by have := Kd.R_lt H.out.2.2.2.2.1 k hk; have := XLT.out k hk; omega))
  have G3 : RB w3 w2.heap.size (.slice Ag ng cg) (onN bx i) := Kd.R_step hR (fun k hk hlt => hB3.block k hlt (by have := Kd.R_base hR k hk; omega))
  have N3 : RNd w3 wB.heap.size _ (.slice A2 n2 c2) (less ns i) := Kd.R_step (Kd.R_below Z.out.2.2.2.2.1 hBj) (fun k hk hlt => hB3.block k hlt (by rcases hk with hk | hk <;> omega))
  have WC := dwithout bx (onN bx i) A Ag c cg w3 (Kd.R_reads' X3).2.2 (Kd.R_reads' G3).2.2 (by rw [← H.out.2.2.2.2.2.2.2.2.1]; omega) (by rw [hng]; have := H.out.2.2.2.2.2.2.2.2.1; omega)
  rw [hng, ← H.out.2.2.2.2.2.2.2.2.1, without_left (g := onN bx i) H.out.2.2.2.2.2.2.2.1 (fun z hz => (List.mem_filter.1 hz).1), left_on] at WC
  have WC := Aside0.mk WC
  have V := Aside0.mk (And.intro hBj (And.intro k03 (And.intro k13 (And.intro G3 (And.intro N3 (And.intro hB3 (And.intro hng (Kd.R_reads' G3).2.1)))))))
  have HW3 := Aside0.mk hw3
  clear hBj hR htk k0 k1 kz hw3 hB3 k13 X3 G3 N3 hng hgl hxo
  go_upto_region 11 with (fail)
  rw [HW3.out]
  have q3 := (blk_cell k03 3).trans rfl
  clear f0 f1 f2 p0 p1 p2 m0 m1 m2 k03 c3
  go_wp2_with fail
  refine WC.out.mono ?_
  rintro e w4 ⟨vb, rfl, hRb, hb4⟩
  obtain ⟨Ab, cb, rfl⟩ := Kd.R_slice hRb
  obtain ⟨lb, hlb⟩ : ∃ lb, (offN bx i).length = lb := ⟨_, rfl⟩
  rw [hlb] at hRb ⊢
  have k0 := blk_below V.out.2.1 hb4
  have k1 := blk_below V.out.2.2.1 hb4
  have f3 := blk_frozen k0 3
  have p3 := (blk_cell k0 3).trans rfl
  obtain ⟨w5, hw5⟩ : ∃ w5, w4.setCell ⟨w.heap.size, 3, none⟩ (.slice Ab lb cb) = w5 := ⟨_, rfl⟩
  have k05 : w5.heap[w.heap.size]? = some (.cells #[.int .i64 u0, .int .i64 u1, .slice A2 n2 c2, .slice Ab lb cb, .int .u32 last] LT (0, 0)) := by rw [← hw5]; simpa using blk_set k0 3 (.slice Ab lb cb)
  have hB5 : But (fun k => k = w.heap.size) w4 w5 := by rw [← hw5]; exact (But.refl (fun k => k = w.heap.size) w4).setCell (b := w.heap.size) rfl 3 _
  have k15 := hB5.heap k1 (by omega)
  have U := Aside0.mk (And.intro hRb (And.intro hb4 (And.intro hB5 k15)))
  have HW5 := Aside0.mk hw5
  have hs4 := hb4.size
  have hs3 := V.out.2.2.2.2.2.1.size
  clear hRb hlb hb4 q3 k0 k1 WC hw5 hB5
  dsimp only
  go_upto_region 12 with (fail)
  rw [HW5.out]
  have q0 := (blk_cell k05 0).trans rfl
  have q1 := (blk_cell k05 1).trans rfl
  have q2 := (blk_cell k05 2).trans rfl
  have q3 := (blk_cell k05 3).trans rfl
  have q4 := (blk_cell k05 4).trans rfl
  have r0 := (blk_cell k15 0).trans rfl
  have r1 := (blk_cell k15 1).trans rfl
  have r2 := (blk_cell k15 2).trans rfl
  have r3 := (blk_cell k15 3).trans rfl
  have r4 := (blk_cell k15 4).trans rfl
  have g0 := blk_frozen k15 0
  have g1 := blk_frozen k15 1
  have g2 := blk_frozen k15 2
  have g3 := blk_frozen k15 3
  have g4 := blk_frozen k15 4
  clear f3 p3 k05 k15
  go_wp2
  have z0 := set5 (b0 := .int .i64 u0) (b1 := .int .i64 u1) (b2 := .slice A2 n2 c2) (b3 := .slice Ab lb cb) (b4 := .int .u32 last) U.out.2.2.2
  have y0 := (blk_cell z0 0).trans rfl
  have y1 := (blk_cell z0 1).trans rfl
  have y2 := (blk_cell z0 2).trans rfl
  have y3 := (blk_cell z0 3).trans rfl
  have y4 := (blk_cell z0 4).trans rfl
  have FIN := Aside0.mk (but5T ((But.refl (fun k => k = w.heap.size ∨ k = w.heap.size + 1) w4).trans (U.out.2.2.1.mono fun k h => .inl h)) (q := w.heap.size + 1) (.inr rfl) (.int .i64 u0) (.int .i64 u1) (.slice A2 n2 c2) (.slice Ab lb cb) (.int .u32 last))
  refine bodyPost_ret (v := .tuple #[dv u0 u1 (.slice A2 n2 c2) (.slice Ab lb cb) last, .slice Ag ng cg, .int .i64 0]) (by simp [results, Tryz.results61, go_sem, dv, y0, y1, y2, y3, y4]) rfl ⟨_, _, _, _, _, rfl, ?_, ?_, ?_, V.out.2.2.2.2.2.2.1, V.out.2.2.2.2.2.2.2, ?_, ?_⟩
  ·exact Kd.R_mono (Kd.R_step (Kd.R_below V.out.2.2.2.2.1 U.out.2.1) (fun k hk hlt => FIN.out.block k hlt (by rcases hk with hk | hk <;> omega))) (fun k hk => hk.elim (fun h => .inl h.1) (fun h => .inr (by omega)))
  ·exact Kd.R_lower (Kd.R_step U.out.1 (fun k hk hlt => FIN.out.block k hlt (by have := Kd.R_base U.out.1 k hk; omega))) (by omega)
  ·intro T w'' hT hbT
   have h := (Kd.R_reads' (Kd.R_step (Kd.R_step (Kd.R_below V.out.2.2.2.1 U.out.2.1) (fun k hk hlt => FIN.out.block k hlt (by have := Kd.R_base V.out.2.2.2.1 k hk; omega))) (fun k hk hlt => hbT.block k hlt (fun ht => by have := hT k ht; have := Kd.R_base V.out.2.2.2.1 k hk; omega)))).2.2
   rw [V.out.2.2.2.2.2.2.1] at h
   exact h
  ·exact fun k hk => by have := Kd.R_base U.out.1 k hk; omega
  ·have h1 := (But.of_below H.out.1 (T := okn)).trans (Z.out.2.2.2.2.2.1.mono fun k h => h.1)
   have h2 := h1.trans (But.of_below V.out.1)
   have h3 := but_drop h2 V.out.2.2.2.2.2.1 (fun k hk => by omega)
   have h4 := but_drop (h3.trans (But.of_below U.out.2.1)) FIN.out (fun k hk => by omega)
   exact h4
theorem dgive_bad (u0 u1 : Int) (An A : Option Addr) (nn cn n c : Nat) (last o m : Int) (s : Bool) (w : World) (hm : mayc o m = 2) :
  Calls Tryz.prog 41 #[dv u0 u1 (.slice An nn cn) (.slice A n c) last, .int .u32 o, .bool s, .int .i64 m] w fun e w' => e = .returned (.tuple #[dv u0 u1 (.slice An nn cn) (.slice A n c) last, .slice none 0 0, .int .i64 2]) ∧ Below w.heap.size w w' := by
 have hu118 := Tryz.underlying37
 have B := dbad o m
 rw [hm] at B
 have B := Aside0.mk B
 obtain ⟨W0, hW0⟩ : ∃ W0, (w.alloc (db u0 u1 (.slice An nn cn) (.slice A n c) last)).alloc (db 0 0 (.slice none 0 0) (.slice none 0 0) 0) = W0 := ⟨_, rfl⟩
 have hB0 : Below w.heap.size w W0 := by rw [← hW0]; exact below_alloc (below_alloc (Below.refl _ _) _) _
 have k0 : W0.heap[w.heap.size]? = some (.cells #[.int .i64 u0, .int .i64 u1, .slice An nn cn, .slice A n c, .int .u32 last] LT (0, 0)) := by rw [← hW0]; exact blk_alloc (blk_new w _) _
 have k1 : W0.heap[w.heap.size + 1]? = some (.cells #[.int .i64 0, .int .i64 0, .slice none 0 0, .slice none 0 0, .int .u32 0] LT (0, 0)) := by
  have := blk_new (w.alloc (db u0 u1 (.slice An nn cn) (.slice A n c) last)) (db 0 0 (.slice none 0 0) (.slice none 0 0) 0)
  rw [World.size_alloc] at this
  rw [← hW0]; exact this
 have H := Aside0.mk (And.intro hB0 (And.intro k0 (And.intro k1 hW0)))
 unfold dv
 clear hm hB0 k0 k1 hW0
 go_enter Tryz.func41, Tryz.ntmps41
 go_wp2_with fail
 rw [H.out.2.2.2]
 refine (B.out W0).mono ?_
 rintro e wz ⟨rfl, hz⟩
 obtain rfl := hz.symm
 clear hz B
 have q0 := (blk_cell H.out.2.1 0).trans rfl
 have q1 := (blk_cell H.out.2.1 1).trans rfl
 have q2 := (blk_cell H.out.2.1 2).trans rfl
 have q3 := (blk_cell H.out.2.1 3).trans rfl
 have q4 := (blk_cell H.out.2.1 4).trans rfl
 have r0 := (blk_cell H.out.2.2.1 0).trans rfl
 have r1 := (blk_cell H.out.2.2.1 1).trans rfl
 have r2 := (blk_cell H.out.2.2.1 2).trans rfl
 have r3 := (blk_cell H.out.2.2.1 3).trans rfl
 have r4 := (blk_cell H.out.2.2.1 4).trans rfl
 have g0 := blk_frozen H.out.2.2.1 0
 have g1 := blk_frozen H.out.2.2.1 1
 have g2 := blk_frozen H.out.2.2.1 2
 have g3 := blk_frozen H.out.2.2.1 3
 have g4 := blk_frozen H.out.2.2.1 4
 dsimp only
 go_wp2
 have z0 := set5 (b0 := .int .i64 u0) (b1 := .int .i64 u1) (b2 := .slice An nn cn) (b3 := .slice A n c) (b4 := .int .u32 last) H.out.2.2.1
 have y0 := (blk_cell z0 0).trans rfl
 have y1 := (blk_cell z0 1).trans rfl
 have y2 := (blk_cell z0 2).trans rfl
 have y3 := (blk_cell z0 3).trans rfl
 have y4 := (blk_cell z0 4).trans rfl
 refine bodyPost_ret (v := .tuple #[dv u0 u1 (.slice An nn cn) (.slice A n c) last, .slice none 0 0, .int .i64 2]) (by simp [results, Tryz.results41, go_sem, dv, y0, y1, y2, y3, y4]) rfl ⟨rfl, ?_⟩
 have h2 := but5 (But.of_below (T := fun _ => False) H.out.1) (Nat.le_succ w.heap.size) (.int .i64 u0) (.int .i64 u1) (.slice An nn cn) (.slice A n c) (.int .u32 last)
 exact But.belowF h2
theorem dgive_full (u0 u1 : Int) (An A : Option Addr) (nn cn n c : Nat) (last o m : Int) (s : Bool) (ns : List Nd) (bx : List Bx) (w : World) (hD : DocAt w An cn A c ns bx) (hG : NodeT.Good u0 u1 ns) (hnn : ns.length = nn) (hn : bx.length = n) (hl : bx.length ≤ 1000000) (hm : mayc o m = 0) (hf : freeN u0 u1 ns bx < m) :
  Calls Tryz.prog 41 #[dv u0 u1 (.slice An nn cn) (.slice A n c) last, .int .u32 o, .bool s, .int .i64 m] w fun e w' => e = .returned (.tuple #[dv u0 u1 (.slice An nn cn) (.slice A n c) last, .slice none 0 0, .int .i64 6]) ∧ Below w.heap.size w w' := by
 have hu118 := Tryz.underlying37
 have B := dbad o m
 rw [hm] at B
 have B := Aside0.mk B
 obtain ⟨W0, hW0⟩ : ∃ W0, (w.alloc (db u0 u1 (.slice An nn cn) (.slice A n c) last)).alloc (db 0 0 (.slice none 0 0) (.slice none 0 0) 0) = W0 := ⟨_, rfl⟩
 have hB0 : Below w.heap.size w W0 := by rw [← hW0]; exact below_alloc (below_alloc (Below.refl _ _) _) _
 have k0 : W0.heap[w.heap.size]? = some (.cells #[.int .i64 u0, .int .i64 u1, .slice An nn cn, .slice A n c, .int .u32 last] LT (0, 0)) := by rw [← hW0]; exact blk_alloc (blk_new w _) _
 have k1 : W0.heap[w.heap.size + 1]? = some (.cells #[.int .i64 0, .int .i64 0, .slice none 0 0, .slice none 0 0, .int .u32 0] LT (0, 0)) := by
  have := blk_new (w.alloc (db u0 u1 (.slice An nn cn) (.slice A n c) last)) (db 0 0 (.slice none 0 0) (.slice none 0 0) 0)
  rw [World.size_alloc] at this
  rw [← hW0]; exact this
 have OF := dfree u0 u1 ns An cn bx A c last W0 (hD.below hB0) hG hl
 obtain ⟨q, hq⟩ : ∃ q, freeN u0 u1 ns bx = q := ⟨_, rfl⟩
 rw [hq] at hf OF
 rw [hn, hnn] at OF
 unfold dv at OF
 have OF := Aside0.mk OF
 have t1 : decide (q < m) = true := decide_eq_true hf
 have H := Aside0.mk (And.intro hB0 (And.intro k0 (And.intro k1 hW0)))
 unfold dv
 clear hD hG hn hnn hm hB0 k0 k1 hW0 hq
 go_enter Tryz.func41, Tryz.ntmps41
 go_wp2_with fail
 rw [H.out.2.2.2]
 refine (B.out W0).mono ?_
 rintro e wz ⟨rfl, hz⟩
 obtain rfl := hz.symm
 clear hz B
 have q0 := (blk_cell H.out.2.1 0).trans rfl
 have q1 := (blk_cell H.out.2.1 1).trans rfl
 have q2 := (blk_cell H.out.2.1 2).trans rfl
 have q3 := (blk_cell H.out.2.1 3).trans rfl
 have q4 := (blk_cell H.out.2.1 4).trans rfl
 dsimp only
 go_wp2_with fail
 refine OF.out.mono ?_
 rintro e w1 ⟨rfl, hb1⟩
 have X := Aside0.mk hb1
 have k0 := blk_below H.out.2.1 hb1
 have k1 := blk_below H.out.2.2.1 hb1
 have K1 := Aside0.mk k1
 clear hb1 q0 q1 q2 q3 q4 OF
 have q0 := (blk_cell k0 0).trans rfl
 have q1 := (blk_cell k0 1).trans rfl
 have q2 := (blk_cell k0 2).trans rfl
 have q3 := (blk_cell k0 3).trans rfl
 have q4 := (blk_cell k0 4).trans rfl
 have r0 := (blk_cell k1 0).trans rfl
 have r1 := (blk_cell k1 1).trans rfl
 have r2 := (blk_cell k1 2).trans rfl
 have r3 := (blk_cell k1 3).trans rfl
 have r4 := (blk_cell k1 4).trans rfl
 have g0 := blk_frozen k1 0
 have g1 := blk_frozen k1 1
 have g2 := blk_frozen k1 2
 have g3 := blk_frozen k1 3
 have g4 := blk_frozen k1 4
 clear k0 k1
 dsimp only
 go_wp2
 have z0 := set5 (b0 := .int .i64 u0) (b1 := .int .i64 u1) (b2 := .slice An nn cn) (b3 := .slice A n c) (b4 := .int .u32 last) K1.out
 have y0 := (blk_cell z0 0).trans rfl
 have y1 := (blk_cell z0 1).trans rfl
 have y2 := (blk_cell z0 2).trans rfl
 have y3 := (blk_cell z0 3).trans rfl
 have y4 := (blk_cell z0 4).trans rfl
 refine bodyPost_ret (v := .tuple #[dv u0 u1 (.slice An nn cn) (.slice A n c) last, .slice none 0 0, .int .i64 6]) (by simp [results, Tryz.results41, go_sem, dv, y0, y1, y2, y3, y4]) rfl ⟨rfl, ?_⟩
 exact But.belowF (but5 (But.of_below (T := fun _ => False) (below_then H.out.1 H.out.1.size X.out)) (Nat.le_succ w.heap.size) (.int .i64 u0) (.int .i64 u1) (.slice An nn cn) (.slice A n c) (.int .u32 last))
abbrev RX (w : World) (N : Nat) (ok : Nat → Prop) (v : Value) (xs : List Bx) : Prop := Kd.R PLedLib.k100 100 w N ok v xs
abbrev V4 := Value × Value × Value × Value
def JB (N : Nat) (Ws : World) (x : Bx) (tk : List Bx) (b : V4) (l : Nat → Bool) (w' : World) : Prop :=
  Below N Ws w' ∧
    (if l 6 = true then RX w' N (fun _ => True) b.2.2.2 (tk ++ [x])
     else (l 5 = true → RX w' N (fun k => b.2.2.1.ownBlock = some k) b.2.2.1 [x]) ∧
          (if l 3 = true then RX w' N (fun k => l 5 = true → b.2.2.1.ownBlock ≠ some k) b.2.1 tk
           else l 0 = true → RX w' N (fun k => l 5 = true → b.2.2.1.ownBlock ≠ some k) b.1 []))
section
variable {N : Nat} {Ws w' w1 : World} {x : Bx} {tk : List Bx} {b : V4} {l : Nat → Bool}
theorem JB.start (h : Below N Ws w') : JB N Ws x tk b (fun _ => false) w' := by
 unfold JB
 simp [h]
theorem JB.below (h : JB N Ws x tk b l w') : Below N Ws w' := h.1
theorem JB.up (h : JB N Ws x tk b l w') (i : Nat) (hi : i ≠ 0 ∧ i ≠ 3 ∧ i ≠ 5 ∧ i ≠ 6) : JB N Ws x tk b (XInv.up l i) w' := by
 have e : ∀ j, j ≠ i → XInv.up l i j = l j := fun j hj => by unfold XInv.up; rw [if_neg hj]
 unfold JB at *
 rw [e 6 (Ne.symm hi.2.2.2), e 5 (Ne.symm hi.2.2.1), e 3 (Ne.symm hi.2.1), e 0 (Ne.symm hi.1)]
 exact h
theorem JB.s0 (h : JB N Ws x tk b l w') (h6 : l 6 = false) (h3 : l 3 = false) (v : Value) (hb : Below w'.heap.size w' w1) (hR : RX w1 w'.heap.size (fun _ => True) v []) (hN : N ≤ w'.heap.size) : JB N Ws x tk (v, b.2) (XInv.up l 0) w1 := by
 have e : ∀ j, j ≠ 0 → XInv.up l 0 j = l j := fun j hj => by unfold XInv.up; rw [if_neg hj]
 unfold JB at *
 rw [e 6 (by decide), e 5 (by decide), e 3 (by decide)]
 rw [if_neg (by rw [h6]; decide), if_neg (by rw [h3]; decide)] at h ⊢
 obtain ⟨h1, h2, h3⟩ := h
 refine ⟨h1.trans (hb.mono hN), fun h7 => Kd.R_below (h2 h7) hb, fun _ => ?_⟩
 refine Kd.R_mono (Kd.R_lower (Kd.R_bound hR) hN) (fun k hk h7 he => ?_)
 have := Kd.R_lt (h2 h7) k he
 have := hk.2.1
 omega
theorem JB.row0 (h : JB N Ws x tk b l w') (h6 : l 6 = false) (h3 : l 3 = false) (h0 : l 0 = true) : RX w' N (fun k => l 5 = true → b.2.2.1.ownBlock ≠ some k) b.1 [] := by
 unfold JB at h
 rw [if_neg (by rw [h6]; decide), if_neg (by rw [h3]; decide)] at h
 exact h.2.2 h0
theorem JB.row3 (h : JB N Ws x tk b l w') (h6 : l 6 = false) (h3 : l 3 = true) : RX w' N (fun k => l 5 = true → b.2.2.1.ownBlock ≠ some k) b.2.1 tk := by
 unfold JB at h
 rw [if_neg (by rw [h6]; decide), if_pos h3] at h
 exact h.2.2
theorem JB.row5 (h : JB N Ws x tk b l w') (h6 : l 6 = false) (h5 : l 5 = true) : RX w' N (fun k => b.2.2.1.ownBlock = some k) b.2.2.1 [x] := by
 unfold JB at h
 rw [if_neg (by rw [h6]; decide)] at h
 exact h.2.1 h5
theorem JB.row6 (h : JB N Ws x tk b l w') (h6 : l 6 = true) : RX w' N (fun _ => True) b.2.2.2 (tk ++ [x]) := by
 unfold JB at h
 rw [if_pos h6] at h
 exact h.2
theorem JB.s3 (h : JB N Ws x tk b l w') (h6 : l 6 = false) (h3 : l 3 = false) (h0 : l 0 = true) (v : Value) (hR : RX w1 N (fun k => l 5 = true → b.2.2.1.ownBlock ≠ some k) v tk) (hB : Below N Ws w1) (hg : w'.grownBy w1 b.1.ownBlock) : JB N Ws x tk (b.1, v, b.2.2) (XInv.up l 3) w1 := by
 have e : ∀ j, j ≠ 3 → XInv.up l 3 j = l j := fun j hj => by unfold XInv.up; rw [if_neg hj]
 have e5 : XInv.up l 3 3 = true := by unfold XInv.up; rw [if_pos rfl]
 have r0 := h.row0 h6 h3 h0
 unfold JB at *
 rw [e 6 (by decide), e 5 (by decide), e5, e 0 (by decide)]
 rw [if_neg (by rw [h6]; decide)] at h ⊢
 rw [if_pos rfl]
 refine ⟨hB, fun h7 => Kd.R_grown (h.2.1 h7) hg (fun k hk he => ?_), hR⟩
 exact r0.1 k he.symm h7 hk
theorem JB.s5 (h : JB N Ws x tk b l w') (h6 : l 6 = false) (v : Value) (hb : Below w'.heap.size w' w1) (hR : RX w1 w'.heap.size (fun _ => True) v [x]) (hN : N ≤ w'.heap.size) : JB N Ws x tk (b.1, b.2.1, v, b.2.2.2) (XInv.up l 5) w1 := by
 have e : ∀ j, j ≠ 5 → XInv.up l 5 j = l j := fun j hj => by unfold XInv.up; rw [if_neg hj]
 have e7 : XInv.up l 5 5 = true := by unfold XInv.up; rw [if_pos rfl]
 have old : ∀ u (xs : List Bx), RX w' N (fun k => l 5 = true → b.2.2.1.ownBlock ≠ some k) u xs → RX w1 N (fun k => True → v.ownBlock ≠ some k) u xs := fun u xs hu =>
  Kd.R_mono (Kd.R_below (Kd.R_bound hu) hb) (fun k hk _ he => by have := Kd.R_base hR k he; have := hk.2.2.1; omega)
 unfold JB at *
 rw [e 6 (by decide), e7, e 3 (by decide), e 0 (by decide)]
 rw [if_neg (by rw [h6]; decide)] at h ⊢
 obtain ⟨h1, h2, h3⟩ := h
 refine ⟨h1.trans (hb.mono hN), fun _ => Kd.R_lower (Kd.R_tight (by rfl) (Kd.R_mono hR fun _ _ => trivial) |> fun hz => Kd.R_mono hz fun k hk => hk.symm) hN, ?_⟩
 split at h3
 ·rename_i h5
  rw [if_pos h5]
  exact Kd.R_mono (old _ _ h3) (fun k hk _ => hk trivial)
 ·rename_i h5
  rw [if_neg h5]
  exact fun h0 => Kd.R_mono (old _ _ (h3 h0)) (fun k hk _ => hk trivial)
theorem JB.s6 (h : JB N Ws x tk b l w') (v : Value) (hR : RX w1 N (fun _ => True) v (tk ++ [x])) (hB : Below N Ws w1) : JB N Ws x tk (b.1, b.2.1, b.2.2.1, v) (XInv.up l 6) w1 := by
 have e8 : XInv.up l 6 6 = true := by unfold XInv.up; rw [if_pos rfl]
 unfold JB
 rw [e8, if_pos rfl]
 exact ⟨hB, hR⟩
end
end Go.Proofs.YthibppfdonepoaaGreat.LedT
set_option linter.unusedVariables false
set_option linter.unusedSimpArgs false
namespace Go.Proofs.YthibppfdonepoaaGreat.LedT
open Go.RowKit Go.MapKept Go.Maps Go.ChangeMaps Go.Proofs.YthibppfdonepoaaGreat.XBut Go.Proofs.YthibppfdonepoaaGreat.XMap Go.Proofs.YthibppfdonepoaaGreat.NodeT Go.Proofs.YthibppfdonepoaaGreatW.PrintWords Go.Proofs.YthibppfdonepoaaGreatW.PrintLast
theorem but_low {T : Nat → Prop} {w0 w w' : World} {B : Nat} (h : But T w0 w) (hb : Below B w w') (hB : w0.heap.size ≤ B) : But T w0 w' :=
 ⟨hb.os.trans h.os, hb.tape.trans h.tape, hb.output.trans h.output, Nat.le_trans h.size hb.size, fun k hk hn => (hb.block k (Nat.lt_of_lt_of_le hk hB)).trans (h.block k hk hn)⟩
theorem but_or {T S : Nat → Prop} {w0 w w' : World} (h : But T w0 w) (h2 : But S w w') : But (fun k => T k ∨ S k) w0 w' := (h.mono fun _ => .inl).trans (h2.mono fun _ => .inr)
structure GD (w W0 wr : World) (wB : Nat) (u0 u1 : Int) (An A : Option Addr) (nn cn n c : Nat) (last o : Int) (s : Bool) (ns : List Nd) (bx : List Bx) (i : Nat) (Ai : Option Addr) (li ci : Nat) (vo : Value) : Prop where
 box : wr.heap[w.heap.size]? = some (.cells #[.int .i64 u0, .int .i64 u1, .slice An nn cn, .slice Ai li ci, .int .u32 (last + i)] LT (0, 0))
 res : wr.heap[w.heap.size + 1]? = some (.cells #[.int .i64 0, .int .i64 0, .slice none 0 0, .slice none 0 0, .int .u32 0] LT (0, 0))
 but : But (fun k => k = w.heap.size) W0 wr
 row : RX wr wB (fun k => (Value.slice A n c).ownBlock = some k ∨ W0.heap.size ≤ k) (.slice Ai li ci) (bx ++ grow u0 u1 ns bx last o s i)
 out : RB wr W0.heap.size vo (grow u0 u1 ns bx last o s i)
theorem dgive_ok (u0 u1 : Int) (An A : Option Addr) (nn cn n c : Nat) (last o : Int) (N : Nat) (s : Bool) (ns : List Nd) (bx : List Bx) (okn : Nat → Prop) (wB w : World) (hB : Below wB.heap.size wB w) (hN : RNd w wB.heap.size okn (.slice An nn cn) ns) (hX : RB w wB.heap.size (.slice A n c) bx) (hG : LG u0 u1 ns bx last) (hla : last ≤ 4000000000) (hm : mayc o N = 0) (hf : (N : Int) ≤ freeN u0 u1 ns bx) :
  Calls Tryz.prog 41 #[dv u0 u1 (.slice An nn cn) (.slice A n c) last, .int .u32 o, .bool s, .int .i64 N] w fun e w' => ∃ vb' vo, e = .returned (.tuple #[dv u0 u1 (.slice An nn cn) vb' (last + N), vo, .int .i64 0]) ∧ RX w' wB.heap.size (fun k => (Value.slice A n c).ownBlock = some k ∨ w.heap.size ≤ k) vb' (bx ++ grow u0 u1 ns bx last o s N) ∧ RB w' w.heap.size vo (grow u0 u1 ns bx last o s N) ∧ Below w.heap.size w w' := by
 have hu118 := Tryz.underlying37
 have hu113 := Tryz.underlying100
 have B := dbad o N
 rw [hm] at B
 have B := Aside0.mk B
 obtain ⟨hnn, hncn, _⟩ := Kd.R_reads' hN
 obtain ⟨hnb, hnc, _⟩ := Kd.R_reads' hX
 have hbl := hG.len
 obtain ⟨W0, hW0⟩ : ∃ W0, (w.alloc (db u0 u1 (.slice An nn cn) (.slice A n c) last)).alloc (db 0 0 (.slice none 0 0) (.slice none 0 0) 0) = W0 := ⟨_, rfl⟩
 have hB0 : Below w.heap.size w W0 := by rw [← hW0]; exact below_alloc (below_alloc (Below.refl _ _) _) _
 have k0 : W0.heap[w.heap.size]? = some (.cells #[.int .i64 u0, .int .i64 u1, .slice An nn cn, .slice A n c, .int .u32 last] LT (0, 0)) := by rw [← hW0]; exact blk_alloc (blk_new w _) _
 have k1 : W0.heap[w.heap.size + 1]? = some (.cells #[.int .i64 0, .int .i64 0, .slice none 0 0, .slice none 0 0, .int .u32 0] LT (0, 0)) := by
  have := blk_new (w.alloc (db u0 u1 (.slice An nn cn) (.slice A n c) last)) (db 0 0 (.slice none 0 0) (.slice none 0 0) 0)
  rw [World.size_alloc] at this
  rw [← hW0]; exact this
 have hW0s : w.heap.size + 1 < W0.heap.size := blk_lt k1
 have hXl := fun k hk => Kd.R_lt hX k hk
 have DN := fun (wr : World) (hb : But (fun k => k = w.heap.size) W0 wr) => (show RNd wr wB.heap.size (fun k => okn k ∧ k < w.heap.size) (.slice An nn cn) ns from Kd.R_step (Kd.R_below (Kd.R_mono (Kd.R_bound hN) (fun k hk => ⟨hk.1, hk.2.2.1⟩)) hB0) (fun k hk hlt => hb.block k hlt (by omega)))
 have OF := dfree u0 u1 ns An cn bx A c last W0 ⟨by rw [← hnn]; exact (Kd.R_reads' (Kd.R_below hN hB0)).1 ▸ (Kd.R_reads' (Kd.R_below hN hB0)).2.2, by omega, (Kd.R_reads' (Kd.R_below hX hB0)).2.2, by omega⟩ hG.nodes (by omega)
 obtain ⟨q, hq⟩ : ∃ q, freeN u0 u1 ns bx = q := ⟨_, rfl⟩
 rw [hq] at OF
 rw [← hnb, ← hnn] at OF
 unfold dv at OF
 have OF := Aside0.mk OF
 have t1 : decide (q < (N : Int)) = false := decide_eq_false (by omega)
 have hN2 : (N : Int) ≤ 131072 := by omega
 have G0 : GD w W0 W0 wB.heap.size u0 u1 An A nn cn n c last o s ns bx 0 A n c (.slice none 0 0) := ⟨by simpa using k0, k1, But.refl _ _, by simpa [grow] using (Kd.R_mono (Kd.R_below hX hB0) (fun k hk => .inl hk) : RX W0 wB.heap.size (fun k => (Value.slice A n c).ownBlock = some k ∨ W0.heap.size ≤ k) (.slice A n c) bx), Kd.R_nil _ _ _ _ _⟩
 have H := Aside0.mk (And.intro hB0 (And.intro G0 (And.intro DN (And.intro hW0 (And.intro hG (And.intro hq (And.intro hnn (And.intro hnb (And.intro hla (And.intro hbl (And.intro hXl (And.intro hncn hB))))))))))))
 have o0 := (mayc_zero (o := o) (n := (N : Int)) (by rw [hm]; decide)).1
 have HO := Aside0.mk (And.intro o0 hf)
 have q0 := (blk_cell k0 0).trans rfl
 have q1 := (blk_cell k0 1).trans rfl
 have q2 := (blk_cell k0 2).trans rfl
 have q3 := (blk_cell k0 3).trans rfl
 have q4 := (blk_cell k0 4).trans rfl
 unfold dv
 clear hB hN hX hG hla hm hf hnn hncn hnb hnc hbl hB0 k0 k1 DN hq G0 hXl hW0 o0
 go_enter Tryz.func41, Tryz.ntmps41
 go_wp2_with fail
 rw [H.out.2.2.2.1]
 refine (B.out W0).mono ?_
 rintro e wz ⟨rfl, hz⟩
 obtain rfl := hz.symm
 clear hz B
 dsimp only
 go_wp2_with fail
 refine OF.out.mono ?_
 rintro e w1 ⟨rfl, hb1⟩
 have X := Aside0.mk hb1
 clear hb1 q0 q1 q2 q3 q4 OF
 dsimp only
 go_wp2_with fail
 go_loopg [12, 13] N (fun kk v12 v13 wr => ∃ (i : Nat) (Ai : Option Addr) (li ci : Nat), kk = N - i ∧ v13 = .int .i64 i ∧ i ≤ N ∧ GD w W0 wr wB.heap.size u0 u1 An A nn cn n c last o s ns bx i Ai li ci v12)
 case atStart => exact ⟨0, A, n, c, rfl, rfl, Nat.zero_le _, ⟨blk_below H.out.2.1.box X.out, blk_below H.out.2.1.res X.out, But.of_below X.out, Kd.R_below H.out.2.1.row X.out, Kd.R_nil _ _ _ _ _⟩⟩
 obtain ⟨i, Ai, li, ci, rfl, rfl, hi, hS⟩ := hrel
 by_cases hlt : i < N
 ·have hlt' : (i : Int) < (N : Int) := by omega
  have hli := (Kd.R_reads' hS.row).1
  rw [List.length_append, grow_len] at hli
  have hGi := H.out.2.2.2.2.1.grow o s HO.out.1 i (by have := HO.out.2; omega)
  have DA : ∀ w', Below wr.heap.size wr w' → DocAt w' An cn Ai ci ns (bx ++ grow u0 u1 ns bx last o s i) := fun w' hb => by
   have hN' := Kd.R_reads' (H.out.2.2.1 w' (hS.but.trans (But.of_below hb)))
   have hR' := Kd.R_reads' (Kd.R_below hS.row hb)
   exact ⟨hN'.1 ▸ hN'.2.2, by have := hN'.1; have := hN'.2.1; omega, hR'.1 ▸ hR'.2.2, by have := hR'.1; have := hR'.2.1; omega⟩
  have PC := fun w' (hb : Below wr.heap.size wr w') => dplace u0 u1 ns An cn (bx ++ grow u0 u1 ns bx last o s i) Ai ci (last + i) w' (DA w' hb) H.out.2.2.2.2.1.nodes (by rw [List.length_append, grow_len]; have := H.out.2.2.2.2.2.2.2.2.2.1; omega)
  unfold dv at PC
  have hlen2 : (bx ++ grow u0 u1 ns bx last o s i).length = li := by rw [List.length_append, grow_len]; exact hli.symm
  rw [hlen2, ← H.out.2.2.2.2.2.2.1] at PC
  obtain ⟨pl, hpl⟩ : ∃ pl, placeN u0 u1 ns (bx ++ grow u0 u1 ns bx last o s i) = pl := ⟨_, rfl⟩
  rw [hpl] at PC
  have hgs : grow u0 u1 ns bx last o s (i + 1) = grow u0 u1 ns bx last o s i ++ [⟨last + i + 1, pl, o, s⟩] := by rw [grow, hpl]
  obtain ⟨l0, hl0⟩ : ∃ l0, last + (i : Int) = l0 := ⟨_, rfl⟩
  obtain ⟨l1, hl1⟩ : ∃ l1, l0 + 1 = l1 := ⟨_, rfl⟩
  have hlow := H.out.2.2.2.2.1.low
  have hla := H.out.2.2.2.2.2.2.2.2.1
  have hw1 : IntKind.u32.wrap (l0 + 1) = l1 := by rw [IntKind.wrap_u32]; omega
  rw [hl0] at PC hgs
  rw [hl1] at hgs
  have kb := hS.box
  rw [hl0] at kb
  have PC := Aside0.mk PC
  have Y := Aside0.mk (And.intro hS (And.intro hgs (And.intro hl0 (And.intro hl1 (And.intro kb (And.intro hlen2 hli))))))
  clear hS hgs hl0 hl1 hli hGi DA hlen2 hpl hlow hla kb
  go_upto_region 10 with (fail)
  refine XInv.region_tab [9] [[], [0], [1], [], [3], [], [], [2, 4, 5, 6], [], [8, 7, 4, 0, 1, 2, 3, 4, 5, 6, 7, 8]] (fun bq jq => match jq with
    | 0 => .pointer (some ⟨w.heap.size, 4, none⟩)
    | 1 => .int .u32 l0
    | 2 => .int .u32 l1
    | 3 => .agg #[.int .i64 u0, .int .i64 u1, .slice An nn cn, .slice Ai li ci, .int .u32 l0]
    | 4 => .int .u32 pl
    | 5 => .int .u32 o
    | 6 => .bool s
    | 7 => .agg #[.int .u32 l1, .int .u32 pl, .int .u32 o, .bool s]
    | 8 => .pointer (some ⟨bq, 0, none⟩)
    | _ => undef)
    (fun bq l w' => if l 8 = true then (Below wr.heap.size wr w' ∧ wr.heap.size ≤ bq ∧ w'.heap[bq]? = some (.cells #[.int .u32 0, .int .u32 0, .int .u32 0, .bool false] 100 (0, 0))) else Below wr.heap.size wr w')
    (by kernel_rfl) rfl (by kernel_rfl) (by kernel_rfl) (by kernel_rfl) ⟨(0 : Nat), (by rw [if_neg (by simp)]; exact below_drew (Below.refl _ _))⟩ ?_ ?_
  ·intro i1 hi1 hds oi hoi bq lb w' hW hlb hcl hneed hclo
   have hi1 : i1 < 10 := hi1
   have hcs : i1 = 0 ∨ i1 = 1 ∨ i1 = 2 ∨ i1 = 3 ∨ i1 = 4 ∨ i1 = 5 ∨ i1 = 6 ∨ i1 = 7 ∨ i1 = 8 ∨ i1 = 9 := by omega
   clear hi1
   rcases hcs with rfl | rfl | rfl | rfl | rfl | rfl | rfl | rfl | rfl | rfl
   all_goals simp only [List.getElem?_toArray, List.getElem?_cons_succ, List.getElem?_cons_zero, Option.some.injEq] at hoi
   all_goals subst hoi
   ·refine XInv.yes_tab [] (by kernel_rfl) ?_
    cases hs0 : lb 8
    case false =>
     rw [if_neg (by rw [hs0]; decide)] at hW
     have kx := blk_below Y.out.2.2.2.2.1 hW
     have q0 := (blk_cell kx 0).trans rfl
     have q1 := (blk_cell kx 1).trans rfl
     have q2 := (blk_cell kx 2).trans rfl
     have q3 := (blk_cell kx 3).trans rfl
     have q4 := (blk_cell kx 4).trans rfl
     clear hcl hneed hclo
     intro Q2 K2 hK2
     simp only [XInv.puts, XPrint.pw]
     go_simp
     exact hK2.out (.pointer (some ⟨w.heap.size, 4, none⟩)) w' ⟨bq, rfl, fun _ _ _ => rfl, (by rw [if_neg (by simp [XInv.up, hs0])]; exact hW)⟩
    case true =>
     rw [if_pos hs0] at hW
     have kx := blk_below Y.out.2.2.2.2.1 hW.1
     have q0 := (blk_cell kx 0).trans rfl
     have q1 := (blk_cell kx 1).trans rfl
     have q2 := (blk_cell kx 2).trans rfl
     have q3 := (blk_cell kx 3).trans rfl
     have q4 := (blk_cell kx 4).trans rfl
     clear hcl hneed hclo
     intro Q2 K2 hK2
     simp only [XInv.puts, XPrint.pw]
     go_simp
     exact hK2.out (.pointer (some ⟨w.heap.size, 4, none⟩)) w' ⟨bq, rfl, fun _ _ _ => rfl, (by rw [if_pos (by simp [XInv.up, hs0])]; exact hW)⟩
   ·refine XInv.yes_tab [(32, 0)] (by kernel_rfl) ?_
    cases hs0 : lb 8
    case false =>
     rw [if_neg (by rw [hs0]; decide)] at hW
     have kx := blk_below Y.out.2.2.2.2.1 hW
     have q0 := (blk_cell kx 0).trans rfl
     have q1 := (blk_cell kx 1).trans rfl
     have q2 := (blk_cell kx 2).trans rfl
     have q3 := (blk_cell kx 3).trans rfl
     have q4 := (blk_cell kx 4).trans rfl
     clear hcl hneed hclo
     intro Q2 K2 hK2
     simp only [XInv.puts, XPrint.pw]
     go_simp
     exact hK2.out (.int .u32 l0) w' ⟨bq, rfl, fun _ _ _ => rfl, (by rw [if_neg (by simp [XInv.up, hs0])]; exact hW)⟩
    case true =>
     rw [if_pos hs0] at hW
     have kx := blk_below Y.out.2.2.2.2.1 hW.1
     have q0 := (blk_cell kx 0).trans rfl
     have q1 := (blk_cell kx 1).trans rfl
     have q2 := (blk_cell kx 2).trans rfl
     have q3 := (blk_cell kx 3).trans rfl
     have q4 := (blk_cell kx 4).trans rfl
     clear hcl hneed hclo
     intro Q2 K2 hK2
     simp only [XInv.puts, XPrint.pw]
     go_simp
     exact hK2.out (.int .u32 l0) w' ⟨bq, rfl, fun _ _ _ => rfl, (by rw [if_pos (by simp [XInv.up, hs0])]; exact hW)⟩
   ·refine XInv.yes_tab [(33, 1)] (by kernel_rfl) ?_
    cases hs0 : lb 8
    case false =>
     rw [if_neg (by rw [hs0]; decide)] at hW
     have kx := blk_below Y.out.2.2.2.2.1 hW
     have q0 := (blk_cell kx 0).trans rfl
     have q1 := (blk_cell kx 1).trans rfl
     have q2 := (blk_cell kx 2).trans rfl
     have q3 := (blk_cell kx 3).trans rfl
     have q4 := (blk_cell kx 4).trans rfl
     clear hcl hneed hclo
     intro Q2 K2 hK2
     simp only [XInv.puts, XPrint.pw]
     go_simp
     exact hK2.out (.int .u32 l1) w' ⟨bq, rfl, fun _ _ _ => rfl, (by rw [if_neg (by simp [XInv.up, hs0])]; exact hW)⟩
    case true =>
     rw [if_pos hs0] at hW
     have kx := blk_below Y.out.2.2.2.2.1 hW.1
     have q0 := (blk_cell kx 0).trans rfl
     have q1 := (blk_cell kx 1).trans rfl
     have q2 := (blk_cell kx 2).trans rfl
     have q3 := (blk_cell kx 3).trans rfl
     have q4 := (blk_cell kx 4).trans rfl
     clear hcl hneed hclo
     intro Q2 K2 hK2
     simp only [XInv.puts, XPrint.pw]
     go_simp
     exact hK2.out (.int .u32 l1) w' ⟨bq, rfl, fun _ _ _ => rfl, (by rw [if_pos (by simp [XInv.up, hs0])]; exact hW)⟩
   ·refine XInv.yes_tab [] (by kernel_rfl) ?_
    cases hs0 : lb 8
    case false =>
     rw [if_neg (by rw [hs0]; decide)] at hW
     have kx := blk_below Y.out.2.2.2.2.1 hW
     have q0 := (blk_cell kx 0).trans rfl
     have q1 := (blk_cell kx 1).trans rfl
     have q2 := (blk_cell kx 2).trans rfl
     have q3 := (blk_cell kx 3).trans rfl
     have q4 := (blk_cell kx 4).trans rfl
     clear hcl hneed hclo
     intro Q2 K2 hK2
     simp only [XInv.puts, XPrint.pw]
     go_simp
     exact hK2.out (.agg #[.int .i64 u0, .int .i64 u1, .slice An nn cn, .slice Ai li ci, .int .u32 l0]) w' ⟨bq, rfl, fun _ _ _ => rfl, (by rw [if_neg (by simp [XInv.up, hs0])]; exact hW)⟩
    case true =>
     rw [if_pos hs0] at hW
     have kx := blk_below Y.out.2.2.2.2.1 hW.1
     have q0 := (blk_cell kx 0).trans rfl
     have q1 := (blk_cell kx 1).trans rfl
     have q2 := (blk_cell kx 2).trans rfl
     have q3 := (blk_cell kx 3).trans rfl
     have q4 := (blk_cell kx 4).trans rfl
     clear hcl hneed hclo
     intro Q2 K2 hK2
     simp only [XInv.puts, XPrint.pw]
     go_simp
     exact hK2.out (.agg #[.int .i64 u0, .int .i64 u1, .slice An nn cn, .slice Ai li ci, .int .u32 l0]) w' ⟨bq, rfl, fun _ _ _ => rfl, (by rw [if_pos (by simp [XInv.up, hs0])]; exact hW)⟩
   ·refine XInv.yes_tab [(35, 3)] (by kernel_rfl) ?_
    cases hs0 : lb 8
    case false =>
     rw [if_neg (by rw [hs0]; decide)] at hW
     have kx := blk_below Y.out.2.2.2.2.1 hW
     have q0 := (blk_cell kx 0).trans rfl
     have q1 := (blk_cell kx 1).trans rfl
     have q2 := (blk_cell kx 2).trans rfl
     have q3 := (blk_cell kx 3).trans rfl
     have q4 := (blk_cell kx 4).trans rfl
     clear hcl hneed
     intro Q2 K2 hK2
     simp only [XInv.puts, XPrint.pw]
     go_simp
     go_at_call 91
     (with_reducible refine (PC.out _ hW).mono ?_)
     rintro e wz ⟨rfl, hb⟩
     exact hK2.out (.int .u32 pl) wz ⟨bq, rfl, fun _ _ _ => rfl, (by rw [if_neg (by simp [XInv.up, hs0])]; exact below_step hW hb)⟩
    case true =>
     rw [if_pos hs0] at hW
     have kx := blk_below Y.out.2.2.2.2.1 hW.1
     have q0 := (blk_cell kx 0).trans rfl
     have q1 := (blk_cell kx 1).trans rfl
     have q2 := (blk_cell kx 2).trans rfl
     have q3 := (blk_cell kx 3).trans rfl
     have q4 := (blk_cell kx 4).trans rfl
     clear hcl hneed
     intro Q2 K2 hK2
     simp only [XInv.puts, XPrint.pw]
     go_simp
     go_at_call 91
     (with_reducible refine (PC.out _ hW.1).mono ?_)
     rintro e wz ⟨rfl, hb⟩
     exact hK2.out (.int .u32 pl) wz ⟨bq, rfl, fun _ _ _ => rfl, (by rw [if_pos (by simp [XInv.up, hs0])]; exact ⟨below_step hW.1 hb, hW.2.1, blk_below hW.2.2 hb⟩)⟩
   ·refine XInv.yes_tab [] (by kernel_rfl) ?_
    cases hs0 : lb 8
    case false =>
     rw [if_neg (by rw [hs0]; decide)] at hW
     have kx := blk_below Y.out.2.2.2.2.1 hW
     have q0 := (blk_cell kx 0).trans rfl
     have q1 := (blk_cell kx 1).trans rfl
     have q2 := (blk_cell kx 2).trans rfl
     have q3 := (blk_cell kx 3).trans rfl
     have q4 := (blk_cell kx 4).trans rfl
     clear hcl hneed hclo
     intro Q2 K2 hK2
     simp only [XInv.puts, XPrint.pw]
     go_simp
     exact hK2.out (.int .u32 o) w' ⟨bq, rfl, fun _ _ _ => rfl, (by rw [if_neg (by simp [XInv.up, hs0])]; exact hW)⟩
    case true =>
     rw [if_pos hs0] at hW
     have kx := blk_below Y.out.2.2.2.2.1 hW.1
     have q0 := (blk_cell kx 0).trans rfl
     have q1 := (blk_cell kx 1).trans rfl
     have q2 := (blk_cell kx 2).trans rfl
     have q3 := (blk_cell kx 3).trans rfl
     have q4 := (blk_cell kx 4).trans rfl
     clear hcl hneed hclo
     intro Q2 K2 hK2
     simp only [XInv.puts, XPrint.pw]
     go_simp
     exact hK2.out (.int .u32 o) w' ⟨bq, rfl, fun _ _ _ => rfl, (by rw [if_pos (by simp [XInv.up, hs0])]; exact hW)⟩
   ·refine XInv.yes_tab [] (by kernel_rfl) ?_
    cases hs0 : lb 8
    case false =>
     rw [if_neg (by rw [hs0]; decide)] at hW
     have kx := blk_below Y.out.2.2.2.2.1 hW
     have q0 := (blk_cell kx 0).trans rfl
     have q1 := (blk_cell kx 1).trans rfl
     have q2 := (blk_cell kx 2).trans rfl
     have q3 := (blk_cell kx 3).trans rfl
     have q4 := (blk_cell kx 4).trans rfl
     clear hcl hneed hclo
     intro Q2 K2 hK2
     simp only [XInv.puts, XPrint.pw]
     go_simp
     exact hK2.out (.bool s) w' ⟨bq, rfl, fun _ _ _ => rfl, (by rw [if_neg (by simp [XInv.up, hs0])]; exact hW)⟩
    case true =>
     rw [if_pos hs0] at hW
     have kx := blk_below Y.out.2.2.2.2.1 hW.1
     have q0 := (blk_cell kx 0).trans rfl
     have q1 := (blk_cell kx 1).trans rfl
     have q2 := (blk_cell kx 2).trans rfl
     have q3 := (blk_cell kx 3).trans rfl
     have q4 := (blk_cell kx 4).trans rfl
     clear hcl hneed hclo
     intro Q2 K2 hK2
     simp only [XInv.puts, XPrint.pw]
     go_simp
     exact hK2.out (.bool s) w' ⟨bq, rfl, fun _ _ _ => rfl, (by rw [if_pos (by simp [XInv.up, hs0])]; exact hW)⟩
   ·refine XInv.yes_tab [(38, 6), (37, 5), (36, 4), (34, 2)] (by kernel_rfl) ?_
    cases hs0 : lb 8
    case false =>
     rw [if_neg (by rw [hs0]; decide)] at hW
     have kx := blk_below Y.out.2.2.2.2.1 hW
     have q0 := (blk_cell kx 0).trans rfl
     have q1 := (blk_cell kx 1).trans rfl
     have q2 := (blk_cell kx 2).trans rfl
     have q3 := (blk_cell kx 3).trans rfl
     have q4 := (blk_cell kx 4).trans rfl
     clear hcl hneed hclo
     intro Q2 K2 hK2
     simp only [XInv.puts, XPrint.pw] at hK2 ⊢
     go_simp
     exact hK2.out (.agg #[.int .u32 l1, .int .u32 pl, .int .u32 o, .bool s]) w' ⟨bq, rfl, fun _ _ _ => rfl, (by rw [if_neg (by simp [XInv.up, hs0])]; exact hW)⟩
    case true =>
     rw [if_pos hs0] at hW
     have kx := blk_below Y.out.2.2.2.2.1 hW.1
     have q0 := (blk_cell kx 0).trans rfl
     have q1 := (blk_cell kx 1).trans rfl
     have q2 := (blk_cell kx 2).trans rfl
     have q3 := (blk_cell kx 3).trans rfl
     have q4 := (blk_cell kx 4).trans rfl
     clear hcl hneed hclo
     intro Q2 K2 hK2
     simp only [XInv.puts, XPrint.pw] at hK2 ⊢
     go_simp
     exact hK2.out (.agg #[.int .u32 l1, .int .u32 pl, .int .u32 o, .bool s]) w' ⟨bq, rfl, fun _ _ _ => rfl, (by rw [if_pos (by simp [XInv.up, hs0])]; exact hW)⟩
   ·refine XInv.yes_tab [] (by kernel_rfl) ?_
    have hs0 := hlb
    rw [if_neg (by rw [hs0]; decide)] at hW
    have kx := blk_below Y.out.2.2.2.2.1 hW
    have q0 := (blk_cell kx 0).trans rfl
    have q1 := (blk_cell kx 1).trans rfl
    have q2 := (blk_cell kx 2).trans rfl
    have q3 := (blk_cell kx 3).trans rfl
    have q4 := (blk_cell kx 4).trans rfl
    clear hcl hneed
    intro Q2 K2 hK2
    simp only [XInv.puts, XPrint.pw]
    go_simp
    exact hK2.out (.pointer (some ⟨w'.heap.size, 0, none⟩)) _ ⟨w'.heap.size, rfl, (by intro jj hjj hlj; have hjj : jj < 10 := hjj; rcases (by omega : jj = 0 ∨ jj = 1 ∨ jj = 2 ∨ jj = 3 ∨ jj = 4 ∨ jj = 5 ∨ jj = 6 ∨ jj = 7 ∨ jj = 8 ∨ jj = 9) with rfl | rfl | rfl | rfl | rfl | rfl | rfl | rfl | rfl | rfl <;> first | rfl | (rw [hlb] at hlj; cases hlj)), (by rw [if_pos (by simp [XInv.up, hs0])]; exact ⟨below_alloc hW _, hW.size, blk_new w' _⟩)⟩
   ·cases hds
  ·intro bq w' hW
   refine XInv.end_of [(14, 8), (39, 7), (38, 6), (37, 5), (36, 4), (35, 3), (34, 2), (33, 1), (32, 0)] (by kernel_rfl) ?_
   refine XInv.end_seq _ 9 rfl rfl (by kernel_rfl) ?_
   simp only [XInv.puts, XPrint.pw]
   rw [if_pos (by kernel_rfl)] at hW
   have kq := hW.2.2
   have E := Aside0.mk hW
   obtain ⟨w4, hw4⟩ : ∃ w4, w' = w4 := ⟨_, rfl⟩
   rw [hw4] at E kq ⊢
   have z0 := (blk_cell kq 0).trans rfl
   have z1 := (blk_cell kq 1).trans rfl
   have z2 := (blk_cell kq 2).trans rfl
   have z3 := (blk_cell kq 3).trans rfl
   have g0 := blk_frozen kq 0
   have g1 := blk_frozen kq 1
   have g2 := blk_frozen kq 2
   have g3 := blk_frozen kq 3
   clear hW hw4 kq
   go_upto_region 11 with (fail)
   obtain ⟨w5, hw5⟩ : ∃ w5, (((w4.setCell ⟨bq, 0, none⟩ (.int .u32 l1)).setCell ⟨bq, 1, none⟩ (.int .u32 pl)).setCell ⟨bq, 2, none⟩ (.int .u32 o)).setCell ⟨bq, 3, none⟩ (.bool s) = w5 := ⟨_, rfl⟩
   have hb5 : But (fun k => k = bq) w4 w5 := by rw [← hw5]; exact (((((But.refl (fun k => k = bq) w4).setCell (b := bq) rfl 0 _).setCell (b := bq) rfl 1 _).setCell (b := bq) rfl 2 _).setCell (b := bq) rfl 3 _)
   have kq5 : w5.heap[bq]? = some (.cells #[.int .u32 l1, .int .u32 pl, .int .u32 o, .bool s] 100 (0, 0)) := by
    have e0 : (w4.setCell ⟨bq, 0, none⟩ (.int .u32 l1)).heap[bq]? = some (.cells #[.int .u32 l1, .int .u32 0, .int .u32 0, .bool false] 100 (0, 0)) := by simpa using blk_set E.out.2.2 0 (.int .u32 l1)
    have e1 : ((w4.setCell ⟨bq, 0, none⟩ (.int .u32 l1)).setCell ⟨bq, 1, none⟩ (.int .u32 pl)).heap[bq]? = some (.cells #[.int .u32 l1, .int .u32 pl, .int .u32 0, .bool false] 100 (0, 0)) := by simpa using blk_set e0 1 (.int .u32 pl)
    have e2 : (((w4.setCell ⟨bq, 0, none⟩ (.int .u32 l1)).setCell ⟨bq, 1, none⟩ (.int .u32 pl)).setCell ⟨bq, 2, none⟩ (.int .u32 o)).heap[bq]? = some (.cells #[.int .u32 l1, .int .u32 pl, .int .u32 o, .bool false] 100 (0, 0)) := by simpa using blk_set e1 2 (.int .u32 o)
    rw [← hw5]; simpa using blk_set e2 3 (.bool s)
   have hwr := Y.out.1.but.size
   have kb5 := hb5.heap (blk_below Y.out.2.2.2.2.1 E.out.1) (by have := E.out.2.1; omega)
   have kr5 := hb5.heap (blk_below Y.out.1.res E.out.1) (by have := E.out.2.1; omega)
   have hB5 : But (fun k => k = w.heap.size) W0 w5 := but_drop (Y.out.1.but.trans (But.of_below E.out.1)) hb5 (fun k hk => by have := E.out.2.1; omega)
   have R5 : RX w5 wB.heap.size (fun k => (Value.slice A n c).ownBlock = some k ∨ W0.heap.size ≤ k) (.slice Ai li ci) (bx ++ grow u0 u1 ns bx last o s i) := Kd.R_step (Kd.R_below (Kd.R_mono (Kd.R_bound Y.out.1.row) (fun k hk => hk)) E.out.1) (fun k hk hlt => hb5.block k hlt (by have := hk.2.2.1; have := E.out.2.1; omega)) |> fun h => Kd.R_mono h (fun k hk => hk.1)
   have O5 : RB w5 W0.heap.size u12 (grow u0 u1 ns bx last o s i) := Kd.R_step (Kd.R_below Y.out.1.out E.out.1) (fun k hk hlt => hb5.block k hlt (by have := Kd.R_lt Y.out.1.out k hk; have := E.out.2.1; omega))
   rw [hw5]
   have q4 := (blk_cell kb5 4).trans rfl
   have g4 := blk_frozen kb5 4
   clear z0 z1 z2 z3 g0 g1 g2 g3
   go_upto_region 12 with (fail)
   obtain ⟨w6, hw6⟩ : ∃ w6, w5.setCell ⟨w.heap.size, 4, none⟩ (.int .u32 l1) = w6 := ⟨_, rfl⟩
   have kb6 : w6.heap[w.heap.size]? = some (.cells #[.int .i64 u0, .int .i64 u1, .slice An nn cn, .slice Ai li ci, .int .u32 l1] LT (0, 0)) := by rw [← hw6]; simpa using blk_set kb5 4 (.int .u32 l1)
   have hb6 : But (fun k => k = w.heap.size) w5 w6 := by rw [← hw6]; exact (But.refl (fun k => k = w.heap.size) w5).setCell (b := w.heap.size) rfl 4 _
   have kr6 := hb6.heap kr5 (by omega)
   have hsz4 := E.out.1.size
   have hqw : w.heap.size ≠ bq := by have := E.out.2.1; omega
   have kq6 := hb6.heap kq5 (fun h => hqw h.symm)
   have hXl := H.out.2.2.2.2.2.2.2.2.2.2.1
   have R6 : RX w6 wB.heap.size (fun k => (Value.slice A n c).ownBlock = some k ∨ W0.heap.size ≤ k) (.slice Ai li ci) (bx ++ grow u0 u1 ns bx last o s i) := Kd.R_step R5 (fun k hk hlt => hb6.block k hlt (by rcases hk with hk | hk; (have := hXl k hk; omega); omega))
   have O6 : RB w6 W0.heap.size u12 (grow u0 u1 ns bx last o s i) := Kd.R_step O5 (fun k hk hlt => hb6.block k hlt (by have := Kd.R_base O5 k hk; omega))
   have hB6 := hB5.trans hb6
   rw [hw6]
   have C6 := (Kd.R_reads' R6).2.2
   rw [Y.out.2.2.2.2.2.1] at C6
   have hli6 : (li : Int) ≤ 300000 := by have := Y.out.2.2.2.2.2.2; have := H.out.2.2.2.2.2.2.2.1; have := H.out.2.2.2.2.2.2.2.2.2.1; omega
   have V := Aside0.mk (And.intro kb6 (And.intro kr6 (And.intro kq6 (And.intro R6 (And.intro O6 (And.intro hB6 C6))))))
   clear kb5 kr5 kq5 hb5 hB5 R5 O5 hw5 q4 g4 kb6 kr6 kq6 hb6 R6 O6 hB6 C6 hw6
   obtain ⟨bq2, hbq2⟩ : ∃ b, bq = b := ⟨_, rfl⟩
   rw [hbq2] at V hqw E ⊢
   clear hbq2
   refine XInv.region_tab [8] [[], [], [1], [0, 2], [], [4], [3, 5, 3], [0, 1, 2, 3, 4, 5, 6], [7, 6, 6, 0, 1, 2, 3, 4, 5, 6]] (fun bq jq => match jq with
     | 0 => bq.1
     | 1 => .pointer (some ⟨w.heap.size, 3, none⟩)
     | 2 => .slice Ai li ci
     | 3 => bq.2.1
     | 4 => .agg #[.int .u32 l1, .int .u32 pl, .int .u32 o, .bool s]
     | 5 => bq.2.2.1
     | 6 => bq.2.2.2
     | 7 => .pointer (some ⟨w.heap.size, 3, none⟩)
     | _ => undef)
     (fun bq l w' => JB w6.heap.size w6 ⟨l1, pl, o, s⟩ (bx ++ grow u0 u1 ns bx last o s i) bq l w')
     (by kernel_rfl) rfl (by kernel_rfl) (by kernel_rfl) (by kernel_rfl) ⟨((undef, undef, undef, undef) : V4), JB.start (below_drew (Below.refl _ _))⟩ ?_ ?_
   ·intro i1 hi1 hds oi hoi bq lb w' hW hlb hcl hneed hclo
    have hi1 : i1 < 9 := hi1
    have hcs : i1 = 0 ∨ i1 = 1 ∨ i1 = 2 ∨ i1 = 3 ∨ i1 = 4 ∨ i1 = 5 ∨ i1 = 6 ∨ i1 = 7 ∨ i1 = 8 := by omega
    clear hi1
    rcases hcs with rfl | rfl | rfl | rfl | rfl | rfl | rfl | rfl | rfl
    all_goals simp only [List.getElem?_toArray, List.getElem?_cons_succ, List.getElem?_cons_zero, Option.some.injEq] at hoi
    all_goals subst hoi
    ·refine XInv.yes_tab [] (by kernel_rfl) ?_
     have n3 : lb 3 = false := hcl 3 (by decide) (by kernel_rfl)
     have n6 : lb 6 = false := (Bool.eq_false_or_eq_true (lb 6)).elim (fun h => absurd (hclo 6 3 (by decide) h (by kernel_rfl)) (by rw [n3]; decide)) id
     clear hcl hneed hclo
     intro Q2 K2 hK2
     refine Kd.R_lit_step PLedLib.k100 _ 100 (by rfl) (N := 44) rfl (xs := ([] : List Bx)) (inner := []) (ok := fun _ => True) (okp := fun _ => True) (by (try simp only [XInv.puts, XPrint.pw]); first | (go_simp; done) | (go_simp; rfl)) (Reps.none _ _) (fun _ hk => hk) trivial (Below.refl _ _) (Nat.le_refl _) (by simp) ?_
     intro v1 w1 hR hB hg _
     exact hK2.out v1 w1 ⟨(v1, bq.2), rfl, (by intro jj hjj hlj; have hjj : jj < 9 := hjj; rcases (by omega : jj = 0 ∨ jj = 1 ∨ jj = 2 ∨ jj = 3 ∨ jj = 4 ∨ jj = 5 ∨ jj = 6 ∨ jj = 7 ∨ jj = 8) with rfl | rfl | rfl | rfl | rfl | rfl | rfl | rfl | rfl <;> first | rfl | (rw [hlb] at hlj; cases hlj)), hW.s0 n6 n3 v1 hB hR hW.below.size⟩
    ·refine XInv.yes_tab [] (by kernel_rfl) ?_
     clear hcl hneed hclo
     intro Q2 K2 hK2
     simp only [XInv.puts, XPrint.pw]
     go_simp
     exact hK2.out (.pointer (some ⟨w.heap.size, 3, none⟩)) w' ⟨bq, rfl, fun _ _ _ => rfl, hW.up 1 (by decide)⟩
    ·refine XInv.yes_tab [(45, 1)] (by kernel_rfl) ?_
     have kx := blk_below V.out.1 hW.below
     have q3 := (blk_cell kx 3).trans rfl
     clear hcl hneed hclo
     intro Q2 K2 hK2
     simp only [XInv.puts, XPrint.pw]
     go_simp
     exact hK2.out (.slice Ai li ci) w' ⟨bq, rfl, fun _ _ _ => rfl, hW.up 2 (by decide)⟩
    ·refine XInv.yes_tab [(46, 2), (44, 0)] (by kernel_rfl) ?_
     have n6 : lb 6 = false := hcl 6 (by decide) (by kernel_rfl)
     have y0 : lb 0 = true := hneed 0 (by kernel_rfl)
     have r0 := hW.row0 n6 hlb y0
     clear hcl hneed hclo
     intro Q2 K2 hK2
     simp only [XInv.puts]
     refine Kd.R_append_rows_step PLedLib.k100 (w0 := w6) w6.heap.size (by rfl) (.tmp 44) (.tmp 46) 34 100 (.agg #[.int .u32 0, .int .u32 0, .int .u32 0, .bool false]) 16 rfl Tryz.underlying34 PLedLib.info100 rfl (by decide) (by omega) (bq.1) ([]) (bx ++ grow u0 u1 ns bx last o s i) (Ai) (li) (ci) (fun k => lb 5 = true → bq.2.2.1.ownBlock ≠ some k) (fun _ => False) rfl rfl r0 (Kd.C_below V.out.2.2.2.2.2.2 hW.below) (fun x cs hK => by obtain rfl := PLedLib.k100_open hK; exact PLedLib.k100_mkM _ _ _ _) (fun _ h => h.elim) (fun k hk h7 he => by have := Kd.R_lt (hW.row5 n6 h7) k he; omega) hW.below hW.below.size (by simp only [List.length_nil]; omega) ?_
     intro v1 w1 hR hB hg _
     exact hK2.out v1 w1 ⟨(bq.1, v1, bq.2.2), rfl, (by intro jj hjj hlj; have hjj : jj < 9 := hjj; rcases (by omega : jj = 0 ∨ jj = 1 ∨ jj = 2 ∨ jj = 3 ∨ jj = 4 ∨ jj = 5 ∨ jj = 6 ∨ jj = 7 ∨ jj = 8) with rfl | rfl | rfl | rfl | rfl | rfl | rfl | rfl | rfl <;> first | rfl | (rw [hlb] at hlj; cases hlj)), hW.s3 n6 hlb y0 v1 hR hB hg⟩
    ·refine XInv.yes_tab [] (by kernel_rfl) ?_
     have kx := blk_below V.out.2.2.1 hW.below
     have q0 := (blk_cell kx 0).trans rfl
     have q1 := (blk_cell kx 1).trans rfl
     have q2 := (blk_cell kx 2).trans rfl
     have q3 := (blk_cell kx 3).trans rfl
     clear hcl hneed hclo
     intro Q2 K2 hK2
     simp only [XInv.puts, XPrint.pw]
     go_simp
     exact hK2.out (.agg #[.int .u32 l1, .int .u32 pl, .int .u32 o, .bool s]) w' ⟨bq, rfl, fun _ _ _ => rfl, hW.up 4 (by decide)⟩
    ·refine XInv.yes_tab [(48, 4)] (by kernel_rfl) ?_
     have n6 : lb 6 = false := hcl 6 (by decide) (by kernel_rfl)
     clear hcl hneed hclo
     intro Q2 K2 hK2
     simp only [XInv.puts]
     refine Kd.R_lit_step PLedLib.k100 _ 100 (by rfl) (N := 49) rfl (xs := ([⟨l1, pl, o, s⟩] : List Bx)) (inner := [.int .u32 l1, .int .u32 pl, .int .u32 o, .bool s]) (ok := fun _ => True) (okp := fun _ => True) (by (try simp only [XInv.puts, XPrint.pw]); first | (go_simp; done) | (go_simp; rfl)) (Reps.c4 (PLedLib.k100_mkM _ _ _ (⟨l1, pl, o, s⟩ : Bx)) (Reps.none _ _)) (fun _ hk => hk) trivial (Below.refl _ _) (Nat.le_refl _) (by simp) ?_
     intro v1 w1 hR hB hg _
     exact hK2.out v1 w1 ⟨(bq.1, bq.2.1, v1, bq.2.2.2), rfl, (by intro jj hjj hlj; have hjj : jj < 9 := hjj; rcases (by omega : jj = 0 ∨ jj = 1 ∨ jj = 2 ∨ jj = 3 ∨ jj = 4 ∨ jj = 5 ∨ jj = 6 ∨ jj = 7 ∨ jj = 8) with rfl | rfl | rfl | rfl | rfl | rfl | rfl | rfl | rfl <;> first | rfl | (rw [hlb] at hlj; cases hlj)), hW.s5 n6 v1 hB hR hW.below.size⟩
    ·refine XInv.yes_tab [(49, 5), (47, 3)] (by kernel_rfl) ?_
     have y3 : lb 3 = true := hneed 3 (by kernel_rfl)
     have y5 : lb 5 = true := hneed 5 (by kernel_rfl)
     have r3 := Kd.R_mono (ok' := fun _ => True) (hW.row3 hlb y3) (fun _ _ => trivial)
     have r5 := hW.row5 hlb y5
     obtain ⟨A7, c7, e7⟩ := Kd.R_slice r5
     rw [e7] at r5
     obtain ⟨_, _, hC7⟩ := Kd.R_reads' r5
     clear hcl hneed hclo
     intro Q2 K2 hK2
     simp only [XInv.puts]
     refine Kd.R_append_rows_step PLedLib.k100 (w0 := w6) w6.heap.size (by rfl) (.tmp 47) (.tmp 49) 34 100 (.agg #[.int .u32 0, .int .u32 0, .int .u32 0, .bool false]) 16 rfl Tryz.underlying34 PLedLib.info100 rfl (by decide) (by omega) (bq.2.1) (bx ++ grow u0 u1 ns bx last o s i) ([⟨l1, pl, o, s⟩]) (A7) (1) (c7) (fun _ => True) (fun _ => False) rfl e7 r3 (hC7) (fun x cs hK => by obtain rfl := PLedLib.k100_open hK; exact PLedLib.k100_mkM _ _ _ _) (fun _ h => h.elim) (fun _ _ => trivial) hW.below hW.below.size (by rw [Y.out.2.2.2.2.2.1]; omega) ?_
     intro v1 w1 hR hB hg _
     exact hK2.out v1 w1 ⟨(bq.1, bq.2.1, bq.2.2.1, v1), rfl, (by intro jj hjj hlj; have hjj : jj < 9 := hjj; rcases (by omega : jj = 0 ∨ jj = 1 ∨ jj = 2 ∨ jj = 3 ∨ jj = 4 ∨ jj = 5 ∨ jj = 6 ∨ jj = 7 ∨ jj = 8) with rfl | rfl | rfl | rfl | rfl | rfl | rfl | rfl | rfl <;> first | rfl | (rw [hlb] at hlj; cases hlj)), hW.s6 v1 hR hB⟩
    ·refine XInv.yes_tab [(50, 6), (49, 5), (48, 4), (47, 3), (46, 2), (45, 1), (44, 0)] (by kernel_rfl) ?_
     clear hcl hneed hclo
     intro Q2 K2 hK2
     simp only [XInv.puts, XPrint.pw]
     go_simp
     exact hK2.out (.pointer (some ⟨w.heap.size, 3, none⟩)) w' ⟨bq, rfl, fun _ _ _ => rfl, hW.up 7 (by decide)⟩
    ·cases hds
   ·intro bq w' hW
    refine XInv.end_of [(51, 7), (50, 6), (49, 5), (48, 4), (47, 3), (46, 2), (45, 1), (44, 0)] (by kernel_rfl) ?_
    refine XInv.end_seq _ 8 rfl rfl (by kernel_rfl) ?_
    simp only [XInv.puts, XPrint.pw]
    have hR7 := hW.row6 (by kernel_rfl)
    have hb7 := hW.below
    obtain ⟨b0, b3, b5, b6⟩ := bq
    dsimp only at hR7 ⊢
    obtain ⟨A7, c7, rfl⟩ := Kd.R_slice hR7
    have hl7 : (bx ++ grow u0 u1 ns bx last o s i ++ [(⟨l1, pl, o, s⟩ : Bx)]).length = li + 1 := by rw [List.length_append, Y.out.2.2.2.2.2.1]; rfl
    rw [hl7] at hR7 ⊢
    obtain ⟨w7, hw7⟩ : ∃ w7, w' = w7 := ⟨_, rfl⟩
    rw [hw7] at hR7 hb7 ⊢
    have kx := blk_below V.out.1 hb7
    have f3 := blk_frozen kx 3
    have q3 := (blk_cell kx 3).trans rfl
    clear hW hw7
    have kq7 := blk_below V.out.2.2.1 hb7
    have kr7 := blk_below V.out.2.1 hb7
    have O7 := Kd.R_below V.out.2.2.2.2.1 hb7
    go_upto_region 13 with (fail)
    obtain ⟨w8, hw8⟩ : ∃ w8, w7.setCell ⟨w.heap.size, 3, none⟩ (.slice A7 (li + 1) c7) = w8 := ⟨_, rfl⟩
    have kb8 : w8.heap[w.heap.size]? = some (.cells #[.int .i64 u0, .int .i64 u1, .slice An nn cn, .slice A7 (li + 1) c7, .int .u32 l1] LT (0, 0)) := by rw [← hw8]; simpa using blk_set kx 3 (.slice A7 (li + 1) c7)
    have hb8 : But (fun k => k = w.heap.size) w7 w8 := by rw [← hw8]; exact (But.refl (fun k => k = w.heap.size) w7).setCell (b := w.heap.size) rfl 3 _
    have kq8 := hb8.heap kq7 (fun h => hqw h.symm)
    have kr8 := hb8.heap kr7 (by omega)
    have O8 : RB w8 W0.heap.size u12 (grow u0 u1 ns bx last o s i) := Kd.R_step O7 (fun k hk hlt => hb8.block k hlt (by have := Kd.R_base O7 k hk; omega))
    have hs6 := V.out.2.2.2.2.2.1.size
    have R8 : RX w8 w6.heap.size (fun _ => True) (.slice A7 (li + 1) c7) (bx ++ grow u0 u1 ns bx last o s i ++ [⟨l1, pl, o, s⟩]) := Kd.R_mono (Kd.R_step (Kd.R_bound hR7) (fun k hk hlt => hb8.block k hlt (by have := hk.2.1; omega))) (fun _ _ => trivial)
    have hB8 : But (fun k => k = w.heap.size) W0 w8 := (V.out.2.2.2.2.2.1.trans (But.of_below hb7)).trans hb8
    have hul := Kd.R_lt V.out.2.2.2.2.1
    rw [hw8]
    have p0 := (blk_cell kq8 0).trans rfl
    have p1 := (blk_cell kq8 1).trans rfl
    have p2 := (blk_cell kq8 2).trans rfl
    have p3 := (blk_cell kq8 3).trans rfl
    have Z := Aside0.mk (And.intro kb8 (And.intro kr8 (And.intro O8 (And.intro R8 (And.intro hB8 hul)))))
    have hsz8 := hB8.size
    clear kb8 kr8 O8 R8 hB8 hul kx f3 q3 kq7 kr7 O7 hR7 hb7 hw8 hb8 kq8
    go_wp2_with (refine Kd.R_append PLedLib.k100 (w0 := w8) (W := w8) W0.heap.size (by rfl) (.tmp 52) (.tmp 54) 34 100 (.agg #[.int .u32 0, .int .u32 0, .int .u32 0, .bool false]) 16 rfl Tryz.underlying34 PLedLib.info100 rfl (by decide) (by omega) u12 _ ⟨l1, pl, o, s⟩ [.int .u32 l1, .int .u32 pl, .int .u32 o, .bool s] (fun _ => True) (fun _ => False) rfl rfl (PLedLib.k100_mkM _ _ _ _) (fun _ h => h.elim) (fun _ _ => trivial) (Kd.R_mono Z.out.2.2.1 (fun _ _ => trivial)) (Below.refl _ _) hsz8 ?hl ?_)
    case hl => rw [grow_len]; omega
    intro v9 w9 hR9 hB9 hg9 hat9
    have M9 : RB w9 W0.heap.size v9 (grow u0 u1 ns bx last o s i ++ [⟨l1, pl, o, s⟩]) := Kd.R_mono (Kd.R_tight (by rfl) hR9) (fun k hk => hk.symm)
    have R9 : RX w9 w6.heap.size (fun _ => True) (.slice A7 (li + 1) c7) (bx ++ grow u0 u1 ns bx last o s i ++ [⟨l1, pl, o, s⟩]) := Kd.R_mono (Kd.R_grown (Kd.R_bound Z.out.2.2.2.1) hg9 (fun k hk he => by have := Z.out.2.2.2.2.2 k he.symm; have := hk.2.1; omega)) (fun _ _ => trivial)
    have U := Aside0.mk (And.intro M9 (And.intro R9 hB9))
    clear hR9 hB9 hg9 hat9 M9 R9 p0 p1 p2 p3
    go_wp2
    have hl9 := Y.out.2.2.1
    have hl8 := Y.out.2.2.2.1
    have hwb := H.out.2.2.2.2.2.2.2.2.2.2.2.2.size
    have hbs := H.out.1.size
    clear hw1
    go_roundg (N - (i + 1))
    case measure => omega
    case rel =>
     refine ⟨i + 1, A7, li + 1, c7, rfl, by go_num, by omega, ⟨?_, ?_, ?_, ?_, ?_⟩⟩
     ·rw [show last + ((i + 1 : Nat) : Int) = l1 by omega]
      exact (U.out.2.2.block w.heap.size (by omega)).trans Z.out.1
     ·exact (U.out.2.2.block (w.heap.size + 1) (by omega)).trans Z.out.2.1
     ·exact but_low Z.out.2.2.2.2.1 U.out.2.2 (Nat.le_refl _)
     ·rw [Y.out.2.1, ← List.append_assoc]
      exact Kd.R_mono (Kd.R_lower (Kd.R_bound U.out.2.1) (by omega)) (fun k hk => .inr (by have := hk.2.1; omega))
     ·rw [Y.out.2.1]
      exact U.out.1
 ·have hlt' : ¬ (i : Int) < (N : Int) := by omega
  have eN : i = N := by omega
  subst eN
  obtain ⟨Ao, co, rfl⟩ := Kd.R_slice hS.out
  rw [grow_len] at hS ⊢
  have Y := Aside0.mk hS
  have kb := hS.box
  have kr := hS.res
  obtain ⟨ln, hln⟩ : ∃ ln, last + (i : Int) = ln := ⟨_, rfl⟩
  rw [hln] at kb
  have LN := Aside0.mk hln
  have q0 := (blk_cell kb 0).trans rfl
  have q1 := (blk_cell kb 1).trans rfl
  have q2 := (blk_cell kb 2).trans rfl
  have q3 := (blk_cell kb 3).trans rfl
  have q4 := (blk_cell kb 4).trans rfl
  have r0 := (blk_cell kr 0).trans rfl
  have r1 := (blk_cell kr 1).trans rfl
  have r2 := (blk_cell kr 2).trans rfl
  have r3 := (blk_cell kr 3).trans rfl
  have r4 := (blk_cell kr 4).trans rfl
  have g0 := blk_frozen kr 0
  have g1 := blk_frozen kr 1
  have g2 := blk_frozen kr 2
  have g3 := blk_frozen kr 3
  have g4 := blk_frozen kr 4
  clear hS kb kr hln
  go_wp2
  have z0 := set5 (b0 := .int .i64 u0) (b1 := .int .i64 u1) (b2 := .slice An nn cn) (b3 := .slice Ai li ci) (b4 := .int .u32 ln) Y.out.res
  have y0 := (blk_cell z0 0).trans rfl
  have y1 := (blk_cell z0 1).trans rfl
  have y2 := (blk_cell z0 2).trans rfl
  have y3 := (blk_cell z0 3).trans rfl
  have y4 := (blk_cell z0 4).trans rfl
  have hwb := H.out.2.2.2.2.2.2.2.2.2.2.2.2.size
  have hbs := H.out.1.size
  have hXl := H.out.2.2.2.2.2.2.2.2.2.2.1
  have FIN := Aside0.mk (but5T (But.refl (fun k => k = w.heap.size + 1) wr) (q := w.heap.size + 1) rfl (.int .i64 u0) (.int .i64 u1) (.slice An nn cn) (.slice Ai li ci) (.int .u32 ln))
  refine bodyPost_ret (v := .tuple #[dv u0 u1 (.slice An nn cn) (.slice Ai li ci) ln, .slice Ao i co, .int .i64 0]) (by simp [results, Tryz.results41, go_sem, dv, y0, y1, y2, y3, y4]) rfl ⟨.slice Ai li ci, .slice Ao i co, by rw [LN.out]; rfl, ?_, ?_, ?_⟩
  ·exact Kd.R_mono (Kd.R_step Y.out.row (fun k hk hlt => FIN.out.block k hlt (by rcases hk with hk | hk; (have := hXl k hk; omega); omega))) (fun k hk => hk.elim .inl (fun h => .inr (by omega)))
  ·exact Kd.R_lower (Kd.R_step Y.out.out (fun k hk hlt => FIN.out.block k hlt (by have := Kd.R_base Y.out.out k hk; omega))) (by omega)
  ·exact But.below H.out.1 (Nat.le_refl _) (but_or Y.out.but FIN.out) (fun k hk => by omega)
end Go.Proofs.YthibppfdonepoaaGreat.LedT
