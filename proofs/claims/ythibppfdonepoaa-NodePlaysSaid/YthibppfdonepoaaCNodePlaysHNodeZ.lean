/- liverylaw22.same. -/
import Derived.Test.YthibppfdonepoaaCNodePlaysHNodeY
set_option linter.unusedVariables false
namespace Go.Proofs.Ythibppfdonepoaa.NodeT
open Go.RowKit Go.MapKept Go.Maps Go.ChangeMaps Go.Proofs.Ythibppfdonepoaa.XBut Go.Proofs.Ythibppfdonepoaa.XMap Go.Proofs.Ythibppfdonepoaa.PNodePlays Go.Proofs.YthibppfdonepoaaW.PrintWords Go.Proofs.YthibppfdonepoaaW.PrintLast
set_option maxHeartbeats 16000000 in
set_option maxRecDepth 100000 in
theorem same (base b g : Nat) (u0 u1 : Int) (ns : List S39) (A : Option Addr) (c : Nat) (w : World) (hT : TabAt w base b g u0 u1 ns) (hG : Good u0 u1 ns) (hC : Kd.C k39 w A ns.length ns) (hc : ns.length ≤ c) :
    Calls Try.prog 19 #[.pointer (some ⟨b, 0, none⟩), .agg #[.int .i64 u0, .int .i64 u1, .slice A ns.length c]] w fun e w' => e = .returned (.bool true) ∧ Below w.heap.size w w' := by
  have hu31 := Try.underlying31
  have hu39 := Try.underlying39
  have hu23 := Try.underlying23
  have e23 := eqA23
  obtain ⟨KA, hKA⟩ := units_all hG.unit ns (fun x hx => (hG.all x hx).2.1)
  obtain ⟨KT, hKT⟩ := rtotal_ev hG
  obtain ⟨KC, hKC⟩ := rcap_ev hG
  obtain ⟨W0, hW0⟩ : ∃ W0, w.alloc (.cells #[.int .i64 u0, .int .i64 u1, .slice A ns.length c] 31) = W0 := ⟨_, rfl⟩
  have hB0 : Below w.heap.size w W0 := by rw [← hW0]; exact below_alloc (Below.refl _ _) _
  have k3 : W0.heap[w.heap.size]? = some (.cells #[.int .i64 u0, .int .i64 u1, .slice A ns.length c] 31 (0, 0)) := by rw [← hW0]; exact blk_new w _
  have hl := hG.len
  have hsm : ∀ x ∈ ns, 0 ≤ uns u0 u1 x ∧ uns u0 u1 x ≤ 1073741824 := fun x hx => ⟨(hG.units x hx).1, by have := (hG.units x hx).2; omega⟩
  have sc := scale_cap hG
  obtain ⟨T, hTe⟩ : ∃ T, sumU (uns u0 u1) ns = T := ⟨_, rfl⟩
  have TT : ∀ w', Below W0.heap.size W0 w' → TabAt w' base b g u0 u1 ns := fun w' h => (hT.below hB0).below h
  have CC : ∀ w', Below W0.heap.size W0 w' → Kd.C k39 w' A ns.length ns := fun w' h => Kd.C_below (Kd.C_below hC hB0) h
  have TC := Aside0.mk (fun w' (h : Below W0.heap.size W0 w') => total KA base b g u0 u1 ns (uns u0 u1) (fun _ => 0) w' (TT w' h) (by omega) (hKA) hsm)
  have CPc := Aside0.mk (fun w' (h : Below W0.heap.size W0 w') => cap KA base b g u0 u1 ns (uns u0 u1) (fun _ => 0) w' (TT w' h) (by omega) (hKA) hsm _ _ _ sc)
  have RTc := Aside0.mk (fun w' (h : Below W0.heap.size W0 w') => liveryref22_Total.calls KT u0 u1 A c ns _ w' (CC w' h) hc (hKT KT (Nat.le_refl _)))
  have RCc := Aside0.mk (fun w' (h : Below W0.heap.size W0 w') => liveryref22_Cap.calls KC u0 u1 A c ns _ _ w' (CC w' h) hc (hKC KC (Nat.le_refl _)))
  rw [hTe] at TC CPc RTc RCc
  obtain ⟨r0, hr0⟩ : ∃ r0, u0 * T = r0 := ⟨_, rfl⟩
  obtain ⟨r1, hr1⟩ : ∃ r1, u1 * T = r1 := ⟨_, rfl⟩
  rw [hr0, hr1] at CPc RCc
  have UC := Aside0.mk (fun w' (h : Below W0.heap.size W0 w') => unit base b g u0 u1 ns w' (TT w' h))
  have NC := Aside0.mk (fun w' (h : Below W0.heap.size W0 w') => nodes base b g u0 u1 ns w' (TT w' h) (by omega))
  have H := Aside0.mk (And.intro hG (And.intro hC (And.intro hc (And.intro hB0 (And.intro k3 (And.intro hKA (And.intro TT CC)))))))
  have hl6 : (ns.length : Int) ≤ 1000000 := by omega
  clear hT hG hC hc hKA hKT hKC hB0 k3 hl hsm sc hTe TT CC hr0 hr1
  go_enter Try.func19, Try.ntmps19
  go_upto_region 1 with (fail)
  (try rw [hW0])
  clear hW0
  refine XInv.region_tab [] [[], [0], [], [2], [1, 3, 1], [4], [5, 4], [6], [7, 6, 6], [6], [9, 8, 6], [8, 10, 6], [6, 11], [12, 10], [13], [14, 13, 13], [13], [16, 15, 13], [15, 17, 13], [13, 18], [19, 17], [20], [21, 20, 20], [20], [23, 20], [22, 24, 20], [20, 25]] (fun bq jq => match jq with
      | 0 => .pointer (some ⟨b, 0, none⟩)
      | 1 => bq
      | 2 => .pointer (some ⟨w.heap.size, 2, none⟩)
      | 3 => .slice A ns.length c
      | 4 => .bool true
      | 5 => .bool false
      | 6 => .bool false
      | 7 => .pointer (some ⟨b, 0, none⟩)
      | 8 => .int .i64 T
      | 9 => .agg #[.int .i64 u0, .int .i64 u1, .slice A ns.length c]
      | 10 => .int .i64 T
      | 11 => .bool false
      | 12 => .bool false
      | 13 => .bool false
      | 14 => .pointer (some ⟨b, 0, none⟩)
      | 15 => .agg #[.int .i64 r0, .int .i64 r1]
      | 16 => .agg #[.int .i64 u0, .int .i64 u1, .slice A ns.length c]
      | 17 => .agg #[.int .i64 r0, .int .i64 r1]
      | 18 => .bool false
      | 19 => .bool false
      | 20 => .bool false
      | 21 => .pointer (some ⟨b, 0, none⟩)
      | 22 => .agg #[.int .i64 u0, .int .i64 u1]
      | 23 => .pointer (some ⟨w.heap.size, 0, none⟩)
      | 24 => .agg #[.int .i64 u0, .int .i64 u1]
      | 25 => .bool false
      | 26 => .bool false
      | _ => undef)
      (fun bq l w' => if l 1 = true then (Below W0.heap.size W0 w' ∧ Kd.R k39 39 w' W0.heap.size (fun _ => True) bq ns) else Below W0.heap.size W0 w')
      (by kernel_rfl) rfl (by kernel_rfl) (by kernel_rfl) (by kernel_rfl) ⟨(undef : Value), (by rw [if_neg (by simp)]; exact below_drew (Below.refl _ _))⟩ ?_ ?_
  · intro i1 hi1 hds oi hoi bq lb w' hW hlb hcl hneed hclo
    have hi1 : i1 < 27 := hi1
    have hcs : i1 = 0 ∨ i1 = 1 ∨ i1 = 2 ∨ i1 = 3 ∨ i1 = 4 ∨ i1 = 5 ∨ i1 = 6 ∨ i1 = 7 ∨ i1 = 8 ∨ i1 = 9 ∨ i1 = 10 ∨ i1 = 11 ∨ i1 = 12 ∨ i1 = 13 ∨ i1 = 14 ∨ i1 = 15 ∨ i1 = 16 ∨ i1 = 17 ∨ i1 = 18 ∨ i1 = 19 ∨ i1 = 20 ∨ i1 = 21 ∨ i1 = 22 ∨ i1 = 23 ∨ i1 = 24 ∨ i1 = 25 ∨ i1 = 26 := by omega
    clear hi1
    rcases hcs with rfl | rfl | rfl | rfl | rfl | rfl | rfl | rfl | rfl | rfl | rfl | rfl | rfl | rfl | rfl | rfl | rfl | rfl | rfl | rfl | rfl | rfl | rfl | rfl | rfl | rfl | rfl
    all_goals simp only [List.getElem?_toArray, List.getElem?_cons_succ, List.getElem?_cons_zero, Option.some.injEq] at hoi
    all_goals subst hoi
    · refine XInv.yes_tab [] (by kernel_rfl) ?_
      have hs0 := hcl 1 (by decide) (by kernel_rfl)
      rw [if_neg (by rw [hs0]; decide)] at hW
      have hB := hW
      have k3 := blk_below H.out.2.2.2.2.1 hB
      have z0 := (blk_cell k3 0).trans rfl
      have z1 := (blk_cell k3 1).trans rfl
      have z2 := (blk_cell k3 2).trans rfl
      clear hcl hneed hclo
      intro Q2 K2 hK2
      simp only [XInv.puts, XPrint.pw]
      go_simp
      exact hK2.out (.pointer (some ⟨b, 0, none⟩)) w' ⟨bq, rfl, (by intros; first | rfl | trivial), (by rw [if_neg (by simp [XInv.up, hs0])]; exact hW)⟩
    · refine XInv.yes_tab [(8, 0)] (by kernel_rfl) ?_
      have hs0 := hlb
      rw [if_neg (by rw [hs0]; decide)] at hW
      have hB := hW
      have k3 := blk_below H.out.2.2.2.2.1 hB
      have z0 := (blk_cell k3 0).trans rfl
      have z1 := (blk_cell k3 1).trans rfl
      have z2 := (blk_cell k3 2).trans rfl
      clear hcl hneed hclo
      intro Q2 K2 hK2
      simp only [XInv.puts, XPrint.pw]
      go_simp
      go_at_call 22
      (with_reducible refine (NC.out _ hB).mono ?_)
      rintro e wz ⟨v1, rfl, hR, hb⟩
      exact hK2.out v1 wz ⟨v1, rfl, (by intro jj hjj hlj; have hjj : jj < 27 := hjj; rcases (by omega : jj = 0 ∨ jj = 1 ∨ jj = 2 ∨ jj = 3 ∨ jj = 4 ∨ jj = 5 ∨ jj = 6 ∨ jj = 7 ∨ jj = 8 ∨ jj = 9 ∨ jj = 10 ∨ jj = 11 ∨ jj = 12 ∨ jj = 13 ∨ jj = 14 ∨ jj = 15 ∨ jj = 16 ∨ jj = 17 ∨ jj = 18 ∨ jj = 19 ∨ jj = 20 ∨ jj = 21 ∨ jj = 22 ∨ jj = 23 ∨ jj = 24 ∨ jj = 25 ∨ jj = 26) with rfl | rfl | rfl | rfl | rfl | rfl | rfl | rfl | rfl | rfl | rfl | rfl | rfl | rfl | rfl | rfl | rfl | rfl | rfl | rfl | rfl | rfl | rfl | rfl | rfl | rfl | rfl <;> first | rfl | (rw [hlb] at hlj; cases hlj)), (by rw [if_pos (by simp [XInv.up, hs0])]; exact ⟨below_step hW hb, Kd.R_lower hR hW.size⟩)⟩
    · refine XInv.yes_tab [] (by kernel_rfl) ?_
      cases hs0 : lb 1
      case false =>
        rw [if_neg (by rw [hs0]; decide)] at hW
        have hB := hW
        have k3 := blk_below H.out.2.2.2.2.1 hB
        have z0 := (blk_cell k3 0).trans rfl
        have z1 := (blk_cell k3 1).trans rfl
        have z2 := (blk_cell k3 2).trans rfl
        clear hcl hneed hclo
        intro Q2 K2 hK2
        simp only [XInv.puts, XPrint.pw]
        go_simp
        exact hK2.out (.pointer (some ⟨w.heap.size, 2, none⟩)) w' ⟨bq, rfl, (by intros; first | rfl | trivial), (by rw [if_neg (by simp [XInv.up, hs0])]; exact hW)⟩
      case true =>
        rw [if_pos hs0] at hW
        have hB := hW.1
        have k3 := blk_below H.out.2.2.2.2.1 hB
        have z0 := (blk_cell k3 0).trans rfl
        have z1 := (blk_cell k3 1).trans rfl
        have z2 := (blk_cell k3 2).trans rfl
        clear hcl hneed hclo
        intro Q2 K2 hK2
        simp only [XInv.puts, XPrint.pw]
        go_simp
        exact hK2.out (.pointer (some ⟨w.heap.size, 2, none⟩)) w' ⟨bq, rfl, (by intros; first | rfl | trivial), (by rw [if_pos (by simp [XInv.up, hs0])]; exact hW)⟩
    · refine XInv.yes_tab [(10, 2)] (by kernel_rfl) ?_
      cases hs0 : lb 1
      case false =>
        rw [if_neg (by rw [hs0]; decide)] at hW
        have hB := hW
        have k3 := blk_below H.out.2.2.2.2.1 hB
        have z0 := (blk_cell k3 0).trans rfl
        have z1 := (blk_cell k3 1).trans rfl
        have z2 := (blk_cell k3 2).trans rfl
        clear hcl hneed hclo
        intro Q2 K2 hK2
        simp only [XInv.puts, XPrint.pw]
        go_simp
        exact hK2.out (.slice A ns.length c) w' ⟨bq, rfl, (by intros; first | rfl | trivial), (by rw [if_neg (by simp [XInv.up, hs0])]; exact hW)⟩
      case true =>
        rw [if_pos hs0] at hW
        have hB := hW.1
        have k3 := blk_below H.out.2.2.2.2.1 hB
        have z0 := (blk_cell k3 0).trans rfl
        have z1 := (blk_cell k3 1).trans rfl
        have z2 := (blk_cell k3 2).trans rfl
        clear hcl hneed hclo
        intro Q2 K2 hK2
        simp only [XInv.puts, XPrint.pw]
        go_simp
        exact hK2.out (.slice A ns.length c) w' ⟨bq, rfl, (by intros; first | rfl | trivial), (by rw [if_pos (by simp [XInv.up, hs0])]; exact hW)⟩
    · refine XInv.yes_tab [(11, 3), (9, 1)] (by kernel_rfl) ?_
      have hs0 := hneed 1 (by kernel_rfl)
      rw [if_pos hs0] at hW
      have hB := hW.1
      have k3 := blk_below H.out.2.2.2.2.1 hB
      have z0 := (blk_cell k3 0).trans rfl
      have z1 := (blk_cell k3 1).trans rfl
      have z2 := (blk_cell k3 2).trans rfl
      clear hcl hneed hclo
      intro Q2 K2 hK2
      simp only [XInv.puts, XPrint.pw]
      obtain ⟨A5, c5, e5⟩ := Kd.R_slice hW.2
      have hW2 := hW.2
      rw [e5] at hW2
      obtain ⟨_, hc5, hC5⟩ := Kd.R_reads' hW2
      clear hW2
      rw [e5] at hK2 ⊢
      go_simp
      go_at_call 31
      (with_reducible refine (liveryref22_Same.calls (ns.length + 1) A5 c5 ns A c ns true _ hC5 hc5 (H.out.2.2.2.2.2.2.2 _ hB) H.out.2.2.1 (same_self ns (by omega) _ (Nat.lt_succ_self _))).mono ?_)
      rintro e wz ⟨rfl, hd⟩
      have hb := hd.below
      exact hK2.out (.bool true) wz ⟨bq, rfl, (by intro jj hjj hlj; have hjj : jj < 27 := hjj; rcases (by omega : jj = 0 ∨ jj = 1 ∨ jj = 2 ∨ jj = 3 ∨ jj = 4 ∨ jj = 5 ∨ jj = 6 ∨ jj = 7 ∨ jj = 8 ∨ jj = 9 ∨ jj = 10 ∨ jj = 11 ∨ jj = 12 ∨ jj = 13 ∨ jj = 14 ∨ jj = 15 ∨ jj = 16 ∨ jj = 17 ∨ jj = 18 ∨ jj = 19 ∨ jj = 20 ∨ jj = 21 ∨ jj = 22 ∨ jj = 23 ∨ jj = 24 ∨ jj = 25 ∨ jj = 26) with rfl | rfl | rfl | rfl | rfl | rfl | rfl | rfl | rfl | rfl | rfl | rfl | rfl | rfl | rfl | rfl | rfl | rfl | rfl | rfl | rfl | rfl | rfl | rfl | rfl | rfl | rfl <;> first | rfl | exact e5 | (rw [hlb] at hlj; cases hlj)), (by rw [if_pos (by simp [XInv.up, hs0])]; exact ⟨below_step hW.1 hb, Kd.R_below hW.2 hb⟩)⟩
    · refine XInv.yes_tab [(12, 4)] (by kernel_rfl) ?_
      cases hs0 : lb 1
      case false =>
        rw [if_neg (by rw [hs0]; decide)] at hW
        have hB := hW
        have k3 := blk_below H.out.2.2.2.2.1 hB
        have z0 := (blk_cell k3 0).trans rfl
        have z1 := (blk_cell k3 1).trans rfl
        have z2 := (blk_cell k3 2).trans rfl
        clear hcl hneed hclo
        intro Q2 K2 hK2
        simp only [XInv.puts, XPrint.pw]
        go_simp
        exact hK2.out (.bool false) w' ⟨bq, rfl, (by intros; first | rfl | trivial), (by rw [if_neg (by simp [XInv.up, hs0])]; exact hW)⟩
      case true =>
        rw [if_pos hs0] at hW
        have hB := hW.1
        have k3 := blk_below H.out.2.2.2.2.1 hB
        have z0 := (blk_cell k3 0).trans rfl
        have z1 := (blk_cell k3 1).trans rfl
        have z2 := (blk_cell k3 2).trans rfl
        clear hcl hneed hclo
        intro Q2 K2 hK2
        simp only [XInv.puts, XPrint.pw]
        go_simp
        exact hK2.out (.bool false) w' ⟨bq, rfl, (by intros; first | rfl | trivial), (by rw [if_pos (by simp [XInv.up, hs0])]; exact hW)⟩
    · refine XInv.yes_tab [(13, 5), (12, 4)] (by kernel_rfl) ?_
      cases hs0 : lb 1
      case false =>
        rw [if_neg (by rw [hs0]; decide)] at hW
        have hB := hW
        have k3 := blk_below H.out.2.2.2.2.1 hB
        have z0 := (blk_cell k3 0).trans rfl
        have z1 := (blk_cell k3 1).trans rfl
        have z2 := (blk_cell k3 2).trans rfl
        clear hcl hneed hclo
        intro Q2 K2 hK2
        simp only [XInv.puts, XPrint.pw]
        go_simp
        exact hK2.out (.bool false) w' ⟨bq, rfl, (by intros; first | rfl | trivial), (by rw [if_neg (by simp [XInv.up, hs0])]; exact hW)⟩
      case true =>
        rw [if_pos hs0] at hW
        have hB := hW.1
        have k3 := blk_below H.out.2.2.2.2.1 hB
        have z0 := (blk_cell k3 0).trans rfl
        have z1 := (blk_cell k3 1).trans rfl
        have z2 := (blk_cell k3 2).trans rfl
        clear hcl hneed hclo
        intro Q2 K2 hK2
        simp only [XInv.puts, XPrint.pw]
        go_simp
        exact hK2.out (.bool false) w' ⟨bq, rfl, (by intros; first | rfl | trivial), (by rw [if_pos (by simp [XInv.up, hs0])]; exact hW)⟩
    · refine XInv.yes_tab [(14, 6)] (by kernel_rfl) ?_
      cases hs0 : lb 1
      case false =>
        rw [if_neg (by rw [hs0]; decide)] at hW
        have hB := hW
        have k3 := blk_below H.out.2.2.2.2.1 hB
        have z0 := (blk_cell k3 0).trans rfl
        have z1 := (blk_cell k3 1).trans rfl
        have z2 := (blk_cell k3 2).trans rfl
        clear hcl hneed hclo
        intro Q2 K2 hK2
        simp only [XInv.puts, XPrint.pw]
        go_simp
        exact hK2.out (.pointer (some ⟨b, 0, none⟩)) w' ⟨bq, rfl, (by intros; first | rfl | trivial), (by rw [if_neg (by simp [XInv.up, hs0])]; exact hW)⟩
      case true =>
        rw [if_pos hs0] at hW
        have hB := hW.1
        have k3 := blk_below H.out.2.2.2.2.1 hB
        have z0 := (blk_cell k3 0).trans rfl
        have z1 := (blk_cell k3 1).trans rfl
        have z2 := (blk_cell k3 2).trans rfl
        clear hcl hneed hclo
        intro Q2 K2 hK2
        simp only [XInv.puts, XPrint.pw]
        go_simp
        exact hK2.out (.pointer (some ⟨b, 0, none⟩)) w' ⟨bq, rfl, (by intros; first | rfl | trivial), (by rw [if_pos (by simp [XInv.up, hs0])]; exact hW)⟩
    · refine XInv.yes_tab [(15, 7), (14, 6)] (by kernel_rfl) ?_
      cases hs0 : lb 1
      case false =>
        rw [if_neg (by rw [hs0]; decide)] at hW
        have hB := hW
        have k3 := blk_below H.out.2.2.2.2.1 hB
        have z0 := (blk_cell k3 0).trans rfl
        have z1 := (blk_cell k3 1).trans rfl
        have z2 := (blk_cell k3 2).trans rfl
        clear hcl hneed hclo
        intro Q2 K2 hK2
        simp only [XInv.puts, XPrint.pw]
        go_simp
        go_at_call 28
        (with_reducible refine (TC.out _ hB).mono ?_)
        rintro e wz ⟨rfl, hb⟩
        exact hK2.out (.int .i64 T) wz ⟨bq, rfl, (by intros; first | rfl | trivial), (by rw [if_neg (by simp [XInv.up, hs0])]; exact below_step hW hb)⟩
      case true =>
        rw [if_pos hs0] at hW
        have hB := hW.1
        have k3 := blk_below H.out.2.2.2.2.1 hB
        have z0 := (blk_cell k3 0).trans rfl
        have z1 := (blk_cell k3 1).trans rfl
        have z2 := (blk_cell k3 2).trans rfl
        clear hcl hneed hclo
        intro Q2 K2 hK2
        simp only [XInv.puts, XPrint.pw]
        go_simp
        go_at_call 28
        (with_reducible refine (TC.out _ hB).mono ?_)
        rintro e wz ⟨rfl, hb⟩
        exact hK2.out (.int .i64 T) wz ⟨bq, rfl, (by intros; first | rfl | trivial), (by rw [if_pos (by simp [XInv.up, hs0])]; exact ⟨below_step hW.1 hb, Kd.R_below hW.2 hb⟩)⟩
    · refine XInv.yes_tab [(14, 6)] (by kernel_rfl) ?_
      cases hs0 : lb 1
      case false =>
        rw [if_neg (by rw [hs0]; decide)] at hW
        have hB := hW
        have k3 := blk_below H.out.2.2.2.2.1 hB
        have z0 := (blk_cell k3 0).trans rfl
        have z1 := (blk_cell k3 1).trans rfl
        have z2 := (blk_cell k3 2).trans rfl
        clear hcl hneed hclo
        intro Q2 K2 hK2
        simp only [XInv.puts, XPrint.pw]
        go_simp
        exact hK2.out (.agg #[.int .i64 u0, .int .i64 u1, .slice A ns.length c]) w' ⟨bq, rfl, (by intros; first | rfl | trivial), (by rw [if_neg (by simp [XInv.up, hs0])]; exact hW)⟩
      case true =>
        rw [if_pos hs0] at hW
        have hB := hW.1
        have k3 := blk_below H.out.2.2.2.2.1 hB
        have z0 := (blk_cell k3 0).trans rfl
        have z1 := (blk_cell k3 1).trans rfl
        have z2 := (blk_cell k3 2).trans rfl
        clear hcl hneed hclo
        intro Q2 K2 hK2
        simp only [XInv.puts, XPrint.pw]
        go_simp
        exact hK2.out (.agg #[.int .i64 u0, .int .i64 u1, .slice A ns.length c]) w' ⟨bq, rfl, (by intros; first | rfl | trivial), (by rw [if_pos (by simp [XInv.up, hs0])]; exact hW)⟩
    · refine XInv.yes_tab [(17, 9), (16, 8), (14, 6)] (by kernel_rfl) ?_
      cases hs0 : lb 1
      case false =>
        rw [if_neg (by rw [hs0]; decide)] at hW
        have hB := hW
        have k3 := blk_below H.out.2.2.2.2.1 hB
        have z0 := (blk_cell k3 0).trans rfl
        have z1 := (blk_cell k3 1).trans rfl
        have z2 := (blk_cell k3 2).trans rfl
        clear hcl hneed hclo
        intro Q2 K2 hK2
        simp only [XInv.puts, XPrint.pw]
        go_simp
        go_at_call 69
        (with_reducible refine (RTc.out _ hB).mono ?_)
        rintro e wz ⟨rfl, hb⟩
        exact hK2.out (.int .i64 T) wz ⟨bq, rfl, (by intros; first | rfl | trivial), (by rw [if_neg (by simp [XInv.up, hs0])]; exact below_step hW hb)⟩
      case true =>
        rw [if_pos hs0] at hW
        have hB := hW.1
        have k3 := blk_below H.out.2.2.2.2.1 hB
        have z0 := (blk_cell k3 0).trans rfl
        have z1 := (blk_cell k3 1).trans rfl
        have z2 := (blk_cell k3 2).trans rfl
        clear hcl hneed hclo
        intro Q2 K2 hK2
        simp only [XInv.puts, XPrint.pw]
        go_simp
        go_at_call 69
        (with_reducible refine (RTc.out _ hB).mono ?_)
        rintro e wz ⟨rfl, hb⟩
        exact hK2.out (.int .i64 T) wz ⟨bq, rfl, (by intros; first | rfl | trivial), (by rw [if_pos (by simp [XInv.up, hs0])]; exact ⟨below_step hW.1 hb, Kd.R_below hW.2 hb⟩)⟩
    · refine XInv.yes_tab [(18, 10), (16, 8), (14, 6)] (by kernel_rfl) ?_
      cases hs0 : lb 1
      case false =>
        rw [if_neg (by rw [hs0]; decide)] at hW
        have hB := hW
        have k3 := blk_below H.out.2.2.2.2.1 hB
        have z0 := (blk_cell k3 0).trans rfl
        have z1 := (blk_cell k3 1).trans rfl
        have z2 := (blk_cell k3 2).trans rfl
        clear hcl hneed hclo
        intro Q2 K2 hK2
        simp only [XInv.puts, XPrint.pw]
        go_simp
        exact hK2.out (.bool false) w' ⟨bq, rfl, (by intros; first | rfl | trivial), (by rw [if_neg (by simp [XInv.up, hs0])]; exact hW)⟩
      case true =>
        rw [if_pos hs0] at hW
        have hB := hW.1
        have k3 := blk_below H.out.2.2.2.2.1 hB
        have z0 := (blk_cell k3 0).trans rfl
        have z1 := (blk_cell k3 1).trans rfl
        have z2 := (blk_cell k3 2).trans rfl
        clear hcl hneed hclo
        intro Q2 K2 hK2
        simp only [XInv.puts, XPrint.pw]
        go_simp
        exact hK2.out (.bool false) w' ⟨bq, rfl, (by intros; first | rfl | trivial), (by rw [if_pos (by simp [XInv.up, hs0])]; exact hW)⟩
    · refine XInv.yes_tab [(19, 11), (14, 6)] (by kernel_rfl) ?_
      cases hs0 : lb 1
      case false =>
        rw [if_neg (by rw [hs0]; decide)] at hW
        have hB := hW
        have k3 := blk_below H.out.2.2.2.2.1 hB
        have z0 := (blk_cell k3 0).trans rfl
        have z1 := (blk_cell k3 1).trans rfl
        have z2 := (blk_cell k3 2).trans rfl
        clear hcl hneed hclo
        intro Q2 K2 hK2
        simp only [XInv.puts, XPrint.pw]
        go_simp
        exact hK2.out (.bool false) w' ⟨bq, rfl, (by intros; first | rfl | trivial), (by rw [if_neg (by simp [XInv.up, hs0])]; exact hW)⟩
      case true =>
        rw [if_pos hs0] at hW
        have hB := hW.1
        have k3 := blk_below H.out.2.2.2.2.1 hB
        have z0 := (blk_cell k3 0).trans rfl
        have z1 := (blk_cell k3 1).trans rfl
        have z2 := (blk_cell k3 2).trans rfl
        clear hcl hneed hclo
        intro Q2 K2 hK2
        simp only [XInv.puts, XPrint.pw]
        go_simp
        exact hK2.out (.bool false) w' ⟨bq, rfl, (by intros; first | rfl | trivial), (by rw [if_pos (by simp [XInv.up, hs0])]; exact hW)⟩
    · refine XInv.yes_tab [(20, 12), (18, 10)] (by kernel_rfl) ?_
      cases hs0 : lb 1
      case false =>
        rw [if_neg (by rw [hs0]; decide)] at hW
        have hB := hW
        have k3 := blk_below H.out.2.2.2.2.1 hB
        have z0 := (blk_cell k3 0).trans rfl
        have z1 := (blk_cell k3 1).trans rfl
        have z2 := (blk_cell k3 2).trans rfl
        clear hcl hneed hclo
        intro Q2 K2 hK2
        simp only [XInv.puts, XPrint.pw]
        go_simp
        exact hK2.out (.bool false) w' ⟨bq, rfl, (by intros; first | rfl | trivial), (by rw [if_neg (by simp [XInv.up, hs0])]; exact hW)⟩
      case true =>
        rw [if_pos hs0] at hW
        have hB := hW.1
        have k3 := blk_below H.out.2.2.2.2.1 hB
        have z0 := (blk_cell k3 0).trans rfl
        have z1 := (blk_cell k3 1).trans rfl
        have z2 := (blk_cell k3 2).trans rfl
        clear hcl hneed hclo
        intro Q2 K2 hK2
        simp only [XInv.puts, XPrint.pw]
        go_simp
        exact hK2.out (.bool false) w' ⟨bq, rfl, (by intros; first | rfl | trivial), (by rw [if_pos (by simp [XInv.up, hs0])]; exact hW)⟩
    · refine XInv.yes_tab [(21, 13)] (by kernel_rfl) ?_
      cases hs0 : lb 1
      case false =>
        rw [if_neg (by rw [hs0]; decide)] at hW
        have hB := hW
        have k3 := blk_below H.out.2.2.2.2.1 hB
        have z0 := (blk_cell k3 0).trans rfl
        have z1 := (blk_cell k3 1).trans rfl
        have z2 := (blk_cell k3 2).trans rfl
        clear hcl hneed hclo
        intro Q2 K2 hK2
        simp only [XInv.puts, XPrint.pw]
        go_simp
        exact hK2.out (.pointer (some ⟨b, 0, none⟩)) w' ⟨bq, rfl, (by intros; first | rfl | trivial), (by rw [if_neg (by simp [XInv.up, hs0])]; exact hW)⟩
      case true =>
        rw [if_pos hs0] at hW
        have hB := hW.1
        have k3 := blk_below H.out.2.2.2.2.1 hB
        have z0 := (blk_cell k3 0).trans rfl
        have z1 := (blk_cell k3 1).trans rfl
        have z2 := (blk_cell k3 2).trans rfl
        clear hcl hneed hclo
        intro Q2 K2 hK2
        simp only [XInv.puts, XPrint.pw]
        go_simp
        exact hK2.out (.pointer (some ⟨b, 0, none⟩)) w' ⟨bq, rfl, (by intros; first | rfl | trivial), (by rw [if_pos (by simp [XInv.up, hs0])]; exact hW)⟩
    · refine XInv.yes_tab [(22, 14), (21, 13)] (by kernel_rfl) ?_
      cases hs0 : lb 1
      case false =>
        rw [if_neg (by rw [hs0]; decide)] at hW
        have hB := hW
        have k3 := blk_below H.out.2.2.2.2.1 hB
        have z0 := (blk_cell k3 0).trans rfl
        have z1 := (blk_cell k3 1).trans rfl
        have z2 := (blk_cell k3 2).trans rfl
        clear hcl hneed hclo
        intro Q2 K2 hK2
        simp only [XInv.puts, XPrint.pw]
        go_simp
        go_at_call 27
        (with_reducible refine (CPc.out _ hB).mono ?_)
        rintro e wz ⟨rfl, hb⟩
        exact hK2.out (.agg #[.int .i64 r0, .int .i64 r1]) wz ⟨bq, rfl, (by intros; first | rfl | trivial), (by rw [if_neg (by simp [XInv.up, hs0])]; exact below_step hW hb)⟩
      case true =>
        rw [if_pos hs0] at hW
        have hB := hW.1
        have k3 := blk_below H.out.2.2.2.2.1 hB
        have z0 := (blk_cell k3 0).trans rfl
        have z1 := (blk_cell k3 1).trans rfl
        have z2 := (blk_cell k3 2).trans rfl
        clear hcl hneed hclo
        intro Q2 K2 hK2
        simp only [XInv.puts, XPrint.pw]
        go_simp
        go_at_call 27
        (with_reducible refine (CPc.out _ hB).mono ?_)
        rintro e wz ⟨rfl, hb⟩
        exact hK2.out (.agg #[.int .i64 r0, .int .i64 r1]) wz ⟨bq, rfl, (by intros; first | rfl | trivial), (by rw [if_pos (by simp [XInv.up, hs0])]; exact ⟨below_step hW.1 hb, Kd.R_below hW.2 hb⟩)⟩
    · refine XInv.yes_tab [(21, 13)] (by kernel_rfl) ?_
      cases hs0 : lb 1
      case false =>
        rw [if_neg (by rw [hs0]; decide)] at hW
        have hB := hW
        have k3 := blk_below H.out.2.2.2.2.1 hB
        have z0 := (blk_cell k3 0).trans rfl
        have z1 := (blk_cell k3 1).trans rfl
        have z2 := (blk_cell k3 2).trans rfl
        clear hcl hneed hclo
        intro Q2 K2 hK2
        simp only [XInv.puts, XPrint.pw]
        go_simp
        exact hK2.out (.agg #[.int .i64 u0, .int .i64 u1, .slice A ns.length c]) w' ⟨bq, rfl, (by intros; first | rfl | trivial), (by rw [if_neg (by simp [XInv.up, hs0])]; exact hW)⟩
      case true =>
        rw [if_pos hs0] at hW
        have hB := hW.1
        have k3 := blk_below H.out.2.2.2.2.1 hB
        have z0 := (blk_cell k3 0).trans rfl
        have z1 := (blk_cell k3 1).trans rfl
        have z2 := (blk_cell k3 2).trans rfl
        clear hcl hneed hclo
        intro Q2 K2 hK2
        simp only [XInv.puts, XPrint.pw]
        go_simp
        exact hK2.out (.agg #[.int .i64 u0, .int .i64 u1, .slice A ns.length c]) w' ⟨bq, rfl, (by intros; first | rfl | trivial), (by rw [if_pos (by simp [XInv.up, hs0])]; exact hW)⟩
    · refine XInv.yes_tab [(24, 16), (23, 15), (21, 13)] (by kernel_rfl) ?_
      cases hs0 : lb 1
      case false =>
        rw [if_neg (by rw [hs0]; decide)] at hW
        have hB := hW
        have k3 := blk_below H.out.2.2.2.2.1 hB
        have z0 := (blk_cell k3 0).trans rfl
        have z1 := (blk_cell k3 1).trans rfl
        have z2 := (blk_cell k3 2).trans rfl
        clear hcl hneed hclo
        intro Q2 K2 hK2
        simp only [XInv.puts, XPrint.pw]
        go_simp
        go_at_call 70
        (with_reducible refine (RCc.out _ hB).mono ?_)
        rintro e wz ⟨rfl, hb⟩
        exact hK2.out (.agg #[.int .i64 r0, .int .i64 r1]) wz ⟨bq, rfl, (by intros; first | rfl | trivial), (by rw [if_neg (by simp [XInv.up, hs0])]; exact below_step hW hb)⟩
      case true =>
        rw [if_pos hs0] at hW
        have hB := hW.1
        have k3 := blk_below H.out.2.2.2.2.1 hB
        have z0 := (blk_cell k3 0).trans rfl
        have z1 := (blk_cell k3 1).trans rfl
        have z2 := (blk_cell k3 2).trans rfl
        clear hcl hneed hclo
        intro Q2 K2 hK2
        simp only [XInv.puts, XPrint.pw]
        go_simp
        go_at_call 70
        (with_reducible refine (RCc.out _ hB).mono ?_)
        rintro e wz ⟨rfl, hb⟩
        exact hK2.out (.agg #[.int .i64 r0, .int .i64 r1]) wz ⟨bq, rfl, (by intros; first | rfl | trivial), (by rw [if_pos (by simp [XInv.up, hs0])]; exact ⟨below_step hW.1 hb, Kd.R_below hW.2 hb⟩)⟩
    · refine XInv.yes_tab [(25, 17), (23, 15), (21, 13)] (by kernel_rfl) ?_
      cases hs0 : lb 1
      case false =>
        rw [if_neg (by rw [hs0]; decide)] at hW
        have hB := hW
        have k3 := blk_below H.out.2.2.2.2.1 hB
        have z0 := (blk_cell k3 0).trans rfl
        have z1 := (blk_cell k3 1).trans rfl
        have z2 := (blk_cell k3 2).trans rfl
        clear hcl hneed hclo
        intro Q2 K2 hK2
        simp only [XInv.puts, XPrint.pw]
        go_simp
        exact hK2.out (.bool false) w' ⟨bq, rfl, (by intros; first | rfl | trivial), (by rw [if_neg (by simp [XInv.up, hs0])]; exact hW)⟩
      case true =>
        rw [if_pos hs0] at hW
        have hB := hW.1
        have k3 := blk_below H.out.2.2.2.2.1 hB
        have z0 := (blk_cell k3 0).trans rfl
        have z1 := (blk_cell k3 1).trans rfl
        have z2 := (blk_cell k3 2).trans rfl
        clear hcl hneed hclo
        intro Q2 K2 hK2
        simp only [XInv.puts, XPrint.pw]
        go_simp
        exact hK2.out (.bool false) w' ⟨bq, rfl, (by intros; first | rfl | trivial), (by rw [if_pos (by simp [XInv.up, hs0])]; exact hW)⟩
    · refine XInv.yes_tab [(26, 18), (21, 13)] (by kernel_rfl) ?_
      cases hs0 : lb 1
      case false =>
        rw [if_neg (by rw [hs0]; decide)] at hW
        have hB := hW
        have k3 := blk_below H.out.2.2.2.2.1 hB
        have z0 := (blk_cell k3 0).trans rfl
        have z1 := (blk_cell k3 1).trans rfl
        have z2 := (blk_cell k3 2).trans rfl
        clear hcl hneed hclo
        intro Q2 K2 hK2
        simp only [XInv.puts, XPrint.pw]
        go_simp
        exact hK2.out (.bool false) w' ⟨bq, rfl, (by intros; first | rfl | trivial), (by rw [if_neg (by simp [XInv.up, hs0])]; exact hW)⟩
      case true =>
        rw [if_pos hs0] at hW
        have hB := hW.1
        have k3 := blk_below H.out.2.2.2.2.1 hB
        have z0 := (blk_cell k3 0).trans rfl
        have z1 := (blk_cell k3 1).trans rfl
        have z2 := (blk_cell k3 2).trans rfl
        clear hcl hneed hclo
        intro Q2 K2 hK2
        simp only [XInv.puts, XPrint.pw]
        go_simp
        exact hK2.out (.bool false) w' ⟨bq, rfl, (by intros; first | rfl | trivial), (by rw [if_pos (by simp [XInv.up, hs0])]; exact hW)⟩
    · refine XInv.yes_tab [(27, 19), (25, 17)] (by kernel_rfl) ?_
      cases hs0 : lb 1
      case false =>
        rw [if_neg (by rw [hs0]; decide)] at hW
        have hB := hW
        have k3 := blk_below H.out.2.2.2.2.1 hB
        have z0 := (blk_cell k3 0).trans rfl
        have z1 := (blk_cell k3 1).trans rfl
        have z2 := (blk_cell k3 2).trans rfl
        clear hcl hneed hclo
        intro Q2 K2 hK2
        simp only [XInv.puts, XPrint.pw]
        go_simp
        exact hK2.out (.bool false) w' ⟨bq, rfl, (by intros; first | rfl | trivial), (by rw [if_neg (by simp [XInv.up, hs0])]; exact hW)⟩
      case true =>
        rw [if_pos hs0] at hW
        have hB := hW.1
        have k3 := blk_below H.out.2.2.2.2.1 hB
        have z0 := (blk_cell k3 0).trans rfl
        have z1 := (blk_cell k3 1).trans rfl
        have z2 := (blk_cell k3 2).trans rfl
        clear hcl hneed hclo
        intro Q2 K2 hK2
        simp only [XInv.puts, XPrint.pw]
        go_simp
        exact hK2.out (.bool false) w' ⟨bq, rfl, (by intros; first | rfl | trivial), (by rw [if_pos (by simp [XInv.up, hs0])]; exact hW)⟩
    · refine XInv.yes_tab [(28, 20)] (by kernel_rfl) ?_
      cases hs0 : lb 1
      case false =>
        rw [if_neg (by rw [hs0]; decide)] at hW
        have hB := hW
        have k3 := blk_below H.out.2.2.2.2.1 hB
        have z0 := (blk_cell k3 0).trans rfl
        have z1 := (blk_cell k3 1).trans rfl
        have z2 := (blk_cell k3 2).trans rfl
        clear hcl hneed hclo
        intro Q2 K2 hK2
        simp only [XInv.puts, XPrint.pw]
        go_simp
        exact hK2.out (.pointer (some ⟨b, 0, none⟩)) w' ⟨bq, rfl, (by intros; first | rfl | trivial), (by rw [if_neg (by simp [XInv.up, hs0])]; exact hW)⟩
      case true =>
        rw [if_pos hs0] at hW
        have hB := hW.1
        have k3 := blk_below H.out.2.2.2.2.1 hB
        have z0 := (blk_cell k3 0).trans rfl
        have z1 := (blk_cell k3 1).trans rfl
        have z2 := (blk_cell k3 2).trans rfl
        clear hcl hneed hclo
        intro Q2 K2 hK2
        simp only [XInv.puts, XPrint.pw]
        go_simp
        exact hK2.out (.pointer (some ⟨b, 0, none⟩)) w' ⟨bq, rfl, (by intros; first | rfl | trivial), (by rw [if_pos (by simp [XInv.up, hs0])]; exact hW)⟩
    · refine XInv.yes_tab [(29, 21), (28, 20)] (by kernel_rfl) ?_
      cases hs0 : lb 1
      case false =>
        rw [if_neg (by rw [hs0]; decide)] at hW
        have hB := hW
        have k3 := blk_below H.out.2.2.2.2.1 hB
        have z0 := (blk_cell k3 0).trans rfl
        have z1 := (blk_cell k3 1).trans rfl
        have z2 := (blk_cell k3 2).trans rfl
        clear hcl hneed hclo
        intro Q2 K2 hK2
        simp only [XInv.puts, XPrint.pw]
        go_simp
        go_at_call 32
        (with_reducible refine (UC.out _ hB).mono ?_)
        rintro e wz ⟨rfl, hb⟩
        exact hK2.out (.agg #[.int .i64 u0, .int .i64 u1]) wz ⟨bq, rfl, (by intros; first | rfl | trivial), (by rw [if_neg (by simp [XInv.up, hs0])]; exact below_step hW hb)⟩
      case true =>
        rw [if_pos hs0] at hW
        have hB := hW.1
        have k3 := blk_below H.out.2.2.2.2.1 hB
        have z0 := (blk_cell k3 0).trans rfl
        have z1 := (blk_cell k3 1).trans rfl
        have z2 := (blk_cell k3 2).trans rfl
        clear hcl hneed hclo
        intro Q2 K2 hK2
        simp only [XInv.puts, XPrint.pw]
        go_simp
        go_at_call 32
        (with_reducible refine (UC.out _ hB).mono ?_)
        rintro e wz ⟨rfl, hb⟩
        exact hK2.out (.agg #[.int .i64 u0, .int .i64 u1]) wz ⟨bq, rfl, (by intros; first | rfl | trivial), (by rw [if_pos (by simp [XInv.up, hs0])]; exact ⟨below_step hW.1 hb, Kd.R_below hW.2 hb⟩)⟩
    · refine XInv.yes_tab [(28, 20)] (by kernel_rfl) ?_
      cases hs0 : lb 1
      case false =>
        rw [if_neg (by rw [hs0]; decide)] at hW
        have hB := hW
        have k3 := blk_below H.out.2.2.2.2.1 hB
        have z0 := (blk_cell k3 0).trans rfl
        have z1 := (blk_cell k3 1).trans rfl
        have z2 := (blk_cell k3 2).trans rfl
        clear hcl hneed hclo
        intro Q2 K2 hK2
        simp only [XInv.puts, XPrint.pw]
        go_simp
        exact hK2.out (.pointer (some ⟨w.heap.size, 0, none⟩)) w' ⟨bq, rfl, (by intros; first | rfl | trivial), (by rw [if_neg (by simp [XInv.up, hs0])]; exact hW)⟩
      case true =>
        rw [if_pos hs0] at hW
        have hB := hW.1
        have k3 := blk_below H.out.2.2.2.2.1 hB
        have z0 := (blk_cell k3 0).trans rfl
        have z1 := (blk_cell k3 1).trans rfl
        have z2 := (blk_cell k3 2).trans rfl
        clear hcl hneed hclo
        intro Q2 K2 hK2
        simp only [XInv.puts, XPrint.pw]
        go_simp
        exact hK2.out (.pointer (some ⟨w.heap.size, 0, none⟩)) w' ⟨bq, rfl, (by intros; first | rfl | trivial), (by rw [if_pos (by simp [XInv.up, hs0])]; exact hW)⟩
    · refine XInv.yes_tab [(31, 23), (28, 20)] (by kernel_rfl) ?_
      cases hs0 : lb 1
      case false =>
        rw [if_neg (by rw [hs0]; decide)] at hW
        have hB := hW
        have k3 := blk_below H.out.2.2.2.2.1 hB
        have z0 := (blk_cell k3 0).trans rfl
        have z1 := (blk_cell k3 1).trans rfl
        have z2 := (blk_cell k3 2).trans rfl
        clear hcl hneed hclo
        intro Q2 K2 hK2
        simp only [XInv.puts, XPrint.pw]
        go_simp
        exact hK2.out (.agg #[.int .i64 u0, .int .i64 u1]) w' ⟨bq, rfl, (by intros; first | rfl | trivial), (by rw [if_neg (by simp [XInv.up, hs0])]; exact hW)⟩
      case true =>
        rw [if_pos hs0] at hW
        have hB := hW.1
        have k3 := blk_below H.out.2.2.2.2.1 hB
        have z0 := (blk_cell k3 0).trans rfl
        have z1 := (blk_cell k3 1).trans rfl
        have z2 := (blk_cell k3 2).trans rfl
        clear hcl hneed hclo
        intro Q2 K2 hK2
        simp only [XInv.puts, XPrint.pw]
        go_simp
        exact hK2.out (.agg #[.int .i64 u0, .int .i64 u1]) w' ⟨bq, rfl, (by intros; first | rfl | trivial), (by rw [if_pos (by simp [XInv.up, hs0])]; exact hW)⟩
    · refine XInv.yes_tab [(32, 24), (30, 22), (28, 20)] (by kernel_rfl) ?_
      cases hs0 : lb 1
      case false =>
        rw [if_neg (by rw [hs0]; decide)] at hW
        have hB := hW
        have k3 := blk_below H.out.2.2.2.2.1 hB
        have z0 := (blk_cell k3 0).trans rfl
        have z1 := (blk_cell k3 1).trans rfl
        have z2 := (blk_cell k3 2).trans rfl
        clear hcl hneed hclo
        intro Q2 K2 hK2
        simp only [XInv.puts, XPrint.pw]
        go_simp
        exact hK2.out (.bool false) w' ⟨bq, rfl, (by intros; first | rfl | trivial), (by rw [if_neg (by simp [XInv.up, hs0])]; exact hW)⟩
      case true =>
        rw [if_pos hs0] at hW
        have hB := hW.1
        have k3 := blk_below H.out.2.2.2.2.1 hB
        have z0 := (blk_cell k3 0).trans rfl
        have z1 := (blk_cell k3 1).trans rfl
        have z2 := (blk_cell k3 2).trans rfl
        clear hcl hneed hclo
        intro Q2 K2 hK2
        simp only [XInv.puts, XPrint.pw]
        go_simp
        exact hK2.out (.bool false) w' ⟨bq, rfl, (by intros; first | rfl | trivial), (by rw [if_pos (by simp [XInv.up, hs0])]; exact hW)⟩
    · refine XInv.yes_tab [(33, 25), (28, 20)] (by kernel_rfl) ?_
      cases hs0 : lb 1
      case false =>
        rw [if_neg (by rw [hs0]; decide)] at hW
        have hB := hW
        have k3 := blk_below H.out.2.2.2.2.1 hB
        have z0 := (blk_cell k3 0).trans rfl
        have z1 := (blk_cell k3 1).trans rfl
        have z2 := (blk_cell k3 2).trans rfl
        clear hcl hneed hclo
        intro Q2 K2 hK2
        simp only [XInv.puts, XPrint.pw]
        go_simp
        exact hK2.out (.bool false) w' ⟨bq, rfl, (by intros; first | rfl | trivial), (by rw [if_neg (by simp [XInv.up, hs0])]; exact hW)⟩
      case true =>
        rw [if_pos hs0] at hW
        have hB := hW.1
        have k3 := blk_below H.out.2.2.2.2.1 hB
        have z0 := (blk_cell k3 0).trans rfl
        have z1 := (blk_cell k3 1).trans rfl
        have z2 := (blk_cell k3 2).trans rfl
        clear hcl hneed hclo
        intro Q2 K2 hK2
        simp only [XInv.puts, XPrint.pw]
        go_simp
        exact hK2.out (.bool false) w' ⟨bq, rfl, (by intros; first | rfl | trivial), (by rw [if_pos (by simp [XInv.up, hs0])]; exact hW)⟩
  · intro bq w' hW
    refine XInv.end_nil [(34, 26), (33, 25), (32, 24), (31, 23), (30, 22), (29, 21), (28, 20), (27, 19), (26, 18), (25, 17), (24, 16), (23, 15), (22, 14), (21, 13), (20, 12), (19, 11), (18, 10), (17, 9), (16, 8), (15, 7), (14, 6), (13, 5), (12, 4), (11, 3), (10, 2), (9, 1), (8, 0)] (by kernel_rfl) (by kernel_rfl) ?_
    simp only [XInv.puts, XPrint.pw]
    rw [if_pos (by kernel_rfl)] at hW
    have X := Aside0.mk hW.1
    clear hW
    go_wp2_with fail
    go_loopg [5] ns.length (fun kk i wr => ∃ j : Nat, kk = ns.length - j ∧ i = .int .i64 j ∧ j ≤ ns.length ∧ Below W0.heap.size W0 wr)
    case atStart => exact ⟨0, rfl, rfl, Nat.zero_le _, X.out⟩
    obtain ⟨j, rfl, rfl, hj, hB⟩ := hrel
    replace X := Aside0.mk hB
    have z2 := (blk_cell (blk_below H.out.2.2.2.2.1 hB) 2).trans rfl
    clear hB
    by_cases hlt : j < ns.length
    · obtain ⟨ad, rfl, d0, d1, d2⟩ := at_T39 (H.out.2.2.2.2.2.2.2 _ X.out) (j : Int) (by omega) (by omega)
      have ej : (j : Int).toNat = j := by simp
      have er : rd_T39 ns (j : Int) = ns[j] := by unfold rd_T39; rw [ej, List.getD_eq_getElem?_getD, List.getElem?_eq_getElem hlt]; rfl
      rw [er, ej] at d0 d1 d2
      have hmem : ns[j] ∈ ns := List.getElem_mem hlt
      obtain ⟨x, hx⟩ : ∃ x, ns[j] = x := ⟨_, rfl⟩
      rw [hx] at d0 d1 d2 hmem
      obtain ⟨x0, x1, x2⟩ := x
      dsimp only at d0 d1 d2
      obtain ⟨KR, hKR⟩ := runits_ev (x := ⟨x0, ⟨x1, x2⟩⟩) ns H.out.1.unit (H.out.1.all _ hmem).2.1
      obtain ⟨q, hq⟩ : ∃ q, uns u0 u1 ⟨x0, ⟨x1, x2⟩⟩ = q := ⟨_, rfl⟩
      have hun := H.out.2.2.2.2.2.1 _ hmem
      rw [hq] at hun hKR
      have hwho := who_self (H.out.2.2.2.2.2.2.1 _ X.out).map.rising hmem
      have hwf : (Lit.int .u32 x0).wf = true := (H.out.2.2.2.2.2.2.1 _ X.out).map.wf _ (List.mem_map.2 ⟨⟨x0, ⟨x1, x2⟩⟩, hmem, rfl⟩)
      have D := Aside0.mk (And.intro d0 (And.intro d1 (And.intro d2 (And.intro hun (And.intro (hKR KR (Nat.le_refl _)) (And.intro hwho hwf))))))
      have hlt' : (j : Int) < (ns.length : Int) := by omega
      clear hmem hx hq hun hKR hwho hwf er
      go_wp2_with fail
      refine (units_yes KA _ b g u0 u1 x0 ns ⟨x0, ⟨x1, x2⟩⟩ q 0 _ (H.out.2.2.2.2.2.2.1 _ X.out) D.out.2.2.2.2.2.2 D.out.2.2.2.2.2.1 D.out.2.2.2.1).mono ?_
      rintro e w4 ⟨rfl, hb⟩
      replace D := Aside0.mk (And.intro (pw_cell_below hb D.out.1) (And.intro (pw_cell_below hb D.out.2.1) (And.intro (pw_cell_below hb D.out.2.2.1) D.out.2.2.2.2.1)))
      replace X := Aside0.mk (below_step X.out hb)
      clear hb d0 d1 d2 z2
      dsimp only
      go_upto_region 7 with (fail)
      refine XInv.region_tab [] [[], [], [], [2], [], [3, 4], [5], [1, 6], [0, 7], [8, 7], [9], [10, 9], [9, 11]] (fun bq jq => match jq with
          | 0 => .int .i64 q
          | 1 => .agg #[.int .i64 u0, .int .i64 u1, .slice (some ad) ns.length c]
          | 2 => .pointer (some ⟨w.heap.size, 2, none⟩)
          | 3 => .slice (some ad) ns.length c
          | 4 => .int .i64 j
          | 5 => .pointer (some (ad.add (j * 3)))
          | 6 => .agg #[.int .u32 x0, .int .i64 x1, .int .i64 x2]
          | 7 => .int .i64 q
          | 8 => .bool false
          | 9 => .bool false
          | 10 => .int .i64 0
          | 11 => .bool false
          | 12 => .bool false
          | _ => undef)
          (fun bq l w' => Below w4.heap.size w4 w')
          (by kernel_rfl) rfl (by kernel_rfl) (by kernel_rfl) (by kernel_rfl) ⟨fun _ : Nat => (0 : Nat), below_drew (Below.refl _ _)⟩ ?_ ?_
      · intro i1 hi1 hds oi hoi bq lb w' hW hlb hcl hneed hclo
        have hi1 : i1 < 13 := hi1
        have hcs : i1 = 0 ∨ i1 = 1 ∨ i1 = 2 ∨ i1 = 3 ∨ i1 = 4 ∨ i1 = 5 ∨ i1 = 6 ∨ i1 = 7 ∨ i1 = 8 ∨ i1 = 9 ∨ i1 = 10 ∨ i1 = 11 ∨ i1 = 12 := by omega
        clear hi1 hcl hneed hclo
        have k3 := blk_below H.out.2.2.2.2.1 (below_step X.out hW)
        have z0 := (blk_cell k3 0).trans rfl
        have z1 := (blk_cell k3 1).trans rfl
        have z2 := (blk_cell k3 2).trans rfl
        have d0 := pw_cell_below hW D.out.1
        have d1 := pw_cell_below hW D.out.2.1
        have d2 := pw_cell_below hW D.out.2.2.1
        rcases hcs with rfl | rfl | rfl | rfl | rfl | rfl | rfl | rfl | rfl | rfl | rfl | rfl | rfl
        all_goals simp only [List.getElem?_toArray, List.getElem?_cons_succ, List.getElem?_cons_zero, Option.some.injEq] at hoi
        all_goals subst hoi
        · refine XInv.yes_tab [] (by kernel_rfl) ?_
          have k3 := blk_below H.out.2.2.2.2.1 (below_step X.out hW)
          have z0 := (blk_cell k3 0).trans rfl
          have z1 := (blk_cell k3 1).trans rfl
          have z2 := (blk_cell k3 2).trans rfl
          have d0 := pw_cell_below hW D.out.1
          have d1 := pw_cell_below hW D.out.2.1
          have d2 := pw_cell_below hW D.out.2.2.1
          intro Q2 K2 hK2
          simp only [XInv.puts, XPrint.pw]
          go_simp
          exact hK2.out (.int .i64 q) w' ⟨bq, rfl, (by intros; first | rfl | trivial), hW⟩
        · refine XInv.yes_tab [] (by kernel_rfl) ?_
          have k3 := blk_below H.out.2.2.2.2.1 (below_step X.out hW)
          have z0 := (blk_cell k3 0).trans rfl
          have z1 := (blk_cell k3 1).trans rfl
          have z2 := (blk_cell k3 2).trans rfl
          have d0 := pw_cell_below hW D.out.1
          have d1 := pw_cell_below hW D.out.2.1
          have d2 := pw_cell_below hW D.out.2.2.1
          intro Q2 K2 hK2
          simp only [XInv.puts, XPrint.pw]
          go_simp
          exact hK2.out (.agg #[.int .i64 u0, .int .i64 u1, .slice (some ad) ns.length c]) w' ⟨bq, rfl, (by intros; first | rfl | trivial), hW⟩
        · refine XInv.yes_tab [] (by kernel_rfl) ?_
          have k3 := blk_below H.out.2.2.2.2.1 (below_step X.out hW)
          have z0 := (blk_cell k3 0).trans rfl
          have z1 := (blk_cell k3 1).trans rfl
          have z2 := (blk_cell k3 2).trans rfl
          have d0 := pw_cell_below hW D.out.1
          have d1 := pw_cell_below hW D.out.2.1
          have d2 := pw_cell_below hW D.out.2.2.1
          intro Q2 K2 hK2
          simp only [XInv.puts, XPrint.pw]
          go_simp
          exact hK2.out (.pointer (some ⟨w.heap.size, 2, none⟩)) w' ⟨bq, rfl, (by intros; first | rfl | trivial), hW⟩
        · refine XInv.yes_tab [(55, 2)] (by kernel_rfl) ?_
          have k3 := blk_below H.out.2.2.2.2.1 (below_step X.out hW)
          have z0 := (blk_cell k3 0).trans rfl
          have z1 := (blk_cell k3 1).trans rfl
          have z2 := (blk_cell k3 2).trans rfl
          have d0 := pw_cell_below hW D.out.1
          have d1 := pw_cell_below hW D.out.2.1
          have d2 := pw_cell_below hW D.out.2.2.1
          intro Q2 K2 hK2
          simp only [XInv.puts, XPrint.pw]
          go_simp
          exact hK2.out (.slice (some ad) ns.length c) w' ⟨bq, rfl, (by intros; first | rfl | trivial), hW⟩
        · refine XInv.yes_tab [] (by kernel_rfl) ?_
          have k3 := blk_below H.out.2.2.2.2.1 (below_step X.out hW)
          have z0 := (blk_cell k3 0).trans rfl
          have z1 := (blk_cell k3 1).trans rfl
          have z2 := (blk_cell k3 2).trans rfl
          have d0 := pw_cell_below hW D.out.1
          have d1 := pw_cell_below hW D.out.2.1
          have d2 := pw_cell_below hW D.out.2.2.1
          intro Q2 K2 hK2
          simp only [XInv.puts, XPrint.pw]
          go_simp
          exact hK2.out (.int .i64 j) w' ⟨bq, rfl, (by intros; first | rfl | trivial), hW⟩
        · refine XInv.yes_tab [(57, 4), (56, 3)] (by kernel_rfl) ?_
          have k3 := blk_below H.out.2.2.2.2.1 (below_step X.out hW)
          have z0 := (blk_cell k3 0).trans rfl
          have z1 := (blk_cell k3 1).trans rfl
          have z2 := (blk_cell k3 2).trans rfl
          have d0 := pw_cell_below hW D.out.1
          have d1 := pw_cell_below hW D.out.2.1
          have d2 := pw_cell_below hW D.out.2.2.1
          intro Q2 K2 hK2
          simp only [XInv.puts, XPrint.pw]
          go_simp
          exact hK2.out (.pointer (some (ad.add (j * 3)))) w' ⟨bq, rfl, (by intros; first | rfl | trivial), hW⟩
        · refine XInv.yes_tab [(58, 5)] (by kernel_rfl) ?_
          have k3 := blk_below H.out.2.2.2.2.1 (below_step X.out hW)
          have z0 := (blk_cell k3 0).trans rfl
          have z1 := (blk_cell k3 1).trans rfl
          have z2 := (blk_cell k3 2).trans rfl
          have d0 := pw_cell_below hW D.out.1
          have d1 := pw_cell_below hW D.out.2.1
          have d2 := pw_cell_below hW D.out.2.2.1
          intro Q2 K2 hK2
          simp only [XInv.puts, XPrint.pw]
          go_simp
          exact hK2.out (.agg #[.int .u32 x0, .int .i64 x1, .int .i64 x2]) w' ⟨bq, rfl, (by intros; first | rfl | trivial), hW⟩
        · refine XInv.yes_tab [(59, 6), (54, 1)] (by kernel_rfl) ?_
          have k3 := blk_below H.out.2.2.2.2.1 (below_step X.out hW)
          have z0 := (blk_cell k3 0).trans rfl
          have z1 := (blk_cell k3 1).trans rfl
          have z2 := (blk_cell k3 2).trans rfl
          have d0 := pw_cell_below hW D.out.1
          have d1 := pw_cell_below hW D.out.2.1
          have d2 := pw_cell_below hW D.out.2.2.1
          intro Q2 K2 hK2
          simp only [XInv.puts, XPrint.pw]
          go_simp
          go_at_call 71
          (with_reducible refine (liveryref22_Units.calls KR u0 u1 (some ad) c ns x0 x1 x2 q _ (H.out.2.2.2.2.2.2.2 _ (below_step X.out hW)) H.out.2.2.1 D.out.2.2.2).mono ?_)
          rintro e wz ⟨rfl, hb⟩
          exact hK2.out (.int .i64 q) wz ⟨bq, rfl, (by intros; first | rfl | trivial), below_step hW hb⟩
        · refine XInv.yes_tab [(60, 7), (53, 0)] (by kernel_rfl) ?_
          have k3 := blk_below H.out.2.2.2.2.1 (below_step X.out hW)
          have z0 := (blk_cell k3 0).trans rfl
          have z1 := (blk_cell k3 1).trans rfl
          have z2 := (blk_cell k3 2).trans rfl
          have d0 := pw_cell_below hW D.out.1
          have d1 := pw_cell_below hW D.out.2.1
          have d2 := pw_cell_below hW D.out.2.2.1
          intro Q2 K2 hK2
          simp only [XInv.puts, XPrint.pw]
          go_simp
          exact hK2.out (.bool false) w' ⟨bq, rfl, (by intros; first | rfl | trivial), hW⟩
        · refine XInv.yes_tab [(61, 8), (60, 7)] (by kernel_rfl) ?_
          have k3 := blk_below H.out.2.2.2.2.1 (below_step X.out hW)
          have z0 := (blk_cell k3 0).trans rfl
          have z1 := (blk_cell k3 1).trans rfl
          have z2 := (blk_cell k3 2).trans rfl
          have d0 := pw_cell_below hW D.out.1
          have d1 := pw_cell_below hW D.out.2.1
          have d2 := pw_cell_below hW D.out.2.2.1
          intro Q2 K2 hK2
          simp only [XInv.puts, XPrint.pw]
          go_simp
          exact hK2.out (.bool false) w' ⟨bq, rfl, (by intros; first | rfl | trivial), hW⟩
        · refine XInv.yes_tab [(62, 9)] (by kernel_rfl) ?_
          have k3 := blk_below H.out.2.2.2.2.1 (below_step X.out hW)
          have z0 := (blk_cell k3 0).trans rfl
          have z1 := (blk_cell k3 1).trans rfl
          have z2 := (blk_cell k3 2).trans rfl
          have d0 := pw_cell_below hW D.out.1
          have d1 := pw_cell_below hW D.out.2.1
          have d2 := pw_cell_below hW D.out.2.2.1
          intro Q2 K2 hK2
          simp only [XInv.puts, XPrint.pw]
          go_simp
          exact hK2.out (.int .i64 0) w' ⟨bq, rfl, (by intros; first | rfl | trivial), hW⟩
        · refine XInv.yes_tab [(63, 10), (62, 9)] (by kernel_rfl) ?_
          have k3 := blk_below H.out.2.2.2.2.1 (below_step X.out hW)
          have z0 := (blk_cell k3 0).trans rfl
          have z1 := (blk_cell k3 1).trans rfl
          have z2 := (blk_cell k3 2).trans rfl
          have d0 := pw_cell_below hW D.out.1
          have d1 := pw_cell_below hW D.out.2.1
          have d2 := pw_cell_below hW D.out.2.2.1
          intro Q2 K2 hK2
          simp only [XInv.puts, XPrint.pw]
          go_simp
          exact hK2.out (.bool false) w' ⟨bq, rfl, (by intros; first | rfl | trivial), hW⟩
        · refine XInv.yes_tab [(64, 11), (62, 9)] (by kernel_rfl) ?_
          have k3 := blk_below H.out.2.2.2.2.1 (below_step X.out hW)
          have z0 := (blk_cell k3 0).trans rfl
          have z1 := (blk_cell k3 1).trans rfl
          have z2 := (blk_cell k3 2).trans rfl
          have d0 := pw_cell_below hW D.out.1
          have d1 := pw_cell_below hW D.out.2.1
          have d2 := pw_cell_below hW D.out.2.2.1
          intro Q2 K2 hK2
          simp only [XInv.puts, XPrint.pw]
          go_simp
          exact hK2.out (.bool false) w' ⟨bq, rfl, (by intros; first | rfl | trivial), hW⟩
      · intro bq w' hW
        refine XInv.end_nil [(65, 12), (64, 11), (63, 10), (62, 9), (61, 8), (60, 7), (59, 6), (58, 5), (57, 4), (56, 3), (55, 2), (54, 1), (53, 0)] (by kernel_rfl) (by kernel_rfl) ?_
        simp only [XInv.puts, XPrint.pw]
        replace X := Aside0.mk (below_step X.out hW)
        clear hW
        go_wp2
        go_roundg (ns.length - (j + 1))
        case measure => omega
        case rel => exact ⟨j + 1, rfl, by go_num, by omega, X.out⟩
    · have hlt' : ¬ (j : Int) < (ns.length : Int) := by omega
      go_wp2
      go_ret
      exact ⟨rfl, below_then H.out.2.2.2.1 H.out.2.2.2.1.size X.out⟩
end Go.Proofs.Ythibppfdonepoaa.NodeT
