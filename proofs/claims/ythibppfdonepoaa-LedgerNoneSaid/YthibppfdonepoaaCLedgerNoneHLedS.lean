/- liverylaw23.LedgerNone. -/
import Derived.Test.YthibppfdonepoaaCLedgerNoneHLedQ
import Derived.Test.YthibppfdonepoaaCLedgerNoneHLedR
set_option linter.unusedVariables false
set_option linter.unusedSimpArgs false
namespace Go.Proofs.Ythibppfdonepoaa.LedT
open Go.RowKit Go.MapKept Go.Maps Go.ChangeMaps Go.Proofs.Ythibppfdonepoaa.XBut Go.Proofs.Ythibppfdonepoaa.XMap Go.Proofs.Ythibppfdonepoaa.NodeT Go.Proofs.YthibppfdonepoaaW.PrintWords Go.Proofs.YthibppfdonepoaaW.PrintLast
theorem cs58 (P : Nat → Prop) (h0 : P 0) (h1 : P 1) (h2 : P 2) (h3 : P 3) (h4 : P 4) (h5 : P 5) (h6 : P 6) (h7 : P 7) (h8 : P 8) (h9 : P 9) (h10 : P 10) (h11 : P 11) (h12 : P 12) (h13 : P 13) (h14 : P 14) (h15 : P 15) (h16 : P 16) (h17 : P 17) (h18 : P 18) (h19 : P 19) (h20 : P 20) (h21 : P 21) (h22 : P 22) (h23 : P 23) (h24 : P 24) (h25 : P 25) (h26 : P 26) (h27 : P 27) (h28 : P 28) (h29 : P 29) (h30 : P 30) (h31 : P 31) (h32 : P 32) (h33 : P 33) (h34 : P 34) (h35 : P 35) (h36 : P 36) (h37 : P 37) (h38 : P 38) (h39 : P 39) (h40 : P 40) (h41 : P 41) (h42 : P 42) (h43 : P 43) (h44 : P 44) (h45 : P 45) (h46 : P 46) (h47 : P 47) (h48 : P 48) (h49 : P 49) (h50 : P 50) (h51 : P 51) (h52 : P 52) (h53 : P 53) (h54 : P 54) (h55 : P 55) (h56 : P 56) (h57 : P 57) : ∀ i, i < 58 → P i := by
  intro i hi
  rcases (by omega : i = 0 ∨ i = 1 ∨ i = 2 ∨ i = 3 ∨ i = 4 ∨ i = 5 ∨ i = 6 ∨ i = 7 ∨ i = 8 ∨ i = 9 ∨ i = 10 ∨ i = 11 ∨ i = 12 ∨ i = 13 ∨ i = 14 ∨ i = 15 ∨ i = 16 ∨ i = 17 ∨ i = 18 ∨ i = 19 ∨ i = 20 ∨ i = 21 ∨ i = 22 ∨ i = 23 ∨ i = 24 ∨ i = 25 ∨ i = 26 ∨ i = 27 ∨ i = 28 ∨ i = 29 ∨ i = 30 ∨ i = 31 ∨ i = 32 ∨ i = 33 ∨ i = 34 ∨ i = 35 ∨ i = 36 ∨ i = 37 ∨ i = 38 ∨ i = 39 ∨ i = 40 ∨ i = 41 ∨ i = 42 ∨ i = 43 ∨ i = 44 ∨ i = 45 ∨ i = 46 ∨ i = 47 ∨ i = 48 ∨ i = 49 ∨ i = 50 ∨ i = 51 ∨ i = 52 ∨ i = 53 ∨ i = 54 ∨ i = 55 ∨ i = 56 ∨ i = 57) with rfl | rfl | rfl | rfl | rfl | rfl | rfl | rfl | rfl | rfl | rfl | rfl | rfl | rfl | rfl | rfl | rfl | rfl | rfl | rfl | rfl | rfl | rfl | rfl | rfl | rfl | rfl | rfl | rfl | rfl | rfl | rfl | rfl | rfl | rfl | rfl | rfl | rfl | rfl | rfl | rfl | rfl | rfl | rfl | rfl | rfl | rfl | rfl | rfl | rfl | rfl | rfl | rfl | rfl | rfl | rfl | rfl | rfl
  all_goals assumption
set_option maxHeartbeats 16000000 in
set_option maxRecDepth 100000 in
theorem ledgerNone (x0 n0 n1 n2 o m : Int) (s : Bool) (w : World) :
    Calls Try.prog 14 #[.agg #[.int .u8 x0, .int .u32 n0, .int .i64 n1, .int .i64 n2, .int .u32 o, .bool s, .int .i64 m]] w fun e w' => e = .returned (.bool true) ∧ Below w.heap.size w w' := by
  have hu23 := Try.underlying23
  have hu39 := Try.underlying39
  have hu107 := Try.underlying107
  have hu129 := Try.underlying129
  go_enter Try.func14, Try.ntmps14
  go_wp2_with fail
  obtain ⟨W3, hW3⟩ : ∃ W3, ((w.alloc (.cells #[.int .u8 x0, .int .u32 n0, .int .i64 n1, .int .i64 n2, .int .u32 o, .bool s, .int .i64 m] 107)).alloc (.cells #[.pointer none, .slice none 0 0, .int .u32 0] 129)).alloc (.cells #[.pointer none, .pointer (some ⟨w.heap.size + 1, 0, none⟩)] 102) = W3 := ⟨_, rfl⟩
  have hB3 : Below w.heap.size w W3 := by rw [← hW3]; exact below_alloc (below_alloc (below_alloc (Below.refl _ _) _) _) _
  have k0 : W3.heap[w.heap.size]? = some (.cells #[.int .u8 x0, .int .u32 n0, .int .i64 n1, .int .i64 n2, .int .u32 o, .bool s, .int .i64 m] 107 (0, 0)) := by rw [← hW3]; exact blk_alloc (blk_alloc (blk_new w _) _) _
  have k1 : W3.heap[w.heap.size + 1]? = some (.cells #[.pointer none, .slice none 0 0, .int .u32 0] 129 (0, 0)) := by
    have := blk_alloc (blk_new (w.alloc (.cells #[.int .u8 x0, .int .u32 n0, .int .i64 n1, .int .i64 n2, .int .u32 o, .bool s, .int .i64 m] 107)) (.cells #[.pointer none, .slice none 0 0, .int .u32 0] 129)) (.cells #[.pointer none, .pointer (some ⟨w.heap.size + 1, 0, none⟩)] 102)
    rw [World.size_alloc] at this
    rw [← hW3]; exact this
  have k2 : W3.heap[w.heap.size + 1 + 1]? = some (.cells #[.pointer none, .pointer (some ⟨w.heap.size + 1, 0, none⟩)] 102 (0, 0)) := by
    have := blk_new ((w.alloc (.cells #[.int .u8 x0, .int .u32 n0, .int .i64 n1, .int .i64 n2, .int .u32 o, .bool s, .int .i64 m] 107)).alloc (.cells #[.pointer none, .slice none 0 0, .int .u32 0] 129)) (.cells #[.pointer none, .pointer (some ⟨w.heap.size + 1, 0, none⟩)] 102)
    rw [World.size_alloc, World.size_alloc] at this
    rw [← hW3]; exact this
  have Y := Aside0.mk (And.intro hB3 (And.intro k0 (And.intro k1 k2)))
  rw [hW3]
  clear hB3 k0 k1 k2 hW3
  go_loopg [5] 2 (fun kk v5 wr => ∃ j : Nat, kk = 2 - j ∧ v5 = .int .i64 j ∧ j ≤ 2 ∧ Below W3.heap.size W3 wr)
  case atStart => exact ⟨0, rfl, rfl, by omega, Below.refl _ _⟩
  obtain ⟨j, rfl, rfl, hj, hB⟩ := hrel
  by_cases hlt : j < 2
  · obtain ⟨qa, hqa, hno⟩ : ∃ qa : Option Addr, wr.cell? ⟨w.heap.size + 1 + 1, j, none⟩ = some (.pointer qa) ∧ NoL (.pointer qa) wr := by
      rcases (by omega : j = 0 ∨ j = 1) with rfl | rfl
      · exact ⟨none, (blk_cell (blk_below Y.out.2.2.2 hB) 0).trans rfl, NoL.nil wr⟩
      · exact ⟨some ⟨w.heap.size + 1, 0, none⟩, (blk_cell (blk_below Y.out.2.2.2 hB) 1).trans rfl, NoL.at_ ((blk_cell (blk_below Y.out.2.2.1 hB) 0).trans rfl)⟩
    have KA := blk_below Y.out.2.1 hB
    have hlt' : (j : Int) < 2 := by omega
    have hja : (⟨w.heap.size + 1 + 1, 0, none⟩ : Addr).add j = ⟨w.heap.size + 1 + 1, j, none⟩ := by simp [Addr.add]; exact fun h => h.symm
    have hqb : wr.cell? ((⟨w.heap.size + 1 + 1, 0, none⟩ : Addr).add j) = some (.pointer qa) := by rw [hja]; exact hqa
    have hqc : wr.cell? ((⟨w.heap.size + 1 + 1, 0, none⟩ : Addr).add (j * 1)) = some (.pointer qa) := by rw [Nat.mul_one]; exact hqb
    have a1 := (blk_cell KA 1).trans rfl
    have X := Aside0.mk (And.intro hB (And.intro KA hno))
    clear hB KA hno hja
    go_wp2_with fail
    refine (no_lose (.pointer qa) n0 wr X.out.2.2).mono ?_
    rintro e w4 ⟨rfl, hb4⟩
    have X4 := Aside0.mk (And.intro (below_step X.out.1 hb4) (And.intro (blk_below X.out.2.1 hb4) (X.out.2.2.below hb4)))
    have q2 := (blk_cell X4.out.2.1 4).trans rfl
    have q3 := (blk_cell X4.out.2.1 5).trans rfl
    have q4 := (blk_cell X4.out.2.1 6).trans rfl
    clear hb4 a1 hqa hqb hqc
    dsimp only
    go_wp2_with fail
    refine (no_give (.pointer qa) o m s w4 X4.out.2.2).mono ?_
    rintro e w5 ⟨rfl, hb5⟩
    have X5 := Aside0.mk (And.intro (below_step X4.out.1 hb5) (And.intro (blk_below X4.out.2.1 hb5) (X4.out.2.2.below hb5)))
    clear q2 q3 q4 hb5
    have q2 := (blk_cell X5.out.2.1 4).trans rfl
    have q3 := (blk_cell X5.out.2.1 5).trans rfl
    have q4 := (blk_cell X5.out.2.1 6).trans rfl
    dsimp only
    go_wp2_with fail
    refine (no_take (.pointer qa) o m s w5 X5.out.2.2).mono ?_
    rintro e w6 ⟨rfl, hb6⟩
    have X6 := Aside0.mk (And.intro (below_step X5.out.1 hb6) (And.intro (blk_below X5.out.2.1 hb6) (X5.out.2.2.below hb6)))
    clear q2 q3 q4 hb6
    dsimp only
    go_upto_region 10 with (fail)
    refine XInv.region_tab [] [[], [], [1], [0, 2], [3], [4, 3], [5], [6, 5], [5, 7], [8, 5], [9], [10, 9], [9, 11], [12, 9], [13], [14, 13], [13, 15], [16, 13], [17], [18, 17, 17], [19, 17], [17], [17], [22, 17], [17], [24, 17], [21, 23, 25, 19, 17], [26, 17], [20, 27, 17], [17], [29, 26, 17], [30, 17], [28, 31, 17], [32, 17], [17, 33], [34, 30], [35], [36, 35, 35], [37, 35], [35, 38], [39, 37], [40], [40], [42, 40], [43, 40], [41, 44, 40, 40], [45, 40], [40, 46], [47, 45], [48], [49, 48, 48], [50, 48], [48, 51], [52, 50], [53], [54, 53, 53], [55, 53], [53, 56]] (fun bq jq => match jq with
        | 0 => .pointer qa
        | 1 => .pointer (some ⟨w.heap.size, 1, none⟩)
        | 2 => .agg #[.int .u32 n0, .int .i64 n1, .int .i64 n2]
        | 3 => .int .i64 1
        | 4 => .bool false
        | 5 => .bool false
        | 6 => .int .i64 1
        | 7 => .bool false
        | 8 => .bool false
        | 9 => .bool false
        | 10 => .int .i64 1
        | 11 => .bool false
        | 12 => .bool false
        | 13 => .bool false
        | 14 => .int .i64 1
        | 15 => .bool false
        | 16 => .bool false
        | 17 => .bool false
        | 18 => .pointer qa
        | 19 => .slice none 0 0
        | 20 => .int .i64 0
        | 21 => .pointer qa
        | 22 => .pointer (some ⟨w.heap.size, 4, none⟩)
        | 23 => .int .u32 o
        | 24 => .pointer (some ⟨w.heap.size, 5, none⟩)
        | 25 => .bool s
        | 26 => .slice bq.1 0 bq.2
        | 27 => .int .i64 0
        | 28 => .int .i64 0
        | 29 => .pointer qa
        | 30 => .slice none 0 0
        | 31 => .int .i64 0
        | 32 => .int .i64 0
        | 33 => .bool false
        | 34 => .bool false
        | 35 => .bool false
        | 36 => .pointer qa
        | 37 => .int .i64 0
        | 38 => .bool false
        | 39 => .bool false
        | 40 => .bool false
        | 41 => .pointer qa
        | 42 => .pointer (some ⟨w.heap.size, 1, none⟩)
        | 43 => .pointer (some ⟨w.heap.size, 1, none⟩)
        | 44 => .int .u32 n0
        | 45 => .int .i64 0
        | 46 => .bool false
        | 47 => .bool false
        | 48 => .bool false
        | 49 => .pointer qa
        | 50 => .pointer none
        | 51 => .bool false
        | 52 => .bool false
        | 53 => .bool false
        | 54 => .pointer qa
        | 55 => .pointer none
        | 56 => .bool false
        | 57 => .bool false
        | _ => undef)
        (fun bq l w' => Below w6.heap.size w6 w')
        (by kernel_rfl) rfl (by kernel_rfl) (by kernel_rfl) (by kernel_rfl) ⟨((none, 0) : Option Addr × Nat), below_drew (Below.refl _ _)⟩ ?_ ?_
    · refine cs58 _ ?_ ?_ ?_ ?_ ?_ ?_ ?_ ?_ ?_ ?_ ?_ ?_ ?_ ?_ ?_ ?_ ?_ ?_ ?_ ?_ ?_ ?_ ?_ ?_ ?_ ?_ ?_ ?_ ?_ ?_ ?_ ?_ ?_ ?_ ?_ ?_ ?_ ?_ ?_ ?_ ?_ ?_ ?_ ?_ ?_ ?_ ?_ ?_ ?_ ?_ ?_ ?_ ?_ ?_ ?_ ?_ ?_ ?_
      all_goals intro hds oi hoi bq lb w' hW hlb hcl hneed hclo
      all_goals clear hcl hneed hclo
      all_goals simp only [List.getElem?_toArray, List.getElem?_cons_succ, List.getElem?_cons_zero, Option.some.injEq] at hoi
      all_goals subst hoi
      · refine XInv.yes_tab [] (by kernel_rfl) ?_
        have ka := blk_below X6.out.2.1 hW
        have q0 := (blk_cell ka 0).trans rfl
        have q1 := (blk_cell ka 1).trans rfl
        have q2 := (blk_cell ka 2).trans rfl
        have q3 := (blk_cell ka 3).trans rfl
        have q4 := (blk_cell ka 4).trans rfl
        have q5 := (blk_cell ka 5).trans rfl
        have q6 := (blk_cell ka 6).trans rfl
        intro Q2 K2 hK2
        simp only [XInv.puts, XPrint.pw]
        go_simp
        exact hK2.out (.pointer qa) w' ⟨bq, rfl, (by intros; first | rfl | trivial), hW⟩
      · refine XInv.yes_tab [] (by kernel_rfl) ?_
        have ka := blk_below X6.out.2.1 hW
        have q0 := (blk_cell ka 0).trans rfl
        have q1 := (blk_cell ka 1).trans rfl
        have q2 := (blk_cell ka 2).trans rfl
        have q3 := (blk_cell ka 3).trans rfl
        have q4 := (blk_cell ka 4).trans rfl
        have q5 := (blk_cell ka 5).trans rfl
        have q6 := (blk_cell ka 6).trans rfl
        intro Q2 K2 hK2
        simp only [XInv.puts, XPrint.pw]
        go_simp
        exact hK2.out (.pointer (some ⟨w.heap.size, 1, none⟩)) w' ⟨bq, rfl, (by intros; first | rfl | trivial), hW⟩
      · refine XInv.yes_tab [(56, 1)] (by kernel_rfl) ?_
        have ka := blk_below X6.out.2.1 hW
        have q0 := (blk_cell ka 0).trans rfl
        have q1 := (blk_cell ka 1).trans rfl
        have q2 := (blk_cell ka 2).trans rfl
        have q3 := (blk_cell ka 3).trans rfl
        have q4 := (blk_cell ka 4).trans rfl
        have q5 := (blk_cell ka 5).trans rfl
        have q6 := (blk_cell ka 6).trans rfl
        intro Q2 K2 hK2
        simp only [XInv.puts, XPrint.pw]
        go_simp
        exact hK2.out (.agg #[.int .u32 n0, .int .i64 n1, .int .i64 n2]) w' ⟨bq, rfl, (by intros; first | rfl | trivial), hW⟩
      · refine XInv.yes_tab [(57, 2), (55, 0)] (by kernel_rfl) ?_
        have ka := blk_below X6.out.2.1 hW
        have q0 := (blk_cell ka 0).trans rfl
        have q1 := (blk_cell ka 1).trans rfl
        have q2 := (blk_cell ka 2).trans rfl
        have q3 := (blk_cell ka 3).trans rfl
        have q4 := (blk_cell ka 4).trans rfl
        have q5 := (blk_cell ka 5).trans rfl
        have q6 := (blk_cell ka 6).trans rfl
        intro Q2 K2 hK2
        simp only [XInv.puts, XPrint.pw]
        go_simp
        go_at_call 52
        (with_reducible refine (no_join (.pointer qa) n0 n1 n2 _ (X6.out.2.2.below hW)).mono ?_)
        rintro e wz ⟨rfl, hb⟩
        exact hK2.out (.int .i64 1) wz ⟨bq, rfl, (by intros; first | rfl | trivial), below_step hW hb⟩
      · refine XInv.yes_tab [(58, 3)] (by kernel_rfl) ?_
        have ka := blk_below X6.out.2.1 hW
        have q0 := (blk_cell ka 0).trans rfl
        have q1 := (blk_cell ka 1).trans rfl
        have q2 := (blk_cell ka 2).trans rfl
        have q3 := (blk_cell ka 3).trans rfl
        have q4 := (blk_cell ka 4).trans rfl
        have q5 := (blk_cell ka 5).trans rfl
        have q6 := (blk_cell ka 6).trans rfl
        intro Q2 K2 hK2
        simp only [XInv.puts, XPrint.pw]
        go_simp
        exact hK2.out (.bool false) w' ⟨bq, rfl, (by intros; first | rfl | trivial), hW⟩
      · refine XInv.yes_tab [(59, 4), (58, 3)] (by kernel_rfl) ?_
        have ka := blk_below X6.out.2.1 hW
        have q0 := (blk_cell ka 0).trans rfl
        have q1 := (blk_cell ka 1).trans rfl
        have q2 := (blk_cell ka 2).trans rfl
        have q3 := (blk_cell ka 3).trans rfl
        have q4 := (blk_cell ka 4).trans rfl
        have q5 := (blk_cell ka 5).trans rfl
        have q6 := (blk_cell ka 6).trans rfl
        intro Q2 K2 hK2
        simp only [XInv.puts, XPrint.pw]
        go_simp
        exact hK2.out (.bool false) w' ⟨bq, rfl, (by intros; first | rfl | trivial), hW⟩
      · refine XInv.yes_tab [(60, 5)] (by kernel_rfl) ?_
        have ka := blk_below X6.out.2.1 hW
        have q0 := (blk_cell ka 0).trans rfl
        have q1 := (blk_cell ka 1).trans rfl
        have q2 := (blk_cell ka 2).trans rfl
        have q3 := (blk_cell ka 3).trans rfl
        have q4 := (blk_cell ka 4).trans rfl
        have q5 := (blk_cell ka 5).trans rfl
        have q6 := (blk_cell ka 6).trans rfl
        intro Q2 K2 hK2
        simp only [XInv.puts, XPrint.pw]
        go_simp
        exact hK2.out (.int .i64 1) w' ⟨bq, rfl, (by intros; first | rfl | trivial), hW⟩
      · refine XInv.yes_tab [(61, 6), (60, 5)] (by kernel_rfl) ?_
        have ka := blk_below X6.out.2.1 hW
        have q0 := (blk_cell ka 0).trans rfl
        have q1 := (blk_cell ka 1).trans rfl
        have q2 := (blk_cell ka 2).trans rfl
        have q3 := (blk_cell ka 3).trans rfl
        have q4 := (blk_cell ka 4).trans rfl
        have q5 := (blk_cell ka 5).trans rfl
        have q6 := (blk_cell ka 6).trans rfl
        intro Q2 K2 hK2
        simp only [XInv.puts, XPrint.pw]
        go_simp
        exact hK2.out (.bool false) w' ⟨bq, rfl, (by intros; first | rfl | trivial), hW⟩
      · refine XInv.yes_tab [(62, 7), (60, 5)] (by kernel_rfl) ?_
        have ka := blk_below X6.out.2.1 hW
        have q0 := (blk_cell ka 0).trans rfl
        have q1 := (blk_cell ka 1).trans rfl
        have q2 := (blk_cell ka 2).trans rfl
        have q3 := (blk_cell ka 3).trans rfl
        have q4 := (blk_cell ka 4).trans rfl
        have q5 := (blk_cell ka 5).trans rfl
        have q6 := (blk_cell ka 6).trans rfl
        intro Q2 K2 hK2
        simp only [XInv.puts, XPrint.pw]
        go_simp
        exact hK2.out (.bool false) w' ⟨bq, rfl, (by intros; first | rfl | trivial), hW⟩
      · refine XInv.yes_tab [(63, 8), (60, 5)] (by kernel_rfl) ?_
        have ka := blk_below X6.out.2.1 hW
        have q0 := (blk_cell ka 0).trans rfl
        have q1 := (blk_cell ka 1).trans rfl
        have q2 := (blk_cell ka 2).trans rfl
        have q3 := (blk_cell ka 3).trans rfl
        have q4 := (blk_cell ka 4).trans rfl
        have q5 := (blk_cell ka 5).trans rfl
        have q6 := (blk_cell ka 6).trans rfl
        intro Q2 K2 hK2
        simp only [XInv.puts, XPrint.pw]
        go_simp
        exact hK2.out (.bool false) w' ⟨bq, rfl, (by intros; first | rfl | trivial), hW⟩
      · refine XInv.yes_tab [(64, 9)] (by kernel_rfl) ?_
        have ka := blk_below X6.out.2.1 hW
        have q0 := (blk_cell ka 0).trans rfl
        have q1 := (blk_cell ka 1).trans rfl
        have q2 := (blk_cell ka 2).trans rfl
        have q3 := (blk_cell ka 3).trans rfl
        have q4 := (blk_cell ka 4).trans rfl
        have q5 := (blk_cell ka 5).trans rfl
        have q6 := (blk_cell ka 6).trans rfl
        intro Q2 K2 hK2
        simp only [XInv.puts, XPrint.pw]
        go_simp
        exact hK2.out (.int .i64 1) w' ⟨bq, rfl, (by intros; first | rfl | trivial), hW⟩
      · refine XInv.yes_tab [(65, 10), (64, 9)] (by kernel_rfl) ?_
        have ka := blk_below X6.out.2.1 hW
        have q0 := (blk_cell ka 0).trans rfl
        have q1 := (blk_cell ka 1).trans rfl
        have q2 := (blk_cell ka 2).trans rfl
        have q3 := (blk_cell ka 3).trans rfl
        have q4 := (blk_cell ka 4).trans rfl
        have q5 := (blk_cell ka 5).trans rfl
        have q6 := (blk_cell ka 6).trans rfl
        intro Q2 K2 hK2
        simp only [XInv.puts, XPrint.pw]
        go_simp
        exact hK2.out (.bool false) w' ⟨bq, rfl, (by intros; first | rfl | trivial), hW⟩
      · refine XInv.yes_tab [(66, 11), (64, 9)] (by kernel_rfl) ?_
        have ka := blk_below X6.out.2.1 hW
        have q0 := (blk_cell ka 0).trans rfl
        have q1 := (blk_cell ka 1).trans rfl
        have q2 := (blk_cell ka 2).trans rfl
        have q3 := (blk_cell ka 3).trans rfl
        have q4 := (blk_cell ka 4).trans rfl
        have q5 := (blk_cell ka 5).trans rfl
        have q6 := (blk_cell ka 6).trans rfl
        intro Q2 K2 hK2
        simp only [XInv.puts, XPrint.pw]
        go_simp
        exact hK2.out (.bool false) w' ⟨bq, rfl, (by intros; first | rfl | trivial), hW⟩
      · refine XInv.yes_tab [(67, 12), (64, 9)] (by kernel_rfl) ?_
        have ka := blk_below X6.out.2.1 hW
        have q0 := (blk_cell ka 0).trans rfl
        have q1 := (blk_cell ka 1).trans rfl
        have q2 := (blk_cell ka 2).trans rfl
        have q3 := (blk_cell ka 3).trans rfl
        have q4 := (blk_cell ka 4).trans rfl
        have q5 := (blk_cell ka 5).trans rfl
        have q6 := (blk_cell ka 6).trans rfl
        intro Q2 K2 hK2
        simp only [XInv.puts, XPrint.pw]
        go_simp
        exact hK2.out (.bool false) w' ⟨bq, rfl, (by intros; first | rfl | trivial), hW⟩
      · refine XInv.yes_tab [(68, 13)] (by kernel_rfl) ?_
        have ka := blk_below X6.out.2.1 hW
        have q0 := (blk_cell ka 0).trans rfl
        have q1 := (blk_cell ka 1).trans rfl
        have q2 := (blk_cell ka 2).trans rfl
        have q3 := (blk_cell ka 3).trans rfl
        have q4 := (blk_cell ka 4).trans rfl
        have q5 := (blk_cell ka 5).trans rfl
        have q6 := (blk_cell ka 6).trans rfl
        intro Q2 K2 hK2
        simp only [XInv.puts, XPrint.pw]
        go_simp
        exact hK2.out (.int .i64 1) w' ⟨bq, rfl, (by intros; first | rfl | trivial), hW⟩
      · refine XInv.yes_tab [(69, 14), (68, 13)] (by kernel_rfl) ?_
        have ka := blk_below X6.out.2.1 hW
        have q0 := (blk_cell ka 0).trans rfl
        have q1 := (blk_cell ka 1).trans rfl
        have q2 := (blk_cell ka 2).trans rfl
        have q3 := (blk_cell ka 3).trans rfl
        have q4 := (blk_cell ka 4).trans rfl
        have q5 := (blk_cell ka 5).trans rfl
        have q6 := (blk_cell ka 6).trans rfl
        intro Q2 K2 hK2
        simp only [XInv.puts, XPrint.pw]
        go_simp
        exact hK2.out (.bool false) w' ⟨bq, rfl, (by intros; first | rfl | trivial), hW⟩
      · refine XInv.yes_tab [(70, 15), (68, 13)] (by kernel_rfl) ?_
        have ka := blk_below X6.out.2.1 hW
        have q0 := (blk_cell ka 0).trans rfl
        have q1 := (blk_cell ka 1).trans rfl
        have q2 := (blk_cell ka 2).trans rfl
        have q3 := (blk_cell ka 3).trans rfl
        have q4 := (blk_cell ka 4).trans rfl
        have q5 := (blk_cell ka 5).trans rfl
        have q6 := (blk_cell ka 6).trans rfl
        intro Q2 K2 hK2
        simp only [XInv.puts, XPrint.pw]
        go_simp
        exact hK2.out (.bool false) w' ⟨bq, rfl, (by intros; first | rfl | trivial), hW⟩
      · refine XInv.yes_tab [(71, 16), (68, 13)] (by kernel_rfl) ?_
        have ka := blk_below X6.out.2.1 hW
        have q0 := (blk_cell ka 0).trans rfl
        have q1 := (blk_cell ka 1).trans rfl
        have q2 := (blk_cell ka 2).trans rfl
        have q3 := (blk_cell ka 3).trans rfl
        have q4 := (blk_cell ka 4).trans rfl
        have q5 := (blk_cell ka 5).trans rfl
        have q6 := (blk_cell ka 6).trans rfl
        intro Q2 K2 hK2
        simp only [XInv.puts, XPrint.pw]
        go_simp
        exact hK2.out (.bool false) w' ⟨bq, rfl, (by intros; first | rfl | trivial), hW⟩
      · refine XInv.yes_tab [(72, 17)] (by kernel_rfl) ?_
        have ka := blk_below X6.out.2.1 hW
        have q0 := (blk_cell ka 0).trans rfl
        have q1 := (blk_cell ka 1).trans rfl
        have q2 := (blk_cell ka 2).trans rfl
        have q3 := (blk_cell ka 3).trans rfl
        have q4 := (blk_cell ka 4).trans rfl
        have q5 := (blk_cell ka 5).trans rfl
        have q6 := (blk_cell ka 6).trans rfl
        intro Q2 K2 hK2
        simp only [XInv.puts, XPrint.pw]
        go_simp
        exact hK2.out (.pointer qa) w' ⟨bq, rfl, (by intros; first | rfl | trivial), hW⟩
      · refine XInv.yes_tab [(73, 18), (72, 17)] (by kernel_rfl) ?_
        have ka := blk_below X6.out.2.1 hW
        have q0 := (blk_cell ka 0).trans rfl
        have q1 := (blk_cell ka 1).trans rfl
        have q2 := (blk_cell ka 2).trans rfl
        have q3 := (blk_cell ka 3).trans rfl
        have q4 := (blk_cell ka 4).trans rfl
        have q5 := (blk_cell ka 5).trans rfl
        have q6 := (blk_cell ka 6).trans rfl
        intro Q2 K2 hK2
        simp only [XInv.puts, XPrint.pw]
        go_simp
        go_at_call 56
        (with_reducible refine (no_boxes (.pointer qa) _ (X6.out.2.2.below hW)).mono ?_)
        rintro e wz ⟨rfl, hb⟩
        exact hK2.out (.slice none 0 0) wz ⟨bq, rfl, (by intros; first | rfl | trivial), below_step hW hb⟩
      · refine XInv.yes_tab [(74, 19), (72, 17)] (by kernel_rfl) ?_
        have ka := blk_below X6.out.2.1 hW
        have q0 := (blk_cell ka 0).trans rfl
        have q1 := (blk_cell ka 1).trans rfl
        have q2 := (blk_cell ka 2).trans rfl
        have q3 := (blk_cell ka 3).trans rfl
        have q4 := (blk_cell ka 4).trans rfl
        have q5 := (blk_cell ka 5).trans rfl
        have q6 := (blk_cell ka 6).trans rfl
        intro Q2 K2 hK2
        simp only [XInv.puts, XPrint.pw]
        go_simp
        exact hK2.out (.int .i64 0) w' ⟨bq, rfl, (by intros; first | rfl | trivial), hW⟩
      · refine XInv.yes_tab [(72, 17)] (by kernel_rfl) ?_
        have ka := blk_below X6.out.2.1 hW
        have q0 := (blk_cell ka 0).trans rfl
        have q1 := (blk_cell ka 1).trans rfl
        have q2 := (blk_cell ka 2).trans rfl
        have q3 := (blk_cell ka 3).trans rfl
        have q4 := (blk_cell ka 4).trans rfl
        have q5 := (blk_cell ka 5).trans rfl
        have q6 := (blk_cell ka 6).trans rfl
        intro Q2 K2 hK2
        simp only [XInv.puts, XPrint.pw]
        go_simp
        exact hK2.out (.pointer qa) w' ⟨bq, rfl, (by intros; first | rfl | trivial), hW⟩
      · refine XInv.yes_tab [(72, 17)] (by kernel_rfl) ?_
        have ka := blk_below X6.out.2.1 hW
        have q0 := (blk_cell ka 0).trans rfl
        have q1 := (blk_cell ka 1).trans rfl
        have q2 := (blk_cell ka 2).trans rfl
        have q3 := (blk_cell ka 3).trans rfl
        have q4 := (blk_cell ka 4).trans rfl
        have q5 := (blk_cell ka 5).trans rfl
        have q6 := (blk_cell ka 6).trans rfl
        intro Q2 K2 hK2
        simp only [XInv.puts, XPrint.pw]
        go_simp
        exact hK2.out (.pointer (some ⟨w.heap.size, 4, none⟩)) w' ⟨bq, rfl, (by intros; first | rfl | trivial), hW⟩
      · refine XInv.yes_tab [(77, 22), (72, 17)] (by kernel_rfl) ?_
        have ka := blk_below X6.out.2.1 hW
        have q0 := (blk_cell ka 0).trans rfl
        have q1 := (blk_cell ka 1).trans rfl
        have q2 := (blk_cell ka 2).trans rfl
        have q3 := (blk_cell ka 3).trans rfl
        have q4 := (blk_cell ka 4).trans rfl
        have q5 := (blk_cell ka 5).trans rfl
        have q6 := (blk_cell ka 6).trans rfl
        intro Q2 K2 hK2
        simp only [XInv.puts, XPrint.pw]
        go_simp
        exact hK2.out (.int .u32 o) w' ⟨bq, rfl, (by intros; first | rfl | trivial), hW⟩
      · refine XInv.yes_tab [(72, 17)] (by kernel_rfl) ?_
        have ka := blk_below X6.out.2.1 hW
        have q0 := (blk_cell ka 0).trans rfl
        have q1 := (blk_cell ka 1).trans rfl
        have q2 := (blk_cell ka 2).trans rfl
        have q3 := (blk_cell ka 3).trans rfl
        have q4 := (blk_cell ka 4).trans rfl
        have q5 := (blk_cell ka 5).trans rfl
        have q6 := (blk_cell ka 6).trans rfl
        intro Q2 K2 hK2
        simp only [XInv.puts, XPrint.pw]
        go_simp
        exact hK2.out (.pointer (some ⟨w.heap.size, 5, none⟩)) w' ⟨bq, rfl, (by intros; first | rfl | trivial), hW⟩
      · refine XInv.yes_tab [(79, 24), (72, 17)] (by kernel_rfl) ?_
        have ka := blk_below X6.out.2.1 hW
        have q0 := (blk_cell ka 0).trans rfl
        have q1 := (blk_cell ka 1).trans rfl
        have q2 := (blk_cell ka 2).trans rfl
        have q3 := (blk_cell ka 3).trans rfl
        have q4 := (blk_cell ka 4).trans rfl
        have q5 := (blk_cell ka 5).trans rfl
        have q6 := (blk_cell ka 6).trans rfl
        intro Q2 K2 hK2
        simp only [XInv.puts, XPrint.pw]
        go_simp
        exact hK2.out (.bool s) w' ⟨bq, rfl, (by intros; first | rfl | trivial), hW⟩
      · refine XInv.yes_tab [(80, 25), (78, 23), (76, 21), (74, 19), (72, 17)] (by kernel_rfl) ?_
        have ka := blk_below X6.out.2.1 hW
        have q0 := (blk_cell ka 0).trans rfl
        have q1 := (blk_cell ka 1).trans rfl
        have q2 := (blk_cell ka 2).trans rfl
        have q3 := (blk_cell ka 3).trans rfl
        have q4 := (blk_cell ka 4).trans rfl
        have q5 := (blk_cell ka 5).trans rfl
        have q6 := (blk_cell ka 6).trans rfl
        intro Q2 K2 hK2
        simp only [XInv.puts, XPrint.pw] at hK2 ⊢
        go_simp
        go_at_call 61
        (with_reducible refine (no_of (.pointer qa) o s _ (X6.out.2.2.below hW)).mono ?_)
        rintro e wz ⟨Az, cz, rfl, hb⟩
        exact hK2.out (.slice Az 0 cz) wz ⟨(Az, cz), rfl, (cs58 _ (fun _ => rfl) (fun _ => rfl) (fun _ => rfl) (fun _ => rfl) (fun _ => rfl) (fun _ => rfl) (fun _ => rfl) (fun _ => rfl) (fun _ => rfl) (fun _ => rfl) (fun _ => rfl) (fun _ => rfl) (fun _ => rfl) (fun _ => rfl) (fun _ => rfl) (fun _ => rfl) (fun _ => rfl) (fun _ => rfl) (fun _ => rfl) (fun _ => rfl) (fun _ => rfl) (fun _ => rfl) (fun _ => rfl) (fun _ => rfl) (fun _ => rfl) (fun _ => rfl) (fun hlj => absurd (hlb.symm.trans hlj) (by decide)) (fun _ => rfl) (fun _ => rfl) (fun _ => rfl) (fun _ => rfl) (fun _ => rfl) (fun _ => rfl) (fun _ => rfl) (fun _ => rfl) (fun _ => rfl) (fun _ => rfl) (fun _ => rfl) (fun _ => rfl) (fun _ => rfl) (fun _ => rfl) (fun _ => rfl) (fun _ => rfl) (fun _ => rfl) (fun _ => rfl) (fun _ => rfl) (fun _ => rfl) (fun _ => rfl) (fun _ => rfl) (fun _ => rfl) (fun _ => rfl) (fun _ => rfl) (fun _ => rfl) (fun _ => rfl) (fun _ => rfl) (fun _ => rfl) (fun _ => rfl) (fun _ => rfl)), below_step hW hb⟩
      · refine XInv.yes_tab [(81, 26), (72, 17)] (by kernel_rfl) ?_
        have ka := blk_below X6.out.2.1 hW
        have q0 := (blk_cell ka 0).trans rfl
        have q1 := (blk_cell ka 1).trans rfl
        have q2 := (blk_cell ka 2).trans rfl
        have q3 := (blk_cell ka 3).trans rfl
        have q4 := (blk_cell ka 4).trans rfl
        have q5 := (blk_cell ka 5).trans rfl
        have q6 := (blk_cell ka 6).trans rfl
        intro Q2 K2 hK2
        simp only [XInv.puts, XPrint.pw]
        go_simp
        exact hK2.out (.int .i64 0) w' ⟨bq, rfl, (by intros; first | rfl | trivial), hW⟩
      · refine XInv.yes_tab [(82, 27), (75, 20), (72, 17)] (by kernel_rfl) ?_
        have ka := blk_below X6.out.2.1 hW
        have q0 := (blk_cell ka 0).trans rfl
        have q1 := (blk_cell ka 1).trans rfl
        have q2 := (blk_cell ka 2).trans rfl
        have q3 := (blk_cell ka 3).trans rfl
        have q4 := (blk_cell ka 4).trans rfl
        have q5 := (blk_cell ka 5).trans rfl
        have q6 := (blk_cell ka 6).trans rfl
        intro Q2 K2 hK2
        simp only [XInv.puts, XPrint.pw]
        go_simp
        exact hK2.out (.int .i64 0) w' ⟨bq, rfl, (by intros; first | rfl | trivial), hW⟩
      · refine XInv.yes_tab [(72, 17)] (by kernel_rfl) ?_
        have ka := blk_below X6.out.2.1 hW
        have q0 := (blk_cell ka 0).trans rfl
        have q1 := (blk_cell ka 1).trans rfl
        have q2 := (blk_cell ka 2).trans rfl
        have q3 := (blk_cell ka 3).trans rfl
        have q4 := (blk_cell ka 4).trans rfl
        have q5 := (blk_cell ka 5).trans rfl
        have q6 := (blk_cell ka 6).trans rfl
        intro Q2 K2 hK2
        simp only [XInv.puts, XPrint.pw]
        go_simp
        exact hK2.out (.pointer qa) w' ⟨bq, rfl, (by intros; first | rfl | trivial), hW⟩
      · refine XInv.yes_tab [(84, 29), (81, 26), (72, 17)] (by kernel_rfl) ?_
        have ka := blk_below X6.out.2.1 hW
        have q0 := (blk_cell ka 0).trans rfl
        have q1 := (blk_cell ka 1).trans rfl
        have q2 := (blk_cell ka 2).trans rfl
        have q3 := (blk_cell ka 3).trans rfl
        have q4 := (blk_cell ka 4).trans rfl
        have q5 := (blk_cell ka 5).trans rfl
        have q6 := (blk_cell ka 6).trans rfl
        intro Q2 K2 hK2
        simp only [XInv.puts, XPrint.pw]
        go_simp
        go_at_call 62
        (with_reducible refine (no_owners (.pointer qa) true _ (X6.out.2.2.below hW)).mono ?_)
        rintro e wz ⟨rfl, hb⟩
        exact hK2.out (.slice none 0 0) wz ⟨bq, rfl, (by intros; first | rfl | trivial), below_step hW hb⟩
      · refine XInv.yes_tab [(85, 30), (72, 17)] (by kernel_rfl) ?_
        have ka := blk_below X6.out.2.1 hW
        have q0 := (blk_cell ka 0).trans rfl
        have q1 := (blk_cell ka 1).trans rfl
        have q2 := (blk_cell ka 2).trans rfl
        have q3 := (blk_cell ka 3).trans rfl
        have q4 := (blk_cell ka 4).trans rfl
        have q5 := (blk_cell ka 5).trans rfl
        have q6 := (blk_cell ka 6).trans rfl
        intro Q2 K2 hK2
        simp only [XInv.puts, XPrint.pw]
        go_simp
        exact hK2.out (.int .i64 0) w' ⟨bq, rfl, (by intros; first | rfl | trivial), hW⟩
      · refine XInv.yes_tab [(86, 31), (83, 28), (72, 17)] (by kernel_rfl) ?_
        have ka := blk_below X6.out.2.1 hW
        have q0 := (blk_cell ka 0).trans rfl
        have q1 := (blk_cell ka 1).trans rfl
        have q2 := (blk_cell ka 2).trans rfl
        have q3 := (blk_cell ka 3).trans rfl
        have q4 := (blk_cell ka 4).trans rfl
        have q5 := (blk_cell ka 5).trans rfl
        have q6 := (blk_cell ka 6).trans rfl
        intro Q2 K2 hK2
        simp only [XInv.puts, XPrint.pw]
        go_simp
        exact hK2.out (.int .i64 0) w' ⟨bq, rfl, (by intros; first | rfl | trivial), hW⟩
      · refine XInv.yes_tab [(87, 32), (72, 17)] (by kernel_rfl) ?_
        have ka := blk_below X6.out.2.1 hW
        have q0 := (blk_cell ka 0).trans rfl
        have q1 := (blk_cell ka 1).trans rfl
        have q2 := (blk_cell ka 2).trans rfl
        have q3 := (blk_cell ka 3).trans rfl
        have q4 := (blk_cell ka 4).trans rfl
        have q5 := (blk_cell ka 5).trans rfl
        have q6 := (blk_cell ka 6).trans rfl
        intro Q2 K2 hK2
        simp only [XInv.puts, XPrint.pw]
        go_simp
        exact hK2.out (.bool false) w' ⟨bq, rfl, (by intros; first | rfl | trivial), hW⟩
      · refine XInv.yes_tab [(88, 33), (72, 17)] (by kernel_rfl) ?_
        have ka := blk_below X6.out.2.1 hW
        have q0 := (blk_cell ka 0).trans rfl
        have q1 := (blk_cell ka 1).trans rfl
        have q2 := (blk_cell ka 2).trans rfl
        have q3 := (blk_cell ka 3).trans rfl
        have q4 := (blk_cell ka 4).trans rfl
        have q5 := (blk_cell ka 5).trans rfl
        have q6 := (blk_cell ka 6).trans rfl
        intro Q2 K2 hK2
        simp only [XInv.puts, XPrint.pw]
        go_simp
        exact hK2.out (.bool false) w' ⟨bq, rfl, (by intros; first | rfl | trivial), hW⟩
      · refine XInv.yes_tab [(89, 34), (85, 30)] (by kernel_rfl) ?_
        have ka := blk_below X6.out.2.1 hW
        have q0 := (blk_cell ka 0).trans rfl
        have q1 := (blk_cell ka 1).trans rfl
        have q2 := (blk_cell ka 2).trans rfl
        have q3 := (blk_cell ka 3).trans rfl
        have q4 := (blk_cell ka 4).trans rfl
        have q5 := (blk_cell ka 5).trans rfl
        have q6 := (blk_cell ka 6).trans rfl
        intro Q2 K2 hK2
        simp only [XInv.puts, XPrint.pw]
        go_simp
        exact hK2.out (.bool false) w' ⟨bq, rfl, (by intros; first | rfl | trivial), hW⟩
      · refine XInv.yes_tab [(90, 35)] (by kernel_rfl) ?_
        have ka := blk_below X6.out.2.1 hW
        have q0 := (blk_cell ka 0).trans rfl
        have q1 := (blk_cell ka 1).trans rfl
        have q2 := (blk_cell ka 2).trans rfl
        have q3 := (blk_cell ka 3).trans rfl
        have q4 := (blk_cell ka 4).trans rfl
        have q5 := (blk_cell ka 5).trans rfl
        have q6 := (blk_cell ka 6).trans rfl
        intro Q2 K2 hK2
        simp only [XInv.puts, XPrint.pw]
        go_simp
        exact hK2.out (.pointer qa) w' ⟨bq, rfl, (by intros; first | rfl | trivial), hW⟩
      · refine XInv.yes_tab [(91, 36), (90, 35)] (by kernel_rfl) ?_
        have ka := blk_below X6.out.2.1 hW
        have q0 := (blk_cell ka 0).trans rfl
        have q1 := (blk_cell ka 1).trans rfl
        have q2 := (blk_cell ka 2).trans rfl
        have q3 := (blk_cell ka 3).trans rfl
        have q4 := (blk_cell ka 4).trans rfl
        have q5 := (blk_cell ka 5).trans rfl
        have q6 := (blk_cell ka 6).trans rfl
        intro Q2 K2 hK2
        simp only [XInv.puts, XPrint.pw]
        go_simp
        go_at_call 51
        (with_reducible refine (no_free (.pointer qa) _ (X6.out.2.2.below hW)).mono ?_)
        rintro e wz ⟨rfl, hb⟩
        exact hK2.out (.int .i64 0) wz ⟨bq, rfl, (by intros; first | rfl | trivial), below_step hW hb⟩
      · refine XInv.yes_tab [(92, 37), (90, 35)] (by kernel_rfl) ?_
        have ka := blk_below X6.out.2.1 hW
        have q0 := (blk_cell ka 0).trans rfl
        have q1 := (blk_cell ka 1).trans rfl
        have q2 := (blk_cell ka 2).trans rfl
        have q3 := (blk_cell ka 3).trans rfl
        have q4 := (blk_cell ka 4).trans rfl
        have q5 := (blk_cell ka 5).trans rfl
        have q6 := (blk_cell ka 6).trans rfl
        intro Q2 K2 hK2
        simp only [XInv.puts, XPrint.pw]
        go_simp
        exact hK2.out (.bool false) w' ⟨bq, rfl, (by intros; first | rfl | trivial), hW⟩
      · refine XInv.yes_tab [(93, 38), (90, 35)] (by kernel_rfl) ?_
        have ka := blk_below X6.out.2.1 hW
        have q0 := (blk_cell ka 0).trans rfl
        have q1 := (blk_cell ka 1).trans rfl
        have q2 := (blk_cell ka 2).trans rfl
        have q3 := (blk_cell ka 3).trans rfl
        have q4 := (blk_cell ka 4).trans rfl
        have q5 := (blk_cell ka 5).trans rfl
        have q6 := (blk_cell ka 6).trans rfl
        intro Q2 K2 hK2
        simp only [XInv.puts, XPrint.pw]
        go_simp
        exact hK2.out (.bool false) w' ⟨bq, rfl, (by intros; first | rfl | trivial), hW⟩
      · refine XInv.yes_tab [(94, 39), (92, 37)] (by kernel_rfl) ?_
        have ka := blk_below X6.out.2.1 hW
        have q0 := (blk_cell ka 0).trans rfl
        have q1 := (blk_cell ka 1).trans rfl
        have q2 := (blk_cell ka 2).trans rfl
        have q3 := (blk_cell ka 3).trans rfl
        have q4 := (blk_cell ka 4).trans rfl
        have q5 := (blk_cell ka 5).trans rfl
        have q6 := (blk_cell ka 6).trans rfl
        intro Q2 K2 hK2
        simp only [XInv.puts, XPrint.pw]
        go_simp
        exact hK2.out (.bool false) w' ⟨bq, rfl, (by intros; first | rfl | trivial), hW⟩
      · refine XInv.yes_tab [(95, 40)] (by kernel_rfl) ?_
        have ka := blk_below X6.out.2.1 hW
        have q0 := (blk_cell ka 0).trans rfl
        have q1 := (blk_cell ka 1).trans rfl
        have q2 := (blk_cell ka 2).trans rfl
        have q3 := (blk_cell ka 3).trans rfl
        have q4 := (blk_cell ka 4).trans rfl
        have q5 := (blk_cell ka 5).trans rfl
        have q6 := (blk_cell ka 6).trans rfl
        intro Q2 K2 hK2
        simp only [XInv.puts, XPrint.pw]
        go_simp
        exact hK2.out (.pointer qa) w' ⟨bq, rfl, (by intros; first | rfl | trivial), hW⟩
      · refine XInv.yes_tab [(95, 40)] (by kernel_rfl) ?_
        have ka := blk_below X6.out.2.1 hW
        have q0 := (blk_cell ka 0).trans rfl
        have q1 := (blk_cell ka 1).trans rfl
        have q2 := (blk_cell ka 2).trans rfl
        have q3 := (blk_cell ka 3).trans rfl
        have q4 := (blk_cell ka 4).trans rfl
        have q5 := (blk_cell ka 5).trans rfl
        have q6 := (blk_cell ka 6).trans rfl
        intro Q2 K2 hK2
        simp only [XInv.puts, XPrint.pw]
        go_simp
        exact hK2.out (.pointer (some ⟨w.heap.size, 1, none⟩)) w' ⟨bq, rfl, (by intros; first | rfl | trivial), hW⟩
      · refine XInv.yes_tab [(97, 42), (95, 40)] (by kernel_rfl) ?_
        have ka := blk_below X6.out.2.1 hW
        have q0 := (blk_cell ka 0).trans rfl
        have q1 := (blk_cell ka 1).trans rfl
        have q2 := (blk_cell ka 2).trans rfl
        have q3 := (blk_cell ka 3).trans rfl
        have q4 := (blk_cell ka 4).trans rfl
        have q5 := (blk_cell ka 5).trans rfl
        have q6 := (blk_cell ka 6).trans rfl
        intro Q2 K2 hK2
        simp only [XInv.puts, XPrint.pw]
        go_simp
        exact hK2.out (.pointer (some ⟨w.heap.size, 1, none⟩)) w' ⟨bq, rfl, (by intros; first | rfl | trivial), hW⟩
      · refine XInv.yes_tab [(98, 43), (95, 40)] (by kernel_rfl) ?_
        have ka := blk_below X6.out.2.1 hW
        have q0 := (blk_cell ka 0).trans rfl
        have q1 := (blk_cell ka 1).trans rfl
        have q2 := (blk_cell ka 2).trans rfl
        have q3 := (blk_cell ka 3).trans rfl
        have q4 := (blk_cell ka 4).trans rfl
        have q5 := (blk_cell ka 5).trans rfl
        have q6 := (blk_cell ka 6).trans rfl
        intro Q2 K2 hK2
        simp only [XInv.puts, XPrint.pw]
        go_simp
        exact hK2.out (.int .u32 n0) w' ⟨bq, rfl, (by intros; first | rfl | trivial), hW⟩
      · refine XInv.yes_tab [(99, 44), (96, 41), (95, 40)] (by kernel_rfl) ?_
        have ka := blk_below X6.out.2.1 hW
        have q0 := (blk_cell ka 0).trans rfl
        have q1 := (blk_cell ka 1).trans rfl
        have q2 := (blk_cell ka 2).trans rfl
        have q3 := (blk_cell ka 3).trans rfl
        have q4 := (blk_cell ka 4).trans rfl
        have q5 := (blk_cell ka 5).trans rfl
        have q6 := (blk_cell ka 6).trans rfl
        intro Q2 K2 hK2
        simp only [XInv.puts, XPrint.pw]
        go_simp
        go_at_call 58
        (with_reducible refine (no_room (.pointer qa) n0 _ (X6.out.2.2.below hW)).mono ?_)
        rintro e wz ⟨rfl, hb⟩
        exact hK2.out (.int .i64 0) wz ⟨bq, rfl, (by intros; first | rfl | trivial), below_step hW hb⟩
      · refine XInv.yes_tab [(100, 45), (95, 40)] (by kernel_rfl) ?_
        have ka := blk_below X6.out.2.1 hW
        have q0 := (blk_cell ka 0).trans rfl
        have q1 := (blk_cell ka 1).trans rfl
        have q2 := (blk_cell ka 2).trans rfl
        have q3 := (blk_cell ka 3).trans rfl
        have q4 := (blk_cell ka 4).trans rfl
        have q5 := (blk_cell ka 5).trans rfl
        have q6 := (blk_cell ka 6).trans rfl
        intro Q2 K2 hK2
        simp only [XInv.puts, XPrint.pw]
        go_simp
        exact hK2.out (.bool false) w' ⟨bq, rfl, (by intros; first | rfl | trivial), hW⟩
      · refine XInv.yes_tab [(101, 46), (95, 40)] (by kernel_rfl) ?_
        have ka := blk_below X6.out.2.1 hW
        have q0 := (blk_cell ka 0).trans rfl
        have q1 := (blk_cell ka 1).trans rfl
        have q2 := (blk_cell ka 2).trans rfl
        have q3 := (blk_cell ka 3).trans rfl
        have q4 := (blk_cell ka 4).trans rfl
        have q5 := (blk_cell ka 5).trans rfl
        have q6 := (blk_cell ka 6).trans rfl
        intro Q2 K2 hK2
        simp only [XInv.puts, XPrint.pw]
        go_simp
        exact hK2.out (.bool false) w' ⟨bq, rfl, (by intros; first | rfl | trivial), hW⟩
      · refine XInv.yes_tab [(102, 47), (100, 45)] (by kernel_rfl) ?_
        have ka := blk_below X6.out.2.1 hW
        have q0 := (blk_cell ka 0).trans rfl
        have q1 := (blk_cell ka 1).trans rfl
        have q2 := (blk_cell ka 2).trans rfl
        have q3 := (blk_cell ka 3).trans rfl
        have q4 := (blk_cell ka 4).trans rfl
        have q5 := (blk_cell ka 5).trans rfl
        have q6 := (blk_cell ka 6).trans rfl
        intro Q2 K2 hK2
        simp only [XInv.puts, XPrint.pw]
        go_simp
        exact hK2.out (.bool false) w' ⟨bq, rfl, (by intros; first | rfl | trivial), hW⟩
      · refine XInv.yes_tab [(103, 48)] (by kernel_rfl) ?_
        have ka := blk_below X6.out.2.1 hW
        have q0 := (blk_cell ka 0).trans rfl
        have q1 := (blk_cell ka 1).trans rfl
        have q2 := (blk_cell ka 2).trans rfl
        have q3 := (blk_cell ka 3).trans rfl
        have q4 := (blk_cell ka 4).trans rfl
        have q5 := (blk_cell ka 5).trans rfl
        have q6 := (blk_cell ka 6).trans rfl
        intro Q2 K2 hK2
        simp only [XInv.puts, XPrint.pw]
        go_simp
        exact hK2.out (.pointer qa) w' ⟨bq, rfl, (by intros; first | rfl | trivial), hW⟩
      · refine XInv.yes_tab [(104, 49), (103, 48)] (by kernel_rfl) ?_
        have ka := blk_below X6.out.2.1 hW
        have q0 := (blk_cell ka 0).trans rfl
        have q1 := (blk_cell ka 1).trans rfl
        have q2 := (blk_cell ka 2).trans rfl
        have q3 := (blk_cell ka 3).trans rfl
        have q4 := (blk_cell ka 4).trans rfl
        have q5 := (blk_cell ka 5).trans rfl
        have q6 := (blk_cell ka 6).trans rfl
        intro Q2 K2 hK2
        simp only [XInv.puts, XPrint.pw]
        go_simp
        go_at_call 57
        (with_reducible refine (no_nodes (.pointer qa) _ (X6.out.2.2.below hW)).mono ?_)
        rintro e wz ⟨rfl, hb⟩
        exact hK2.out (.pointer none) wz ⟨bq, rfl, (by intros; first | rfl | trivial), below_step hW hb⟩
      · refine XInv.yes_tab [(105, 50), (103, 48)] (by kernel_rfl) ?_
        have ka := blk_below X6.out.2.1 hW
        have q0 := (blk_cell ka 0).trans rfl
        have q1 := (blk_cell ka 1).trans rfl
        have q2 := (blk_cell ka 2).trans rfl
        have q3 := (blk_cell ka 3).trans rfl
        have q4 := (blk_cell ka 4).trans rfl
        have q5 := (blk_cell ka 5).trans rfl
        have q6 := (blk_cell ka 6).trans rfl
        intro Q2 K2 hK2
        simp only [XInv.puts, XPrint.pw]
        go_simp
        exact hK2.out (.bool false) w' ⟨bq, rfl, (by intros; first | rfl | trivial), hW⟩
      · refine XInv.yes_tab [(106, 51), (103, 48)] (by kernel_rfl) ?_
        have ka := blk_below X6.out.2.1 hW
        have q0 := (blk_cell ka 0).trans rfl
        have q1 := (blk_cell ka 1).trans rfl
        have q2 := (blk_cell ka 2).trans rfl
        have q3 := (blk_cell ka 3).trans rfl
        have q4 := (blk_cell ka 4).trans rfl
        have q5 := (blk_cell ka 5).trans rfl
        have q6 := (blk_cell ka 6).trans rfl
        intro Q2 K2 hK2
        simp only [XInv.puts, XPrint.pw]
        go_simp
        exact hK2.out (.bool false) w' ⟨bq, rfl, (by intros; first | rfl | trivial), hW⟩
      · refine XInv.yes_tab [(107, 52), (105, 50)] (by kernel_rfl) ?_
        have ka := blk_below X6.out.2.1 hW
        have q0 := (blk_cell ka 0).trans rfl
        have q1 := (blk_cell ka 1).trans rfl
        have q2 := (blk_cell ka 2).trans rfl
        have q3 := (blk_cell ka 3).trans rfl
        have q4 := (blk_cell ka 4).trans rfl
        have q5 := (blk_cell ka 5).trans rfl
        have q6 := (blk_cell ka 6).trans rfl
        intro Q2 K2 hK2
        simp only [XInv.puts, XPrint.pw]
        go_simp
        exact hK2.out (.bool false) w' ⟨bq, rfl, (by intros; first | rfl | trivial), hW⟩
      · refine XInv.yes_tab [(108, 53)] (by kernel_rfl) ?_
        have ka := blk_below X6.out.2.1 hW
        have q0 := (blk_cell ka 0).trans rfl
        have q1 := (blk_cell ka 1).trans rfl
        have q2 := (blk_cell ka 2).trans rfl
        have q3 := (blk_cell ka 3).trans rfl
        have q4 := (blk_cell ka 4).trans rfl
        have q5 := (blk_cell ka 5).trans rfl
        have q6 := (blk_cell ka 6).trans rfl
        intro Q2 K2 hK2
        simp only [XInv.puts, XPrint.pw]
        go_simp
        exact hK2.out (.pointer qa) w' ⟨bq, rfl, (by intros; first | rfl | trivial), hW⟩
      · refine XInv.yes_tab [(109, 54), (108, 53)] (by kernel_rfl) ?_
        have ka := blk_below X6.out.2.1 hW
        have q0 := (blk_cell ka 0).trans rfl
        have q1 := (blk_cell ka 1).trans rfl
        have q2 := (blk_cell ka 2).trans rfl
        have q3 := (blk_cell ka 3).trans rfl
        have q4 := (blk_cell ka 4).trans rfl
        have q5 := (blk_cell ka 5).trans rfl
        have q6 := (blk_cell ka 6).trans rfl
        intro Q2 K2 hK2
        simp only [XInv.puts, XPrint.pw]
        go_simp
        go_at_call 63
        (with_reducible refine (no_copy (.pointer qa) _ (X6.out.2.2.below hW)).mono ?_)
        rintro e wz ⟨rfl, hb⟩
        exact hK2.out (.pointer none) wz ⟨bq, rfl, (by intros; first | rfl | trivial), below_step hW hb⟩
      · refine XInv.yes_tab [(110, 55), (108, 53)] (by kernel_rfl) ?_
        have ka := blk_below X6.out.2.1 hW
        have q0 := (blk_cell ka 0).trans rfl
        have q1 := (blk_cell ka 1).trans rfl
        have q2 := (blk_cell ka 2).trans rfl
        have q3 := (blk_cell ka 3).trans rfl
        have q4 := (blk_cell ka 4).trans rfl
        have q5 := (blk_cell ka 5).trans rfl
        have q6 := (blk_cell ka 6).trans rfl
        intro Q2 K2 hK2
        simp only [XInv.puts, XPrint.pw]
        go_simp
        exact hK2.out (.bool false) w' ⟨bq, rfl, (by intros; first | rfl | trivial), hW⟩
      · refine XInv.yes_tab [(111, 56), (108, 53)] (by kernel_rfl) ?_
        have ka := blk_below X6.out.2.1 hW
        have q0 := (blk_cell ka 0).trans rfl
        have q1 := (blk_cell ka 1).trans rfl
        have q2 := (blk_cell ka 2).trans rfl
        have q3 := (blk_cell ka 3).trans rfl
        have q4 := (blk_cell ka 4).trans rfl
        have q5 := (blk_cell ka 5).trans rfl
        have q6 := (blk_cell ka 6).trans rfl
        intro Q2 K2 hK2
        simp only [XInv.puts, XPrint.pw]
        go_simp
        exact hK2.out (.bool false) w' ⟨bq, rfl, (by intros; first | rfl | trivial), hW⟩
    · intro bq w' hW
      refine XInv.end_nil [(112, 57), (111, 56), (110, 55), (109, 54), (108, 53), (107, 52), (106, 51), (105, 50), (104, 49), (103, 48), (102, 47), (101, 46), (100, 45), (99, 44), (98, 43), (97, 42), (96, 41), (95, 40), (94, 39), (93, 38), (92, 37), (91, 36), (90, 35), (89, 34), (88, 33), (87, 32), (86, 31), (85, 30), (84, 29), (83, 28), (82, 27), (81, 26), (80, 25), (79, 24), (78, 23), (77, 22), (76, 21), (75, 20), (74, 19), (73, 18), (72, 17), (71, 16), (70, 15), (69, 14), (68, 13), (67, 12), (66, 11), (65, 10), (64, 9), (63, 8), (62, 7), (61, 6), (60, 5), (59, 4), (58, 3), (57, 2), (56, 1), (55, 0)] (by kernel_rfl) (by kernel_rfl) ?_
      simp only [XInv.puts, XPrint.pw]
      have Z := Aside0.mk hW
      clear hW
      go_wp2
      go_roundg (2 - (j + 1))
      case measure => omega
      case rel => exact ⟨j + 1, rfl, by go_num, by omega, below_step X6.out.1 Z.out⟩
  · have hlt' : ¬ (j : Int) < 2 := by omega
    have X := Aside0.mk hB
    clear hB
    go_wp2_with fail
    refine (head wr).mono ?_
    rintro e w4 ⟨rfl, hb4⟩
    have Z := Aside0.mk hb4
    clear hb4
    dsimp only
    go_wp2
    go_ret
    exact ⟨rfl, below_step (below_then Y.out.1 Y.out.1.size X.out) Z.out⟩
end Go.Proofs.Ythibppfdonepoaa.LedT
