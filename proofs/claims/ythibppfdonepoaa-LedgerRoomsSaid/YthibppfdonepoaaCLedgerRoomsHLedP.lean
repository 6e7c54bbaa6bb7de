/- slices.Index, slices.Contains over boxes; the closures of Take and of owned; Of. ledger.Ledger: Give, whatever is asked; Take. ledger.Ledger: a ledger along a law. -/
import Derived.Test.YthibppfdonepoaaCLedgerRoomsHLedM
import Derived.Test.YthibppfdonepoaaCLedgerRoomsPLedLibx1
set_option linter.unusedVariables false
set_option linter.unusedSimpArgs false
namespace Go.Proofs.Ythibppfdonepoaa.LedT
open Go.RowKit Go.MapKept Go.Maps Go.ChangeMaps Go.Proofs.Ythibppfdonepoaa.XBut Go.Proofs.Ythibppfdonepoaa.XMap Go.Proofs.Ythibppfdonepoaa.NodeT Go.Proofs.YthibppfdonepoaaW.PrintWords Go.Proofs.YthibppfdonepoaaW.PrintLast
theorem eq_box (x y : Bx) : (x.f0 == y.f0 && (x.f1 == y.f1 && (x.f2 == y.f2 && (x.f3 == y.f3)))) = decide (x = y) := by
  obtain ⟨x0, x1, x2, x3⟩ := x
  obtain ⟨y0, y1, y2, y3⟩ := y
  rw [Bool.eq_iff_iff]
  simp
set_option maxHeartbeats 8000000 in
set_option maxRecDepth 100000 in
theorem index (l : List Bx) (A : Option Addr) (c : Nat) (y : Bx) (w : World) (hC : Kd.C PLedLib.k113 w A l.length l) (hl : l.length ≤ 1000000) :
    Calls Try.prog 143 #[.slice A l.length c, bv y] w fun e w' => ∃ z : Int, e = .returned (.int .i64 z) ∧ (0 ≤ z ↔ y ∈ l) ∧ Below w.heap.size w w' := by
  have e113 := PLedLib.eqA113
  have hu113 := Try.underlying113
  have hl6 : (l.length : Int) ≤ 1000000 := by omega
  have H := Aside0.mk (And.intro hC hl)
  have Y := Aside0.mk (show y = y from rfl)
  obtain ⟨y0, y1, y2, y3⟩ := y
  have k0 := blk_new w (.cells #[.int .u32 y0, .int .u32 y1, .int .u32 y2, .bool y3] 113)
  have hB0 : Below w.heap.size w (w.alloc (.cells #[.int .u32 y0, .int .u32 y1, .int .u32 y2, .bool y3] 113)) := below_alloc (Below.refl _ _) _
  have HW := Aside0.mk (And.intro k0 hB0)
  unfold bv
  dsimp only
  clear hC hl Y k0 hB0
  go_enter Try.func143, Try.ntmps143
  go_wp2_with fail
  go_loopg [5, 8] l.length (fun kk v5 v8 wr => ∃ j : Nat, kk = l.length - j ∧ v8 = .int .i64 j ∧ j ≤ l.length ∧ Below w.heap.size w wr ∧ wr.heap[w.heap.size]? = some (.cells #[.int .u32 y0, .int .u32 y1, .int .u32 y2, .bool y3] 113 (0, 0)) ∧ (⟨y0, y1, y2, y3⟩ : Bx) ∉ l.take j)
  case atStart => exact ⟨0, rfl, rfl, Nat.zero_le _, HW.out.2, HW.out.1, by simp⟩
  obtain ⟨j, rfl, rfl, hj, hB, hk, hno⟩ := hrel
  by_cases hlt : j < l.length
  · obtain ⟨ad, rfl, d0, d1, d2, d3⟩ := PLedLib.at_T113 (Kd.C_below H.out.1 hB) (j : Int) (by omega) (by omega)
    have ej : (j : Int).toNat = j := by simp
    have er : PLedLib.rd_T113 l (j : Int) = l[j] := by unfold PLedLib.rd_T113; rw [ej, List.getD_eq_getElem?_getD, List.getElem?_eq_getElem hlt]; rfl
    rw [er, ej] at d0 d1 d2 d3
    have htk : l.take (j + 1) = l.take j ++ [l[j]] := by rw [List.take_add_one, List.getElem?_eq_getElem hlt]; rfl
    have hmem : l[j] ∈ l := List.getElem_mem hlt
    obtain ⟨x, hx⟩ : ∃ x, l[j] = x := ⟨_, rfl⟩
    rw [hx] at d0 d1 d2 d3 htk hmem
    have eb := eq_box ⟨y0, y1, y2, y3⟩ x
    obtain ⟨q, hq⟩ : ∃ q, decide ((⟨y0, y1, y2, y3⟩ : Bx) = x) = q := ⟨_, rfl⟩
    rw [hq] at eb
    obtain ⟨x0, x1, x2, x3⟩ := x
    dsimp only at d0 d1 d2 d3 eb
    have hlt' : (j : Int) < (l.length : Int) := by omega
    have X := Aside0.mk (And.intro hB (And.intro hk (And.intro hno (And.intro htk (And.intro hmem hq)))))
    have E := Aside0.mk eb
    have D := Aside0.mk (And.intro d0 (And.intro d1 (And.intro d2 d3)))
    clear hB hk hno htk hmem hq hx er eb
    clear d0 d1 d2 d3
    go_upto_region 4 with (fail)
    refine XInv.region_tab [] [[], [], [], [1, 2], [3], [0, 4]] (fun bq jq => match jq with
        | 0 => .agg #[.int .u32 y0, .int .u32 y1, .int .u32 y2, .bool y3]
        | 1 => .slice (some ad) l.length c
        | 2 => .int .i64 j
        | 3 => .pointer (some (ad.add (j * 4)))
        | 4 => .agg #[.int .u32 x0, .int .u32 x1, .int .u32 x2, .bool x3]
        | 5 => .bool q
        | _ => undef)
        (fun bq l w' => Below wr.heap.size wr w')
        (by kernel_rfl) rfl (by kernel_rfl) (by kernel_rfl) (by kernel_rfl) ⟨fun _ : Nat => (0 : Nat), below_drew (Below.refl _ _)⟩ ?_ ?_
    · intro i1 hi1 hds oi hoi bq lb w' hW hlb hcl hneed hclo
      have hi1 : i1 < 6 := hi1
      have hcs : i1 = 0 ∨ i1 = 1 ∨ i1 = 2 ∨ i1 = 3 ∨ i1 = 4 ∨ i1 = 5 := by omega
      clear hi1 hcl hneed hclo
      have ky := blk_below X.out.2.1 hW
      have n0 := (blk_cell ky 0).trans rfl
      have n1 := (blk_cell ky 1).trans rfl
      have n2 := (blk_cell ky 2).trans rfl
      have n3 := (blk_cell ky 3).trans rfl
      have d0 := pw_cell_below hW D.out.1
      have d1 := pw_cell_below hW D.out.2.1
      have d2 := pw_cell_below hW D.out.2.2.1
      have d3 := pw_cell_below hW D.out.2.2.2
      have eb := E.out
      rcases hcs with rfl | rfl | rfl | rfl | rfl | rfl
      all_goals simp only [List.getElem?_toArray, List.getElem?_cons_succ, List.getElem?_cons_zero, Option.some.injEq] at hoi
      all_goals subst hoi
      · refine XInv.yes_tab [] (by kernel_rfl) ?_
        have ky := blk_below X.out.2.1 hW
        have n0 := (blk_cell ky 0).trans rfl
        have n1 := (blk_cell ky 1).trans rfl
        have n2 := (blk_cell ky 2).trans rfl
        have n3 := (blk_cell ky 3).trans rfl
        have d0 := pw_cell_below hW D.out.1
        have d1 := pw_cell_below hW D.out.2.1
        have d2 := pw_cell_below hW D.out.2.2.1
        have d3 := pw_cell_below hW D.out.2.2.2
        have eb := E.out
        intro Q2 K2 hK2
        simp only [XInv.puts, XPrint.pw]
        go_simp
        exact hK2.out (.agg #[.int .u32 y0, .int .u32 y1, .int .u32 y2, .bool y3]) w' ⟨bq, rfl, (by intros; first | rfl | trivial), hW⟩
      · refine XInv.yes_tab [] (by kernel_rfl) ?_
        have ky := blk_below X.out.2.1 hW
        have n0 := (blk_cell ky 0).trans rfl
        have n1 := (blk_cell ky 1).trans rfl
        have n2 := (blk_cell ky 2).trans rfl
        have n3 := (blk_cell ky 3).trans rfl
        have d0 := pw_cell_below hW D.out.1
        have d1 := pw_cell_below hW D.out.2.1
        have d2 := pw_cell_below hW D.out.2.2.1
        have d3 := pw_cell_below hW D.out.2.2.2
        have eb := E.out
        intro Q2 K2 hK2
        simp only [XInv.puts, XPrint.pw]
        go_simp
        exact hK2.out (.slice (some ad) l.length c) w' ⟨bq, rfl, (by intros; first | rfl | trivial), hW⟩
      · refine XInv.yes_tab [] (by kernel_rfl) ?_
        have ky := blk_below X.out.2.1 hW
        have n0 := (blk_cell ky 0).trans rfl
        have n1 := (blk_cell ky 1).trans rfl
        have n2 := (blk_cell ky 2).trans rfl
        have n3 := (blk_cell ky 3).trans rfl
        have d0 := pw_cell_below hW D.out.1
        have d1 := pw_cell_below hW D.out.2.1
        have d2 := pw_cell_below hW D.out.2.2.1
        have d3 := pw_cell_below hW D.out.2.2.2
        have eb := E.out
        intro Q2 K2 hK2
        simp only [XInv.puts, XPrint.pw]
        go_simp
        exact hK2.out (.int .i64 j) w' ⟨bq, rfl, (by intros; first | rfl | trivial), hW⟩
      · refine XInv.yes_tab [(13, 2), (12, 1)] (by kernel_rfl) ?_
        have ky := blk_below X.out.2.1 hW
        have n0 := (blk_cell ky 0).trans rfl
        have n1 := (blk_cell ky 1).trans rfl
        have n2 := (blk_cell ky 2).trans rfl
        have n3 := (blk_cell ky 3).trans rfl
        have d0 := pw_cell_below hW D.out.1
        have d1 := pw_cell_below hW D.out.2.1
        have d2 := pw_cell_below hW D.out.2.2.1
        have d3 := pw_cell_below hW D.out.2.2.2
        have eb := E.out
        intro Q2 K2 hK2
        simp only [XInv.puts, XPrint.pw]
        go_simp
        exact hK2.out (.pointer (some (ad.add (j * 4)))) w' ⟨bq, rfl, (by intros; first | rfl | trivial), hW⟩
      · refine XInv.yes_tab [(14, 3)] (by kernel_rfl) ?_
        have ky := blk_below X.out.2.1 hW
        have n0 := (blk_cell ky 0).trans rfl
        have n1 := (blk_cell ky 1).trans rfl
        have n2 := (blk_cell ky 2).trans rfl
        have n3 := (blk_cell ky 3).trans rfl
        have d0 := pw_cell_below hW D.out.1
        have d1 := pw_cell_below hW D.out.2.1
        have d2 := pw_cell_below hW D.out.2.2.1
        have d3 := pw_cell_below hW D.out.2.2.2
        have eb := E.out
        intro Q2 K2 hK2
        simp only [XInv.puts, XPrint.pw]
        go_simp
        exact hK2.out (.agg #[.int .u32 x0, .int .u32 x1, .int .u32 x2, .bool x3]) w' ⟨bq, rfl, (by intros; first | rfl | trivial), hW⟩
      · refine XInv.yes_tab [(15, 4), (11, 0)] (by kernel_rfl) ?_
        have ky := blk_below X.out.2.1 hW
        have n0 := (blk_cell ky 0).trans rfl
        have n1 := (blk_cell ky 1).trans rfl
        have n2 := (blk_cell ky 2).trans rfl
        have n3 := (blk_cell ky 3).trans rfl
        have d0 := pw_cell_below hW D.out.1
        have d1 := pw_cell_below hW D.out.2.1
        have d2 := pw_cell_below hW D.out.2.2.1
        have d3 := pw_cell_below hW D.out.2.2.2
        have eb := E.out
        intro Q2 K2 hK2
        simp only [XInv.puts, XPrint.pw]
        go_simp
        exact hK2.out (.bool q) w' ⟨bq, rfl, (by intros; first | rfl | trivial), hW⟩
    · intro bq w' hW
      refine XInv.end_nil [(16, 5), (15, 4), (14, 3), (13, 2), (12, 1), (11, 0)] (by kernel_rfl) (by kernel_rfl) ?_
      simp only [XInv.puts, XPrint.pw]
      have V := Aside0.mk hW
      clear hW
      cases q
      · go_wp2
        go_roundg (l.length - (j + 1))
        case measure => omega
        case rel => exact ⟨j + 1, rfl, by go_num, by omega, below_step X.out.1 V.out, blk_below X.out.2.1 V.out, by rw [X.out.2.2.2.1]; intro hm; rcases List.mem_append.1 hm with hm | hm; exact X.out.2.2.1 hm; exact of_decide_eq_false X.out.2.2.2.2.2 (List.mem_singleton.1 hm)⟩
      · go_wp2
        go_ret
        refine ⟨j, rfl, ⟨fun _ => ?_, fun _ => by omega⟩, below_step X.out.1 V.out⟩
        rw [of_decide_eq_true X.out.2.2.2.2.2]
        exact X.out.2.2.2.2.1
  · have hlt' : ¬ (j : Int) < (l.length : Int) := by omega
    have htk : l.take j = l := List.take_of_length_le (by omega)
    rw [htk] at hno
    have X := Aside0.mk (And.intro hB hno)
    clear hB hno hk htk
    go_wp2
    go_ret
    exact ⟨-1, rfl, ⟨fun h => by omega, fun h => absurd h X.out.2⟩, X.out.1⟩
set_option maxHeartbeats 4000000 in
set_option maxRecDepth 100000 in
theorem contains (l : List Bx) (A : Option Addr) (c : Nat) (y : Bx) (w : World) (hC : Kd.C PLedLib.k113 w A l.length l) (hl : l.length ≤ 1000000) :
    Calls Try.prog 109 #[.slice A l.length c, bv y] w fun e w' => e = .returned (.bool (decide (y ∈ l))) ∧ Below w.heap.size w w' := by
  have hu113 := Try.underlying113
  have H := Aside0.mk (fun w' (hb : Below w.heap.size w w') => index l A c y w' (Kd.C_below hC hb) hl)
  clear hC hl
  have M : Aside0 (∀ z : Int, (0 ≤ z ↔ y ∈ l) → decide (0 ≤ z) = decide (y ∈ l)) := ⟨fun z hz => decide_eq_decide.2 hz⟩
  obtain ⟨q, hq⟩ : ∃ q, decide (y ∈ l) = q := ⟨_, rfl⟩
  rw [hq] at M ⊢
  clear hq
  obtain ⟨y0, y1, y2, y3⟩ := y
  unfold bv at H ⊢
  dsimp only at H ⊢
  go_enter Try.func109, Try.ntmps109
  go_wp2_with fail
  refine (H.out _ (below_alloc (Below.refl _ _) _)).mono ?_
  rintro e w1 ⟨z, rfl, hz, hb⟩
  have t1 := M.out z hz
  have X := Aside0.mk hb
  clear hb hz
  dsimp only
  go_wp2
  go_ret
  exact ⟨rfl, below_then (below_alloc (Below.refl _ _) _) (by simp) X.out⟩
set_option maxHeartbeats 4000000 in
set_option maxRecDepth 100000 in
theorem take1 (l : List Bx) (A : Option Addr) (c p : Nat) (y : Bx) (w : World) (hk : w.cell? ⟨p, 0, none⟩ = some (.slice A l.length c)) (hC : Kd.C PLedLib.k113 w A l.length l) (hl : l.length ≤ 1000000) :
    Calls Try.prog 108 #[bv y, .pointer (some ⟨p, 0, none⟩)] w fun e w' => e = .returned (.bool (decide (y ∈ l))) ∧ Below w.heap.size w w' := by
  have hu113 := Try.underlying113
  have H := Aside0.mk (fun w' (hb : Below w.heap.size w w') => contains l A c y w' (Kd.C_below hC hb) hl)
  obtain ⟨n, hn⟩ : ∃ n, l.length = n := ⟨_, rfl⟩
  rw [hn] at hk H
  have c0 : ∀ o, (w.alloc o).cell? ⟨p, 0, none⟩ = some (.slice A n c) := fun o => pw_cell_below (below_alloc (Below.refl _ _) o) hk
  obtain ⟨q, hq⟩ : ∃ q, decide (y ∈ l) = q := ⟨_, rfl⟩
  rw [hq] at H ⊢
  clear hC hl hq hn hk
  obtain ⟨y0, y1, y2, y3⟩ := y
  unfold bv at H ⊢
  dsimp only at H ⊢
  go_enter Try.func108, Try.ntmps108
  go_wp2_with fail
  refine (H.out _ (below_alloc (Below.refl _ _) _)).mono ?_
  rintro e w1 ⟨rfl, hb⟩
  have X := Aside0.mk hb
  clear hb
  dsimp only
  go_wp2
  go_ret
  exact ⟨rfl, below_then (below_alloc (Below.refl _ _) _) (by simp) X.out⟩
set_option maxHeartbeats 4000000 in
set_option maxRecDepth 100000 in
theorem owned1 (x : Bx) (p q : Nat) (o : Int) (s : Bool) (w : World) (h : w.cell? ⟨p, 0, none⟩ = some (.int .u32 o)) (h2 : w.cell? ⟨q, 0, none⟩ = some (.bool s)) : Calls Try.prog 149 #[bv x, .pointer (some ⟨p, 0, none⟩), .pointer (some ⟨q, 0, none⟩)] w fun e w' => e = .returned (.bool (x.f2 == o && x.f3 == s)) ∧ Below w.heap.size w w' := by
  have hu113 := Try.underlying113
  obtain ⟨x0, x1, x2, x3⟩ := x
  have c0 : ∀ o', (w.alloc o').cell? ⟨p, 0, none⟩ = some (.int .u32 o) := fun o' => pw_cell_below (below_alloc (Below.refl _ _) o') h
  have c1 : ∀ o', (w.alloc o').cell? ⟨q, 0, none⟩ = some (.bool s) := fun o' => pw_cell_below (below_alloc (Below.refl _ _) o') h2
  clear h h2
  unfold bv
  dsimp only
  obtain ⟨t, ht⟩ : ∃ t, (x2 == o) = t := ⟨_, rfl⟩
  rw [ht]
  cases t
  · go_enter Try.func149, Try.ntmps149
    go_wp2
    go_ret
    exact ⟨rfl, below_alloc (Below.refl _ _) _⟩
  · go_enter Try.func149, Try.ntmps149
    go_wp2
    go_ret
    exact ⟨rfl, below_alloc (Below.refl _ _) _⟩
set_option maxHeartbeats 4000000 in
set_option maxRecDepth 100000 in
theorem owned (o : Int) (s : Bool) (w : World) : Calls Try.prog 115 #[.int .u32 o, .bool s] w fun e w' => e = .returned (.func (.func 149) #[] #[.pointer (some ⟨w.heap.size, 0, none⟩), .pointer (some ⟨w.heap.size + 1, 0, none⟩)]) ∧ w' = (w.alloc (.cells #[.int .u32 o] 37)).alloc (.cells #[.bool s] 4) := by
  go_enter Try.func115, Try.ntmps115
  go_wp2
  go_ret
  exact ⟨rfl, rfl⟩
set_option maxHeartbeats 8000000 in
set_option maxRecDepth 100000 in
theorem picked2 (gf : FuncId) (cap cap2 : Value) (q : Bx → Bool) (bx : List Bx) (A : Option Addr) (c : Nat) (w : World) (hC : Kd.C PLedLib.k113 w A bx.length bx) (hl : bx.length ≤ 1000000) (hent : ∀ args w, (callFunc gf args).run Try.prog w = .ok (.enter gf args) w)
    (hq : ∀ x ∈ bx, ∀ w', Below w.heap.size w w' → Calls Try.prog gf #[bv x, cap, cap2] w' fun e w'' => e = .returned (.bool (q x)) ∧ Below w'.heap.size w' w'') :
    Calls Try.prog 104 #[.slice A bx.length c, .func (.func gf) #[] #[cap, cap2]] w fun e w' => ∃ v1 v2, e = .returned (.tuple #[v1, v2]) ∧ RB w' w.heap.size v1 (bx.filter q) ∧ RB w' w.heap.size v2 (bx.filter fun x => !q x) ∧ (∀ k, v1.ownBlock = some k → v2.ownBlock ≠ some k) ∧ Below w.heap.size w w' := by
  have hu113 := Try.underlying113
  have H := Aside0.mk (And.intro hC (And.intro hl hq))
  have hl6 : (bx.length : Int) ≤ 1000000 := by omega
  clear hC hl hq
  go_enter Try.func104, Try.ntmps104
  go_wp2_with fail
  go_loopg [4, 5, 10] bx.length (fun kk v4 v5 v10 wr => ∃ j : Nat, kk = bx.length - j ∧ v10 = .int .i64 j ∧ j ≤ bx.length ∧ Below w.heap.size w wr ∧ RB wr w.heap.size v4 ((bx.take j).filter q) ∧ RB wr w.heap.size v5 ((bx.take j).filter fun x => !q x) ∧ (∀ k, v4.ownBlock = some k → v5.ownBlock ≠ some k))
  case atStart => exact ⟨0, rfl, rfl, Nat.zero_le _, Below.refl _ _, by rw [List.take_zero]; exact Kd.R_nil _ _ _ _ _, by rw [List.take_zero]; exact Kd.R_nil _ _ _ _ _, fun k hk => by simp [Value.ownBlock] at hk⟩
  obtain ⟨j, rfl, rfl, hj, hB, hR4, hR5, hne⟩ := hrel
  by_cases hlt : j < bx.length
  · obtain ⟨ad, rfl, d0, d1, d2, d3⟩ := PLedLib.at_T113 (Kd.C_below H.out.1 hB) (j : Int) (by omega) (by omega)
    have ej : (j : Int).toNat = j := by simp
    have er : PLedLib.rd_T113 bx (j : Int) = bx[j] := by unfold PLedLib.rd_T113; rw [ej, List.getD_eq_getElem?_getD, List.getElem?_eq_getElem hlt]; rfl
    rw [er, ej] at d0 d1 d2 d3
    have hmem : bx[j] ∈ bx := List.getElem_mem hlt
    have htk : bx.take (j + 1) = bx.take j ++ [bx[j]] := by rw [List.take_add_one, List.getElem?_eq_getElem hlt]; rfl
    obtain ⟨x, hx⟩ : ∃ x, bx[j] = x := ⟨_, rfl⟩
    rw [hx] at d0 d1 d2 d3 hmem htk
    have f1 : (bx.take (j + 1)).filter q = (bx.take j).filter q ++ (if q x = true then [x] else []) := by rw [htk, List.filter_append]; congr 1; cases hqx : q x <;> simp [hqx]
    have f2 : (bx.take (j + 1)).filter (fun x => !q x) = (bx.take j).filter (fun x => !q x) ++ (if q x = true then [] else [x]) := by rw [htk, List.filter_append]; congr 1; cases hqx : q x <;> simp [hqx]
    have hcall := H.out.2.2 x hmem
    have hlt' : (j : Int) < (bx.length : Int) := by omega
    have l1 : ((bx.take j).filter q).length ≤ j := Nat.le_trans (List.length_filter_le _ _) (by rw [List.length_take]; omega)
    have l2 : ((bx.take j).filter fun x => !q x).length ≤ j := Nat.le_trans (List.length_filter_le _ _) (by rw [List.length_take]; omega)
    have Y := Aside0.mk (And.intro hB (And.intro hR4 (And.intro hR5 (And.intro hne (And.intro f1 (And.intro f2 (And.intro hcall (And.intro l1 l2))))))))
    obtain ⟨x0, x1, x2, x3⟩ := x
    dsimp only at d0 d1 d2 d3
    clear hB hR4 hR5 hne f1 f2 hcall l1 l2 hx hmem htk er
    go_wp2_with fail
    refine (Y.out.2.2.2.2.2.2.1 _ (below_step Y.out.1 (below_alloc (Below.refl _ _) _))).mono ?_
    rintro e wz ⟨rfl, hb⟩
    have X := Aside0.mk hb
    have kz := blk_below (blk_new wr (.cells #[.int .u32 x0, .int .u32 x1, .int .u32 x2, .bool x3] 113)) hb
    have z0 := (blk_cell kz 0).trans rfl
    have z1 := (blk_cell kz 1).trans rfl
    have z2 := (blk_cell kz 2).trans rfl
    have z3 := (blk_cell kz 3).trans rfl
    clear hb kz d0 d1 d2 d3
    dsimp only
    cases hqx : q ⟨x0, x1, x2, x3⟩
    · go_wp2_with (refine Kd.R_append PLedLib.k113 (w0 := w) w.heap.size (by rfl) (.tmp 21) (.tmp 23) 108 113 (.agg #[.int .u32 0, .int .u32 0, .int .u32 0, .bool false]) 16 rfl Try.underlying108 PLedLib.info113 rfl (by decide) (by omega) u5 ((bx.take j).filter fun x => !q x) ⟨x0, x1, x2, x3⟩ [.int .u32 x0, .int .u32 x1, .int .u32 x2, .bool x3] (fun _ => True) (fun _ => False) rfl rfl (PLedLib.k113_mkM _ _ _ _) (fun _ h => h.elim) (fun _ _ => trivial) (Kd.R_mono (Kd.R_below Y.out.2.2.1 (below_step (below_alloc (Below.refl _ _) _) X.out)) (fun _ _ => trivial)) (below_step (below_step Y.out.1 (below_alloc (Below.refl _ _) _)) X.out) (below_step (below_step Y.out.1 (below_alloc (Below.refl _ _) _)) X.out).size ?hl ?_)
      case hl => have h := Y.out.2.2.2.2.2.2.2.2; have h2 := H.out.2.1; exact Nat.le_trans (Nat.mul_le_mul_right _ (Nat.add_le_add_right h 1)) (by omega)
      intro v1 w2 hR2 hB2 hg2 hat2
      have hbx : Below wr.heap.size wr wz := below_step (below_alloc (Below.refl _ _) _) X.out
      have ho : RB w2 w.heap.size u4 _ := Kd.R_grown (Kd.R_below Y.out.2.1 hbx) hg2 (fun k hk he => Y.out.2.2.2.1 k hk he.symm)
      have hm : RB w2 w.heap.size v1 _ := Kd.R_mono (Kd.R_tight (by rfl) hR2) (fun k hk => hk.symm)
      have hn : ∀ k, u4.ownBlock = some k → v1.ownBlock ≠ some k := by
        intro k hk hk2
        rcases hat2 with h3 | ⟨b3, h3, h4⟩
        · exact Y.out.2.2.2.1 k hk (h3.symm.trans hk2)
        · have h5 := Kd.R_lt Y.out.2.1 k hk
          have h6 : some b3 = some k := h3.symm.trans hk2
          have h7 : b3 = k := Option.some.inj h6
          have := hbx.size
          omega
      have Z := Aside0.mk (And.intro hm (And.intro ho (And.intro hn hB2)))
      clear hR2 hB2 hg2 hat2 hbx ho hm hn
      go_wp2
      go_roundg (bx.length - (j + 1))
      case measure => omega
      case rel => exact ⟨j + 1, rfl, by go_num, by omega, Z.out.2.2.2, by rw [Y.out.2.2.2.2.1, hqx, if_neg (by decide), List.append_nil]; exact Z.out.2.1, by rw [Y.out.2.2.2.2.2.1, hqx, if_neg (by decide)]; exact Z.out.1, Z.out.2.2.1⟩
    · go_wp2_with (refine Kd.R_append PLedLib.k113 (w0 := w) w.heap.size (by rfl) (.tmp 17) (.tmp 19) 108 113 (.agg #[.int .u32 0, .int .u32 0, .int .u32 0, .bool false]) 16 rfl Try.underlying108 PLedLib.info113 rfl (by decide) (by omega) u4 ((bx.take j).filter q) ⟨x0, x1, x2, x3⟩ [.int .u32 x0, .int .u32 x1, .int .u32 x2, .bool x3] (fun _ => True) (fun _ => False) rfl rfl (PLedLib.k113_mkM _ _ _ _) (fun _ h => h.elim) (fun _ _ => trivial) (Kd.R_mono (Kd.R_below Y.out.2.1 (below_step (below_alloc (Below.refl _ _) _) X.out)) (fun _ _ => trivial)) (below_step (below_step Y.out.1 (below_alloc (Below.refl _ _) _)) X.out) (below_step (below_step Y.out.1 (below_alloc (Below.refl _ _) _)) X.out).size ?hl ?_)
      case hl => have h := Y.out.2.2.2.2.2.2.2.1; have h2 := H.out.2.1; exact Nat.le_trans (Nat.mul_le_mul_right _ (Nat.add_le_add_right h 1)) (by omega)
      intro v1 w2 hR2 hB2 hg2 hat2
      have hbx : Below wr.heap.size wr wz := below_step (below_alloc (Below.refl _ _) _) X.out
      have ho : RB w2 w.heap.size u5 _ := Kd.R_grown (Kd.R_below Y.out.2.2.1 hbx) hg2 (fun k hk he => Y.out.2.2.2.1 k he.symm hk)
      have hm : RB w2 w.heap.size v1 _ := Kd.R_mono (Kd.R_tight (by rfl) hR2) (fun k hk => hk.symm)
      have hn : ∀ k, v1.ownBlock = some k → u5.ownBlock ≠ some k := by
        intro k hk hk2
        rcases hat2 with h3 | ⟨b3, h3, h4⟩
        · exact Y.out.2.2.2.1 k (h3.symm.trans hk) hk2
        · have h5 := Kd.R_lt Y.out.2.2.1 k hk2
          have h6 : some b3 = some k := h3.symm.trans hk
          have h7 : b3 = k := Option.some.inj h6
          have := hbx.size
          omega
      have Z := Aside0.mk (And.intro hm (And.intro ho (And.intro hn hB2)))
      clear hR2 hB2 hg2 hat2 hbx ho hm hn
      go_wp2
      go_roundg (bx.length - (j + 1))
      case measure => omega
      case rel => exact ⟨j + 1, rfl, by go_num, by omega, Z.out.2.2.2, by rw [Y.out.2.2.2.2.1, hqx, if_pos rfl]; exact Z.out.1, by rw [Y.out.2.2.2.2.2.1, hqx, if_pos rfl, List.append_nil]; exact Z.out.2.1, Z.out.2.2.1⟩
  · have hlt' : ¬ (j : Int) < (bx.length : Int) := by omega
    have htk : bx.take j = bx := List.take_of_length_le (by omega)
    rw [htk] at hR4 hR5
    have Y := Aside0.mk (And.intro hB (And.intro hR4 (And.intro hR5 hne)))
    clear hB hR4 hR5 hne htk
    go_wp2
    go_ret2
    exact ⟨_, _, rfl, Y.out.2.1, Y.out.2.2.1, Y.out.2.2.2, Y.out.1⟩
set_option maxHeartbeats 4000000 in
set_option maxRecDepth 100000 in
theorem of_at {base p b g : Nat} {u0 u1 : Int} {ns : List Nd} {v : Value} {bx : List Bx} {last : Int} (o : Int) (s : Bool) (w : World) (h : LedAt w base p b g u0 u1 ns v bx last) (hl : bx.length ≤ 1000000) :
    Calls Try.prog 61 #[.pointer (some ⟨p, 0, none⟩), .int .u32 o, .bool s] w fun e w' => ∃ v', e = .returned v' ∧ RB w' w.heap.size v' (ownN bx o s) ∧ Below w.heap.size w w' := by
  have BX := Aside0.mk (boxes w h hl)
  have L := Aside0.mk hl
  clear h hl
  go_enter Try.func61, Try.ntmps61
  go_wp2_with fail
  refine BX.out.mono ?_
  rintro e w1 ⟨v1, rfl, hR1, hb1⟩
  obtain ⟨A1, c1, rfl⟩ := Kd.R_slice hR1
  have X := Aside0.mk (And.intro hR1 hb1)
  obtain ⟨n1, hn1⟩ : ∃ n1, bx.length = n1 := ⟨_, rfl⟩
  have N := Aside0.mk hn1
  rw [hn1]
  clear hR1 hb1 hn1
  dsimp only
  go_wp2_with fail
  refine (owned o s w1).mono ?_
  rintro e w2 ⟨rfl, hw2⟩
  have hb2 : Below w1.heap.size w1 w2 := by rw [hw2]; exact below_alloc (below_alloc (Below.refl _ _) _) _
  have ka : w2.heap[w1.heap.size]? = some (.cells #[.int .u32 o] 37 (0, 0)) := by rw [hw2]; exact blk_alloc (blk_new w1 _) _
  have kb : w2.heap[w1.heap.size + 1]? = some (.cells #[.bool s] 4 (0, 0)) := by
    have := blk_new (w1.alloc (.cells #[.int .u32 o] 37)) (.cells #[.bool s] 4)
    rw [World.size_alloc] at this
    rw [hw2]; exact this
  have PK := Aside0.mk (picked2 149 (.pointer (some ⟨w1.heap.size, 0, none⟩)) (.pointer (some ⟨w1.heap.size + 1, 0, none⟩)) (fun x => x.f2 == o && x.f3 == s) bx A1 c1 w2 (Kd.C_below (Kd.R_reads' X.out.1).2.2 hb2) L.out (fun _ _ => rfl) (fun y hy wy hwy => owned1 y w1.heap.size (w1.heap.size + 1) o s wy ((blk_cell (blk_below ka hwy) 0).trans rfl) ((blk_cell (blk_below kb hwy) 0).trans rfl)))
  rw [N.out] at PK
  have Z := Aside0.mk hb2
  clear hb2 ka kb hw2
  dsimp only
  go_wp2_with fail
  refine PK.out.mono ?_
  rintro e w3 ⟨va, vb, rfl, hRa, hRb, hd, hb3⟩
  have Y := Aside0.mk (And.intro hRa hb3)
  obtain ⟨Aa, ca, e1⟩ := Kd.R_slice hRa
  obtain ⟨Ab, cb, e2⟩ := Kd.R_slice hRb
  obtain ⟨m1, hm1⟩ : ∃ m1, (bx.filter fun x => x.f2 == o && x.f3 == s).length = m1 := ⟨_, rfl⟩
  obtain ⟨m2, hm2⟩ : ∃ m2, (bx.filter fun x => !(x.f2 == o && x.f3 == s)).length = m2 := ⟨_, rfl⟩
  rw [hm1] at e1
  rw [hm2] at e2
  subst e1
  subst e2
  clear hRa hRb hd hb3 hm1 hm2
  dsimp only
  go_wp2
  go_ret
  have hbb := below_step X.out.2 Z.out
  exact ⟨_, rfl, Kd.R_lower Y.out.1 hbb.size, below_step hbb Y.out.2⟩
end Go.Proofs.Ythibppfdonepoaa.LedT
set_option linter.unusedVariables false
namespace Go.Proofs.Ythibppfdonepoaa.LedT
open Go.RowKit Go.MapKept Go.Maps Go.ChangeMaps Go.Proofs.Ythibppfdonepoaa.XBut Go.Proofs.Ythibppfdonepoaa.XMap Go.Proofs.Ythibppfdonepoaa.NodeT Go.Proofs.YthibppfdonepoaaW.PrintWords Go.Proofs.YthibppfdonepoaaW.PrintLast
set_option maxHeartbeats 4000000 in
set_option maxRecDepth 100000 in
theorem lgive_bad {base p b g : Nat} {u0 u1 : Int} {ns : List Nd} {v : Value} {bx : List Bx} {last : Int} (o n : Int) (s : Bool) (w : World) (h : LedAt w base p b g u0 u1 ns v bx last) (hm : mayc o n = 2) :
    Calls Try.prog 54 #[.pointer (some ⟨p, 0, none⟩), .int .u32 o, .bool s, .int .i64 n] w fun e w' => e = .returned (.tuple #[.slice none 0 0, .int .i64 2]) ∧ w' = w := by
  have MY := may_at p b o n w h.cells.1
  rw [hm] at MY
  have MY := Aside0.mk MY
  clear h hm
  go_enter Try.func54, Try.ntmps54
  go_wp2_with fail
  refine MY.out.mono ?_
  rintro e wz ⟨rfl, hz⟩
  obtain rfl := hz.symm
  clear hz MY
  dsimp only
  go_wp2
  go_ret2
  exact ⟨rfl, rfl⟩
set_option maxHeartbeats 4000000 in
set_option maxRecDepth 100000 in
theorem lgive_full {base p b g : Nat} {u0 u1 : Int} {ns : List Nd} {v : Value} {bx : List Bx} {last : Int} (o n : Int) (s : Bool) (w : World) (h : LedAt w base p b g u0 u1 ns v bx last) (hG : LG u0 u1 ns bx last) (hm : mayc o n = 0) (hf : freeN u0 u1 ns bx < n) :
    Calls Try.prog 54 #[.pointer (some ⟨p, 0, none⟩), .int .u32 o, .bool s, .int .i64 n] w fun e w' => e = .returned (.tuple #[.slice none 0 0, .int .i64 6]) ∧ Below w.heap.size w w' := by
  have MY := may_at p b o n w h.cells.1
  rw [hm] at MY
  have MY := Aside0.mk MY
  have FR := free w h hG.nodes (by have := hG.len; omega)
  obtain ⟨fr, hfr⟩ : ∃ fr, freeN u0 u1 ns bx = fr := ⟨_, rfl⟩
  rw [hfr] at FR hf
  have FR := Aside0.mk FR
  have t1 : decide (fr < n) = true := decide_eq_true hf
  clear h hm hG hfr hf
  go_enter Try.func54, Try.ntmps54
  go_wp2_with fail
  refine MY.out.mono ?_
  rintro e wz ⟨rfl, hz⟩
  obtain rfl := hz.symm
  clear hz MY
  dsimp only
  go_wp2_with fail
  refine FR.out.mono ?_
  rintro e w1 ⟨rfl, hb1⟩
  have X := Aside0.mk hb1
  clear hb1 FR
  dsimp only
  go_wp2
  go_ret2
  exact ⟨rfl, X.out⟩
/-- What Give does. -/
theorem lgive {base p b g : Nat} {u0 u1 : Int} {ns : List Nd} {v : Value} {bx : List Bx} {last : Int} (o n : Int) (s : Bool) (w : World) (h : LedAt w base p b g u0 u1 ns v bx last) (hG : LG u0 u1 ns bx last) (hla : last ≤ 4000000000) :
    Calls Try.prog 54 #[.pointer (some ⟨p, 0, none⟩), .int .u32 o, .bool s, .int .i64 n] w fun e w' => ∃ vo v', e = .returned (.tuple #[vo, .int .i64 (gcode u0 u1 ns bx o n)]) ∧ LedAt w' base p b g u0 u1 ns v' (bx ++ given u0 u1 ns bx last o s n) (last + (given u0 u1 ns bx last o s n).length) ∧ RB w' w.heap.size vo (given u0 u1 ns bx last o s n) ∧ (∀ k, vo.ownBlock = some k → v'.ownBlock ≠ some k) ∧ But (fun k => k = p ∨ v.ownBlock = some k) w w' ∧ (∀ k, v'.ownBlock = some k → v.ownBlock = some k ∨ w.heap.size ≤ k) := by
  by_cases hm : mayc o n = 2
  · have hc : gcode u0 u1 ns bx o n = 2 := if_pos hm
    have hg : given u0 u1 ns bx last o s n = [] := if_neg (by rw [hc]; decide)
    rw [hc, hg, List.append_nil]
    refine (lgive_bad o n s w h hm).mono ?_
    rintro e w' ⟨rfl, rfl⟩
    exact ⟨_, v, rfl, by simpa using h, Kd.R_nil _ _ _ _ _, fun k hk => by simp [Value.ownBlock] at hk, But.refl _ _, fun k hk => .inl hk⟩
  · have hm0 := (mayc_cases o n).resolve_left hm
    by_cases hf : freeN u0 u1 ns bx < n
    · have hc : gcode u0 u1 ns bx o n = 6 := by unfold gcode; rw [if_neg hm, if_pos hf]
      have hg : given u0 u1 ns bx last o s n = [] := if_neg (by rw [hc]; decide)
      rw [hc, hg, List.append_nil]
      refine (lgive_full o n s w h hG hm0 hf).mono ?_
      rintro e w' ⟨rfl, hb⟩
      exact ⟨_, v, rfl, by simpa using h.below hb, Kd.R_nil _ _ _ _ _, fun k hk => by simp [Value.ownBlock] at hk, But.of_below hb, fun k hk => .inl hk⟩
    · have hc : gcode u0 u1 ns bx o n = 0 := by unfold gcode; rw [if_neg hm, if_neg hf]
      have hg : given u0 u1 ns bx last o s n = grow u0 u1 ns bx last o s n.toNat := if_pos hc
      rw [hc, hg, grow_len]
      exact lgive_ok o n s w h hG hla hm hf
set_option maxHeartbeats 4000000 in
set_option maxRecDepth 100000 in
theorem ltake_bad {base p b g : Nat} {u0 u1 : Int} {ns : List Nd} {v : Value} {bx : List Bx} {last : Int} (o n : Int) (s : Bool) (w : World) (h : LedAt w base p b g u0 u1 ns v bx last) (hm : mayc o n = 2) :
    Calls Try.prog 55 #[.pointer (some ⟨p, 0, none⟩), .int .u32 o, .bool s, .int .i64 n] w fun e w' => e = .returned (.tuple #[.slice none 0 0, .int .i64 2]) ∧ w' = w := by
  have MY := may_at p b o n w h.cells.1
  rw [hm] at MY
  have MY := Aside0.mk MY
  clear h hm
  go_enter Try.func55, Try.ntmps55
  go_wp2_with fail
  refine MY.out.mono ?_
  rintro e wz ⟨rfl, hz⟩
  obtain rfl := hz.symm
  clear hz MY
  dsimp only
  go_wp2
  go_ret2
  exact ⟨rfl, rfl⟩
set_option maxHeartbeats 4000000 in
set_option maxRecDepth 100000 in
theorem ltake_few {base p b g : Nat} {u0 u1 : Int} {ns : List Nd} {v : Value} {bx : List Bx} {last : Int} (o n : Int) (s : Bool) (w : World) (h : LedAt w base p b g u0 u1 ns v bx last) (hl : bx.length ≤ 1000000) (hm : mayc o n = 0) (hf : ((ownN bx o s).length : Int) < n) :
    Calls Try.prog 55 #[.pointer (some ⟨p, 0, none⟩), .int .u32 o, .bool s, .int .i64 n] w fun e w' => e = .returned (.tuple #[.slice none 0 0, .int .i64 7]) ∧ Below w.heap.size w w' := by
  have MY := may_at p b o n w h.cells.1
  rw [hm] at MY
  have MY := Aside0.mk MY
  have OF := Aside0.mk (of_at o s w h hl)
  have hol : (ownN bx o s).length ≤ bx.length := List.length_filter_le _ _
  obtain ⟨m, hmm⟩ : ∃ m, (ownN bx o s).length = m := ⟨_, rfl⟩
  rw [hmm] at hf hol
  have t1 : decide ((m : Int) < n) = true := decide_eq_true hf
  have M := Aside0.mk hmm
  clear h hm hmm
  go_enter Try.func55, Try.ntmps55
  go_wp2_with fail
  refine MY.out.mono ?_
  rintro e wz ⟨rfl, hz⟩
  obtain rfl := hz.symm
  clear hz MY
  dsimp only
  go_wp2_with fail
  refine OF.out.mono ?_
  rintro e w1 ⟨v1, rfl, hR, hb1⟩
  obtain ⟨Ao, co, rfl⟩ := Kd.R_slice hR
  rw [M.out]
  have X := Aside0.mk hb1
  clear hb1 hR OF
  dsimp only
  go_wp2
  go_ret2
  exact ⟨rfl, X.out⟩
set_option maxHeartbeats 8000000 in
set_option maxRecDepth 100000 in
theorem ltake_ok {base p b g : Nat} {u0 u1 : Int} {ns : List Nd} {v : Value} {bx : List Bx} {last : Int} (o : Int) (N : Nat) (s : Bool) (w : World) (h : LedAt w base p b g u0 u1 ns v bx last) (hl : bx.length ≤ 1000000) (hm : mayc o N = 0) (hf : N ≤ (ownN bx o s).length) :
    Calls Try.prog 55 #[.pointer (some ⟨p, 0, none⟩), .int .u32 o, .bool s, .int .i64 N] w fun e w' => ∃ vo v', e = .returned (.tuple #[vo, .int .i64 0]) ∧ LedAt w' base p b g u0 u1 ns v' (leftN bx (goneN bx o s N)) last ∧ RB w' w.heap.size vo (goneN bx o s N) ∧ (∀ k, vo.ownBlock = some k → v'.ownBlock ≠ some k) ∧ But (fun k => k = p) w w' ∧ (∀ k, v'.ownBlock = some k → v.ownBlock = some k ∨ w.heap.size ≤ k) := by
  have MY := may_at p b o N w h.cells.1
  rw [hm] at MY
  have MY := Aside0.mk MY
  have OF := Aside0.mk (of_at o s w h hl)
  obtain ⟨A, c, rfl⟩ := Kd.R_slice h.row
  have hol : (ownN bx o s).length ≤ bx.length := List.length_filter_le _ _
  have hgl : (goneN bx o s N).length = N := by unfold goneN; rw [List.length_drop]; omega
  obtain ⟨m, hmm⟩ : ∃ m, (ownN bx o s).length = m := ⟨_, rfl⟩
  rw [hmm] at hf hol
  have t1 : decide ((m : Int) < (N : Int)) = false := decide_eq_false (by omega)
  have t2 : ¬ (m : Int) < (N : Int) := by omega
  have t3 : decide (m < N) = false := decide_eq_false (by omega)
  obtain ⟨d, hd⟩ : ∃ d, m - N = d := ⟨_, rfl⟩
  have hw : IntKind.i64.wrap ((m : Int) - (N : Int)) = (d : Int) := by rw [IntKind.wrap_i64]; omega
  obtain ⟨bl, hbl⟩ : ∃ bl, bx.length = bl := ⟨_, rfl⟩
  have M := Aside0.mk (And.intro hmm (And.intro hd (And.intro hgl hbl)))
  have H := Aside0.mk (And.intro h hl)
  rw [hbl] at hol
  have hbl6 : (bl : Int) ≤ 1000000 := by omega
  have hdm : d + N = m := by omega
  clear h hm hmm hd hgl
  go_enter Try.func55, Try.ntmps55
  go_wp2_with fail
  refine MY.out.mono ?_
  rintro e wz ⟨rfl, hz⟩
  obtain rfl := hz.symm
  clear hz MY
  dsimp only
  go_wp2_with fail
  refine OF.out.mono ?_
  rintro e w1 ⟨v1, rfl, hR, hb1⟩
  obtain ⟨Ao, co, rfl⟩ := Kd.R_slice hR
  obtain ⟨_, hmc, hC1⟩ := Kd.R_reads' hR
  have eg : (ownN bx o s).drop d = goneN bx o s N := by unfold goneN; rw [M.out.1, M.out.2.1]
  rw [M.out.1] at hmc hR ⊢
  have OR := Aside0.mk hR
  obtain ⟨i0, hi0, _, hsz, _⟩ := info_parts PLedLib.info113
  have hcut := cut_from (P := Try.prog) 108 113 .i64 Try.underlying108 hi0 4 hsz Ao m co (d : Int) (by omega) (by omega)
  simp only [Int.toNat_natCast] at hcut
  obtain ⟨A2, hA2⟩ : ∃ A2, (if co = d then Ao else Option.map (fun x => x.add (d * 4)) Ao) = A2 := ⟨_, rfl⟩
  have DD : Aside0 (∀ W', RB W' w.heap.size (.slice Ao m co) (ownN bx o s) → Kd.C PLedLib.k113 W' A2 N (goneN bx o s N)) := ⟨fun W' hr => by
    have hD := Kd.C_drop (m := d) (c := co) (Kd.R_reads' hr).2.2 (by rw [M.out.1]; omega) (by rw [M.out.1]; exact hmc)
    rw [eg, M.out.2.2.1] at hD
    rw [← hA2]
    exact hD⟩
  have hD := DD.out w1 hR
  rw [hA2] at hcut
  have emN : m - d = N := by omega
  rw [emN] at hcut
  obtain ⟨c2, hc2⟩ : ∃ c2, co - d = c2 := ⟨_, rfl⟩
  rw [hc2] at hcut
  have L1 := H.out.1.below hb1
  obtain ⟨W2, hW2⟩ : ∃ W2, w1.alloc (.cells #[.slice A2 N c2] 108) = W2 := ⟨_, rfl⟩
  have hB2 : Below w1.heap.size w1 W2 := by rw [← hW2]; exact below_alloc (Below.refl _ _) _
  have k2 : W2.heap[w1.heap.size]? = some (.cells #[.slice A2 N c2] 108 (0, 0)) := by rw [← hW2]; exact blk_new w1 _
  have L2 := L1.below hB2
  have D2 := Kd.C_below hD hB2
  have hgl := M.out.2.2.1
  have PK := picked 108 (.pointer (some ⟨w1.heap.size, 0, none⟩)) (fun x => decide (x ∈ goneN bx o s N)) bx A c W2 (Kd.R_reads' L2.row).2.2 H.out.2 (fun _ _ => rfl) (fun y hy wy hwy => take1 (goneN bx o s N) A2 c2 w1.heap.size y wy (by rw [hgl]; exact (blk_cell (blk_below k2 hwy) 0).trans rfl) (by rw [hgl]; exact Kd.C_below D2 hwy) (by rw [hgl]; omega))
  rw [hbl] at PK
  have PK := Aside0.mk PK
  have X := Aside0.mk (And.intro hb1 (And.intro hB2 (And.intro k2 (And.intro L2 (And.intro D2 (And.intro hW2 hgl))))))
  have c1 : ∀ ob, (w1.alloc ob).cell? ⟨p, 1, none⟩ = some (.slice A bl c) := fun ob => by
    have := pw_cell_below (below_alloc (Below.refl _ _) ob) (H.out.1.below hb1).cells.2.1
    rwa [hbl] at this
  clear hb1 hR OF hD hi0 hsz hA2 L1 L2 D2 hc2 hmc hC1 eg hB2 k2 hW2 hgl
  dsimp only
  go_wp2_with fail
  rw [X.out.2.2.2.2.2.1]
  refine PK.out.mono ?_
  rintro e w3 ⟨va, vb, rfl, hRa, hRb, hd, hb3⟩
  have hR3 : RB w3 W2.heap.size vb (leftN bx (goneN bx o s N)) := hRb
  obtain ⟨Aa, ca, e1⟩ := Kd.R_slice hRa
  obtain ⟨Ab, cb, e2⟩ := Kd.R_slice hRb
  obtain ⟨m1, hm1⟩ : ∃ m1, (bx.filter fun x => decide (x ∈ goneN bx o s N)).length = m1 := ⟨_, rfl⟩
  obtain ⟨m2, hm2⟩ : ∃ m2, (bx.filter fun x => !decide (x ∈ goneN bx o s N)).length = m2 := ⟨_, rfl⟩
  rw [hm1] at e1
  rw [hm2] at e2
  subst e1
  subst e2
  have kp := blk_below X.out.2.2.2.1.blk hb3
  have f1 := blk_frozen kp 1
  have d1 := (blk_cell kp 1).trans rfl
  have hlt2 := X.out.2.2.2.1.lt
  have hne := X.out.2.2.2.1.ne
  have hpw := H.out.1.lt
  have hs1 := X.out.1.size
  have hs2 := X.out.2.1.size
  have hs3 := hb3.size
  have hlow : ∀ k, (Value.slice Ab m2 cb).ownBlock = some k → W2.heap.size ≤ k := fun k hk => Kd.R_base hR3 k hk
  have L4 : LedAt (w3.setCell ⟨p, 1, none⟩ (.slice Ab m2 cb)) base p b g u0 u1 ns (.slice Ab m2 cb) (leftN bx (goneN bx o s N)) last := (X.out.2.2.2.1.below hb3).store hR3 (by omega) (fun k hk => by have := hlow k hk; omega)
  have hbp : But (fun k => k = p) w3 (w3.setCell ⟨p, 1, none⟩ (.slice Ab m2 cb)) := (But.refl (fun k => k = p) w3).setCell (b := p) rfl 1 _
  have K4 := hbp.heap (blk_below X.out.2.2.1 hb3) (by omega)
  have hb13 := below_step (below_step X.out.1 X.out.2.1) hb3
  have B4 : But (fun k => k = p) w (w3.setCell ⟨p, 1, none⟩ (.slice Ab m2 cb)) := (But.of_below hb13).trans hbp
  have g0 := (blk_cell K4 0).trans rfl
  have D4 : Kd.C PLedLib.k113 (w3.setCell ⟨p, 1, none⟩ (.slice Ab m2 cb)) A2 (goneN bx o s N).length (goneN bx o s N) := by
    rw [X.out.2.2.2.2.2.2]
    exact DD.out _ (Kd.R_step (Kd.R_below (Kd.R_below OR.out X.out.2.1) hb3) (fun k hk hlt => hbp.block k hlt (by have := Kd.R_base OR.out k hk; omega)))
  have CL := clone (goneN bx o s N) A2 c2 _ D4 (by rw [X.out.2.2.2.2.2.2]; omega)
  rw [X.out.2.2.2.2.2.2] at CL
  have CL := Aside0.mk CL
  have Z := Aside0.mk (And.intro L4 (And.intro B4 hlow))
  clear hRa hRb hd hb3 hm1 hm2 hR3 L4 hbp K4 hb13 B4 D4 hlow
  dsimp only
  go_wp2_with fail
  refine CL.out.mono ?_
  rintro e w5 ⟨vo, rfl, hRo, hb5⟩
  have V := Aside0.mk (And.intro hRo hb5)
  clear hRo hb5 g0 d1
  dsimp only
  go_wp2
  go_ret2
  have hsz4 := Z.out.2.1.size
  refine ⟨_, _, rfl, Z.out.1.below V.out.2, Kd.R_lower V.out.1 hsz4, fun k hk hk2 => ?_, Z.out.2.1.trans (But.of_below V.out.2), fun k hk => .inr (by have := Z.out.2.2 k hk; omega)⟩
  have h1 := Kd.R_base V.out.1 k hk
  have h2 := Z.out.1.lt.2.2.2 k hk2
  omega
/-- What Take does. -/
theorem ltake {base p b g : Nat} {u0 u1 : Int} {ns : List Nd} {v : Value} {bx : List Bx} {last : Int} (o n : Int) (s : Bool) (w : World) (h : LedAt w base p b g u0 u1 ns v bx last) (hl : bx.length ≤ 1000000) :
    Calls Try.prog 55 #[.pointer (some ⟨p, 0, none⟩), .int .u32 o, .bool s, .int .i64 n] w fun e w' => ∃ vo v', e = .returned (.tuple #[vo, .int .i64 (tcode bx o s n)]) ∧ LedAt w' base p b g u0 u1 ns v' (leftN bx (taken bx o s n)) last ∧ RB w' w.heap.size vo (taken bx o s n) ∧ (∀ k, vo.ownBlock = some k → v'.ownBlock ≠ some k) ∧ But (fun k => k = p) w w' ∧ (∀ k, v'.ownBlock = some k → v.ownBlock = some k ∨ w.heap.size ≤ k) := by
  by_cases hm : mayc o n = 2
  · have hc : tcode bx o s n = 2 := if_pos hm
    have hg : taken bx o s n = [] := if_neg (by rw [hc]; decide)
    rw [hc, hg, left_nil]
    refine (ltake_bad o n s w h hm).mono ?_
    rintro e w' ⟨rfl, rfl⟩
    exact ⟨_, v, rfl, h, Kd.R_nil _ _ _ _ _, fun k hk => by simp [Value.ownBlock] at hk, But.refl _ _, fun k hk => .inl hk⟩
  · have hm0 := (mayc_cases o n).resolve_left hm
    by_cases hf : ((ownN bx o s).length : Int) < n
    · have hc : tcode bx o s n = 7 := by unfold tcode; rw [if_neg hm, if_pos hf]
      have hg : taken bx o s n = [] := if_neg (by rw [hc]; decide)
      rw [hc, hg, left_nil]
      refine (ltake_few o n s w h hl hm0 hf).mono ?_
      rintro e w' ⟨rfl, hb⟩
      exact ⟨_, v, rfl, h.below hb, Kd.R_nil _ _ _ _ _, fun k hk => by simp [Value.ownBlock] at hk, But.of_below hb, fun k hk => .inl hk⟩
    · have hc : tcode bx o s n = 0 := by unfold tcode; rw [if_neg hm, if_neg hf]
      have hg : taken bx o s n = goneN bx o s n.toNat := if_pos hc
      have hz := mayc_zero hm
      obtain ⟨N, hN⟩ : ∃ N : Nat, n = N := ⟨n.toNat, by omega⟩
      subst hN
      have eN : ((N : Int)).toNat = N := by simp
      rw [hc, hg, eN]
      exact ltake_ok o N s w h hl hm0 (by omega)
end Go.Proofs.Ythibppfdonepoaa.LedT
set_option linter.unusedVariables false
namespace Go.Proofs.Ythibppfdonepoaa.LedT
open Go.RowKit Go.MapKept Go.Maps Go.ChangeMaps Go.Proofs.Ythibppfdonepoaa.XBut Go.Proofs.Ythibppfdonepoaa.XMap Go.Proofs.Ythibppfdonepoaa.NodeT Go.Proofs.YthibppfdonepoaaW.PrintWords Go.Proofs.YthibppfdonepoaaW.PrintLast
/-- A ledger that is good, and rows of boxes that were told. -/
structure HS (w0 w : World) (p b g : Nat) (u0 u1 : Int) (ns : List Nd) (v : Value) (bx : List Bx) (last : Int) (rows : List (Value × List Bx)) : Prop where
  below : Below w0.heap.size w0 w
  led : LedAt w w0.heap.size p b g u0 u1 ns v bx last
  good : LG u0 u1 ns bx last
  rows : ∀ r ∈ rows, RB w w0.heap.size r.1 r.2 ∧ ∀ k, r.1.ownBlock = some k → v.ownBlock ≠ some k ∧ k ≠ p ∧ k ≠ b ∧ k ≠ g
section
variable {w0 w w' : World} {p b g : Nat} {u0 u1 : Int} {ns ns' : List Nd} {v v' : Value} {bx bx' : List Bx} {last last' : Int} {rows rows' : List (Value × List Bx)}
theorem HS.same (h : HS w0 w p b g u0 u1 ns v bx last rows) (hb : Below w.heap.size w w') : HS w0 w' p b g u0 u1 ns v bx last rows :=
  ⟨below_step h.below hb, h.led.below hb, h.good, fun r hr => ⟨Kd.R_below (h.rows r hr).1 hb, (h.rows r hr).2⟩⟩
theorem HS.next (h : HS w0 w p b g u0 u1 ns v bx last rows) (hG : LG u0 u1 ns' bx' last') (hL : LedAt w' w0.heap.size p b g u0 u1 ns' v' bx' last') (hb : But (fun k => (k = p ∨ k = g) ∨ v.ownBlock = some k) w w') (ho : ∀ k, v'.ownBlock = some k → v.ownBlock = some k ∨ w.heap.size ≤ k) : HS w0 w' p b g u0 u1 ns' v' bx' last' rows := by
  refine ⟨But.below h.below (Nat.le_refl _) hb (fun k hk => ?_), hL, hG, fun r hr => ?_⟩
  · rcases hk with (rfl | rfl) | hk
    · exact h.led.ne.2.2
    · exact h.led.tab.base2
    · exact Kd.R_base h.led.row k hk
  · obtain ⟨hR, hd⟩ := h.rows r hr
    refine ⟨Kd.R_step hR (fun k hk hlt => hb.block k hlt (fun e => ?_)), fun k hk => ⟨fun e => ?_, (hd k hk).2⟩⟩
    · obtain ⟨h1, h2, h3, h4⟩ := hd k hk
      rcases e with (e | e) | e
      · exact h2 e
      · exact h4 e
      · exact h1 e
    · rcases ho k e with e | e
      · exact (hd k hk).1 e
      · have := Kd.R_lt hR k hk
        omega
theorem HS.add {vo : Value} {out : List Bx} {N : Nat} (h : HS w0 w p b g u0 u1 ns v bx last rows) (hR : RB w N vo out) (hN : w0.heap.size ≤ N ∧ p < N ∧ b < N ∧ g < N) (hd : ∀ k, vo.ownBlock = some k → v.ownBlock ≠ some k) : HS w0 w p b g u0 u1 ns v bx last ((vo, out) :: rows) := by
  refine ⟨h.below, h.led, h.good, fun r hr => ?_⟩
  rcases List.mem_cons.1 hr with rfl | hr
  · refine ⟨Kd.R_lower hR hN.1, fun k hk => ?_⟩
    have := Kd.R_base hR k hk
    exact ⟨hd k hk, by omega, by omega, by omega⟩
  · exact h.rows r hr
theorem HS.up {N : Nat} (h : HS w0 w p b g u0 u1 ns v bx last rows) (hb : w.heap.size ≤ N) : w0.heap.size ≤ N ∧ p < N ∧ b < N ∧ g < N := by
  have h1 := h.led.lt
  have h2 := h.below.size
  omega
theorem HS.len (h : HS w0 w p b g u0 u1 ns v bx last rows) : bx.length ≤ 1000000 := by
  have := h.good.len
  omega
theorem HS.new (w0 w : World) {p b g : Nat} {u0 u1 : Int} (hu : okV 1 ⟨u0, u1⟩) (hb : Below w0.heap.size w0 w) (h : LedAt w w0.heap.size p b g u0 u1 [] (.slice none 0 0) [] 0) : HS w0 w p b g u0 u1 [] (.slice none 0 0) [] 0 [] :=
  ⟨hb, h, LG.nil hu, fun r hr => by cases hr⟩
theorem HS.join (h : HS w0 w p b g u0 u1 ns v bx last rows) (x0 x1 x2 : Int) (hx : (Lit.int .u32 x0).wf = true) :
    Calls Try.prog 52 #[.pointer (some ⟨p, 0, none⟩), .agg #[.int .u32 x0, .int .i64 x1, .int .i64 x2]] w fun e w' => e = .returned (.int .i64 (code u0 u1 ns ⟨x0, ⟨x1, x2⟩⟩)) ∧ HS w0 w' p b g u0 u1 (nsJ u0 u1 ns ⟨x0, ⟨x1, x2⟩⟩) v bx last rows := by
  refine (ljoin x0 x1 x2 w h.led h.good.nodes hx).mono ?_
  rintro e w' ⟨rfl, hb, hL⟩
  exact ⟨rfl, h.next (h.good.join ⟨x0, ⟨x1, x2⟩⟩ (wf32 hx)) hL (hb.mono fun k hk => .inl (.inr hk)) (fun k hk => .inl hk)⟩
theorem HS.lose (h : HS w0 w p b g u0 u1 ns v bx last rows) (i : Int) (hi : (Lit.int .u32 i).wf = true) :
    Calls Try.prog 53 #[.pointer (some ⟨p, 0, none⟩), .int .u32 i] w fun e w' => ∃ vo v', e = .returned (.tuple #[vo, .int .i64 (lost ns i).2]) ∧ HS w0 w' p b g u0 u1 (less ns i) v' (offN bx i) last ((vo, onN bx i) :: rows) := by
  refine (llose i w h.led h.good h.len hi).mono ?_
  rintro e w' ⟨vo, v', rfl, hL, hR, hd, hb, ho⟩
  exact ⟨vo, v', rfl, (h.next (h.good.lose i) hL (hb.mono fun k hk => .inl hk) ho).add hR (h.up (Nat.le_refl _)) hd⟩
theorem HS.give (h : HS w0 w p b g u0 u1 ns v bx last rows) (o n : Int) (s : Bool) (hla : last ≤ 4000000000) :
    Calls Try.prog 54 #[.pointer (some ⟨p, 0, none⟩), .int .u32 o, .bool s, .int .i64 n] w fun e w' => ∃ vo v', e = .returned (.tuple #[vo, .int .i64 (gcode u0 u1 ns bx o n)]) ∧ HS w0 w' p b g u0 u1 ns v' (bx ++ given u0 u1 ns bx last o s n) (last + (given u0 u1 ns bx last o s n).length) ((vo, given u0 u1 ns bx last o s n) :: rows) := by
  refine (lgive o n s w h.led h.good hla).mono ?_
  rintro e w' ⟨vo, v', rfl, hL, hR, hd, hb, ho⟩
  exact ⟨vo, v', rfl, (h.next (h.good.give o s n) hL (hb.mono fun k hk => hk.elim (fun e => .inl (.inl e)) .inr) ho).add hR (h.up (Nat.le_refl _)) hd⟩
theorem HS.take (h : HS w0 w p b g u0 u1 ns v bx last rows) (o n : Int) (s : Bool) :
    Calls Try.prog 55 #[.pointer (some ⟨p, 0, none⟩), .int .u32 o, .bool s, .int .i64 n] w fun e w' => ∃ vo v', e = .returned (.tuple #[vo, .int .i64 (tcode bx o s n)]) ∧ HS w0 w' p b g u0 u1 ns v' (leftN bx (taken bx o s n)) last ((vo, taken bx o s n) :: rows) := by
  refine (ltake o n s w h.led h.len).mono ?_
  rintro e w' ⟨vo, v', rfl, hL, hR, hd, hb, ho⟩
  exact ⟨vo, v', rfl, (h.next (h.good.take _) hL (hb.mono fun k hk => .inl (.inl hk)) ho).add hR (h.up (Nat.le_refl _)) hd⟩
theorem HS.free (h : HS w0 w p b g u0 u1 ns v bx last rows) :
    Calls Try.prog 51 #[.pointer (some ⟨p, 0, none⟩)] w fun e w' => e = .returned (.int .i64 (freeN u0 u1 ns bx)) ∧ Below w.heap.size w w' := LedT.free w h.led h.good.nodes h.len
theorem HS.room (h : HS w0 w p b g u0 u1 ns v bx last rows) (i : Int) (hi : (Lit.int .u32 i).wf = true) :
    Calls Try.prog 58 #[.pointer (some ⟨p, 0, none⟩), .int .u32 i] w fun e w' => e = .returned (.int .i64 (roomN u0 u1 ns bx i)) ∧ Below w.heap.size w w' := by
  cases hw : who ns i with
  | none => exact room_no w i h.led h.good.nodes h.len hi hw
  | some x => exact room_yes w i h.led h.good.nodes h.len hi x hw
theorem HS.boxes (h : HS w0 w p b g u0 u1 ns v bx last rows) :
    Calls Try.prog 56 #[.pointer (some ⟨p, 0, none⟩)] w fun e w' => ∃ v', e = .returned v' ∧ RB w' w.heap.size v' bx ∧ Below w.heap.size w w' := LedT.boxes w h.led h.len
/-- Only the first told row counts on. -/
theorem HS.keep (h : HS w0 w p b g u0 u1 ns v bx last rows) (hs : ∀ r ∈ rows', r ∈ rows) : HS w0 w p b g u0 u1 ns v bx last rows' := ⟨h.below, h.led, h.good, fun r hr => h.rows r (hs r hr)⟩
end
theorem lit1 (w : World) (x : Bx) : Kd.C PLedLib.k113 (w.alloc (.cells #[.int .u32 x.f0, .int .u32 x.f1, .int .u32 x.f2, .bool x.f3] 113)) (some ⟨w.heap.size, 0, none⟩) 1 [x] := by
  have h : Kd.R PLedLib.k113 113 (w.alloc (.cells #[.int .u32 x.f0, .int .u32 x.f1, .int .u32 x.f2, .bool x.f3] 113)) w.heap.size (fun _ => True) (.slice (some ⟨w.heap.size, 0, none⟩) 1 1) [x] :=
    ⟨fun _ _ => trivial, [.int .u32 x.f0, .int .u32 x.f1, .int .u32 x.f2, .bool x.f3], World.ownsRow_lit w _ 1 (Nat.le_refl _) (by decide) rfl, Reps.c4 (PLedLib.k113_mkM _ _ _ x) (Reps.none _ _)⟩
  exact (Kd.R_reads' h).2.2
theorem lit2 (w : World) (x y : Bx) : Kd.C PLedLib.k113 (w.alloc (.cells #[.int .u32 x.f0, .int .u32 x.f1, .int .u32 x.f2, .bool x.f3, .int .u32 y.f0, .int .u32 y.f1, .int .u32 y.f2, .bool y.f3] 113)) (some ⟨w.heap.size, 0, none⟩) 2 [x, y] := by
  have h : Kd.R PLedLib.k113 113 (w.alloc (.cells #[.int .u32 x.f0, .int .u32 x.f1, .int .u32 x.f2, .bool x.f3, .int .u32 y.f0, .int .u32 y.f1, .int .u32 y.f2, .bool y.f3] 113)) w.heap.size (fun _ => True) (.slice (some ⟨w.heap.size, 0, none⟩) 2 2) [x, y] :=
    ⟨fun _ _ => trivial, [.int .u32 x.f0, .int .u32 x.f1, .int .u32 x.f2, .bool x.f3, .int .u32 y.f0, .int .u32 y.f1, .int .u32 y.f2, .bool y.f3], World.ownsRow_lit w _ 2 (Nat.le_refl _) (by decide) rfl, Reps.c4 (PLedLib.k113_mkM _ _ _ x) (Reps.c4 (PLedLib.k113_mkM _ _ _ y) (Reps.none _ _))⟩
  exact (Kd.R_reads' h).2.2
end Go.Proofs.Ythibppfdonepoaa.LedT
