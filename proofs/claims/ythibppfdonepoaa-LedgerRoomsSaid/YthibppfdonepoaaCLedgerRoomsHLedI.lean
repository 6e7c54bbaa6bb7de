/- ledger.Ledger: Free. ledger.Ledger: Room. ledger: New. ledger: what is given, box by box; a ledger that is good. -/
import Derived.Test.YthibppfdonepoaaCLedgerRoomsHLedE
import Derived.Test.YthibppfdonepoaaCLedgerRoomsHNodeP
import Derived.Test.YthibppfdonepoaaCLedgerRoomsW
set_option linter.unusedVariables false
namespace Go.Proofs.Ythibppfdonepoaa.LedT
open Go.RowKit Go.MapKept Go.Maps Go.ChangeMaps Go.Proofs.Ythibppfdonepoaa.XBut Go.Proofs.Ythibppfdonepoaa.XMap Go.Proofs.Ythibppfdonepoaa.NodeT Go.Proofs.YthibppfdonepoaaW.PrintWords Go.Proofs.YthibppfdonepoaaW.PrintLast
/-- How many units are free. -/
def freeN (u0 u1 : Int) (ns : List Nd) (bx : List Bx) : Int := sumU (uns u0 u1) ns - bx.length
set_option maxHeartbeats 8000000 in
set_option maxRecDepth 100000 in
theorem free {base p b g : Nat} {u0 u1 : Int} {ns : List Nd} {v : Value} {bx : List Bx} {last : Int} (w : World) (h : LedAt w base p b g u0 u1 ns v bx last) (hG : NodeT.Good u0 u1 ns) (hl : bx.length ≤ 1000000) :
    Calls Try.prog 51 #[.pointer (some ⟨p, 0, none⟩)] w fun e w' => e = .returned (.int .i64 (freeN u0 u1 ns bx)) ∧ Below w.heap.size w w' := by
  obtain ⟨c0, c1, c2⟩ := h.cells
  obtain ⟨A, c, rfl⟩ := Kd.R_slice h.row
  obtain ⟨KA, hKA⟩ := units_all hG.unit ns (fun x hx => (hG.all x hx).2.1)
  have hsm : ∀ x ∈ ns, 0 ≤ uns u0 u1 x ∧ uns u0 u1 x ≤ 1073741824 := fun x hx => ⟨(hG.units x hx).1, by have := (hG.units x hx).2; omega⟩
  have hT := hG.total
  have hlen := hG.len
  obtain ⟨T, hTe⟩ : ∃ T, sumU (uns u0 u1) ns = T := ⟨_, rfl⟩
  have TC := Aside0.mk (fun w' (hw : Below w.heap.size w w') => total KA base b g u0 u1 ns (uns u0 u1) (fun _ => 0) w' (h.tab.below hw) (by omega) hKA hsm)
  rw [hTe] at TC hT
  have FE : Aside0 (freeN u0 u1 ns bx = T - bx.length) := ⟨by unfold freeN; rw [hTe]⟩
  obtain ⟨fr, hfr⟩ : ∃ fr, T - (bx.length : Int) = fr := ⟨_, rfl⟩
  have hr1 : IntKind.i64.wrap (T - (bx.length : Int)) = fr := by rw [IntKind.wrap_i64]; omega
  have H := Aside0.mk h
  rw [FE.out, hfr]
  clear h hG hl hKA hsm hT hlen hTe hfr FE
  go_enter Try.func51, Try.ntmps51
  go_wp2_with fail
  refine (none_at p _ _ c0).mono ?_
  rintro e wz ⟨rfl, hz⟩
  obtain rfl := hz.symm
  clear hz
  simp only [Option.isNone]
  go_upto_region 3 with (fail)
  refine XInv.region_tab [] [[], [0], [1], [2], [3], [], [5], [6], [7], [8], [4, 9], [10, 4, 0, 1, 2, 3, 4, 5, 6, 7, 8, 9, 10]] (fun bq jq => match jq with
      | 0 => .pointer (some ⟨p, 0, none⟩)
      | 1 => .pointer (some ⟨p, 0, none⟩)
      | 2 => .pointer (some ⟨p, 0, none⟩)
      | 3 => .pointer (some ⟨b, 0, none⟩)
      | 4 => .int .i64 T
      | 5 => .pointer (some ⟨p, 0, none⟩)
      | 6 => .pointer (some ⟨p, 0, none⟩)
      | 7 => .pointer (some ⟨p, 1, none⟩)
      | 8 => .slice A bx.length c
      | 9 => .int .i64 bx.length
      | 10 => .int .i64 fr
      | 11 => .int .i64 fr
      | _ => undef)
      (fun bq l w' => Below w.heap.size w w')
      (by kernel_rfl) rfl (by kernel_rfl) (by kernel_rfl) (by kernel_rfl) ⟨fun _ : Nat => (0 : Nat), below_drew (Below.refl _ _)⟩ ?_ ?_
  · intro i1 hi1 hds oi hoi bq lb w' hW hlb hcl hneed hclo
    have hi1 : i1 < 12 := hi1
    have hcs : i1 = 0 ∨ i1 = 1 ∨ i1 = 2 ∨ i1 = 3 ∨ i1 = 4 ∨ i1 = 5 ∨ i1 = 6 ∨ i1 = 7 ∨ i1 = 8 ∨ i1 = 9 ∨ i1 = 10 ∨ i1 = 11 := by omega
    clear hi1 hcl hneed hclo
    obtain ⟨c0, c1, c2⟩ := (H.out.below hW).cells
    rcases hcs with rfl | rfl | rfl | rfl | rfl | rfl | rfl | rfl | rfl | rfl | rfl | rfl
    all_goals simp only [List.getElem?_toArray, List.getElem?_cons_succ, List.getElem?_cons_zero, Option.some.injEq] at hoi
    all_goals subst hoi
    · refine XInv.yes_tab [] (by kernel_rfl) ?_
      obtain ⟨c0, c1, c2⟩ := (H.out.below hW).cells
      intro Q2 K2 hK2
      simp only [XInv.puts, XPrint.pw]
      go_simp
      exact hK2.out (.pointer (some ⟨p, 0, none⟩)) w' ⟨bq, rfl, (by intros; first | rfl | trivial), hW⟩
    · refine XInv.yes_tab [(5, 0)] (by kernel_rfl) ?_
      obtain ⟨c0, c1, c2⟩ := (H.out.below hW).cells
      intro Q2 K2 hK2
      simp only [XInv.puts, XPrint.pw]
      go_simp
      exact hK2.out (.pointer (some ⟨p, 0, none⟩)) w' ⟨bq, rfl, (by intros; first | rfl | trivial), hW⟩
    · refine XInv.yes_tab [(6, 1)] (by kernel_rfl) ?_
      obtain ⟨c0, c1, c2⟩ := (H.out.below hW).cells
      intro Q2 K2 hK2
      simp only [XInv.puts, XPrint.pw]
      go_simp
      exact hK2.out (.pointer (some ⟨p, 0, none⟩)) w' ⟨bq, rfl, (by intros; first | rfl | trivial), hW⟩
    · refine XInv.yes_tab [(7, 2)] (by kernel_rfl) ?_
      obtain ⟨c0, c1, c2⟩ := (H.out.below hW).cells
      intro Q2 K2 hK2
      simp only [XInv.puts, XPrint.pw]
      go_simp
      exact hK2.out (.pointer (some ⟨b, 0, none⟩)) w' ⟨bq, rfl, (by intros; first | rfl | trivial), hW⟩
    · refine XInv.yes_tab [(8, 3)] (by kernel_rfl) ?_
      obtain ⟨c0, c1, c2⟩ := (H.out.below hW).cells
      intro Q2 K2 hK2
      simp only [XInv.puts, XPrint.pw]
      go_simp
      go_at_call 28
      (with_reducible refine (TC.out _ hW).mono ?_)
      rintro e wz ⟨rfl, hb⟩
      exact hK2.out (.int .i64 T) wz ⟨bq, rfl, (by intros; first | rfl | trivial), below_step hW hb⟩
    · refine XInv.yes_tab [] (by kernel_rfl) ?_
      obtain ⟨c0, c1, c2⟩ := (H.out.below hW).cells
      intro Q2 K2 hK2
      simp only [XInv.puts, XPrint.pw]
      go_simp
      exact hK2.out (.pointer (some ⟨p, 0, none⟩)) w' ⟨bq, rfl, (by intros; first | rfl | trivial), hW⟩
    · refine XInv.yes_tab [(10, 5)] (by kernel_rfl) ?_
      obtain ⟨c0, c1, c2⟩ := (H.out.below hW).cells
      intro Q2 K2 hK2
      simp only [XInv.puts, XPrint.pw]
      go_simp
      exact hK2.out (.pointer (some ⟨p, 0, none⟩)) w' ⟨bq, rfl, (by intros; first | rfl | trivial), hW⟩
    · refine XInv.yes_tab [(11, 6)] (by kernel_rfl) ?_
      obtain ⟨c0, c1, c2⟩ := (H.out.below hW).cells
      intro Q2 K2 hK2
      simp only [XInv.puts, XPrint.pw]
      go_simp
      exact hK2.out (.pointer (some ⟨p, 1, none⟩)) w' ⟨bq, rfl, (by intros; first | rfl | trivial), hW⟩
    · refine XInv.yes_tab [(12, 7)] (by kernel_rfl) ?_
      obtain ⟨c0, c1, c2⟩ := (H.out.below hW).cells
      intro Q2 K2 hK2
      simp only [XInv.puts, XPrint.pw]
      go_simp
      exact hK2.out (.slice A bx.length c) w' ⟨bq, rfl, (by intros; first | rfl | trivial), hW⟩
    · refine XInv.yes_tab [(13, 8)] (by kernel_rfl) ?_
      obtain ⟨c0, c1, c2⟩ := (H.out.below hW).cells
      intro Q2 K2 hK2
      simp only [XInv.puts, XPrint.pw]
      go_simp
      exact hK2.out (.int .i64 bx.length) w' ⟨bq, rfl, (by intros; first | rfl | trivial), hW⟩
    · refine XInv.yes_tab [(14, 9), (9, 4)] (by kernel_rfl) ?_
      obtain ⟨c0, c1, c2⟩ := (H.out.below hW).cells
      intro Q2 K2 hK2
      simp only [XInv.puts, XPrint.pw]
      go_simp
      exact hK2.out (.int .i64 fr) w' ⟨bq, rfl, (by intros; first | rfl | trivial), hW⟩
    · refine XInv.yes_tab [(15, 10), (14, 9), (13, 8), (12, 7), (11, 6), (10, 5), (9, 4), (8, 3), (7, 2), (6, 1), (5, 0)] (by kernel_rfl) ?_
      obtain ⟨c0, c1, c2⟩ := (H.out.below hW).cells
      intro Q2 K2 hK2
      simp only [XInv.puts, XPrint.pw] at hK2 ⊢
      go_simp
      exact hK2.out (.int .i64 fr) w' ⟨bq, rfl, (by intros; first | rfl | trivial), hW⟩
  · intro bq w' hW
    refine XInv.end_nil [(2, 11), (15, 10), (14, 9), (13, 8), (12, 7), (11, 6), (10, 5), (9, 4), (8, 3), (7, 2), (6, 1), (5, 0)] (by kernel_rfl) (by kernel_rfl) ?_
    simp only [XInv.puts, XPrint.pw]
    go_wp2
    go_ret
    exact ⟨rfl, hW⟩
end Go.Proofs.Ythibppfdonepoaa.LedT
set_option linter.unusedVariables false
namespace Go.Proofs.Ythibppfdonepoaa.LedT
open Go.RowKit Go.MapKept Go.Maps Go.ChangeMaps Go.Proofs.Ythibppfdonepoaa.XBut Go.Proofs.Ythibppfdonepoaa.XMap Go.Proofs.Ythibppfdonepoaa.NodeT Go.Proofs.YthibppfdonepoaaW.PrintWords Go.Proofs.YthibppfdonepoaaW.PrintLast
/-- The boxes on a node. -/
def onN (bx : List Bx) (i : Int) : List Bx := bx.filter fun x => x.f1 == i
/-- How many units of a node have no box. -/
def roomN (u0 u1 : Int) (ns : List Nd) (bx : List Bx) (i : Int) : Int := match who ns i with | some x => uns u0 u1 x - (onN bx i).length | none => 0
theorem who_in {ns : List Nd} {i : Int} {x : Nd} (h : who ns i = some x) : x ∈ ns := List.mem_of_find?_eq_some h
set_option maxHeartbeats 8000000 in
set_option maxRecDepth 100000 in
theorem room_yes {base p b g : Nat} {u0 u1 : Int} {ns : List Nd} {v : Value} {bx : List Bx} {last : Int} (w : World) (i : Int) (h : LedAt w base p b g u0 u1 ns v bx last) (hG : NodeT.Good u0 u1 ns) (hl : bx.length ≤ 1000000) (hi : (Lit.int .u32 i).wf = true) (x : Nd) (hw : who ns i = some x) :
    Calls Try.prog 58 #[.pointer (some ⟨p, 0, none⟩), .int .u32 i] w fun e w' => e = .returned (.int .i64 (roomN u0 u1 ns bx i)) ∧ Below w.heap.size w w' := by
  have hlt := blk_lt h.blk
  obtain ⟨A, c, rfl⟩ := Kd.R_slice h.row
  obtain ⟨_, hc, hC⟩ := Kd.R_reads' h.row
  obtain ⟨W0, hW0⟩ : ∃ W0, w.alloc (.cells #[.int .u32 i] 37) = W0 := ⟨_, rfl⟩
  have hB0 : Below w.heap.size w W0 := by rw [← hW0]; exact below_alloc (Below.refl _ _) _
  have k0 : W0.heap[w.heap.size]? = some (.cells #[.int .u32 i] 37 (0, 0)) := by rw [← hW0]; exact blk_new w _
  have HW := Aside0.mk hW0
  have hx := who_in hw
  obtain ⟨KA, hKA⟩ := units_at hG.unit (hG.all x hx).2.1
  have hun := hG.units x hx
  have HR : Aside0 (roomN u0 u1 ns bx i = uns u0 u1 x - (onN bx i).length) := ⟨by unfold roomN; rw [hw]⟩
  obtain ⟨q, hq⟩ : ∃ q, uns u0 u1 x = q := ⟨_, rfl⟩
  rw [hq] at hKA hun HR
  have UC := Aside0.mk (fun w' (h' : Below W0.heap.size W0 w') => units_yes KA base b g u0 u1 i ns x q 0 w' ((h.tab.below hB0).below h') hi hw (hKA KA (Nat.le_refl _)))
  have hlo : (onN bx i).length ≤ bx.length := List.length_filter_le _ _
  obtain ⟨m, hm⟩ : ∃ m, (onN bx i).length = m := ⟨_, rfl⟩
  rw [hm] at hlo HR
  obtain ⟨fr, hfr⟩ : ∃ fr, q - (m : Int) = fr := ⟨_, rfl⟩
  have hr1 : IntKind.i64.wrap (q - (m : Int)) = fr := by rw [IntKind.wrap_i64]; omega
  rw [hfr] at HR
  have M := Aside0.mk hm
  clear hx hKA hun hw hq hlo hfr hm
  have PK := Aside0.mk (fun w' (h' : Below W0.heap.size W0 w') => picked 111 (.pointer (some ⟨w.heap.size, 0, none⟩)) (fun x => x.f1 == i) bx A c w' (Kd.C_below (Kd.C_below hC hB0) h') hl (fun _ _ => rfl) (fun y hy wy hwy => room1 y w.heap.size i wy ((blk_cell (blk_below (blk_below k0 h') hwy) 0).trans rfl)))
  have H := Aside0.mk (And.intro (h.below hB0) (And.intro k0 hB0))
  have c0 := (h.below hB0).cells.1
  clear h hG hl hi hc hC hB0 k0 hW0
  rw [HR.out]
  go_enter Try.func58, Try.ntmps58
  go_wp2_with fail
  rw [HW.out]
  refine (none_at p _ _ c0).mono ?_
  rintro e wz ⟨rfl, hz⟩
  obtain rfl := hz.symm
  clear hz HW HR
  simp only [Option.isNone]
  go_upto_region 3 with (fail)
  refine XInv.region_tab [] [[], [0], [1], [2], [], [3, 4], [5], [6], [6], [7, 5, 0, 1, 2, 3, 4, 5, 6, 7], [8, 9, 0, 1, 2, 3, 4, 5, 6, 7, 8, 9]] (fun bq jq => match jq with
      | 0 => .pointer (some ⟨p, 0, none⟩)
      | 1 => .pointer (some ⟨p, 0, none⟩)
      | 2 => .pointer (some ⟨p, 0, none⟩)
      | 3 => .pointer (some ⟨b, 0, none⟩)
      | 4 => .int .u32 i
      | 5 => .tuple #[.int .i64 q, .int .i64 0]
      | 6 => .tuple #[.int .i64 q, .int .i64 0]
      | 7 => .int .i64 q
      | 8 => .int .i64 0
      | 9 => .int .i64 q
      | 10 => .int .i64 0
      | _ => undef)
      (fun bq l w' => Below W0.heap.size W0 w')
      (by kernel_rfl) rfl (by kernel_rfl) (by kernel_rfl) (by kernel_rfl) ⟨fun _ : Nat => (0 : Nat), below_drew (Below.refl _ _)⟩ ?_ ?_
  · intro i1 hi1 hds oi hoi bq lb w' hW hlb hcl hneed hclo
    have hi1 : i1 < 11 := hi1
    have hcs : i1 = 0 ∨ i1 = 1 ∨ i1 = 2 ∨ i1 = 3 ∨ i1 = 4 ∨ i1 = 5 ∨ i1 = 6 ∨ i1 = 7 ∨ i1 = 8 ∨ i1 = 9 ∨ i1 = 10 := by omega
    clear hi1 hcl hneed hclo
    obtain ⟨c0, c1, c2⟩ := (H.out.1.below hW).cells
    have n0 := (blk_cell (blk_below H.out.2.1 hW) 0).trans rfl
    rcases hcs with rfl | rfl | rfl | rfl | rfl | rfl | rfl | rfl | rfl | rfl | rfl
    all_goals simp only [List.getElem?_toArray, List.getElem?_cons_succ, List.getElem?_cons_zero, Option.some.injEq] at hoi
    all_goals subst hoi
    · refine XInv.yes_tab [] (by kernel_rfl) ?_
      obtain ⟨c0, c1, c2⟩ := (H.out.1.below hW).cells
      have n0 := (blk_cell (blk_below H.out.2.1 hW) 0).trans rfl
      intro Q2 K2 hK2
      simp only [XInv.puts, XPrint.pw]
      go_simp
      exact hK2.out (.pointer (some ⟨p, 0, none⟩)) w' ⟨bq, rfl, (by intros; first | rfl | trivial), hW⟩
    · refine XInv.yes_tab [(12, 0)] (by kernel_rfl) ?_
      obtain ⟨c0, c1, c2⟩ := (H.out.1.below hW).cells
      have n0 := (blk_cell (blk_below H.out.2.1 hW) 0).trans rfl
      intro Q2 K2 hK2
      simp only [XInv.puts, XPrint.pw]
      go_simp
      exact hK2.out (.pointer (some ⟨p, 0, none⟩)) w' ⟨bq, rfl, (by intros; first | rfl | trivial), hW⟩
    · refine XInv.yes_tab [(13, 1)] (by kernel_rfl) ?_
      obtain ⟨c0, c1, c2⟩ := (H.out.1.below hW).cells
      have n0 := (blk_cell (blk_below H.out.2.1 hW) 0).trans rfl
      intro Q2 K2 hK2
      simp only [XInv.puts, XPrint.pw]
      go_simp
      exact hK2.out (.pointer (some ⟨p, 0, none⟩)) w' ⟨bq, rfl, (by intros; first | rfl | trivial), hW⟩
    · refine XInv.yes_tab [(14, 2)] (by kernel_rfl) ?_
      obtain ⟨c0, c1, c2⟩ := (H.out.1.below hW).cells
      have n0 := (blk_cell (blk_below H.out.2.1 hW) 0).trans rfl
      intro Q2 K2 hK2
      simp only [XInv.puts, XPrint.pw]
      go_simp
      exact hK2.out (.pointer (some ⟨b, 0, none⟩)) w' ⟨bq, rfl, (by intros; first | rfl | trivial), hW⟩
    · refine XInv.yes_tab [] (by kernel_rfl) ?_
      obtain ⟨c0, c1, c2⟩ := (H.out.1.below hW).cells
      have n0 := (blk_cell (blk_below H.out.2.1 hW) 0).trans rfl
      intro Q2 K2 hK2
      simp only [XInv.puts, XPrint.pw]
      go_simp
      exact hK2.out (.int .u32 i) w' ⟨bq, rfl, (by intros; first | rfl | trivial), hW⟩
    · refine XInv.yes_tab [(16, 4), (15, 3)] (by kernel_rfl) ?_
      obtain ⟨c0, c1, c2⟩ := (H.out.1.below hW).cells
      have n0 := (blk_cell (blk_below H.out.2.1 hW) 0).trans rfl
      intro Q2 K2 hK2
      simp only [XInv.puts, XPrint.pw]
      go_simp
      go_at_call 24
      (with_reducible refine (UC.out _ hW).mono ?_)
      rintro e wz ⟨rfl, hb⟩
      exact hK2.out (.tuple #[.int .i64 q, .int .i64 0]) wz ⟨bq, rfl, (by intros; first | rfl | trivial), below_step hW hb⟩
    · refine XInv.yes_tab [(17, 5)] (by kernel_rfl) ?_
      obtain ⟨c0, c1, c2⟩ := (H.out.1.below hW).cells
      have n0 := (blk_cell (blk_below H.out.2.1 hW) 0).trans rfl
      intro Q2 K2 hK2
      simp only [XInv.puts, XPrint.pw]
      go_simp
      exact hK2.out (.tuple #[.int .i64 q, .int .i64 0]) w' ⟨bq, rfl, (by intros; first | rfl | trivial), hW⟩
    · refine XInv.yes_tab [(11, 6)] (by kernel_rfl) ?_
      obtain ⟨c0, c1, c2⟩ := (H.out.1.below hW).cells
      have n0 := (blk_cell (blk_below H.out.2.1 hW) 0).trans rfl
      intro Q2 K2 hK2
      simp only [XInv.puts, XPrint.pw]
      go_simp
      exact hK2.out (.int .i64 q) w' ⟨bq, rfl, (by intros; first | rfl | trivial), hW⟩
    · refine XInv.yes_tab [(11, 6)] (by kernel_rfl) ?_
      obtain ⟨c0, c1, c2⟩ := (H.out.1.below hW).cells
      have n0 := (blk_cell (blk_below H.out.2.1 hW) 0).trans rfl
      intro Q2 K2 hK2
      simp only [XInv.puts, XPrint.pw]
      go_simp
      exact hK2.out (.int .i64 0) w' ⟨bq, rfl, (by intros; first | rfl | trivial), hW⟩
    · refine XInv.yes_tab [(18, 7), (11, 6), (17, 5), (16, 4), (15, 3), (14, 2), (13, 1), (12, 0)] (by kernel_rfl) ?_
      obtain ⟨c0, c1, c2⟩ := (H.out.1.below hW).cells
      have n0 := (blk_cell (blk_below H.out.2.1 hW) 0).trans rfl
      intro Q2 K2 hK2
      simp only [XInv.puts, XPrint.pw] at hK2 ⊢
      go_simp
      exact hK2.out (.int .i64 q) w' ⟨bq, rfl, (by intros; first | rfl | trivial), hW⟩
    · refine XInv.yes_tab [(5, 9), (19, 8), (18, 7), (11, 6), (17, 5), (16, 4), (15, 3), (14, 2), (13, 1), (12, 0)] (by kernel_rfl) ?_
      obtain ⟨c0, c1, c2⟩ := (H.out.1.below hW).cells
      have n0 := (blk_cell (blk_below H.out.2.1 hW) 0).trans rfl
      intro Q2 K2 hK2
      simp only [XInv.puts, XPrint.pw] at hK2 ⊢
      go_simp
      exact hK2.out (.int .i64 0) w' ⟨bq, rfl, (by intros; first | rfl | trivial), hW⟩
  · intro bq w' hW
    refine XInv.end_nil [(6, 10), (5, 9), (19, 8), (18, 7), (11, 6), (17, 5), (16, 4), (15, 3), (14, 2), (13, 1), (12, 0)] (by kernel_rfl) (by kernel_rfl) ?_
    simp only [XInv.puts, XPrint.pw]
    have X := Aside0.mk hW
    have c1 := (H.out.1.below hW).cells.2.1
    clear hW
    go_wp2_with fail
    refine (PK.out _ X.out).mono ?_
    rintro e w1 ⟨v1, v2, rfl, hR1, hR2, _, hb⟩
    obtain ⟨A1, n1, rfl⟩ := Kd.R_slice hR1
    have hm := M.out
    unfold onN at hm
    rw [hm]
    have Y := Aside0.mk hb
    clear hb hR1 hR2 hm c1
    dsimp only
    go_wp2
    go_ret
    exact ⟨rfl, below_then H.out.2.2 H.out.2.2.size (below_step X.out Y.out)⟩
set_option maxHeartbeats 8000000 in
set_option maxRecDepth 100000 in
theorem room_no {base p b g : Nat} {u0 u1 : Int} {ns : List Nd} {v : Value} {bx : List Bx} {last : Int} (w : World) (i : Int) (h : LedAt w base p b g u0 u1 ns v bx last) (hG : NodeT.Good u0 u1 ns) (hl : bx.length ≤ 1000000) (hi : (Lit.int .u32 i).wf = true) (hw : who ns i = none) :
    Calls Try.prog 58 #[.pointer (some ⟨p, 0, none⟩), .int .u32 i] w fun e w' => e = .returned (.int .i64 (roomN u0 u1 ns bx i)) ∧ Below w.heap.size w w' := by
  have hlt := blk_lt h.blk
  obtain ⟨A, c, rfl⟩ := Kd.R_slice h.row
  obtain ⟨_, hc, hC⟩ := Kd.R_reads' h.row
  obtain ⟨W0, hW0⟩ : ∃ W0, w.alloc (.cells #[.int .u32 i] 37) = W0 := ⟨_, rfl⟩
  have hB0 : Below w.heap.size w W0 := by rw [← hW0]; exact below_alloc (Below.refl _ _) _
  have k0 : W0.heap[w.heap.size]? = some (.cells #[.int .u32 i] 37 (0, 0)) := by rw [← hW0]; exact blk_new w _
  have HW := Aside0.mk hW0
  have HR : Aside0 (roomN u0 u1 ns bx i = 0) := ⟨by unfold roomN; rw [hw]⟩
  have UC := Aside0.mk (fun w' (h' : Below W0.heap.size W0 w') => units_no base b g u0 u1 i ns w' ((h.tab.below hB0).below h') hi hw)
  clear hw
  have PK := Aside0.mk (fun w' (h' : Below W0.heap.size W0 w') => picked 111 (.pointer (some ⟨w.heap.size, 0, none⟩)) (fun x => x.f1 == i) bx A c w' (Kd.C_below (Kd.C_below hC hB0) h') hl (fun _ _ => rfl) (fun y hy wy hwy => room1 y w.heap.size i wy ((blk_cell (blk_below (blk_below k0 h') hwy) 0).trans rfl)))
  have H := Aside0.mk (And.intro (h.below hB0) (And.intro k0 hB0))
  have c0 := (h.below hB0).cells.1
  clear h hG hl hi hc hC hB0 k0 hW0
  rw [HR.out]
  go_enter Try.func58, Try.ntmps58
  go_wp2_with fail
  rw [HW.out]
  refine (none_at p _ _ c0).mono ?_
  rintro e wz ⟨rfl, hz⟩
  obtain rfl := hz.symm
  clear hz HW HR
  simp only [Option.isNone]
  go_upto_region 3 with (fail)
  refine XInv.region_tab [] [[], [0], [1], [2], [], [3, 4], [5], [6], [6], [7, 5, 0, 1, 2, 3, 4, 5, 6, 7], [8, 9, 0, 1, 2, 3, 4, 5, 6, 7, 8, 9]] (fun bq jq => match jq with
      | 0 => .pointer (some ⟨p, 0, none⟩)
      | 1 => .pointer (some ⟨p, 0, none⟩)
      | 2 => .pointer (some ⟨p, 0, none⟩)
      | 3 => .pointer (some ⟨b, 0, none⟩)
      | 4 => .int .u32 i
      | 5 => .tuple #[.int .i64 0, .int .i64 7]
      | 6 => .tuple #[.int .i64 0, .int .i64 7]
      | 7 => .int .i64 0
      | 8 => .int .i64 7
      | 9 => .int .i64 0
      | 10 => .int .i64 7
      | _ => undef)
      (fun bq l w' => Below W0.heap.size W0 w')
      (by kernel_rfl) rfl (by kernel_rfl) (by kernel_rfl) (by kernel_rfl) ⟨fun _ : Nat => (0 : Nat), below_drew (Below.refl _ _)⟩ ?_ ?_
  · intro i1 hi1 hds oi hoi bq lb w' hW hlb hcl hneed hclo
    have hi1 : i1 < 11 := hi1
    have hcs : i1 = 0 ∨ i1 = 1 ∨ i1 = 2 ∨ i1 = 3 ∨ i1 = 4 ∨ i1 = 5 ∨ i1 = 6 ∨ i1 = 7 ∨ i1 = 8 ∨ i1 = 9 ∨ i1 = 10 := by omega
    clear hi1 hcl hneed hclo
    obtain ⟨c0, c1, c2⟩ := (H.out.1.below hW).cells
    have n0 := (blk_cell (blk_below H.out.2.1 hW) 0).trans rfl
    rcases hcs with rfl | rfl | rfl | rfl | rfl | rfl | rfl | rfl | rfl | rfl | rfl
    all_goals simp only [List.getElem?_toArray, List.getElem?_cons_succ, List.getElem?_cons_zero, Option.some.injEq] at hoi
    all_goals subst hoi
    · refine XInv.yes_tab [] (by kernel_rfl) ?_
      obtain ⟨c0, c1, c2⟩ := (H.out.1.below hW).cells
      have n0 := (blk_cell (blk_below H.out.2.1 hW) 0).trans rfl
      intro Q2 K2 hK2
      simp only [XInv.puts, XPrint.pw]
      go_simp
      exact hK2.out (.pointer (some ⟨p, 0, none⟩)) w' ⟨bq, rfl, (by intros; first | rfl | trivial), hW⟩
    · refine XInv.yes_tab [(12, 0)] (by kernel_rfl) ?_
      obtain ⟨c0, c1, c2⟩ := (H.out.1.below hW).cells
      have n0 := (blk_cell (blk_below H.out.2.1 hW) 0).trans rfl
      intro Q2 K2 hK2
      simp only [XInv.puts, XPrint.pw]
      go_simp
      exact hK2.out (.pointer (some ⟨p, 0, none⟩)) w' ⟨bq, rfl, (by intros; first | rfl | trivial), hW⟩
    · refine XInv.yes_tab [(13, 1)] (by kernel_rfl) ?_
      obtain ⟨c0, c1, c2⟩ := (H.out.1.below hW).cells
      have n0 := (blk_cell (blk_below H.out.2.1 hW) 0).trans rfl
      intro Q2 K2 hK2
      simp only [XInv.puts, XPrint.pw]
      go_simp
      exact hK2.out (.pointer (some ⟨p, 0, none⟩)) w' ⟨bq, rfl, (by intros; first | rfl | trivial), hW⟩
    · refine XInv.yes_tab [(14, 2)] (by kernel_rfl) ?_
      obtain ⟨c0, c1, c2⟩ := (H.out.1.below hW).cells
      have n0 := (blk_cell (blk_below H.out.2.1 hW) 0).trans rfl
      intro Q2 K2 hK2
      simp only [XInv.puts, XPrint.pw]
      go_simp
      exact hK2.out (.pointer (some ⟨b, 0, none⟩)) w' ⟨bq, rfl, (by intros; first | rfl | trivial), hW⟩
    · refine XInv.yes_tab [] (by kernel_rfl) ?_
      obtain ⟨c0, c1, c2⟩ := (H.out.1.below hW).cells
      have n0 := (blk_cell (blk_below H.out.2.1 hW) 0).trans rfl
      intro Q2 K2 hK2
      simp only [XInv.puts, XPrint.pw]
      go_simp
      exact hK2.out (.int .u32 i) w' ⟨bq, rfl, (by intros; first | rfl | trivial), hW⟩
    · refine XInv.yes_tab [(16, 4), (15, 3)] (by kernel_rfl) ?_
      obtain ⟨c0, c1, c2⟩ := (H.out.1.below hW).cells
      have n0 := (blk_cell (blk_below H.out.2.1 hW) 0).trans rfl
      intro Q2 K2 hK2
      simp only [XInv.puts, XPrint.pw]
      go_simp
      go_at_call 24
      (with_reducible refine (UC.out _ hW).mono ?_)
      rintro e wz ⟨rfl, hb⟩
      exact hK2.out (.tuple #[.int .i64 0, .int .i64 7]) wz ⟨bq, rfl, (by intros; first | rfl | trivial), below_step hW hb⟩
    · refine XInv.yes_tab [(17, 5)] (by kernel_rfl) ?_
      obtain ⟨c0, c1, c2⟩ := (H.out.1.below hW).cells
      have n0 := (blk_cell (blk_below H.out.2.1 hW) 0).trans rfl
      intro Q2 K2 hK2
      simp only [XInv.puts, XPrint.pw]
      go_simp
      exact hK2.out (.tuple #[.int .i64 0, .int .i64 7]) w' ⟨bq, rfl, (by intros; first | rfl | trivial), hW⟩
    · refine XInv.yes_tab [(11, 6)] (by kernel_rfl) ?_
      obtain ⟨c0, c1, c2⟩ := (H.out.1.below hW).cells
      have n0 := (blk_cell (blk_below H.out.2.1 hW) 0).trans rfl
      intro Q2 K2 hK2
      simp only [XInv.puts, XPrint.pw]
      go_simp
      exact hK2.out (.int .i64 0) w' ⟨bq, rfl, (by intros; first | rfl | trivial), hW⟩
    · refine XInv.yes_tab [(11, 6)] (by kernel_rfl) ?_
      obtain ⟨c0, c1, c2⟩ := (H.out.1.below hW).cells
      have n0 := (blk_cell (blk_below H.out.2.1 hW) 0).trans rfl
      intro Q2 K2 hK2
      simp only [XInv.puts, XPrint.pw]
      go_simp
      exact hK2.out (.int .i64 7) w' ⟨bq, rfl, (by intros; first | rfl | trivial), hW⟩
    · refine XInv.yes_tab [(18, 7), (11, 6), (17, 5), (16, 4), (15, 3), (14, 2), (13, 1), (12, 0)] (by kernel_rfl) ?_
      obtain ⟨c0, c1, c2⟩ := (H.out.1.below hW).cells
      have n0 := (blk_cell (blk_below H.out.2.1 hW) 0).trans rfl
      intro Q2 K2 hK2
      simp only [XInv.puts, XPrint.pw] at hK2 ⊢
      go_simp
      exact hK2.out (.int .i64 0) w' ⟨bq, rfl, (by intros; first | rfl | trivial), hW⟩
    · refine XInv.yes_tab [(5, 9), (19, 8), (18, 7), (11, 6), (17, 5), (16, 4), (15, 3), (14, 2), (13, 1), (12, 0)] (by kernel_rfl) ?_
      obtain ⟨c0, c1, c2⟩ := (H.out.1.below hW).cells
      have n0 := (blk_cell (blk_below H.out.2.1 hW) 0).trans rfl
      intro Q2 K2 hK2
      simp only [XInv.puts, XPrint.pw] at hK2 ⊢
      go_simp
      exact hK2.out (.int .i64 7) w' ⟨bq, rfl, (by intros; first | rfl | trivial), hW⟩
  · intro bq w' hW
    refine XInv.end_nil [(6, 10), (5, 9), (19, 8), (18, 7), (11, 6), (17, 5), (16, 4), (15, 3), (14, 2), (13, 1), (12, 0)] (by kernel_rfl) (by kernel_rfl) ?_
    simp only [XInv.puts, XPrint.pw]
    have X := Aside0.mk hW
    clear hW
    go_wp2
    go_ret
    exact ⟨rfl, below_then H.out.2.2 H.out.2.2.size X.out⟩
end Go.Proofs.Ythibppfdonepoaa.LedT
set_option linter.unusedVariables false
namespace Go.Proofs.Ythibppfdonepoaa.LedT
open Go.RowKit Go.MapKept Go.Maps Go.ChangeMaps Go.Proofs.Ythibppfdonepoaa.XBut Go.Proofs.Ythibppfdonepoaa.XMap Go.Proofs.Ythibppfdonepoaa.NodeT Go.Proofs.YthibppfdonepoaaW.PrintWords Go.Proofs.YthibppfdonepoaaW.PrintLast
theorem tab_low {w : World} {base base' b g : Nat} {u0 u1 : Int} {ns : List Nd} (h : TabAt w base b g u0 u1 ns) (hb : base' ≤ base) : TabAt w base' b g u0 u1 ns := ⟨h.blk, h.map, Nat.le_trans hb h.base1, Nat.le_trans hb h.base2⟩
set_option maxHeartbeats 4000000 in
set_option maxRecDepth 100000 in
theorem lnew_no (u0 u1 : Int) (w : World) (hu : ¬ okV 1 ⟨u0, u1⟩) :
    Calls Try.prog 48 #[.agg #[.int .i64 u0, .int .i64 u1]] w fun e w' => e = .returned (.tuple #[.pointer none, .int .i64 2]) ∧ Below w.heap.size w w' := by
  have hu23 := Try.underlying23
  have H := Aside0.mk hu
  clear hu
  go_enter Try.func48, Try.ntmps48
  go_wp2_with fail
  refine (new_no u0 u1 _ (by rw [in_f, decide_eq_false H.out])).mono ?_
  rintro e w1 ⟨rfl, hb⟩
  have X := Aside0.mk (below_then (below_alloc (Below.refl w.heap.size w) _) (by simp) hb)
  clear hb
  dsimp only
  go_wp2
  go_ret2
  exact ⟨rfl, X.out⟩
set_option maxHeartbeats 4000000 in
set_option maxRecDepth 100000 in
theorem lnew_yes (u0 u1 : Int) (w : World) (hu : okV 1 ⟨u0, u1⟩) :
    Calls Try.prog 48 #[.agg #[.int .i64 u0, .int .i64 u1]] w fun e w' => ∃ p b g, e = .returned (.tuple #[.pointer (some ⟨p, 0, none⟩), .int .i64 0]) ∧ Below w.heap.size w w' ∧ LedAt w' w.heap.size p b g u0 u1 [] (.slice none 0 0) [] 0 := by
  have hu23 := Try.underlying23
  have H := Aside0.mk hu
  clear hu
  go_enter Try.func48, Try.ntmps48
  go_wp2_with fail
  refine (new_yes u0 u1 _ (by rw [in_f, decide_eq_true H.out])).mono ?_
  rintro e w1 ⟨b, g, rfl, hb, hT⟩
  have X := Aside0.mk (And.intro (below_then (below_alloc (Below.refl w.heap.size w) _) (by simp) hb) hT)
  clear hb hT
  dsimp only
  go_wp2
  go_ret2
  have lt := X.out.2.lt
  have hs := X.out.1.size
  refine ⟨_, b, g, rfl, below_alloc X.out.1 _, ⟨tab_low (X.out.2.below (below_alloc (Below.refl _ _) _)) (by simp), blk_new _ _, Kd.R_nil _ _ _ _ _, fun k hk => by simp [Value.ownBlock] at hk, by omega, by omega, by omega⟩⟩
end Go.Proofs.Ythibppfdonepoaa.LedT
set_option linter.unusedVariables false
namespace Go.Proofs.Ythibppfdonepoaa.LedT
open Go.RowKit Go.MapKept Go.Maps Go.ChangeMaps Go.Proofs.Ythibppfdonepoaa.XBut Go.Proofs.Ythibppfdonepoaa.XMap Go.Proofs.Ythibppfdonepoaa.NodeT Go.Proofs.YthibppfdonepoaaW.PrintWords Go.Proofs.YthibppfdonepoaaW.PrintLast
theorem who_of {ns : List Nd} (hr : ns.Pairwise fun x y => x.f0 < y.f0) {x : Nd} (hx : x ∈ ns) : who ns x.f0 = some x := by
  refine who_self ?_ hx
  unfold Rising
  rw [List.pairwise_map]
  exact hr
theorem who_id {ns : List Nd} {i : Int} {x : Nd} (h : who ns i = some x) : x.f0 = i := by
  have := List.find?_some h
  simpa using this
theorem onN_append (a c : List Bx) (i : Int) : onN (a ++ c) i = onN a i ++ onN c i := List.filter_append ..
theorem onN_one (y : Bx) (i : Int) : ((onN [y] i).length : Int) = if y.f1 = i then 1 else 0 := by
  unfold onN
  rw [List.filter_cons]
  by_cases h : y.f1 = i
  · rw [if_pos h, if_pos (by simpa using h)]
    rfl
  · rw [if_neg h, if_neg (by simpa using h)]
    rfl
theorem room_some {u0 u1 : Int} {ns : List Nd} {bx : List Bx} {i : Int} {x : Nd} (h : who ns i = some x) : roomN u0 u1 ns bx i = uns u0 u1 x - (onN bx i).length := by
  unfold roomN
  rw [h]
theorem room_none {u0 u1 : Int} {ns : List Nd} {bx : List Bx} {i : Int} (h : who ns i = none) : roomN u0 u1 ns bx i = 0 := by
  unfold roomN
  rw [h]
/-- One box more takes one unit of its node. -/
theorem room_put {u0 u1 : Int} {ns : List Nd} (bx : List Bx) (y : Bx) (i : Int) (h : (who ns i).isSome = true) : roomN u0 u1 ns (bx ++ [y]) i = roomN u0 u1 ns bx i - if y.f1 = i then 1 else 0 := by
  obtain ⟨x, hx⟩ := Option.isSome_iff_exists.1 h
  rw [room_some hx, room_some hx, onN_append, List.length_append, ← onN_one y i]
  omega
theorem sumU_cons (U : Nd → Int) (a : Nd) (l : List Nd) : sumU U (a :: l) = U a + sumU U l := by
  unfold sumU
  rw [List.map_cons, List.sum_cons]
theorem sumU_congr {U V : Nd → Int} {l : List Nd} (h : ∀ x ∈ l, U x = V x) : sumU U l = sumU V l := by
  unfold sumU
  rw [List.map_congr_left h]
theorem sumU_sub (U V : Nd → Int) (l : List Nd) : sumU (fun x => U x - V x) l = sumU U l - sumU V l := by
  induction l with
  | nil => rfl
  | cons a l ih => rw [sumU_cons, sumU_cons, sumU_cons, ih]; omega
theorem sumU_zero (l : List Nd) : sumU (fun _ => 0) l = 0 := by
  induction l with
  | nil => rfl
  | cons a l ih => rw [sumU_cons, ih]; rfl
theorem sumU_one {ns : List Nd} (hr : ns.Pairwise fun x y => x.f0 < y.f0) (i : Int) : sumU (fun x => if i = x.f0 then 1 else 0) ns = if (who ns i).isSome = true then 1 else 0 := by
  induction ns with
  | nil => rfl
  | cons a l ih =>
    obtain ⟨h1, h2⟩ := List.pairwise_cons.1 hr
    rw [sumU_cons, ih h2]
    unfold who
    rw [List.find?_cons]
    by_cases h : i = a.f0
    · rw [if_pos h, show (a.f0 == i) = true by simpa using h.symm]
      have : l.find? (fun x => x.f0 == i) = none := List.find?_eq_none.2 fun x hx => by have := h1 x hx; simp; omega
      rw [this]
      rfl
    · rw [if_neg h, show (a.f0 == i) = false by simpa using fun e => h e.symm]
      dsimp only
      omega
/-- The boxes are on the nodes. -/
theorem sum_on {ns : List Nd} (hr : ns.Pairwise fun x y => x.f0 < y.f0) (bx : List Bx) (h : ∀ y ∈ bx, (who ns y.f1).isSome = true) : sumU (fun x => ((onN bx x.f0).length : Int)) ns = bx.length := by
  induction bx with
  | nil => exact (sumU_congr fun x _ => rfl).trans (sumU_zero ns)
  | cons y l ih =>
    have e : sumU (fun x => ((onN (y :: l) x.f0).length : Int)) ns = sumU (fun x => ((onN l x.f0).length : Int) - (0 - if y.f1 = x.f0 then 1 else 0)) ns := sumU_congr fun x _ => by
      show ((onN ([y] ++ l) x.f0).length : Int) = _
      rw [onN_append, List.length_append, ← onN_one]
      omega
    rw [e, sumU_sub, sumU_sub (fun _ => 0), sumU_zero, sumU_one hr, ih fun z hz => h z (List.mem_cons_of_mem _ hz), if_pos (h y (List.mem_cons_self ..)), List.length_cons]
    omega
/-- A ledger that is good. -/
structure LG (u0 u1 : Int) (ns : List Nd) (bx : List Bx) (last : Int) : Prop where
  nodes : NodeT.Good u0 u1 ns
  ids : bx.Pairwise fun a c => a.f0 < c.f0
  num : ∀ y ∈ bx, 1 ≤ y.f0 ∧ y.f0 ≤ last
  low : 0 ≤ last
  owner : ∀ y ∈ bx, y.f2 ≠ 0
  on : ∀ y ∈ bx, (who ns y.f1).isSome = true
  room : ∀ i, 0 ≤ roomN u0 u1 ns bx i
theorem LG.nil {u0 u1 : Int} (h : okV 1 ⟨u0, u1⟩) : LG u0 u1 [] [] 0 :=
  ⟨⟨h, (fun _ h => (List.not_mem_nil h).elim), List.Pairwise.nil, Nat.zero_le _⟩, List.Pairwise.nil, (fun _ h => (List.not_mem_nil h).elim), Int.le_refl _, (fun _ h => (List.not_mem_nil h).elim), (fun _ h => (List.not_mem_nil h).elim), fun i => Int.le_refl _⟩
/-- Free units are the rooms. -/
theorem LG.free {u0 u1 : Int} {ns : List Nd} {bx : List Bx} {last : Int} (h : LG u0 u1 ns bx last) : sumU (fun x => roomN u0 u1 ns bx x.f0) ns = freeN u0 u1 ns bx := by
  rw [sumU_congr (V := fun x => uns u0 u1 x - ((onN bx x.f0).length : Int)) fun x hx => room_some (who_of h.nodes.rising hx), sumU_sub, sum_on h.nodes.rising bx h.on]
  rfl
theorem sumU_nonneg {U : Nd → Int} {l : List Nd} (h : ∀ x ∈ l, 0 ≤ U x) : 0 ≤ sumU U l := by
  induction l with
  | nil => exact Int.le_refl _
  | cons a l ih =>
    rw [sumU_cons]
    have := h a (List.mem_cons_self ..)
    have := ih fun x hx => h x (List.mem_cons_of_mem _ hx)
    omega
theorem sumU_nonpos {U : Nd → Int} {l : List Nd} (h : ∀ x ∈ l, U x ≤ 0) : sumU U l ≤ 0 := by
  induction l with
  | nil => exact Int.le_refl _
  | cons a l ih =>
    rw [sumU_cons]
    have := h a (List.mem_cons_self ..)
    have := ih fun x hx => h x (List.mem_cons_of_mem _ hx)
    omega
theorem LG.free_nonneg {u0 u1 : Int} {ns : List Nd} {bx : List Bx} {last : Int} (h : LG u0 u1 ns bx last) : 0 ≤ freeN u0 u1 ns bx := by
  rw [← h.free]
  exact sumU_nonneg fun x _ => h.room _
/-- A box more, on a node with room. -/
theorem LG.put {u0 u1 : Int} {ns : List Nd} {bx : List Bx} {last : Int} (h : LG u0 u1 ns bx last) (i o : Int) (s : Bool) (hi : 0 < roomN u0 u1 ns bx i) (ho : o ≠ 0) : LG u0 u1 ns (bx ++ [⟨last + 1, i, o, s⟩]) (last + 1) := by
  have hs : (who ns i).isSome = true := by
    cases hw : who ns i with
    | none => rw [room_none hw] at hi; omega
    | some x => rfl
  refine ⟨h.nodes, List.pairwise_append.2 ⟨h.ids, List.pairwise_singleton _ _, fun a ha c hc => ?_⟩, fun y hy => ?_, by have := h.low; omega, fun y hy => ?_, fun y hy => ?_, fun j => ?_⟩
  · rw [List.mem_singleton.1 hc]
    have := (h.num a ha).2
    show a.f0 < last + 1
    omega
  · rcases List.mem_append.1 hy with hy | hy
    · have := h.num y hy
      omega
    · rw [List.mem_singleton.1 hy]
      have := h.low
      show 1 ≤ last + 1 ∧ last + 1 ≤ last + 1
      omega
  · rcases List.mem_append.1 hy with hy | hy
    · exact h.owner y hy
    · rw [List.mem_singleton.1 hy]
      exact ho
  · rcases List.mem_append.1 hy with hy | hy
    · exact h.on y hy
    · rw [List.mem_singleton.1 hy]
      exact hs
  · cases hw : who ns j with
    | none => rw [room_none hw]; omega
    | some x =>
      rw [room_put _ _ _ (by rw [hw]; rfl)]
      have := h.room j
      by_cases e : i = j
      · rw [if_pos e]
        rw [e] at hi
        omega
      · rw [if_neg e]
        omega
/-- Fewer boxes. -/
theorem LG.sub {u0 u1 : Int} {ns : List Nd} {bx bx' : List Bx} {last : Int} (h : LG u0 u1 ns bx last) (hs : bx'.Sublist bx) : LG u0 u1 ns bx' last := by
  refine ⟨h.nodes, h.ids.sublist hs, fun y hy => h.num y (hs.subset hy), h.low, fun y hy => h.owner y (hs.subset hy), fun y hy => h.on y (hs.subset hy), fun j => ?_⟩
  cases hw : who ns j with
  | none => rw [room_none hw]; omega
  | some x =>
    have h1 := h.room j
    rw [room_some hw] at h1 ⊢
    have h2 : (onN bx' j).length ≤ (onN bx j).length := (hs.filter _).length_le
    omega
/-- The least node with room. -/
def placeN (u0 u1 : Int) (ns : List Nd) (bx : List Bx) : Int := match ns.find? (fun x => decide (0 < roomN u0 u1 ns bx x.f0)) with | some x => x.f0 | none => 0
/-- So many boxes, one by one, each on the least node with room. -/
def grow (u0 u1 : Int) (ns : List Nd) (bx : List Bx) (last o : Int) (s : Bool) : Nat → List Bx
  | 0 => []
  | i + 1 => grow u0 u1 ns bx last o s i ++ [⟨last + i + 1, placeN u0 u1 ns (bx ++ grow u0 u1 ns bx last o s i), o, s⟩]
theorem grow_len (u0 u1 : Int) (ns : List Nd) (bx : List Bx) (last o : Int) (s : Bool) (i : Nat) : (grow u0 u1 ns bx last o s i).length = i := by
  induction i with
  | zero => rfl
  | succ i ih => rw [grow, List.length_append, ih]; rfl
theorem placeN_at {u0 u1 : Int} {ns : List Nd} {bx : List Bx} (j : Nat) (hj : j < ns.length) (h0 : ∀ x ∈ ns.take j, roomN u0 u1 ns bx x.f0 ≤ 0) (h1 : 0 < roomN u0 u1 ns bx ns[j].f0) : placeN u0 u1 ns bx = ns[j].f0 := by
  have e : ns = ns.take j ++ (ns[j] :: ns.drop (j + 1)) := by rw [← List.drop_eq_getElem_cons hj, List.take_append_drop]
  unfold placeN
  have : ns.find? (fun x => decide (0 < roomN u0 u1 ns bx x.f0)) = some ns[j] := by
    generalize hP : (fun x : Nd => decide (0 < roomN u0 u1 ns bx x.f0)) = P
    have h2 : (ns.take j).find? P = none := List.find?_eq_none.2 fun x hx => by rw [← hP]; have := h0 x hx; simp; omega
    have h3 : P ns[j] = true := by rw [← hP]; simpa using h1
    rw [show ns.find? P = (ns.take j ++ (ns[j] :: ns.drop (j + 1))).find? P from congrArg _ e, List.find?_append, h2, Option.none_or, List.find?_cons_of_pos h3]
  rw [this]
/-- Where some room is, the place has room. -/
theorem placeN_room {u0 u1 : Int} {ns : List Nd} {bx : List Bx} (h : 0 < sumU (fun x => roomN u0 u1 ns bx x.f0) ns) : 0 < roomN u0 u1 ns bx (placeN u0 u1 ns bx) := by
  unfold placeN
  cases hf : ns.find? (fun x => decide (0 < roomN u0 u1 ns bx x.f0)) with
  | some x => simpa using List.find?_some hf
  | none =>
    have := sumU_nonpos (U := fun x => roomN u0 u1 ns bx x.f0) fun x hx => by have := List.find?_eq_none.1 hf x hx; simpa using this
    exact absurd (Int.lt_of_lt_of_le h this) (Int.lt_irrefl _)
/-- What is given keeps a ledger good. -/
theorem LG.grow {u0 u1 : Int} {ns : List Nd} {bx : List Bx} {last : Int} (h : LG u0 u1 ns bx last) (o : Int) (s : Bool) (ho : o ≠ 0) (i : Nat) (hi : (i : Int) ≤ freeN u0 u1 ns bx) : LG u0 u1 ns (bx ++ LedT.grow u0 u1 ns bx last o s i) (last + i) := by
  induction i with
  | zero => simpa [LedT.grow] using h
  | succ i ih =>
    have h1 := ih (by omega)
    have h2 : freeN u0 u1 ns (bx ++ LedT.grow u0 u1 ns bx last o s i) = freeN u0 u1 ns bx - i := by unfold freeN; rw [List.length_append, grow_len]; omega
    have h3 := h1.put (placeN u0 u1 ns (bx ++ LedT.grow u0 u1 ns bx last o s i)) o s (placeN_room (by rw [h1.free, h2]; omega)) ho
    rw [LedT.grow, ← List.append_assoc, show last + ((i + 1 : Nat) : Int) = last + i + 1 by omega]
    exact h3
theorem grow_ids (u0 u1 : Int) (ns : List Nd) (bx : List Bx) (last o : Int) (s : Bool) (i k : Nat) (hk : k < (grow u0 u1 ns bx last o s i).length) : ((grow u0 u1 ns bx last o s i)[k]).f0 = last + k + 1 := by
  induction i with
  | zero => exact absurd hk (Nat.not_lt_zero _)
  | succ i ih =>
    have hl := grow_len u0 u1 ns bx last o s i
    by_cases h : k < (grow u0 u1 ns bx last o s i).length
    · have := ih h
      simp only [grow, List.getElem_append_left h, this]
    · have hk2 := hk
      rw [grow_len] at hk2
      have e : k = i := by omega
      subst e
      simp only [grow]
      rw [List.getElem_append_right (by omega)]
      simp [hl]
end Go.Proofs.Ythibppfdonepoaa.LedT
