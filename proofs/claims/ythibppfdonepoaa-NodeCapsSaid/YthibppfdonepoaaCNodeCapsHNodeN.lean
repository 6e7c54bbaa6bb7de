/- liverylaw22.NodeCaps: under way. -/
import Derived.Test.YthibppfdonepoaaCNodeCapsHNodeM
import Derived.Test.YthibppfdonepoaaCNodeCapsHNodeP
set_option linter.unusedVariables false
namespace Go.Proofs.Ythibppfdonepoaa.NodeT
open Go.RowKit Go.MapKept Go.Maps Go.ChangeMaps Go.Proofs.Ythibppfdonepoaa.XBut Go.Proofs.Ythibppfdonepoaa.XMap Go.Proofs.Ythibppfdonepoaa.PNodePlays Go.Proofs.YthibppfdonepoaaW.PrintWords Go.Proofs.YthibppfdonepoaaW.PrintLast
theorem TabAt.low {w : World} {base base' b g : Nat} {u0 u1 : Int} {ns : List S39} (h : TabAt w base b g u0 u1 ns) (hb : base' ≤ base) : TabAt w base' b g u0 u1 ns := ⟨h.blk, h.map, Nat.le_trans hb h.base1, Nat.le_trans hb h.base2⟩
/-- Sums of what nodes have are small. -/
theorem refAdd_small {m c a b : Int} (hm : 0 ≤ m ∧ m ≤ 68719476736) (hc : 0 ≤ c ∧ c ≤ 68719476736) (ha : 0 ≤ a ∧ a ≤ 1073741824) (hb : 0 ≤ b ∧ b ≤ 1073741824) : PNodeLib.liveryref01_Add.f m c a b = some (m + a, c + b, 0) := by
  rw [refAdd, w64 (x := m + a) (by unfold b64; omega), w64 (x := c + b) (by unfold b64; omega), if_pos (by unfold inV; omega)]
set_option maxHeartbeats 16000000 in
set_option maxRecDepth 100000 in
theorem nodeCaps (u0 u1 : Int) (A : Option Addr) (c : Nat) (l : List (Bool × S39)) (w : World) (hA : Acts w A l) (hl : l.length ≤ 9223372036854775807) (hu : okV 1 ⟨u0, u1⟩) (hl2 : ¬ 100 < l.length) :
    Calls Try.prog 4 #[.agg #[.int .i64 u0, .int .i64 u1], .slice A l.length c] w fun e w' => e = .returned (.bool true) ∧ Below w.heap.size w w' := by
  have hu23 := Try.underlying23
  have hu39 := Try.underlying39
  have HA := Aside0.mk (And.intro hA (And.intro hu (hl2 : ¬ 100 < l.length)))
  have hl2' : decide ((100 : Int) < (l.length : Int)) = false := decide_eq_false (by omega)
  clear hA hu hl2
  go_enter Try.func4, Try.ntmps4
  go_wp2_with fail
  refine (new_yes u0 u1 _ (by rw [in_f, decide_eq_true HA.out.2.1])).mono ?_
  rintro e w1 ⟨b, g, rfl, hb, hT⟩
  have X := Aside0.mk (And.intro hb hT)
  clear hb hT
  dsimp only
  go_wp2_with fail
  go_loopg [7] l.length (fun kk i wr => ∃ (j : Nat) (ns : List S39), kk = l.length - j ∧ i = .int .i64 j ∧ j ≤ l.length ∧ Good u0 u1 ns ∧ At (w.alloc (.cells #[.int .i64 u0, .int .i64 u1] 23)) wr b g u0 u1 ns)
  case atStart => exact ⟨0, [], rfl, rfl, Nat.zero_le _, Good.nil HA.out.2.1, ⟨X.out.1, X.out.2⟩⟩
  obtain ⟨j, ns, rfl, rfl, hj, hG, hN⟩ := hrel
  clear X
  have hlen := HA.out.2.2
  by_cases hlt : j < l.length
  · obtain ⟨ad, rfl, hAct⟩ := HA.out.1.at_ j hlt
    have a := hAct.below (below_then (below_alloc (Below.refl w.heap.size w) _) (by simp) hN.below)
    have hwf := HA.out.1.wf l[j] (List.getElem_mem hlt)
    obtain ⟨y, hy⟩ : ∃ y, l[j] = y := ⟨_, rfl⟩
    rw [hy] at a hwf
    obtain ⟨gone, x0, x1, x2⟩ := y
    obtain ⟨a0, a1, a2, a3⟩ := a
    have hlt' : (j : Int) < (l.length : Int) := by omega
    have Y := Aside0.mk (And.intro hG (And.intro hN hwf))
    dsimp only at a0 a1 a2 a3
    clear hG hN hwf hAct hy
    cases gone
    · go_wp2_with fail
      refine (joinC _ b g u0 u1 ns ⟨x0, ⟨x1, x2⟩⟩ _ Y.out.2.1.tab Y.out.1 Y.out.2.2).mono ?_
      rintro e w2 ⟨rfl, hb, hT⟩
      have Z := Aside0.mk (And.intro (Y.out.1.join ⟨x0, ⟨x1, x2⟩⟩ (wf32 Y.out.2.2)) (Y.out.2.1.step hb hT))
      clear hb hT a0 a1 a2 a3
      dsimp only
      go_wp2
      go_roundg (l.length - (j + 1))
      case measure => omega
      case rel => exact ⟨j + 1, _, rfl, by go_num, by omega, Z.out.1, Z.out.2⟩
    · go_wp2_with fail
      refine (loseC _ b g u0 u1 x0 ns _ Y.out.2.1.tab Y.out.2.2).mono ?_
      rintro e w2 ⟨rfl, hb, hT⟩
      have Z := Aside0.mk (And.intro (Y.out.1.less x0) (Y.out.2.1.step hb hT))
      clear hb hT a0 a1 a2 a3
      dsimp only
      go_wp2
      go_roundg (l.length - (j + 1))
      case measure => omega
      case rel => exact ⟨j + 1, _, rfl, by go_num, by omega, Z.out.1, Z.out.2⟩
  · have hlt' : ¬ (j : Int) < (l.length : Int) := by omega
    have Y := Aside0.mk (And.intro hG hN)
    clear hG hN
    go_wp2_with fail
    refine (nodes _ b g u0 u1 ns _ Y.out.2.tab (by have := Y.out.1.len; omega)).mono ?_
    rintro e w3 ⟨v, rfl, hR, hb⟩
    obtain ⟨A3, c3, rfl⟩ := Kd.R_slice hR
    obtain ⟨_, _, hC⟩ := Kd.R_reads' hR
    have Z := Aside0.mk (And.intro (Y.out.2.same hb) hC)
    clear hb hR hC
    dsimp only
    go_wp2_with fail
    go_loopg [10] ns.length (fun kk i wr => ∃ (j : Nat) (m c : Int), kk = ns.length - j ∧ i = .int .i64 j ∧ j ≤ ns.length ∧ m = sumU (fun x => x.f1.f0) (ns.take j) ∧ c = sumU (fun x => x.f1.f1) (ns.take j) ∧ Below w3.heap.size w3 wr ∧ wr.heap[w3.heap.size]? = some (.cells #[.int .i64 m, .int .i64 c] 23 (0, 0)))
    case atStart => exact ⟨0, 0, 0, rfl, rfl, Nat.zero_le _, by rw [List.take_zero]; rfl, by rw [List.take_zero]; rfl, below_alloc (Below.refl _ _) _, blk_new _ _⟩
    obtain ⟨i, m, cc, rfl, rfl, hi, hm, hc, hB, hK⟩ := hrel
    by_cases hlt2 : i < ns.length
    · obtain ⟨ad, rfl, d0, d1, d2⟩ := at_T39 Z.out.2 (i : Int) (by omega) (by omega)
      have ej : (i : Int).toNat = i := by simp
      have er : rd_T39 ns (i : Int) = ns[i] := by unfold rd_T39; rw [ej, List.getD_eq_getElem?_getD, List.getElem?_eq_getElem hlt2]; rfl
      rw [er, ej] at d0 d1 d2
      have hlt2' : (i : Int) < (ns.length : Int) := by omega
      have q0 := (blk_cell hK 0).trans rfl
      have q1 := (blk_cell hK 1).trans rfl
      obtain ⟨x, hx⟩ : ∃ x, ns[i] = x := ⟨_, rfl⟩
      rw [hx] at d0 d1 d2
      obtain ⟨x0, x1, x2⟩ := x
      dsimp only at d0 d1 d2
      have D := Aside0.mk (And.intro d0 (And.intro d1 d2))
      replace d0 := pw_cell_below hB d0
      replace d1 := pw_cell_below hB d1
      replace d2 := pw_cell_below hB d2
      have hx3 := Aside0.mk hx
      have AD : Aside0 (PNodeLib.liveryref01_Add.f m cc x1 x2 = some (m + x1, cc + x2, 0)) := ⟨by
        have h1 := sumU_le (fun x => x.f1.f0) (ns.take i) (fun x hx => by have := (Y.out.1.all x (List.mem_of_mem_take hx)).2.1; unfold okV at this; omega)
        have h2 := sumU_le (fun x => x.f1.f1) (ns.take i) (fun x hx => by have := (Y.out.1.all x (List.mem_of_mem_take hx)).2.1; unfold okV at this; omega)
        have h3 : (ns.take i).length ≤ 32 := by have := Y.out.1.len; rw [List.length_take]; omega
        have h4 := (Y.out.1.all _ (hx ▸ List.getElem_mem hlt2)).2.1
        unfold okV at h4
        dsimp only at h4
        exact refAdd_small (by omega) (by omega) (by omega) (by omega)⟩
      have W := Aside0.mk (And.intro hB (And.intro hK (And.intro hm hc)))
      clear hB hK hm hc er hx q0 q1 d0 d1 d2
      go_upto_region 14 with (fail)
      refine XInv.region_tab [] [[], [], [], [1, 2], [3], [4], [0, 5], [6], [7], [7], [8, 6, 0, 1, 2, 3, 4, 5, 6, 7, 8]] (fun bq jq => match jq with
          | 0 => .agg #[.int .i64 m, .int .i64 cc]
          | 1 => .slice (some ad) ns.length c3
          | 2 => .int .i64 i
          | 3 => .pointer (some (ad.add (i * 3)))
          | 4 => .pointer (some ⟨(ad.add (i * 3)).block, (ad.add (i * 3)).off + 1, none⟩)
          | 5 => .agg #[.int .i64 x1, .int .i64 x2]
          | 6 => .tuple #[.agg #[.int .i64 (m + x1), .int .i64 (cc + x2)], .int .i64 0]
          | 7 => .tuple #[.agg #[.int .i64 (m + x1), .int .i64 (cc + x2)], .int .i64 0]
          | 8 => .agg #[.int .i64 (m + x1), .int .i64 (cc + x2)]
          | 9 => .int .i64 0
          | 10 => undef
          | _ => undef)
          (fun bq l w' => if l 10 = true then (Below w3.heap.size w3 w' ∧ w'.heap[w3.heap.size]? = some (.cells #[.int .i64 (m + x1), .int .i64 (cc + x2)] 23 (0, 0))) else Below wr.heap.size wr w')
          (by kernel_rfl) rfl (by kernel_rfl) (by kernel_rfl) (by kernel_rfl) ⟨fun _ : Nat => (0 : Nat), (by rw [if_neg (by simp)]; exact below_drew (Below.refl _ _))⟩ ?_ ?_
      · intro i1 hi1 hds oi hoi bq lb w' hW hlb hcl hneed hclo
        have hi1 : i1 < 11 := hi1
        have hcs : i1 = 0 ∨ i1 = 1 ∨ i1 = 2 ∨ i1 = 3 ∨ i1 = 4 ∨ i1 = 5 ∨ i1 = 6 ∨ i1 = 7 ∨ i1 = 8 ∨ i1 = 9 ∨ i1 = 10 := by omega
        clear hi1
        rcases hcs with rfl | rfl | rfl | rfl | rfl | rfl | rfl | rfl | rfl | rfl | rfl
        all_goals simp only [List.getElem?_toArray, List.getElem?_cons_succ, List.getElem?_cons_zero, Option.some.injEq] at hoi
        all_goals subst hoi
        · refine XInv.yes_tab [] (by kernel_rfl) ?_
          have hs0 := hcl 10 (by decide) (by kernel_rfl)
          rw [if_neg (by rw [hs0]; decide)] at hW
          have kz := blk_below W.out.2.1 hW
          have q0 := (blk_cell kz 0).trans rfl
          have q1 := (blk_cell kz 1).trans rfl
          have d1 := pw_cell_below (below_step W.out.1 hW) D.out.2.1
          have d2 := pw_cell_below (below_step W.out.1 hW) D.out.2.2
          clear hcl hneed hclo
          intro Q2 K2 hK2
          simp only [XInv.puts, XPrint.pw]
          go_simp
          exact hK2.out (.agg #[.int .i64 m, .int .i64 cc]) w' ⟨bq, rfl, (by intros; first | rfl | trivial), (by rw [if_neg (by simp [XInv.up, hs0])]; exact hW)⟩
        · refine XInv.yes_tab [] (by kernel_rfl) ?_
          have hs0 := hcl 10 (by decide) (by kernel_rfl)
          rw [if_neg (by rw [hs0]; decide)] at hW
          have kz := blk_below W.out.2.1 hW
          have q0 := (blk_cell kz 0).trans rfl
          have q1 := (blk_cell kz 1).trans rfl
          have d1 := pw_cell_below (below_step W.out.1 hW) D.out.2.1
          have d2 := pw_cell_below (below_step W.out.1 hW) D.out.2.2
          clear hcl hneed hclo
          intro Q2 K2 hK2
          simp only [XInv.puts, XPrint.pw]
          go_simp
          exact hK2.out (.slice (some ad) ns.length c3) w' ⟨bq, rfl, (by intros; first | rfl | trivial), (by rw [if_neg (by simp [XInv.up, hs0])]; exact hW)⟩
        · refine XInv.yes_tab [] (by kernel_rfl) ?_
          have hs0 := hcl 10 (by decide) (by kernel_rfl)
          rw [if_neg (by rw [hs0]; decide)] at hW
          have kz := blk_below W.out.2.1 hW
          have q0 := (blk_cell kz 0).trans rfl
          have q1 := (blk_cell kz 1).trans rfl
          have d1 := pw_cell_below (below_step W.out.1 hW) D.out.2.1
          have d2 := pw_cell_below (below_step W.out.1 hW) D.out.2.2
          clear hcl hneed hclo
          intro Q2 K2 hK2
          simp only [XInv.puts, XPrint.pw]
          go_simp
          exact hK2.out (.int .i64 i) w' ⟨bq, rfl, (by intros; first | rfl | trivial), (by rw [if_neg (by simp [XInv.up, hs0])]; exact hW)⟩
        · refine XInv.yes_tab [(66, 2), (65, 1)] (by kernel_rfl) ?_
          have hs0 := hcl 10 (by decide) (by kernel_rfl)
          rw [if_neg (by rw [hs0]; decide)] at hW
          have kz := blk_below W.out.2.1 hW
          have q0 := (blk_cell kz 0).trans rfl
          have q1 := (blk_cell kz 1).trans rfl
          have d1 := pw_cell_below (below_step W.out.1 hW) D.out.2.1
          have d2 := pw_cell_below (below_step W.out.1 hW) D.out.2.2
          clear hcl hneed hclo
          intro Q2 K2 hK2
          simp only [XInv.puts, XPrint.pw]
          go_simp
          exact hK2.out (.pointer (some (ad.add (i * 3)))) w' ⟨bq, rfl, (by intros; first | rfl | trivial), (by rw [if_neg (by simp [XInv.up, hs0])]; exact hW)⟩
        · refine XInv.yes_tab [(67, 3)] (by kernel_rfl) ?_
          have hs0 := hcl 10 (by decide) (by kernel_rfl)
          rw [if_neg (by rw [hs0]; decide)] at hW
          have kz := blk_below W.out.2.1 hW
          have q0 := (blk_cell kz 0).trans rfl
          have q1 := (blk_cell kz 1).trans rfl
          have d1 := pw_cell_below (below_step W.out.1 hW) D.out.2.1
          have d2 := pw_cell_below (below_step W.out.1 hW) D.out.2.2
          clear hcl hneed hclo
          intro Q2 K2 hK2
          simp only [XInv.puts, XPrint.pw]
          go_simp
          exact hK2.out (.pointer (some ⟨(ad.add (i * 3)).block, (ad.add (i * 3)).off + 1, none⟩)) w' ⟨bq, rfl, (by intros; first | rfl | trivial), (by rw [if_neg (by simp [XInv.up, hs0])]; exact hW)⟩
        · refine XInv.yes_tab [(68, 4)] (by kernel_rfl) ?_
          have hs0 := hcl 10 (by decide) (by kernel_rfl)
          rw [if_neg (by rw [hs0]; decide)] at hW
          have kz := blk_below W.out.2.1 hW
          have q0 := (blk_cell kz 0).trans rfl
          have q1 := (blk_cell kz 1).trans rfl
          have d1 := pw_cell_below (below_step W.out.1 hW) D.out.2.1
          have d2 := pw_cell_below (below_step W.out.1 hW) D.out.2.2
          clear hcl hneed hclo
          intro Q2 K2 hK2
          simp only [XInv.puts, XPrint.pw]
          go_simp
          exact hK2.out (.agg #[.int .i64 x1, .int .i64 x2]) w' ⟨bq, rfl, (by intros; first | rfl | trivial), (by rw [if_neg (by simp [XInv.up, hs0])]; exact hW)⟩
        · refine XInv.yes_tab [(69, 5), (64, 0)] (by kernel_rfl) ?_
          have hs0 := hcl 10 (by decide) (by kernel_rfl)
          rw [if_neg (by rw [hs0]; decide)] at hW
          have kz := blk_below W.out.2.1 hW
          have q0 := (blk_cell kz 0).trans rfl
          have q1 := (blk_cell kz 1).trans rfl
          have d1 := pw_cell_below (below_step W.out.1 hW) D.out.2.1
          have d2 := pw_cell_below (below_step W.out.1 hW) D.out.2.2
          clear hcl hneed hclo
          intro Q2 K2 hK2
          simp only [XInv.puts, XPrint.pw]
          go_simp
          go_at_call 23
          (with_reducible refine (PNodeLib.liveryref01_Add.calls m cc x1 x2 (m + x1) (cc + x2) 0 _ AD.out).mono ?_)
          rintro e wz ⟨rfl, hb⟩
          exact hK2.out (.tuple #[.agg #[.int .i64 (m + x1), .int .i64 (cc + x2)], .int .i64 0]) wz ⟨bq, rfl, (by intros; first | rfl | trivial), (by rw [if_neg (by simp [XInv.up, hs0])]; exact below_step hW hb)⟩
        · refine XInv.yes_tab [(70, 6)] (by kernel_rfl) ?_
          have hs0 := hcl 10 (by decide) (by kernel_rfl)
          rw [if_neg (by rw [hs0]; decide)] at hW
          have kz := blk_below W.out.2.1 hW
          have q0 := (blk_cell kz 0).trans rfl
          have q1 := (blk_cell kz 1).trans rfl
          have d1 := pw_cell_below (below_step W.out.1 hW) D.out.2.1
          have d2 := pw_cell_below (below_step W.out.1 hW) D.out.2.2
          clear hcl hneed hclo
          intro Q2 K2 hK2
          simp only [XInv.puts, XPrint.pw]
          go_simp
          exact hK2.out (.tuple #[.agg #[.int .i64 (m + x1), .int .i64 (cc + x2)], .int .i64 0]) w' ⟨bq, rfl, (by intros; first | rfl | trivial), (by rw [if_neg (by simp [XInv.up, hs0])]; exact hW)⟩
        · refine XInv.yes_tab [(63, 7)] (by kernel_rfl) ?_
          have hs0 := hcl 10 (by decide) (by kernel_rfl)
          rw [if_neg (by rw [hs0]; decide)] at hW
          have kz := blk_below W.out.2.1 hW
          have q0 := (blk_cell kz 0).trans rfl
          have q1 := (blk_cell kz 1).trans rfl
          have d1 := pw_cell_below (below_step W.out.1 hW) D.out.2.1
          have d2 := pw_cell_below (below_step W.out.1 hW) D.out.2.2
          clear hcl hneed hclo
          intro Q2 K2 hK2
          simp only [XInv.puts, XPrint.pw]
          go_simp
          exact hK2.out (.agg #[.int .i64 (m + x1), .int .i64 (cc + x2)]) w' ⟨bq, rfl, (by intros; first | rfl | trivial), (by rw [if_neg (by simp [XInv.up, hs0])]; exact hW)⟩
        · refine XInv.yes_tab [(63, 7)] (by kernel_rfl) ?_
          cases hs0 : lb 10
          case false =>
            rw [if_neg (by rw [hs0]; decide)] at hW
            have kz := blk_below W.out.2.1 hW
            have q0 := (blk_cell kz 0).trans rfl
            have q1 := (blk_cell kz 1).trans rfl
            have d1 := pw_cell_below (below_step W.out.1 hW) D.out.2.1
            have d2 := pw_cell_below (below_step W.out.1 hW) D.out.2.2
            clear hcl hneed hclo
            intro Q2 K2 hK2
            simp only [XInv.puts, XPrint.pw]
            go_simp
            exact hK2.out (.int .i64 0) w' ⟨bq, rfl, (by intros; first | rfl | trivial), (by rw [if_neg (by simp [XInv.up, hs0])]; exact hW)⟩
          case true =>
            rw [if_pos hs0] at hW
            clear hcl hneed hclo
            intro Q2 K2 hK2
            simp only [XInv.puts, XPrint.pw]
            go_simp
            exact hK2.out (.int .i64 0) w' ⟨bq, rfl, (by intros; first | rfl | trivial), (by rw [if_pos (by simp [XInv.up, hs0])]; exact hW)⟩
        · refine XInv.yes_tab [(71, 8), (63, 7), (70, 6), (69, 5), (68, 4), (67, 3), (66, 2), (65, 1), (64, 0)] (by kernel_rfl) ?_
          have hs0 := hlb
          rw [if_neg (by rw [hs0]; decide)] at hW
          have kz := blk_below W.out.2.1 hW
          have q0 := (blk_cell kz 0).trans rfl
          have q1 := (blk_cell kz 1).trans rfl
          have d1 := pw_cell_below (below_step W.out.1 hW) D.out.2.1
          have d2 := pw_cell_below (below_step W.out.1 hW) D.out.2.2
          clear hcl hneed hclo
          intro Q2 K2 hK2
          simp only [XInv.puts, XPrint.pw] at hK2 ⊢
          have y0 := blk_frozen kz 0
          have y1 := blk_frozen kz 1
          go_simp
          exact hK2.out undef _ ⟨bq, rfl, (by intros; first | rfl | trivial), (by rw [if_pos (by simp [XInv.up])]; exact ⟨((below_step W.out.1 hW).setCell (p := ⟨w3.heap.size, 0, none⟩) (Nat.le_refl _) _).setCell (p := ⟨w3.heap.size, 1, none⟩) (Nat.le_refl _) _, by simpa using blk_set (show (w'.setCell ⟨w3.heap.size, 0, none⟩ (.int .i64 (m + x1))).heap[w3.heap.size]? = some (.cells #[.int .i64 (m + x1), .int .i64 cc] 23 (0, 0)) by simpa using blk_set kz 0 (.int .i64 (m + x1))) 1 (.int .i64 (cc + x2))⟩)⟩
      · intro bq w' hW
        refine XInv.end_nil [(72, 9), (71, 8), (63, 7), (70, 6), (69, 5), (68, 4), (67, 3), (66, 2), (65, 1), (64, 0)] (by kernel_rfl) (by kernel_rfl) ?_
        simp only [XInv.puts, XPrint.pw]
        rw [if_pos (by kernel_rfl)] at hW
        have V := Aside0.mk hW
        obtain ⟨w5, hw5⟩ : ∃ w5, w' = w5 := ⟨_, rfl⟩
        rw [hw5] at V ⊢
        clear hW hw5
        have d0 := pw_cell_below V.out.1 D.out.1
        have bb := Y.out.1.all _ (hx3.out ▸ List.getElem_mem hlt2)
        obtain ⟨KU, hKU⟩ := units_at Y.out.1.unit bb.2.1
        have hun := uns_nonneg Y.out.1.unit bb.2.1
        have hun2 := bb.2.2
        obtain ⟨KS, s0, s1, s2, hS, hs2⟩ := scale_more Y.out.1.unit bb.2.1
        obtain ⟨n, hn⟩ : ∃ n, uns u0 u1 ⟨x0, ⟨x1, x2⟩⟩ = n := ⟨_, rfl⟩
        rw [hn] at hKU hun hun2 hS
        have U := Aside0.mk (And.intro (hKU KU (Nat.le_refl _)) (And.intro hS hs2))
        have hwho : who ns x0 = some ⟨x0, ⟨x1, x2⟩⟩ := who_self Y.out.2.tab.map.rising (hx3.out ▸ List.getElem_mem hlt2)
        have hwf : (Lit.int .u32 x0).wf = true := Y.out.2.tab.map.wf _ (List.mem_map.2 ⟨⟨x0, ⟨x1, x2⟩⟩, (hx3.out ▸ List.getElem_mem hlt2), rfl⟩)
        have WH := Aside0.mk (And.intro hwho hwf)
        have hn1 : -9223372036854775808 ≤ n + 1 := by omega
        have hn2 : n + 1 ≤ 9223372036854775807 := by omega
        have hn3 : decide (4096 < n) = false := decide_eq_false (by omega)
        have hl6 : (ns.length : Int) ≤ 32 := by have := Y.out.1.len; omega
        clear bb hKU hS hs2 hwho hwf hun hun2 hn
        go_wp2_with fail
        refine (units_yes KU _ b g u0 u1 x0 ns ⟨x0, ⟨x1, x2⟩⟩ n 0 _ (Z.out.1.tab.below V.out.1) WH.out.2 WH.out.1 U.out.1).mono ?_
        rintro e w6 ⟨rfl, hb⟩
        replace V := Aside0.mk (And.intro (below_step V.out.1 hb) (blk_below V.out.2 hb))
        have c0 := (blk_cell (blk_below (blk_below (blk_new w (.cells #[.int .i64 u0, .int .i64 u1] 23)) Z.out.1.below) V.out.1) 0).trans rfl
        have c1 := (blk_cell (blk_below (blk_below (blk_new w (.cells #[.int .i64 u0, .int .i64 u1] 23)) Z.out.1.below) V.out.1) 1).trans rfl
        clear hb d0
        dsimp only
        go_wp2_with fail
        refine (PNodeLib.liveryref01_Scale.calls KS u0 u1 (n + 1) s0 s1 s2 _ U.out.2.1).mono ?_
        rintro e w7 ⟨rfl, hb⟩
        replace V := Aside0.mk (And.intro (below_step V.out.1 hb) (blk_below V.out.2 hb))
        clear hb c0 c1
        dsimp only
        go_upto_region 17 with (fail)
        obtain ⟨WA, hWA⟩ : ∃ WA, w7.alloc (Obj.cells #[.int .i64 s0, .int .i64 s1] 23) = WA := ⟨_, rfl⟩
        have k7 : WA.heap[w7.heap.size]? = some (.cells #[.int .i64 s0, .int .i64 s1] 23 (0, 0)) := by rw [← hWA]; exact blk_new w7 _
        have hWB : Below w3.heap.size w3 WA := by rw [← hWA]; exact below_step V.out.1 (below_alloc (Below.refl _ _) _)
        have hWK := blk_below V.out.2 (show Below w7.heap.size w7 WA by rw [← hWA]; exact below_alloc (Below.refl _ _) _)
        have VV := Aside0.mk (And.intro k7 (And.intro hWB hWK))
        rw [hWA]
        clear V hWA hWK k7 hWB
        obtain ⟨hU1, hU2, hs⟩ := U.out
        clear U hU1 hU2
        have hsum : ∀ (F : S39 → Int) (s v : Int), s = sumU F (ns.take i) → F ⟨x0, ⟨x1, x2⟩⟩ = v → s + v = sumU F (ns.take (i + 1)) := by
          intro F s v h1 h2
          rw [sumU_step F ns i hlt2, hx3.out, h1, h2]
        have SS := Aside0.mk (And.intro (hsum (fun x => x.f1.f0) m x1 W.out.2.2.1 rfl) (hsum (fun x => x.f1.f1) cc x2 W.out.2.2.2 rfl))
        clear hsum
        rcases Nat.eq_zero_or_pos i with h0 | h0
        · have hi0 : decide ((0 : Int) < (i : Int)) = false := decide_eq_false (by omega)
          have hi0' : decide (0 < i) = false := decide_eq_false (by omega)
          clear h0
          rcases hs with hs | ⟨hs, hle⟩
          · replace hs : (s2 == 0) = false := by simp [hs]
            refine XInv.region_tab [] [[], [0], [1], [2], [3, 2], [4, 2, 2], [5], [5], [5], [7, 8, 5], [9, 5], [10, 5], [6, 11, 5, 5], [5, 12, 2], [2, 13], [14, 12], [15], [16, 15], [15, 17], [18, 15], [19], [20, 19], [21, 19, 19], [22], [22], [24, 22], [23, 25, 22], [26, 22], [27, 22], [22], [22], [29, 30, 22], [31, 22], [32, 22], [28, 33, 22], [22, 34, 19], [19, 35]] (fun bq jq => match jq with
                | 0 => .int .i64 0
                | 1 => .bool false
                | 2 => .bool false
                | 3 => .int .i64 s2
                | 4 => .bool false
                | 5 => .bool false
                | 6 => undef
                | 7 => undef
                | 8 => undef
                | 9 => undef
                | 10 => undef
                | 11 => undef
                | 12 => undef
                | 13 => .bool false
                | 14 => .bool false
                | 15 => .bool false
                | 16 => .int .i64 n
                | 17 => .bool false
                | 18 => .bool false
                | 19 => .bool false
                | 20 => .int .i64 i
                | 21 => .bool false
                | 22 => .bool false
                | 23 => undef
                | 24 => undef
                | 25 => undef
                | 26 => undef
                | 27 => undef
                | 28 => undef
                | 29 => undef
                | 30 => undef
                | 31 => undef
                | 32 => undef
                | 33 => undef
                | 34 => undef
                | 35 => .bool false
                | 36 => .bool false
                | _ => undef)
                (fun bq l w' => Below WA.heap.size WA w')
                (by kernel_rfl) rfl (by kernel_rfl) (by kernel_rfl) (by kernel_rfl) ⟨fun _ : Nat => (0 : Nat), below_drew (Below.refl _ _)⟩ ?_ ?_
            · intro i1 hi1 hds oi hoi bq lb w' hW hlb hcl hneed hclo
              have hi1 : i1 < 37 := hi1
              have hcs : i1 = 0 ∨ i1 = 1 ∨ i1 = 2 ∨ i1 = 3 ∨ i1 = 4 ∨ i1 = 5 ∨ i1 = 6 ∨ i1 = 7 ∨ i1 = 8 ∨ i1 = 9 ∨ i1 = 10 ∨ i1 = 11 ∨ i1 = 12 ∨ i1 = 13 ∨ i1 = 14 ∨ i1 = 15 ∨ i1 = 16 ∨ i1 = 17 ∨ i1 = 18 ∨ i1 = 19 ∨ i1 = 20 ∨ i1 = 21 ∨ i1 = 22 ∨ i1 = 23 ∨ i1 = 24 ∨ i1 = 25 ∨ i1 = 26 ∨ i1 = 27 ∨ i1 = 28 ∨ i1 = 29 ∨ i1 = 30 ∨ i1 = 31 ∨ i1 = 32 ∨ i1 = 33 ∨ i1 = 34 ∨ i1 = 35 ∨ i1 = 36 := by omega
              clear hi1 hcl hneed hclo
              have kz := blk_below VV.out.1 hW
              have z0 := (blk_cell kz 0).trans rfl
              have z1 := (blk_cell kz 1).trans rfl
              have z2 := pw_cell_below (below_step VV.out.2.1 hW) D.out.1
              have z3 := pw_cell_below (below_step VV.out.2.1 hW) D.out.2.1
              have z4 := pw_cell_below (below_step VV.out.2.1 hW) D.out.2.2
              rcases hcs with rfl | rfl | rfl | rfl | rfl | rfl | rfl | rfl | rfl | rfl | rfl | rfl | rfl | rfl | rfl | rfl | rfl | rfl | rfl | rfl | rfl | rfl | rfl | rfl | rfl | rfl | rfl | rfl | rfl | rfl | rfl | rfl | rfl | rfl | rfl | rfl | rfl
              all_goals simp only [List.getElem?_toArray, List.getElem?_cons_succ, List.getElem?_cons_zero, Option.some.injEq] at hoi
              all_goals subst hoi
              · refine XInv.yes_tab [] (by kernel_rfl) ?_
                have kz := blk_below VV.out.1 hW
                have z0 := (blk_cell kz 0).trans rfl
                have z1 := (blk_cell kz 1).trans rfl
                have z2 := pw_cell_below (below_step VV.out.2.1 hW) D.out.1
                have z3 := pw_cell_below (below_step VV.out.2.1 hW) D.out.2.1
                have z4 := pw_cell_below (below_step VV.out.2.1 hW) D.out.2.2
                intro Q2 K2 hK2
                simp only [XInv.puts, XPrint.pw]
                go_simp
                exact hK2.out (.int .i64 0) w' ⟨bq, rfl, (by intros; first | rfl | trivial), hW⟩
              · refine XInv.yes_tab [(90, 0)] (by kernel_rfl) ?_
                have kz := blk_below VV.out.1 hW
                have z0 := (blk_cell kz 0).trans rfl
                have z1 := (blk_cell kz 1).trans rfl
                have z2 := pw_cell_below (below_step VV.out.2.1 hW) D.out.1
                have z3 := pw_cell_below (below_step VV.out.2.1 hW) D.out.2.1
                have z4 := pw_cell_below (below_step VV.out.2.1 hW) D.out.2.2
                intro Q2 K2 hK2
                simp only [XInv.puts, XPrint.pw]
                go_simp
                exact hK2.out (.bool false) w' ⟨bq, rfl, (by intros; first | rfl | trivial), hW⟩
              · refine XInv.yes_tab [(91, 1)] (by kernel_rfl) ?_
                have kz := blk_below VV.out.1 hW
                have z0 := (blk_cell kz 0).trans rfl
                have z1 := (blk_cell kz 1).trans rfl
                have z2 := pw_cell_below (below_step VV.out.2.1 hW) D.out.1
                have z3 := pw_cell_below (below_step VV.out.2.1 hW) D.out.2.1
                have z4 := pw_cell_below (below_step VV.out.2.1 hW) D.out.2.2
                intro Q2 K2 hK2
                simp only [XInv.puts, XPrint.pw]
                go_simp
                exact hK2.out (.bool false) w' ⟨bq, rfl, (by intros; first | rfl | trivial), hW⟩
              · refine XInv.yes_tab [(92, 2)] (by kernel_rfl) ?_
                have kz := blk_below VV.out.1 hW
                have z0 := (blk_cell kz 0).trans rfl
                have z1 := (blk_cell kz 1).trans rfl
                have z2 := pw_cell_below (below_step VV.out.2.1 hW) D.out.1
                have z3 := pw_cell_below (below_step VV.out.2.1 hW) D.out.2.1
                have z4 := pw_cell_below (below_step VV.out.2.1 hW) D.out.2.2
                intro Q2 K2 hK2
                simp only [XInv.puts, XPrint.pw]
                go_simp
                exact hK2.out (.int .i64 s2) w' ⟨bq, rfl, (by intros; first | rfl | trivial), hW⟩
              · refine XInv.yes_tab [(93, 3), (92, 2)] (by kernel_rfl) ?_
                have kz := blk_below VV.out.1 hW
                have z0 := (blk_cell kz 0).trans rfl
                have z1 := (blk_cell kz 1).trans rfl
                have z2 := pw_cell_below (below_step VV.out.2.1 hW) D.out.1
                have z3 := pw_cell_below (below_step VV.out.2.1 hW) D.out.2.1
                have z4 := pw_cell_below (below_step VV.out.2.1 hW) D.out.2.2
                intro Q2 K2 hK2
                simp only [XInv.puts, XPrint.pw]
                go_simp
                exact hK2.out (.bool false) w' ⟨bq, rfl, (by intros; first | rfl | trivial), hW⟩
              · refine XInv.yes_tab [(94, 4), (92, 2)] (by kernel_rfl) ?_
                have kz := blk_below VV.out.1 hW
                have z0 := (blk_cell kz 0).trans rfl
                have z1 := (blk_cell kz 1).trans rfl
                have z2 := pw_cell_below (below_step VV.out.2.1 hW) D.out.1
                have z3 := pw_cell_below (below_step VV.out.2.1 hW) D.out.2.1
                have z4 := pw_cell_below (below_step VV.out.2.1 hW) D.out.2.2
                intro Q2 K2 hK2
                simp only [XInv.puts, XPrint.pw]
                go_simp
                exact hK2.out (.bool false) w' ⟨bq, rfl, (by intros; first | rfl | trivial), hW⟩
              · refine XInv.yes_tab [(95, 5)] (by kernel_rfl) ?_
                have kz := blk_below VV.out.1 hW
                have z0 := (blk_cell kz 0).trans rfl
                have z1 := (blk_cell kz 1).trans rfl
                have z2 := pw_cell_below (below_step VV.out.2.1 hW) D.out.1
                have z3 := pw_cell_below (below_step VV.out.2.1 hW) D.out.2.1
                have z4 := pw_cell_below (below_step VV.out.2.1 hW) D.out.2.2
                intro Q2 K2 hK2
                simp only [XInv.puts, XPrint.pw]
                refine XInv.no_want (by kernel_rfl) ?_
                exact hK2.out undef w' ⟨bq, rfl, (by intros; first | rfl | trivial), hW⟩
              · refine XInv.yes_tab [(95, 5)] (by kernel_rfl) ?_
                have kz := blk_below VV.out.1 hW
                have z0 := (blk_cell kz 0).trans rfl
                have z1 := (blk_cell kz 1).trans rfl
                have z2 := pw_cell_below (below_step VV.out.2.1 hW) D.out.1
                have z3 := pw_cell_below (below_step VV.out.2.1 hW) D.out.2.1
                have z4 := pw_cell_below (below_step VV.out.2.1 hW) D.out.2.2
                intro Q2 K2 hK2
                simp only [XInv.puts, XPrint.pw]
                refine XInv.no_want (by kernel_rfl) ?_
                exact hK2.out undef w' ⟨bq, rfl, (by intros; first | rfl | trivial), hW⟩
              · refine XInv.yes_tab [(95, 5)] (by kernel_rfl) ?_
                have kz := blk_below VV.out.1 hW
                have z0 := (blk_cell kz 0).trans rfl
                have z1 := (blk_cell kz 1).trans rfl
                have z2 := pw_cell_below (below_step VV.out.2.1 hW) D.out.1
                have z3 := pw_cell_below (below_step VV.out.2.1 hW) D.out.2.1
                have z4 := pw_cell_below (below_step VV.out.2.1 hW) D.out.2.2
                intro Q2 K2 hK2
                simp only [XInv.puts, XPrint.pw]
                refine XInv.no_want (by kernel_rfl) ?_
                exact hK2.out undef w' ⟨bq, rfl, (by intros; first | rfl | trivial), hW⟩
              · refine XInv.yes_tab [(98, 8), (97, 7), (95, 5)] (by kernel_rfl) ?_
                have kz := blk_below VV.out.1 hW
                have z0 := (blk_cell kz 0).trans rfl
                have z1 := (blk_cell kz 1).trans rfl
                have z2 := pw_cell_below (below_step VV.out.2.1 hW) D.out.1
                have z3 := pw_cell_below (below_step VV.out.2.1 hW) D.out.2.1
                have z4 := pw_cell_below (below_step VV.out.2.1 hW) D.out.2.2
                intro Q2 K2 hK2
                simp only [XInv.puts, XPrint.pw]
                refine XInv.no_want (by kernel_rfl) ?_
                exact hK2.out undef w' ⟨bq, rfl, (by intros; first | rfl | trivial), hW⟩
              · refine XInv.yes_tab [(99, 9), (95, 5)] (by kernel_rfl) ?_
                have kz := blk_below VV.out.1 hW
                have z0 := (blk_cell kz 0).trans rfl
                have z1 := (blk_cell kz 1).trans rfl
                have z2 := pw_cell_below (below_step VV.out.2.1 hW) D.out.1
                have z3 := pw_cell_below (below_step VV.out.2.1 hW) D.out.2.1
                have z4 := pw_cell_below (below_step VV.out.2.1 hW) D.out.2.2
                intro Q2 K2 hK2
                simp only [XInv.puts, XPrint.pw]
                refine XInv.no_want (by kernel_rfl) ?_
                exact hK2.out undef w' ⟨bq, rfl, (by intros; first | rfl | trivial), hW⟩
              · refine XInv.yes_tab [(100, 10), (95, 5)] (by kernel_rfl) ?_
                have kz := blk_below VV.out.1 hW
                have z0 := (blk_cell kz 0).trans rfl
                have z1 := (blk_cell kz 1).trans rfl
                have z2 := pw_cell_below (below_step VV.out.2.1 hW) D.out.1
                have z3 := pw_cell_below (below_step VV.out.2.1 hW) D.out.2.1
                have z4 := pw_cell_below (below_step VV.out.2.1 hW) D.out.2.2
                intro Q2 K2 hK2
                simp only [XInv.puts, XPrint.pw]
                refine XInv.no_want (by kernel_rfl) ?_
                exact hK2.out undef w' ⟨bq, rfl, (by intros; first | rfl | trivial), hW⟩
              · refine XInv.yes_tab [(101, 11), (96, 6), (95, 5)] (by kernel_rfl) ?_
                have kz := blk_below VV.out.1 hW
                have z0 := (blk_cell kz 0).trans rfl
                have z1 := (blk_cell kz 1).trans rfl
                have z2 := pw_cell_below (below_step VV.out.2.1 hW) D.out.1
                have z3 := pw_cell_below (below_step VV.out.2.1 hW) D.out.2.1
                have z4 := pw_cell_below (below_step VV.out.2.1 hW) D.out.2.2
                intro Q2 K2 hK2
                simp only [XInv.puts, XPrint.pw]
                refine XInv.no_want (by kernel_rfl) ?_
                exact hK2.out undef w' ⟨bq, rfl, (by intros; first | rfl | trivial), hW⟩
              · refine XInv.yes_tab [(102, 12), (95, 5), (92, 2)] (by kernel_rfl) ?_
                have kz := blk_below VV.out.1 hW
                have z0 := (blk_cell kz 0).trans rfl
                have z1 := (blk_cell kz 1).trans rfl
                have z2 := pw_cell_below (below_step VV.out.2.1 hW) D.out.1
                have z3 := pw_cell_below (below_step VV.out.2.1 hW) D.out.2.1
                have z4 := pw_cell_below (below_step VV.out.2.1 hW) D.out.2.2
                intro Q2 K2 hK2
                simp only [XInv.puts, XPrint.pw]
                go_simp
                exact hK2.out (.bool false) w' ⟨bq, rfl, (by intros; first | rfl | trivial), hW⟩
              · refine XInv.yes_tab [(103, 13), (92, 2)] (by kernel_rfl) ?_
                have kz := blk_below VV.out.1 hW
                have z0 := (blk_cell kz 0).trans rfl
                have z1 := (blk_cell kz 1).trans rfl
                have z2 := pw_cell_below (below_step VV.out.2.1 hW) D.out.1
                have z3 := pw_cell_below (below_step VV.out.2.1 hW) D.out.2.1
                have z4 := pw_cell_below (below_step VV.out.2.1 hW) D.out.2.2
                intro Q2 K2 hK2
                simp only [XInv.puts, XPrint.pw]
                go_simp
                exact hK2.out (.bool false) w' ⟨bq, rfl, (by intros; first | rfl | trivial), hW⟩
              · refine XInv.yes_tab [(104, 14), (102, 12)] (by kernel_rfl) ?_
                have kz := blk_below VV.out.1 hW
                have z0 := (blk_cell kz 0).trans rfl
                have z1 := (blk_cell kz 1).trans rfl
                have z2 := pw_cell_below (below_step VV.out.2.1 hW) D.out.1
                have z3 := pw_cell_below (below_step VV.out.2.1 hW) D.out.2.1
                have z4 := pw_cell_below (below_step VV.out.2.1 hW) D.out.2.2
                intro Q2 K2 hK2
                simp only [XInv.puts, XPrint.pw]
                go_simp
                exact hK2.out (.bool false) w' ⟨bq, rfl, (by intros; first | rfl | trivial), hW⟩
              · refine XInv.yes_tab [(105, 15)] (by kernel_rfl) ?_
                have kz := blk_below VV.out.1 hW
                have z0 := (blk_cell kz 0).trans rfl
                have z1 := (blk_cell kz 1).trans rfl
                have z2 := pw_cell_below (below_step VV.out.2.1 hW) D.out.1
                have z3 := pw_cell_below (below_step VV.out.2.1 hW) D.out.2.1
                have z4 := pw_cell_below (below_step VV.out.2.1 hW) D.out.2.2
                intro Q2 K2 hK2
                simp only [XInv.puts, XPrint.pw]
                go_simp
                exact hK2.out (.int .i64 n) w' ⟨bq, rfl, (by intros; first | rfl | trivial), hW⟩
              · refine XInv.yes_tab [(106, 16), (105, 15)] (by kernel_rfl) ?_
                have kz := blk_below VV.out.1 hW
                have z0 := (blk_cell kz 0).trans rfl
                have z1 := (blk_cell kz 1).trans rfl
                have z2 := pw_cell_below (below_step VV.out.2.1 hW) D.out.1
                have z3 := pw_cell_below (below_step VV.out.2.1 hW) D.out.2.1
                have z4 := pw_cell_below (below_step VV.out.2.1 hW) D.out.2.2
                intro Q2 K2 hK2
                simp only [XInv.puts, XPrint.pw]
                go_simp
                exact hK2.out (.bool false) w' ⟨bq, rfl, (by intros; first | rfl | trivial), hW⟩
              · refine XInv.yes_tab [(107, 17), (105, 15)] (by kernel_rfl) ?_
                have kz := blk_below VV.out.1 hW
                have z0 := (blk_cell kz 0).trans rfl
                have z1 := (blk_cell kz 1).trans rfl
                have z2 := pw_cell_below (below_step VV.out.2.1 hW) D.out.1
                have z3 := pw_cell_below (below_step VV.out.2.1 hW) D.out.2.1
                have z4 := pw_cell_below (below_step VV.out.2.1 hW) D.out.2.2
                intro Q2 K2 hK2
                simp only [XInv.puts, XPrint.pw]
                go_simp
                exact hK2.out (.bool false) w' ⟨bq, rfl, (by intros; first | rfl | trivial), hW⟩
              · refine XInv.yes_tab [(108, 18), (105, 15)] (by kernel_rfl) ?_
                have kz := blk_below VV.out.1 hW
                have z0 := (blk_cell kz 0).trans rfl
                have z1 := (blk_cell kz 1).trans rfl
                have z2 := pw_cell_below (below_step VV.out.2.1 hW) D.out.1
                have z3 := pw_cell_below (below_step VV.out.2.1 hW) D.out.2.1
                have z4 := pw_cell_below (below_step VV.out.2.1 hW) D.out.2.2
                intro Q2 K2 hK2
                simp only [XInv.puts, XPrint.pw]
                go_simp
                exact hK2.out (.bool false) w' ⟨bq, rfl, (by intros; first | rfl | trivial), hW⟩
              · refine XInv.yes_tab [(109, 19)] (by kernel_rfl) ?_
                have kz := blk_below VV.out.1 hW
                have z0 := (blk_cell kz 0).trans rfl
                have z1 := (blk_cell kz 1).trans rfl
                have z2 := pw_cell_below (below_step VV.out.2.1 hW) D.out.1
                have z3 := pw_cell_below (below_step VV.out.2.1 hW) D.out.2.1
                have z4 := pw_cell_below (below_step VV.out.2.1 hW) D.out.2.2
                intro Q2 K2 hK2
                simp only [XInv.puts, XPrint.pw]
                go_simp
                exact hK2.out (.int .i64 i) w' ⟨bq, rfl, (by intros; first | rfl | trivial), hW⟩
              · refine XInv.yes_tab [(110, 20), (109, 19)] (by kernel_rfl) ?_
                have kz := blk_below VV.out.1 hW
                have z0 := (blk_cell kz 0).trans rfl
                have z1 := (blk_cell kz 1).trans rfl
                have z2 := pw_cell_below (below_step VV.out.2.1 hW) D.out.1
                have z3 := pw_cell_below (below_step VV.out.2.1 hW) D.out.2.1
                have z4 := pw_cell_below (below_step VV.out.2.1 hW) D.out.2.2
                intro Q2 K2 hK2
                simp only [XInv.puts, XPrint.pw]
                go_simp
                exact hK2.out (.bool false) w' ⟨bq, rfl, (by intros; first | rfl | trivial), hW⟩
              · refine XInv.yes_tab [(111, 21), (109, 19)] (by kernel_rfl) ?_
                have kz := blk_below VV.out.1 hW
                have z0 := (blk_cell kz 0).trans rfl
                have z1 := (blk_cell kz 1).trans rfl
                have z2 := pw_cell_below (below_step VV.out.2.1 hW) D.out.1
                have z3 := pw_cell_below (below_step VV.out.2.1 hW) D.out.2.1
                have z4 := pw_cell_below (below_step VV.out.2.1 hW) D.out.2.2
                intro Q2 K2 hK2
                simp only [XInv.puts, XPrint.pw]
                go_simp
                exact hK2.out (.bool false) w' ⟨bq, rfl, (by intros; first | rfl | trivial), hW⟩
              · refine XInv.yes_tab [(112, 22)] (by kernel_rfl) ?_
                have kz := blk_below VV.out.1 hW
                have z0 := (blk_cell kz 0).trans rfl
                have z1 := (blk_cell kz 1).trans rfl
                have z2 := pw_cell_below (below_step VV.out.2.1 hW) D.out.1
                have z3 := pw_cell_below (below_step VV.out.2.1 hW) D.out.2.1
                have z4 := pw_cell_below (below_step VV.out.2.1 hW) D.out.2.2
                intro Q2 K2 hK2
                simp only [XInv.puts, XPrint.pw]
                refine XInv.no_want (by kernel_rfl) ?_
                exact hK2.out undef w' ⟨bq, rfl, (by intros; first | rfl | trivial), hW⟩
              · refine XInv.yes_tab [(112, 22)] (by kernel_rfl) ?_
                have kz := blk_below VV.out.1 hW
                have z0 := (blk_cell kz 0).trans rfl
                have z1 := (blk_cell kz 1).trans rfl
                have z2 := pw_cell_below (below_step VV.out.2.1 hW) D.out.1
                have z3 := pw_cell_below (below_step VV.out.2.1 hW) D.out.2.1
                have z4 := pw_cell_below (below_step VV.out.2.1 hW) D.out.2.2
                intro Q2 K2 hK2
                simp only [XInv.puts, XPrint.pw]
                refine XInv.no_want (by kernel_rfl) ?_
                exact hK2.out undef w' ⟨bq, rfl, (by intros; first | rfl | trivial), hW⟩
              · refine XInv.yes_tab [(114, 24), (112, 22)] (by kernel_rfl) ?_
                have kz := blk_below VV.out.1 hW
                have z0 := (blk_cell kz 0).trans rfl
                have z1 := (blk_cell kz 1).trans rfl
                have z2 := pw_cell_below (below_step VV.out.2.1 hW) D.out.1
                have z3 := pw_cell_below (below_step VV.out.2.1 hW) D.out.2.1
                have z4 := pw_cell_below (below_step VV.out.2.1 hW) D.out.2.2
                intro Q2 K2 hK2
                simp only [XInv.puts, XPrint.pw]
                refine XInv.no_want (by kernel_rfl) ?_
                exact hK2.out undef w' ⟨bq, rfl, (by intros; first | rfl | trivial), hW⟩
              · refine XInv.yes_tab [(115, 25), (113, 23), (112, 22)] (by kernel_rfl) ?_
                have kz := blk_below VV.out.1 hW
                have z0 := (blk_cell kz 0).trans rfl
                have z1 := (blk_cell kz 1).trans rfl
                have z2 := pw_cell_below (below_step VV.out.2.1 hW) D.out.1
                have z3 := pw_cell_below (below_step VV.out.2.1 hW) D.out.2.1
                have z4 := pw_cell_below (below_step VV.out.2.1 hW) D.out.2.2
                intro Q2 K2 hK2
                simp only [XInv.puts, XPrint.pw]
                refine XInv.no_want (by kernel_rfl) ?_
                exact hK2.out undef w' ⟨bq, rfl, (by intros; first | rfl | trivial), hW⟩
              · refine XInv.yes_tab [(116, 26), (112, 22)] (by kernel_rfl) ?_
                have kz := blk_below VV.out.1 hW
                have z0 := (blk_cell kz 0).trans rfl
                have z1 := (blk_cell kz 1).trans rfl
                have z2 := pw_cell_below (below_step VV.out.2.1 hW) D.out.1
                have z3 := pw_cell_below (below_step VV.out.2.1 hW) D.out.2.1
                have z4 := pw_cell_below (below_step VV.out.2.1 hW) D.out.2.2
                intro Q2 K2 hK2
                simp only [XInv.puts, XPrint.pw]
                refine XInv.no_want (by kernel_rfl) ?_
                exact hK2.out undef w' ⟨bq, rfl, (by intros; first | rfl | trivial), hW⟩
              · refine XInv.yes_tab [(117, 27), (112, 22)] (by kernel_rfl) ?_
                have kz := blk_below VV.out.1 hW
                have z0 := (blk_cell kz 0).trans rfl
                have z1 := (blk_cell kz 1).trans rfl
                have z2 := pw_cell_below (below_step VV.out.2.1 hW) D.out.1
                have z3 := pw_cell_below (below_step VV.out.2.1 hW) D.out.2.1
                have z4 := pw_cell_below (below_step VV.out.2.1 hW) D.out.2.2
                intro Q2 K2 hK2
                simp only [XInv.puts, XPrint.pw]
                refine XInv.no_want (by kernel_rfl) ?_
                exact hK2.out undef w' ⟨bq, rfl, (by intros; first | rfl | trivial), hW⟩
              · refine XInv.yes_tab [(112, 22)] (by kernel_rfl) ?_
                have kz := blk_below VV.out.1 hW
                have z0 := (blk_cell kz 0).trans rfl
                have z1 := (blk_cell kz 1).trans rfl
                have z2 := pw_cell_below (below_step VV.out.2.1 hW) D.out.1
                have z3 := pw_cell_below (below_step VV.out.2.1 hW) D.out.2.1
                have z4 := pw_cell_below (below_step VV.out.2.1 hW) D.out.2.2
                intro Q2 K2 hK2
                simp only [XInv.puts, XPrint.pw]
                refine XInv.no_want (by kernel_rfl) ?_
                exact hK2.out undef w' ⟨bq, rfl, (by intros; first | rfl | trivial), hW⟩
              · refine XInv.yes_tab [(112, 22)] (by kernel_rfl) ?_
                have kz := blk_below VV.out.1 hW
                have z0 := (blk_cell kz 0).trans rfl
                have z1 := (blk_cell kz 1).trans rfl
                have z2 := pw_cell_below (below_step VV.out.2.1 hW) D.out.1
                have z3 := pw_cell_below (below_step VV.out.2.1 hW) D.out.2.1
                have z4 := pw_cell_below (below_step VV.out.2.1 hW) D.out.2.2
                intro Q2 K2 hK2
                simp only [XInv.puts, XPrint.pw]
                refine XInv.no_want (by kernel_rfl) ?_
                exact hK2.out undef w' ⟨bq, rfl, (by intros; first | rfl | trivial), hW⟩
              · refine XInv.yes_tab [(120, 30), (119, 29), (112, 22)] (by kernel_rfl) ?_
                have kz := blk_below VV.out.1 hW
                have z0 := (blk_cell kz 0).trans rfl
                have z1 := (blk_cell kz 1).trans rfl
                have z2 := pw_cell_below (below_step VV.out.2.1 hW) D.out.1
                have z3 := pw_cell_below (below_step VV.out.2.1 hW) D.out.2.1
                have z4 := pw_cell_below (below_step VV.out.2.1 hW) D.out.2.2
                intro Q2 K2 hK2
                simp only [XInv.puts, XPrint.pw]
                refine XInv.no_want (by kernel_rfl) ?_
                exact hK2.out undef w' ⟨bq, rfl, (by intros; first | rfl | trivial), hW⟩
              · refine XInv.yes_tab [(121, 31), (112, 22)] (by kernel_rfl) ?_
                have kz := blk_below VV.out.1 hW
                have z0 := (blk_cell kz 0).trans rfl
                have z1 := (blk_cell kz 1).trans rfl
                have z2 := pw_cell_below (below_step VV.out.2.1 hW) D.out.1
                have z3 := pw_cell_below (below_step VV.out.2.1 hW) D.out.2.1
                have z4 := pw_cell_below (below_step VV.out.2.1 hW) D.out.2.2
                intro Q2 K2 hK2
                simp only [XInv.puts, XPrint.pw]
                refine XInv.no_want (by kernel_rfl) ?_
                exact hK2.out undef w' ⟨bq, rfl, (by intros; first | rfl | trivial), hW⟩
              · refine XInv.yes_tab [(122, 32), (112, 22)] (by kernel_rfl) ?_
                have kz := blk_below VV.out.1 hW
                have z0 := (blk_cell kz 0).trans rfl
                have z1 := (blk_cell kz 1).trans rfl
                have z2 := pw_cell_below (below_step VV.out.2.1 hW) D.out.1
                have z3 := pw_cell_below (below_step VV.out.2.1 hW) D.out.2.1
                have z4 := pw_cell_below (below_step VV.out.2.1 hW) D.out.2.2
                intro Q2 K2 hK2
                simp only [XInv.puts, XPrint.pw]
                refine XInv.no_want (by kernel_rfl) ?_
                exact hK2.out undef w' ⟨bq, rfl, (by intros; first | rfl | trivial), hW⟩
              · refine XInv.yes_tab [(123, 33), (118, 28), (112, 22)] (by kernel_rfl) ?_
                have kz := blk_below VV.out.1 hW
                have z0 := (blk_cell kz 0).trans rfl
                have z1 := (blk_cell kz 1).trans rfl
                have z2 := pw_cell_below (below_step VV.out.2.1 hW) D.out.1
                have z3 := pw_cell_below (below_step VV.out.2.1 hW) D.out.2.1
                have z4 := pw_cell_below (below_step VV.out.2.1 hW) D.out.2.2
                intro Q2 K2 hK2
                simp only [XInv.puts, XPrint.pw]
                refine XInv.no_want (by kernel_rfl) ?_
                exact hK2.out undef w' ⟨bq, rfl, (by intros; first | rfl | trivial), hW⟩
              · refine XInv.yes_tab [(124, 34), (112, 22), (109, 19)] (by kernel_rfl) ?_
                have kz := blk_below VV.out.1 hW
                have z0 := (blk_cell kz 0).trans rfl
                have z1 := (blk_cell kz 1).trans rfl
                have z2 := pw_cell_below (below_step VV.out.2.1 hW) D.out.1
                have z3 := pw_cell_below (below_step VV.out.2.1 hW) D.out.2.1
                have z4 := pw_cell_below (below_step VV.out.2.1 hW) D.out.2.2
                intro Q2 K2 hK2
                simp only [XInv.puts, XPrint.pw]
                go_simp
                exact hK2.out (.bool false) w' ⟨bq, rfl, (by intros; first | rfl | trivial), hW⟩
              · refine XInv.yes_tab [(125, 35), (109, 19)] (by kernel_rfl) ?_
                have kz := blk_below VV.out.1 hW
                have z0 := (blk_cell kz 0).trans rfl
                have z1 := (blk_cell kz 1).trans rfl
                have z2 := pw_cell_below (below_step VV.out.2.1 hW) D.out.1
                have z3 := pw_cell_below (below_step VV.out.2.1 hW) D.out.2.1
                have z4 := pw_cell_below (below_step VV.out.2.1 hW) D.out.2.2
                intro Q2 K2 hK2
                simp only [XInv.puts, XPrint.pw]
                go_simp
                exact hK2.out (.bool false) w' ⟨bq, rfl, (by intros; first | rfl | trivial), hW⟩
            · intro bq w' hW
              refine XInv.end_nil [(126, 36), (125, 35), (124, 34), (123, 33), (122, 32), (121, 31), (120, 30), (119, 29), (118, 28), (117, 27), (116, 26), (115, 25), (114, 24), (113, 23), (112, 22), (111, 21), (110, 20), (109, 19), (108, 18), (107, 17), (106, 16), (105, 15), (104, 14), (103, 13), (102, 12), (101, 11), (100, 10), (99, 9), (98, 8), (97, 7), (96, 6), (95, 5), (94, 4), (93, 3), (92, 2), (91, 1), (90, 0)] (by kernel_rfl) (by kernel_rfl) ?_
              simp only [XInv.puts, XPrint.pw]
              have HE := Aside0.mk (And.intro (below_step VV.out.2.1 hW) (blk_below VV.out.2.2 hW))
              clear hW
              go_wp2
              go_roundg (ns.length - (i + 1))
              case measure => omega
              case rel => exact ⟨i + 1, _, _, rfl, by go_num, by omega, SS.out.1, SS.out.2, HE.out.1, HE.out.2⟩
          · have LEF := Aside0.mk ((refLE s0 s1 x1 x2).trans (congrArg some hle))
            replace hs : (s2 == 0) = true := by simp [hs]
            clear hle
            refine XInv.region_tab [] [[], [0], [1], [2], [3, 2], [4, 2, 2], [5], [5], [5], [7, 8, 5], [9, 5], [10, 5], [6, 11, 5, 5], [5, 12, 2], [2, 13], [14, 12], [15], [16, 15], [15, 17], [18, 15], [19], [20, 19], [21, 19, 19], [22], [22], [24, 22], [23, 25, 22], [26, 22], [27, 22], [22], [22], [29, 30, 22], [31, 22], [32, 22], [28, 33, 22], [22, 34, 19], [19, 35]] (fun bq jq => match jq with
                | 0 => .int .i64 0
                | 1 => .bool false
                | 2 => .bool false
                | 3 => .int .i64 s2
                | 4 => .bool true
                | 5 => .bool true
                | 6 => .agg #[.int .i64 s0, .int .i64 s1]
                | 7 => .slice (some ad) ns.length c3
                | 8 => .int .i64 i
                | 9 => .pointer (some (ad.add (i * 3)))
                | 10 => .pointer (some ⟨(ad.add (i * 3)).block, (ad.add (i * 3)).off + 1, none⟩)
                | 11 => .agg #[.int .i64 x1, .int .i64 x2]
                | 12 => .bool false
                | 13 => .bool false
                | 14 => .bool false
                | 15 => .bool false
                | 16 => .int .i64 n
                | 17 => .bool false
                | 18 => .bool false
                | 19 => .bool false
                | 20 => .int .i64 i
                | 21 => .bool false
                | 22 => .bool false
                | 23 => undef
                | 24 => undef
                | 25 => undef
                | 26 => undef
                | 27 => undef
                | 28 => undef
                | 29 => undef
                | 30 => undef
                | 31 => undef
                | 32 => undef
                | 33 => undef
                | 34 => undef
                | 35 => .bool false
                | 36 => .bool false
                | _ => undef)
                (fun bq l w' => Below WA.heap.size WA w')
                (by kernel_rfl) rfl (by kernel_rfl) (by kernel_rfl) (by kernel_rfl) ⟨fun _ : Nat => (0 : Nat), below_drew (Below.refl _ _)⟩ ?_ ?_
            · intro i1 hi1 hds oi hoi bq lb w' hW hlb hcl hneed hclo
              have hi1 : i1 < 37 := hi1
              have hcs : i1 = 0 ∨ i1 = 1 ∨ i1 = 2 ∨ i1 = 3 ∨ i1 = 4 ∨ i1 = 5 ∨ i1 = 6 ∨ i1 = 7 ∨ i1 = 8 ∨ i1 = 9 ∨ i1 = 10 ∨ i1 = 11 ∨ i1 = 12 ∨ i1 = 13 ∨ i1 = 14 ∨ i1 = 15 ∨ i1 = 16 ∨ i1 = 17 ∨ i1 = 18 ∨ i1 = 19 ∨ i1 = 20 ∨ i1 = 21 ∨ i1 = 22 ∨ i1 = 23 ∨ i1 = 24 ∨ i1 = 25 ∨ i1 = 26 ∨ i1 = 27 ∨ i1 = 28 ∨ i1 = 29 ∨ i1 = 30 ∨ i1 = 31 ∨ i1 = 32 ∨ i1 = 33 ∨ i1 = 34 ∨ i1 = 35 ∨ i1 = 36 := by omega
              clear hi1 hcl hneed hclo
              have kz := blk_below VV.out.1 hW
              have z0 := (blk_cell kz 0).trans rfl
              have z1 := (blk_cell kz 1).trans rfl
              have z2 := pw_cell_below (below_step VV.out.2.1 hW) D.out.1
              have z3 := pw_cell_below (below_step VV.out.2.1 hW) D.out.2.1
              have z4 := pw_cell_below (below_step VV.out.2.1 hW) D.out.2.2
              rcases hcs with rfl | rfl | rfl | rfl | rfl | rfl | rfl | rfl | rfl | rfl | rfl | rfl | rfl | rfl | rfl | rfl | rfl | rfl | rfl | rfl | rfl | rfl | rfl | rfl | rfl | rfl | rfl | rfl | rfl | rfl | rfl | rfl | rfl | rfl | rfl | rfl | rfl
              all_goals simp only [List.getElem?_toArray, List.getElem?_cons_succ, List.getElem?_cons_zero, Option.some.injEq] at hoi
              all_goals subst hoi
              · refine XInv.yes_tab [] (by kernel_rfl) ?_
                have kz := blk_below VV.out.1 hW
                have z0 := (blk_cell kz 0).trans rfl
                have z1 := (blk_cell kz 1).trans rfl
                have z2 := pw_cell_below (below_step VV.out.2.1 hW) D.out.1
                have z3 := pw_cell_below (below_step VV.out.2.1 hW) D.out.2.1
                have z4 := pw_cell_below (below_step VV.out.2.1 hW) D.out.2.2
                intro Q2 K2 hK2
                simp only [XInv.puts, XPrint.pw]
                go_simp
                exact hK2.out (.int .i64 0) w' ⟨bq, rfl, (by intros; first | rfl | trivial), hW⟩
              · refine XInv.yes_tab [(90, 0)] (by kernel_rfl) ?_
                have kz := blk_below VV.out.1 hW
                have z0 := (blk_cell kz 0).trans rfl
                have z1 := (blk_cell kz 1).trans rfl
                have z2 := pw_cell_below (below_step VV.out.2.1 hW) D.out.1
                have z3 := pw_cell_below (below_step VV.out.2.1 hW) D.out.2.1
                have z4 := pw_cell_below (below_step VV.out.2.1 hW) D.out.2.2
                intro Q2 K2 hK2
                simp only [XInv.puts, XPrint.pw]
                go_simp
                exact hK2.out (.bool false) w' ⟨bq, rfl, (by intros; first | rfl | trivial), hW⟩
              · refine XInv.yes_tab [(91, 1)] (by kernel_rfl) ?_
                have kz := blk_below VV.out.1 hW
                have z0 := (blk_cell kz 0).trans rfl
                have z1 := (blk_cell kz 1).trans rfl
                have z2 := pw_cell_below (below_step VV.out.2.1 hW) D.out.1
                have z3 := pw_cell_below (below_step VV.out.2.1 hW) D.out.2.1
                have z4 := pw_cell_below (below_step VV.out.2.1 hW) D.out.2.2
                intro Q2 K2 hK2
                simp only [XInv.puts, XPrint.pw]
                go_simp
                exact hK2.out (.bool false) w' ⟨bq, rfl, (by intros; first | rfl | trivial), hW⟩
              · refine XInv.yes_tab [(92, 2)] (by kernel_rfl) ?_
                have kz := blk_below VV.out.1 hW
                have z0 := (blk_cell kz 0).trans rfl
                have z1 := (blk_cell kz 1).trans rfl
                have z2 := pw_cell_below (below_step VV.out.2.1 hW) D.out.1
                have z3 := pw_cell_below (below_step VV.out.2.1 hW) D.out.2.1
                have z4 := pw_cell_below (below_step VV.out.2.1 hW) D.out.2.2
                intro Q2 K2 hK2
                simp only [XInv.puts, XPrint.pw]
                go_simp
                exact hK2.out (.int .i64 s2) w' ⟨bq, rfl, (by intros; first | rfl | trivial), hW⟩
              · refine XInv.yes_tab [(93, 3), (92, 2)] (by kernel_rfl) ?_
                have kz := blk_below VV.out.1 hW
                have z0 := (blk_cell kz 0).trans rfl
                have z1 := (blk_cell kz 1).trans rfl
                have z2 := pw_cell_below (below_step VV.out.2.1 hW) D.out.1
                have z3 := pw_cell_below (below_step VV.out.2.1 hW) D.out.2.1
                have z4 := pw_cell_below (below_step VV.out.2.1 hW) D.out.2.2
                intro Q2 K2 hK2
                simp only [XInv.puts, XPrint.pw]
                go_simp
                exact hK2.out (.bool true) w' ⟨bq, rfl, (by intros; first | rfl | trivial), hW⟩
              · refine XInv.yes_tab [(94, 4), (92, 2)] (by kernel_rfl) ?_
                have kz := blk_below VV.out.1 hW
                have z0 := (blk_cell kz 0).trans rfl
                have z1 := (blk_cell kz 1).trans rfl
                have z2 := pw_cell_below (below_step VV.out.2.1 hW) D.out.1
                have z3 := pw_cell_below (below_step VV.out.2.1 hW) D.out.2.1
                have z4 := pw_cell_below (below_step VV.out.2.1 hW) D.out.2.2
                intro Q2 K2 hK2
                simp only [XInv.puts, XPrint.pw]
                go_simp
                exact hK2.out (.bool true) w' ⟨bq, rfl, (by intros; first | rfl | trivial), hW⟩
              · refine XInv.yes_tab [(95, 5)] (by kernel_rfl) ?_
                have kz := blk_below VV.out.1 hW
                have z0 := (blk_cell kz 0).trans rfl
                have z1 := (blk_cell kz 1).trans rfl
                have z2 := pw_cell_below (below_step VV.out.2.1 hW) D.out.1
                have z3 := pw_cell_below (below_step VV.out.2.1 hW) D.out.2.1
                have z4 := pw_cell_below (below_step VV.out.2.1 hW) D.out.2.2
                intro Q2 K2 hK2
                simp only [XInv.puts, XPrint.pw]
                go_simp
                exact hK2.out (.agg #[.int .i64 s0, .int .i64 s1]) w' ⟨bq, rfl, (by intros; first | rfl | trivial), hW⟩
              · refine XInv.yes_tab [(95, 5)] (by kernel_rfl) ?_
                have kz := blk_below VV.out.1 hW
                have z0 := (blk_cell kz 0).trans rfl
                have z1 := (blk_cell kz 1).trans rfl
                have z2 := pw_cell_below (below_step VV.out.2.1 hW) D.out.1
                have z3 := pw_cell_below (below_step VV.out.2.1 hW) D.out.2.1
                have z4 := pw_cell_below (below_step VV.out.2.1 hW) D.out.2.2
                intro Q2 K2 hK2
                simp only [XInv.puts, XPrint.pw]
                go_simp
                exact hK2.out (.slice (some ad) ns.length c3) w' ⟨bq, rfl, (by intros; first | rfl | trivial), hW⟩
              · refine XInv.yes_tab [(95, 5)] (by kernel_rfl) ?_
                have kz := blk_below VV.out.1 hW
                have z0 := (blk_cell kz 0).trans rfl
                have z1 := (blk_cell kz 1).trans rfl
                have z2 := pw_cell_below (below_step VV.out.2.1 hW) D.out.1
                have z3 := pw_cell_below (below_step VV.out.2.1 hW) D.out.2.1
                have z4 := pw_cell_below (below_step VV.out.2.1 hW) D.out.2.2
                intro Q2 K2 hK2
                simp only [XInv.puts, XPrint.pw]
                go_simp
                exact hK2.out (.int .i64 i) w' ⟨bq, rfl, (by intros; first | rfl | trivial), hW⟩
              · refine XInv.yes_tab [(98, 8), (97, 7), (95, 5)] (by kernel_rfl) ?_
                have kz := blk_below VV.out.1 hW
                have z0 := (blk_cell kz 0).trans rfl
                have z1 := (blk_cell kz 1).trans rfl
                have z2 := pw_cell_below (below_step VV.out.2.1 hW) D.out.1
                have z3 := pw_cell_below (below_step VV.out.2.1 hW) D.out.2.1
                have z4 := pw_cell_below (below_step VV.out.2.1 hW) D.out.2.2
                intro Q2 K2 hK2
                simp only [XInv.puts, XPrint.pw]
                go_simp
                exact hK2.out (.pointer (some (ad.add (i * 3)))) w' ⟨bq, rfl, (by intros; first | rfl | trivial), hW⟩
              · refine XInv.yes_tab [(99, 9), (95, 5)] (by kernel_rfl) ?_
                have kz := blk_below VV.out.1 hW
                have z0 := (blk_cell kz 0).trans rfl
                have z1 := (blk_cell kz 1).trans rfl
                have z2 := pw_cell_below (below_step VV.out.2.1 hW) D.out.1
                have z3 := pw_cell_below (below_step VV.out.2.1 hW) D.out.2.1
                have z4 := pw_cell_below (below_step VV.out.2.1 hW) D.out.2.2
                intro Q2 K2 hK2
                simp only [XInv.puts, XPrint.pw]
                go_simp
                exact hK2.out (.pointer (some ⟨(ad.add (i * 3)).block, (ad.add (i * 3)).off + 1, none⟩)) w' ⟨bq, rfl, (by intros; first | rfl | trivial), hW⟩
              · refine XInv.yes_tab [(100, 10), (95, 5)] (by kernel_rfl) ?_
                have kz := blk_below VV.out.1 hW
                have z0 := (blk_cell kz 0).trans rfl
                have z1 := (blk_cell kz 1).trans rfl
                have z2 := pw_cell_below (below_step VV.out.2.1 hW) D.out.1
                have z3 := pw_cell_below (below_step VV.out.2.1 hW) D.out.2.1
                have z4 := pw_cell_below (below_step VV.out.2.1 hW) D.out.2.2
                intro Q2 K2 hK2
                simp only [XInv.puts, XPrint.pw]
                go_simp
                exact hK2.out (.agg #[.int .i64 x1, .int .i64 x2]) w' ⟨bq, rfl, (by intros; first | rfl | trivial), hW⟩
              · refine XInv.yes_tab [(101, 11), (96, 6), (95, 5)] (by kernel_rfl) ?_
                have kz := blk_below VV.out.1 hW
                have z0 := (blk_cell kz 0).trans rfl
                have z1 := (blk_cell kz 1).trans rfl
                have z2 := pw_cell_below (below_step VV.out.2.1 hW) D.out.1
                have z3 := pw_cell_below (below_step VV.out.2.1 hW) D.out.2.1
                have z4 := pw_cell_below (below_step VV.out.2.1 hW) D.out.2.2
                intro Q2 K2 hK2
                simp only [XInv.puts, XPrint.pw]
                go_simp
                go_at_call 26
                (with_reducible refine (PNodeLib.liveryref01_LE.calls s0 s1 x1 x2 false _ LEF.out).mono ?_)
                rintro e wz ⟨rfl, hb⟩
                exact hK2.out (.bool false) wz ⟨bq, rfl, (by intros; first | rfl | trivial), below_step hW hb⟩
              · refine XInv.yes_tab [(102, 12), (95, 5), (92, 2)] (by kernel_rfl) ?_
                have kz := blk_below VV.out.1 hW
                have z0 := (blk_cell kz 0).trans rfl
                have z1 := (blk_cell kz 1).trans rfl
                have z2 := pw_cell_below (below_step VV.out.2.1 hW) D.out.1
                have z3 := pw_cell_below (below_step VV.out.2.1 hW) D.out.2.1
                have z4 := pw_cell_below (below_step VV.out.2.1 hW) D.out.2.2
                intro Q2 K2 hK2
                simp only [XInv.puts, XPrint.pw]
                go_simp
                exact hK2.out (.bool false) w' ⟨bq, rfl, (by intros; first | rfl | trivial), hW⟩
              · refine XInv.yes_tab [(103, 13), (92, 2)] (by kernel_rfl) ?_
                have kz := blk_below VV.out.1 hW
                have z0 := (blk_cell kz 0).trans rfl
                have z1 := (blk_cell kz 1).trans rfl
                have z2 := pw_cell_below (below_step VV.out.2.1 hW) D.out.1
                have z3 := pw_cell_below (below_step VV.out.2.1 hW) D.out.2.1
                have z4 := pw_cell_below (below_step VV.out.2.1 hW) D.out.2.2
                intro Q2 K2 hK2
                simp only [XInv.puts, XPrint.pw]
                go_simp
                exact hK2.out (.bool false) w' ⟨bq, rfl, (by intros; first | rfl | trivial), hW⟩
              · refine XInv.yes_tab [(104, 14), (102, 12)] (by kernel_rfl) ?_
                have kz := blk_below VV.out.1 hW
                have z0 := (blk_cell kz 0).trans rfl
                have z1 := (blk_cell kz 1).trans rfl
                have z2 := pw_cell_below (below_step VV.out.2.1 hW) D.out.1
                have z3 := pw_cell_below (below_step VV.out.2.1 hW) D.out.2.1
                have z4 := pw_cell_below (below_step VV.out.2.1 hW) D.out.2.2
                intro Q2 K2 hK2
                simp only [XInv.puts, XPrint.pw]
                go_simp
                exact hK2.out (.bool false) w' ⟨bq, rfl, (by intros; first | rfl | trivial), hW⟩
              · refine XInv.yes_tab [(105, 15)] (by kernel_rfl) ?_
                have kz := blk_below VV.out.1 hW
                have z0 := (blk_cell kz 0).trans rfl
                have z1 := (blk_cell kz 1).trans rfl
                have z2 := pw_cell_below (below_step VV.out.2.1 hW) D.out.1
                have z3 := pw_cell_below (below_step VV.out.2.1 hW) D.out.2.1
                have z4 := pw_cell_below (below_step VV.out.2.1 hW) D.out.2.2
                intro Q2 K2 hK2
                simp only [XInv.puts, XPrint.pw]
                go_simp
                exact hK2.out (.int .i64 n) w' ⟨bq, rfl, (by intros; first | rfl | trivial), hW⟩
              · refine XInv.yes_tab [(106, 16), (105, 15)] (by kernel_rfl) ?_
                have kz := blk_below VV.out.1 hW
                have z0 := (blk_cell kz 0).trans rfl
                have z1 := (blk_cell kz 1).trans rfl
                have z2 := pw_cell_below (below_step VV.out.2.1 hW) D.out.1
                have z3 := pw_cell_below (below_step VV.out.2.1 hW) D.out.2.1
                have z4 := pw_cell_below (below_step VV.out.2.1 hW) D.out.2.2
                intro Q2 K2 hK2
                simp only [XInv.puts, XPrint.pw]
                go_simp
                exact hK2.out (.bool false) w' ⟨bq, rfl, (by intros; first | rfl | trivial), hW⟩
              · refine XInv.yes_tab [(107, 17), (105, 15)] (by kernel_rfl) ?_
                have kz := blk_below VV.out.1 hW
                have z0 := (blk_cell kz 0).trans rfl
                have z1 := (blk_cell kz 1).trans rfl
                have z2 := pw_cell_below (below_step VV.out.2.1 hW) D.out.1
                have z3 := pw_cell_below (below_step VV.out.2.1 hW) D.out.2.1
                have z4 := pw_cell_below (below_step VV.out.2.1 hW) D.out.2.2
                intro Q2 K2 hK2
                simp only [XInv.puts, XPrint.pw]
                go_simp
                exact hK2.out (.bool false) w' ⟨bq, rfl, (by intros; first | rfl | trivial), hW⟩
              · refine XInv.yes_tab [(108, 18), (105, 15)] (by kernel_rfl) ?_
                have kz := blk_below VV.out.1 hW
                have z0 := (blk_cell kz 0).trans rfl
                have z1 := (blk_cell kz 1).trans rfl
                have z2 := pw_cell_below (below_step VV.out.2.1 hW) D.out.1
                have z3 := pw_cell_below (below_step VV.out.2.1 hW) D.out.2.1
                have z4 := pw_cell_below (below_step VV.out.2.1 hW) D.out.2.2
                intro Q2 K2 hK2
                simp only [XInv.puts, XPrint.pw]
                go_simp
                exact hK2.out (.bool false) w' ⟨bq, rfl, (by intros; first | rfl | trivial), hW⟩
              · refine XInv.yes_tab [(109, 19)] (by kernel_rfl) ?_
                have kz := blk_below VV.out.1 hW
                have z0 := (blk_cell kz 0).trans rfl
                have z1 := (blk_cell kz 1).trans rfl
                have z2 := pw_cell_below (below_step VV.out.2.1 hW) D.out.1
                have z3 := pw_cell_below (below_step VV.out.2.1 hW) D.out.2.1
                have z4 := pw_cell_below (below_step VV.out.2.1 hW) D.out.2.2
                intro Q2 K2 hK2
                simp only [XInv.puts, XPrint.pw]
                go_simp
                exact hK2.out (.int .i64 i) w' ⟨bq, rfl, (by intros; first | rfl | trivial), hW⟩
              · refine XInv.yes_tab [(110, 20), (109, 19)] (by kernel_rfl) ?_
                have kz := blk_below VV.out.1 hW
                have z0 := (blk_cell kz 0).trans rfl
                have z1 := (blk_cell kz 1).trans rfl
                have z2 := pw_cell_below (below_step VV.out.2.1 hW) D.out.1
                have z3 := pw_cell_below (below_step VV.out.2.1 hW) D.out.2.1
                have z4 := pw_cell_below (below_step VV.out.2.1 hW) D.out.2.2
                intro Q2 K2 hK2
                simp only [XInv.puts, XPrint.pw]
                go_simp
                exact hK2.out (.bool false) w' ⟨bq, rfl, (by intros; first | rfl | trivial), hW⟩
              · refine XInv.yes_tab [(111, 21), (109, 19)] (by kernel_rfl) ?_
                have kz := blk_below VV.out.1 hW
                have z0 := (blk_cell kz 0).trans rfl
                have z1 := (blk_cell kz 1).trans rfl
                have z2 := pw_cell_below (below_step VV.out.2.1 hW) D.out.1
                have z3 := pw_cell_below (below_step VV.out.2.1 hW) D.out.2.1
                have z4 := pw_cell_below (below_step VV.out.2.1 hW) D.out.2.2
                intro Q2 K2 hK2
                simp only [XInv.puts, XPrint.pw]
                go_simp
                exact hK2.out (.bool false) w' ⟨bq, rfl, (by intros; first | rfl | trivial), hW⟩
              · refine XInv.yes_tab [(112, 22)] (by kernel_rfl) ?_
                have kz := blk_below VV.out.1 hW
                have z0 := (blk_cell kz 0).trans rfl
                have z1 := (blk_cell kz 1).trans rfl
                have z2 := pw_cell_below (below_step VV.out.2.1 hW) D.out.1
                have z3 := pw_cell_below (below_step VV.out.2.1 hW) D.out.2.1
                have z4 := pw_cell_below (below_step VV.out.2.1 hW) D.out.2.2
                intro Q2 K2 hK2
                simp only [XInv.puts, XPrint.pw]
                refine XInv.no_want (by kernel_rfl) ?_
                exact hK2.out undef w' ⟨bq, rfl, (by intros; first | rfl | trivial), hW⟩
              · refine XInv.yes_tab [(112, 22)] (by kernel_rfl) ?_
                have kz := blk_below VV.out.1 hW
                have z0 := (blk_cell kz 0).trans rfl
                have z1 := (blk_cell kz 1).trans rfl
                have z2 := pw_cell_below (below_step VV.out.2.1 hW) D.out.1
                have z3 := pw_cell_below (below_step VV.out.2.1 hW) D.out.2.1
                have z4 := pw_cell_below (below_step VV.out.2.1 hW) D.out.2.2
                intro Q2 K2 hK2
                simp only [XInv.puts, XPrint.pw]
                refine XInv.no_want (by kernel_rfl) ?_
                exact hK2.out undef w' ⟨bq, rfl, (by intros; first | rfl | trivial), hW⟩
              · refine XInv.yes_tab [(114, 24), (112, 22)] (by kernel_rfl) ?_
                have kz := blk_below VV.out.1 hW
                have z0 := (blk_cell kz 0).trans rfl
                have z1 := (blk_cell kz 1).trans rfl
                have z2 := pw_cell_below (below_step VV.out.2.1 hW) D.out.1
                have z3 := pw_cell_below (below_step VV.out.2.1 hW) D.out.2.1
                have z4 := pw_cell_below (below_step VV.out.2.1 hW) D.out.2.2
                intro Q2 K2 hK2
                simp only [XInv.puts, XPrint.pw]
                refine XInv.no_want (by kernel_rfl) ?_
                exact hK2.out undef w' ⟨bq, rfl, (by intros; first | rfl | trivial), hW⟩
              · refine XInv.yes_tab [(115, 25), (113, 23), (112, 22)] (by kernel_rfl) ?_
                have kz := blk_below VV.out.1 hW
                have z0 := (blk_cell kz 0).trans rfl
                have z1 := (blk_cell kz 1).trans rfl
                have z2 := pw_cell_below (below_step VV.out.2.1 hW) D.out.1
                have z3 := pw_cell_below (below_step VV.out.2.1 hW) D.out.2.1
                have z4 := pw_cell_below (below_step VV.out.2.1 hW) D.out.2.2
                intro Q2 K2 hK2
                simp only [XInv.puts, XPrint.pw]
                refine XInv.no_want (by kernel_rfl) ?_
                exact hK2.out undef w' ⟨bq, rfl, (by intros; first | rfl | trivial), hW⟩
              · refine XInv.yes_tab [(116, 26), (112, 22)] (by kernel_rfl) ?_
                have kz := blk_below VV.out.1 hW
                have z0 := (blk_cell kz 0).trans rfl
                have z1 := (blk_cell kz 1).trans rfl
                have z2 := pw_cell_below (below_step VV.out.2.1 hW) D.out.1
                have z3 := pw_cell_below (below_step VV.out.2.1 hW) D.out.2.1
                have z4 := pw_cell_below (below_step VV.out.2.1 hW) D.out.2.2
                intro Q2 K2 hK2
                simp only [XInv.puts, XPrint.pw]
                refine XInv.no_want (by kernel_rfl) ?_
                exact hK2.out undef w' ⟨bq, rfl, (by intros; first | rfl | trivial), hW⟩
              · refine XInv.yes_tab [(117, 27), (112, 22)] (by kernel_rfl) ?_
                have kz := blk_below VV.out.1 hW
                have z0 := (blk_cell kz 0).trans rfl
                have z1 := (blk_cell kz 1).trans rfl
                have z2 := pw_cell_below (below_step VV.out.2.1 hW) D.out.1
                have z3 := pw_cell_below (below_step VV.out.2.1 hW) D.out.2.1
                have z4 := pw_cell_below (below_step VV.out.2.1 hW) D.out.2.2
                intro Q2 K2 hK2
                simp only [XInv.puts, XPrint.pw]
                refine XInv.no_want (by kernel_rfl) ?_
                exact hK2.out undef w' ⟨bq, rfl, (by intros; first | rfl | trivial), hW⟩
              · refine XInv.yes_tab [(112, 22)] (by kernel_rfl) ?_
                have kz := blk_below VV.out.1 hW
                have z0 := (blk_cell kz 0).trans rfl
                have z1 := (blk_cell kz 1).trans rfl
                have z2 := pw_cell_below (below_step VV.out.2.1 hW) D.out.1
                have z3 := pw_cell_below (below_step VV.out.2.1 hW) D.out.2.1
                have z4 := pw_cell_below (below_step VV.out.2.1 hW) D.out.2.2
                intro Q2 K2 hK2
                simp only [XInv.puts, XPrint.pw]
                refine XInv.no_want (by kernel_rfl) ?_
                exact hK2.out undef w' ⟨bq, rfl, (by intros; first | rfl | trivial), hW⟩
              · refine XInv.yes_tab [(112, 22)] (by kernel_rfl) ?_
                have kz := blk_below VV.out.1 hW
                have z0 := (blk_cell kz 0).trans rfl
                have z1 := (blk_cell kz 1).trans rfl
                have z2 := pw_cell_below (below_step VV.out.2.1 hW) D.out.1
                have z3 := pw_cell_below (below_step VV.out.2.1 hW) D.out.2.1
                have z4 := pw_cell_below (below_step VV.out.2.1 hW) D.out.2.2
                intro Q2 K2 hK2
                simp only [XInv.puts, XPrint.pw]
                refine XInv.no_want (by kernel_rfl) ?_
                exact hK2.out undef w' ⟨bq, rfl, (by intros; first | rfl | trivial), hW⟩
              · refine XInv.yes_tab [(120, 30), (119, 29), (112, 22)] (by kernel_rfl) ?_
                have kz := blk_below VV.out.1 hW
                have z0 := (blk_cell kz 0).trans rfl
                have z1 := (blk_cell kz 1).trans rfl
                have z2 := pw_cell_below (below_step VV.out.2.1 hW) D.out.1
                have z3 := pw_cell_below (below_step VV.out.2.1 hW) D.out.2.1
                have z4 := pw_cell_below (below_step VV.out.2.1 hW) D.out.2.2
                intro Q2 K2 hK2
                simp only [XInv.puts, XPrint.pw]
                refine XInv.no_want (by kernel_rfl) ?_
                exact hK2.out undef w' ⟨bq, rfl, (by intros; first | rfl | trivial), hW⟩
              · refine XInv.yes_tab [(121, 31), (112, 22)] (by kernel_rfl) ?_
                have kz := blk_below VV.out.1 hW
                have z0 := (blk_cell kz 0).trans rfl
                have z1 := (blk_cell kz 1).trans rfl
                have z2 := pw_cell_below (below_step VV.out.2.1 hW) D.out.1
                have z3 := pw_cell_below (below_step VV.out.2.1 hW) D.out.2.1
                have z4 := pw_cell_below (below_step VV.out.2.1 hW) D.out.2.2
                intro Q2 K2 hK2
                simp only [XInv.puts, XPrint.pw]
                refine XInv.no_want (by kernel_rfl) ?_
                exact hK2.out undef w' ⟨bq, rfl, (by intros; first | rfl | trivial), hW⟩
              · refine XInv.yes_tab [(122, 32), (112, 22)] (by kernel_rfl) ?_
                have kz := blk_below VV.out.1 hW
                have z0 := (blk_cell kz 0).trans rfl
                have z1 := (blk_cell kz 1).trans rfl
                have z2 := pw_cell_below (below_step VV.out.2.1 hW) D.out.1
                have z3 := pw_cell_below (below_step VV.out.2.1 hW) D.out.2.1
                have z4 := pw_cell_below (below_step VV.out.2.1 hW) D.out.2.2
                intro Q2 K2 hK2
                simp only [XInv.puts, XPrint.pw]
                refine XInv.no_want (by kernel_rfl) ?_
                exact hK2.out undef w' ⟨bq, rfl, (by intros; first | rfl | trivial), hW⟩
              · refine XInv.yes_tab [(123, 33), (118, 28), (112, 22)] (by kernel_rfl) ?_
                have kz := blk_below VV.out.1 hW
                have z0 := (blk_cell kz 0).trans rfl
                have z1 := (blk_cell kz 1).trans rfl
                have z2 := pw_cell_below (below_step VV.out.2.1 hW) D.out.1
                have z3 := pw_cell_below (below_step VV.out.2.1 hW) D.out.2.1
                have z4 := pw_cell_below (below_step VV.out.2.1 hW) D.out.2.2
                intro Q2 K2 hK2
                simp only [XInv.puts, XPrint.pw]
                refine XInv.no_want (by kernel_rfl) ?_
                exact hK2.out undef w' ⟨bq, rfl, (by intros; first | rfl | trivial), hW⟩
              · refine XInv.yes_tab [(124, 34), (112, 22), (109, 19)] (by kernel_rfl) ?_
                have kz := blk_below VV.out.1 hW
                have z0 := (blk_cell kz 0).trans rfl
                have z1 := (blk_cell kz 1).trans rfl
                have z2 := pw_cell_below (below_step VV.out.2.1 hW) D.out.1
                have z3 := pw_cell_below (below_step VV.out.2.1 hW) D.out.2.1
                have z4 := pw_cell_below (below_step VV.out.2.1 hW) D.out.2.2
                intro Q2 K2 hK2
                simp only [XInv.puts, XPrint.pw]
                go_simp
                exact hK2.out (.bool false) w' ⟨bq, rfl, (by intros; first | rfl | trivial), hW⟩
              · refine XInv.yes_tab [(125, 35), (109, 19)] (by kernel_rfl) ?_
                have kz := blk_below VV.out.1 hW
                have z0 := (blk_cell kz 0).trans rfl
                have z1 := (blk_cell kz 1).trans rfl
                have z2 := pw_cell_below (below_step VV.out.2.1 hW) D.out.1
                have z3 := pw_cell_below (below_step VV.out.2.1 hW) D.out.2.1
                have z4 := pw_cell_below (below_step VV.out.2.1 hW) D.out.2.2
                intro Q2 K2 hK2
                simp only [XInv.puts, XPrint.pw]
                go_simp
                exact hK2.out (.bool false) w' ⟨bq, rfl, (by intros; first | rfl | trivial), hW⟩
            · intro bq w' hW
              refine XInv.end_nil [(126, 36), (125, 35), (124, 34), (123, 33), (122, 32), (121, 31), (120, 30), (119, 29), (118, 28), (117, 27), (116, 26), (115, 25), (114, 24), (113, 23), (112, 22), (111, 21), (110, 20), (109, 19), (108, 18), (107, 17), (106, 16), (105, 15), (104, 14), (103, 13), (102, 12), (101, 11), (100, 10), (99, 9), (98, 8), (97, 7), (96, 6), (95, 5), (94, 4), (93, 3), (92, 2), (91, 1), (90, 0)] (by kernel_rfl) (by kernel_rfl) ?_
              simp only [XInv.puts, XPrint.pw]
              have HE := Aside0.mk (And.intro (below_step VV.out.2.1 hW) (blk_below VV.out.2.2 hW))
              clear hW
              go_wp2
              go_roundg (ns.length - (i + 1))
              case measure => omega
              case rel => exact ⟨i + 1, _, _, rfl, by go_num, by omega, SS.out.1, SS.out.2, HE.out.1, HE.out.2⟩
        · obtain ⟨i2, hi2⟩ : ∃ i2, i = i2 + 1 := ⟨i - 1, by omega⟩
          have hlt3 : i2 < ns.length := by omega
          obtain ⟨y, hy⟩ : ∃ y, ns[i2] = y := ⟨_, rfl⟩
          have hlast : y.f0 < x0 := by
            have := List.pairwise_iff_getElem.1 Y.out.1.rising i2 i hlt3 hlt2 (by omega)
            rw [hy, hx3.out] at this
            exact this
          obtain ⟨ad2, ha2, e0, _, _⟩ := at_T39 Z.out.2 (i2 : Int) (by omega) (by omega)
          have ej1 : ((i2 : Int)).toNat = i2 := by omega
          have er1 : rd_T39 ns (i2 : Int) = ns[i2] := by unfold rd_T39; rw [ej1, List.getD_eq_getElem?_getD, List.getElem?_eq_getElem hlt3]; rfl
          obtain rfl : ad = ad2 := Option.some.inj ha2
          rw [er1, ej1, hy] at e0
          obtain ⟨y0, hy0⟩ : ∃ y0, y.f0 = y0 := ⟨_, rfl⟩
          rw [hy0] at e0 hlast
          have E0 := Aside0.mk e0
          have hlast2 : decide (x0 ≤ y0) = false := decide_eq_false (by omega)
          have hi0 : decide ((0 : Int) < (i : Int)) = true := decide_eq_true (by omega)
          have hi0' : decide (0 < i) = true := decide_eq_true (by omega)
          have hm1 : IntKind.i64.wrap ((i : Int) - 1) = (i2 : Int) := by rw [IntKind.wrap_i64]; omega
          have hm4 : (i2 : Int) < (ns.length : Int) := by omega
          clear h0 e0 er1 ha2 hlast hy hy0 hi2 hlt3
          rcases hs with hs | ⟨hs, hle⟩
          · replace hs : (s2 == 0) = false := by simp [hs]
            refine XInv.region_tab [] [[], [0], [1], [2], [3, 2], [4, 2, 2], [5], [5], [5], [7, 8, 5], [9, 5], [10, 5], [6, 11, 5, 5], [5, 12, 2], [2, 13], [14, 12], [15], [16, 15], [15, 17], [18, 15], [19], [20, 19], [21, 19, 19], [22], [22], [24, 22], [23, 25, 22], [26, 22], [27, 22], [22], [22], [29, 30, 22], [31, 22], [32, 22], [28, 33, 22], [22, 34, 19], [19, 35]] (fun bq jq => match jq with
                | 0 => .int .i64 0
                | 1 => .bool false
                | 2 => .bool false
                | 3 => .int .i64 s2
                | 4 => .bool false
                | 5 => .bool false
                | 6 => undef
                | 7 => undef
                | 8 => undef
                | 9 => undef
                | 10 => undef
                | 11 => undef
                | 12 => undef
                | 13 => .bool false
                | 14 => .bool false
                | 15 => .bool false
                | 16 => .int .i64 n
                | 17 => .bool false
                | 18 => .bool false
                | 19 => .bool false
                | 20 => .int .i64 i
                | 21 => .bool true
                | 22 => .bool true
                | 23 => .slice (some ad) ns.length c3
                | 24 => .int .i64 i
                | 25 => .int .i64 i2
                | 26 => .pointer (some (ad.add (i2 * 3)))
                | 27 => .pointer (some (ad.add (i2 * 3)))
                | 28 => .int .u32 y0
                | 29 => .slice (some ad) ns.length c3
                | 30 => .int .i64 i
                | 31 => .pointer (some (ad.add (i * 3)))
                | 32 => .pointer (some (ad.add (i * 3)))
                | 33 => .int .u32 x0
                | 34 => .bool false
                | 35 => .bool false
                | 36 => .bool false
                | _ => undef)
                (fun bq l w' => Below WA.heap.size WA w')
                (by kernel_rfl) rfl (by kernel_rfl) (by kernel_rfl) (by kernel_rfl) ⟨fun _ : Nat => (0 : Nat), below_drew (Below.refl _ _)⟩ ?_ ?_
            · intro i1 hi1 hds oi hoi bq lb w' hW hlb hcl hneed hclo
              have hi1 : i1 < 37 := hi1
              have hcs : i1 = 0 ∨ i1 = 1 ∨ i1 = 2 ∨ i1 = 3 ∨ i1 = 4 ∨ i1 = 5 ∨ i1 = 6 ∨ i1 = 7 ∨ i1 = 8 ∨ i1 = 9 ∨ i1 = 10 ∨ i1 = 11 ∨ i1 = 12 ∨ i1 = 13 ∨ i1 = 14 ∨ i1 = 15 ∨ i1 = 16 ∨ i1 = 17 ∨ i1 = 18 ∨ i1 = 19 ∨ i1 = 20 ∨ i1 = 21 ∨ i1 = 22 ∨ i1 = 23 ∨ i1 = 24 ∨ i1 = 25 ∨ i1 = 26 ∨ i1 = 27 ∨ i1 = 28 ∨ i1 = 29 ∨ i1 = 30 ∨ i1 = 31 ∨ i1 = 32 ∨ i1 = 33 ∨ i1 = 34 ∨ i1 = 35 ∨ i1 = 36 := by omega
              clear hi1 hcl hneed hclo
              have kz := blk_below VV.out.1 hW
              have z0 := (blk_cell kz 0).trans rfl
              have z1 := (blk_cell kz 1).trans rfl
              have z2 := pw_cell_below (below_step VV.out.2.1 hW) D.out.1
              have z3 := pw_cell_below (below_step VV.out.2.1 hW) D.out.2.1
              have z4 := pw_cell_below (below_step VV.out.2.1 hW) D.out.2.2
              have z5 := pw_cell_below (below_step VV.out.2.1 hW) E0.out
              rcases hcs with rfl | rfl | rfl | rfl | rfl | rfl | rfl | rfl | rfl | rfl | rfl | rfl | rfl | rfl | rfl | rfl | rfl | rfl | rfl | rfl | rfl | rfl | rfl | rfl | rfl | rfl | rfl | rfl | rfl | rfl | rfl | rfl | rfl | rfl | rfl | rfl | rfl
              all_goals simp only [List.getElem?_toArray, List.getElem?_cons_succ, List.getElem?_cons_zero, Option.some.injEq] at hoi
              all_goals subst hoi
              · refine XInv.yes_tab [] (by kernel_rfl) ?_
                have kz := blk_below VV.out.1 hW
                have z0 := (blk_cell kz 0).trans rfl
                have z1 := (blk_cell kz 1).trans rfl
                have z2 := pw_cell_below (below_step VV.out.2.1 hW) D.out.1
                have z3 := pw_cell_below (below_step VV.out.2.1 hW) D.out.2.1
                have z4 := pw_cell_below (below_step VV.out.2.1 hW) D.out.2.2
                have z5 := pw_cell_below (below_step VV.out.2.1 hW) E0.out
                intro Q2 K2 hK2
                simp only [XInv.puts, XPrint.pw]
                go_simp
                exact hK2.out (.int .i64 0) w' ⟨bq, rfl, (by intros; first | rfl | trivial), hW⟩
              · refine XInv.yes_tab [(90, 0)] (by kernel_rfl) ?_
                have kz := blk_below VV.out.1 hW
                have z0 := (blk_cell kz 0).trans rfl
                have z1 := (blk_cell kz 1).trans rfl
                have z2 := pw_cell_below (below_step VV.out.2.1 hW) D.out.1
                have z3 := pw_cell_below (below_step VV.out.2.1 hW) D.out.2.1
                have z4 := pw_cell_below (below_step VV.out.2.1 hW) D.out.2.2
                have z5 := pw_cell_below (below_step VV.out.2.1 hW) E0.out
                intro Q2 K2 hK2
                simp only [XInv.puts, XPrint.pw]
                go_simp
                exact hK2.out (.bool false) w' ⟨bq, rfl, (by intros; first | rfl | trivial), hW⟩
              · refine XInv.yes_tab [(91, 1)] (by kernel_rfl) ?_
                have kz := blk_below VV.out.1 hW
                have z0 := (blk_cell kz 0).trans rfl
                have z1 := (blk_cell kz 1).trans rfl
                have z2 := pw_cell_below (below_step VV.out.2.1 hW) D.out.1
                have z3 := pw_cell_below (below_step VV.out.2.1 hW) D.out.2.1
                have z4 := pw_cell_below (below_step VV.out.2.1 hW) D.out.2.2
                have z5 := pw_cell_below (below_step VV.out.2.1 hW) E0.out
                intro Q2 K2 hK2
                simp only [XInv.puts, XPrint.pw]
                go_simp
                exact hK2.out (.bool false) w' ⟨bq, rfl, (by intros; first | rfl | trivial), hW⟩
              · refine XInv.yes_tab [(92, 2)] (by kernel_rfl) ?_
                have kz := blk_below VV.out.1 hW
                have z0 := (blk_cell kz 0).trans rfl
                have z1 := (blk_cell kz 1).trans rfl
                have z2 := pw_cell_below (below_step VV.out.2.1 hW) D.out.1
                have z3 := pw_cell_below (below_step VV.out.2.1 hW) D.out.2.1
                have z4 := pw_cell_below (below_step VV.out.2.1 hW) D.out.2.2
                have z5 := pw_cell_below (below_step VV.out.2.1 hW) E0.out
                intro Q2 K2 hK2
                simp only [XInv.puts, XPrint.pw]
                go_simp
                exact hK2.out (.int .i64 s2) w' ⟨bq, rfl, (by intros; first | rfl | trivial), hW⟩
              · refine XInv.yes_tab [(93, 3), (92, 2)] (by kernel_rfl) ?_
                have kz := blk_below VV.out.1 hW
                have z0 := (blk_cell kz 0).trans rfl
                have z1 := (blk_cell kz 1).trans rfl
                have z2 := pw_cell_below (below_step VV.out.2.1 hW) D.out.1
                have z3 := pw_cell_below (below_step VV.out.2.1 hW) D.out.2.1
                have z4 := pw_cell_below (below_step VV.out.2.1 hW) D.out.2.2
                have z5 := pw_cell_below (below_step VV.out.2.1 hW) E0.out
                intro Q2 K2 hK2
                simp only [XInv.puts, XPrint.pw]
                go_simp
                exact hK2.out (.bool false) w' ⟨bq, rfl, (by intros; first | rfl | trivial), hW⟩
              · refine XInv.yes_tab [(94, 4), (92, 2)] (by kernel_rfl) ?_
                have kz := blk_below VV.out.1 hW
                have z0 := (blk_cell kz 0).trans rfl
                have z1 := (blk_cell kz 1).trans rfl
                have z2 := pw_cell_below (below_step VV.out.2.1 hW) D.out.1
                have z3 := pw_cell_below (below_step VV.out.2.1 hW) D.out.2.1
                have z4 := pw_cell_below (below_step VV.out.2.1 hW) D.out.2.2
                have z5 := pw_cell_below (below_step VV.out.2.1 hW) E0.out
                intro Q2 K2 hK2
                simp only [XInv.puts, XPrint.pw]
                go_simp
                exact hK2.out (.bool false) w' ⟨bq, rfl, (by intros; first | rfl | trivial), hW⟩
              · refine XInv.yes_tab [(95, 5)] (by kernel_rfl) ?_
                have kz := blk_below VV.out.1 hW
                have z0 := (blk_cell kz 0).trans rfl
                have z1 := (blk_cell kz 1).trans rfl
                have z2 := pw_cell_below (below_step VV.out.2.1 hW) D.out.1
                have z3 := pw_cell_below (below_step VV.out.2.1 hW) D.out.2.1
                have z4 := pw_cell_below (below_step VV.out.2.1 hW) D.out.2.2
                have z5 := pw_cell_below (below_step VV.out.2.1 hW) E0.out
                intro Q2 K2 hK2
                simp only [XInv.puts, XPrint.pw]
                refine XInv.no_want (by kernel_rfl) ?_
                exact hK2.out undef w' ⟨bq, rfl, (by intros; first | rfl | trivial), hW⟩
              · refine XInv.yes_tab [(95, 5)] (by kernel_rfl) ?_
                have kz := blk_below VV.out.1 hW
                have z0 := (blk_cell kz 0).trans rfl
                have z1 := (blk_cell kz 1).trans rfl
                have z2 := pw_cell_below (below_step VV.out.2.1 hW) D.out.1
                have z3 := pw_cell_below (below_step VV.out.2.1 hW) D.out.2.1
                have z4 := pw_cell_below (below_step VV.out.2.1 hW) D.out.2.2
                have z5 := pw_cell_below (below_step VV.out.2.1 hW) E0.out
                intro Q2 K2 hK2
                simp only [XInv.puts, XPrint.pw]
                refine XInv.no_want (by kernel_rfl) ?_
                exact hK2.out undef w' ⟨bq, rfl, (by intros; first | rfl | trivial), hW⟩
              · refine XInv.yes_tab [(95, 5)] (by kernel_rfl) ?_
                have kz := blk_below VV.out.1 hW
                have z0 := (blk_cell kz 0).trans rfl
                have z1 := (blk_cell kz 1).trans rfl
                have z2 := pw_cell_below (below_step VV.out.2.1 hW) D.out.1
                have z3 := pw_cell_below (below_step VV.out.2.1 hW) D.out.2.1
                have z4 := pw_cell_below (below_step VV.out.2.1 hW) D.out.2.2
                have z5 := pw_cell_below (below_step VV.out.2.1 hW) E0.out
                intro Q2 K2 hK2
                simp only [XInv.puts, XPrint.pw]
                refine XInv.no_want (by kernel_rfl) ?_
                exact hK2.out undef w' ⟨bq, rfl, (by intros; first | rfl | trivial), hW⟩
              · refine XInv.yes_tab [(98, 8), (97, 7), (95, 5)] (by kernel_rfl) ?_
                have kz := blk_below VV.out.1 hW
                have z0 := (blk_cell kz 0).trans rfl
                have z1 := (blk_cell kz 1).trans rfl
                have z2 := pw_cell_below (below_step VV.out.2.1 hW) D.out.1
                have z3 := pw_cell_below (below_step VV.out.2.1 hW) D.out.2.1
                have z4 := pw_cell_below (below_step VV.out.2.1 hW) D.out.2.2
                have z5 := pw_cell_below (below_step VV.out.2.1 hW) E0.out
                intro Q2 K2 hK2
                simp only [XInv.puts, XPrint.pw]
                refine XInv.no_want (by kernel_rfl) ?_
                exact hK2.out undef w' ⟨bq, rfl, (by intros; first | rfl | trivial), hW⟩
              · refine XInv.yes_tab [(99, 9), (95, 5)] (by kernel_rfl) ?_
                have kz := blk_below VV.out.1 hW
                have z0 := (blk_cell kz 0).trans rfl
                have z1 := (blk_cell kz 1).trans rfl
                have z2 := pw_cell_below (below_step VV.out.2.1 hW) D.out.1
                have z3 := pw_cell_below (below_step VV.out.2.1 hW) D.out.2.1
                have z4 := pw_cell_below (below_step VV.out.2.1 hW) D.out.2.2
                have z5 := pw_cell_below (below_step VV.out.2.1 hW) E0.out
                intro Q2 K2 hK2
                simp only [XInv.puts, XPrint.pw]
                refine XInv.no_want (by kernel_rfl) ?_
                exact hK2.out undef w' ⟨bq, rfl, (by intros; first | rfl | trivial), hW⟩
              · refine XInv.yes_tab [(100, 10), (95, 5)] (by kernel_rfl) ?_
                have kz := blk_below VV.out.1 hW
                have z0 := (blk_cell kz 0).trans rfl
                have z1 := (blk_cell kz 1).trans rfl
                have z2 := pw_cell_below (below_step VV.out.2.1 hW) D.out.1
                have z3 := pw_cell_below (below_step VV.out.2.1 hW) D.out.2.1
                have z4 := pw_cell_below (below_step VV.out.2.1 hW) D.out.2.2
                have z5 := pw_cell_below (below_step VV.out.2.1 hW) E0.out
                intro Q2 K2 hK2
                simp only [XInv.puts, XPrint.pw]
                refine XInv.no_want (by kernel_rfl) ?_
                exact hK2.out undef w' ⟨bq, rfl, (by intros; first | rfl | trivial), hW⟩
              · refine XInv.yes_tab [(101, 11), (96, 6), (95, 5)] (by kernel_rfl) ?_
                have kz := blk_below VV.out.1 hW
                have z0 := (blk_cell kz 0).trans rfl
                have z1 := (blk_cell kz 1).trans rfl
                have z2 := pw_cell_below (below_step VV.out.2.1 hW) D.out.1
                have z3 := pw_cell_below (below_step VV.out.2.1 hW) D.out.2.1
                have z4 := pw_cell_below (below_step VV.out.2.1 hW) D.out.2.2
                have z5 := pw_cell_below (below_step VV.out.2.1 hW) E0.out
                intro Q2 K2 hK2
                simp only [XInv.puts, XPrint.pw]
                refine XInv.no_want (by kernel_rfl) ?_
                exact hK2.out undef w' ⟨bq, rfl, (by intros; first | rfl | trivial), hW⟩
              · refine XInv.yes_tab [(102, 12), (95, 5), (92, 2)] (by kernel_rfl) ?_
                have kz := blk_below VV.out.1 hW
                have z0 := (blk_cell kz 0).trans rfl
                have z1 := (blk_cell kz 1).trans rfl
                have z2 := pw_cell_below (below_step VV.out.2.1 hW) D.out.1
                have z3 := pw_cell_below (below_step VV.out.2.1 hW) D.out.2.1
                have z4 := pw_cell_below (below_step VV.out.2.1 hW) D.out.2.2
                have z5 := pw_cell_below (below_step VV.out.2.1 hW) E0.out
                intro Q2 K2 hK2
                simp only [XInv.puts, XPrint.pw]
                go_simp
                exact hK2.out (.bool false) w' ⟨bq, rfl, (by intros; first | rfl | trivial), hW⟩
              · refine XInv.yes_tab [(103, 13), (92, 2)] (by kernel_rfl) ?_
                have kz := blk_below VV.out.1 hW
                have z0 := (blk_cell kz 0).trans rfl
                have z1 := (blk_cell kz 1).trans rfl
                have z2 := pw_cell_below (below_step VV.out.2.1 hW) D.out.1
                have z3 := pw_cell_below (below_step VV.out.2.1 hW) D.out.2.1
                have z4 := pw_cell_below (below_step VV.out.2.1 hW) D.out.2.2
                have z5 := pw_cell_below (below_step VV.out.2.1 hW) E0.out
                intro Q2 K2 hK2
                simp only [XInv.puts, XPrint.pw]
                go_simp
                exact hK2.out (.bool false) w' ⟨bq, rfl, (by intros; first | rfl | trivial), hW⟩
              · refine XInv.yes_tab [(104, 14), (102, 12)] (by kernel_rfl) ?_
                have kz := blk_below VV.out.1 hW
                have z0 := (blk_cell kz 0).trans rfl
                have z1 := (blk_cell kz 1).trans rfl
                have z2 := pw_cell_below (below_step VV.out.2.1 hW) D.out.1
                have z3 := pw_cell_below (below_step VV.out.2.1 hW) D.out.2.1
                have z4 := pw_cell_below (below_step VV.out.2.1 hW) D.out.2.2
                have z5 := pw_cell_below (below_step VV.out.2.1 hW) E0.out
                intro Q2 K2 hK2
                simp only [XInv.puts, XPrint.pw]
                go_simp
                exact hK2.out (.bool false) w' ⟨bq, rfl, (by intros; first | rfl | trivial), hW⟩
              · refine XInv.yes_tab [(105, 15)] (by kernel_rfl) ?_
                have kz := blk_below VV.out.1 hW
                have z0 := (blk_cell kz 0).trans rfl
                have z1 := (blk_cell kz 1).trans rfl
                have z2 := pw_cell_below (below_step VV.out.2.1 hW) D.out.1
                have z3 := pw_cell_below (below_step VV.out.2.1 hW) D.out.2.1
                have z4 := pw_cell_below (below_step VV.out.2.1 hW) D.out.2.2
                have z5 := pw_cell_below (below_step VV.out.2.1 hW) E0.out
                intro Q2 K2 hK2
                simp only [XInv.puts, XPrint.pw]
                go_simp
                exact hK2.out (.int .i64 n) w' ⟨bq, rfl, (by intros; first | rfl | trivial), hW⟩
              · refine XInv.yes_tab [(106, 16), (105, 15)] (by kernel_rfl) ?_
                have kz := blk_below VV.out.1 hW
                have z0 := (blk_cell kz 0).trans rfl
                have z1 := (blk_cell kz 1).trans rfl
                have z2 := pw_cell_below (below_step VV.out.2.1 hW) D.out.1
                have z3 := pw_cell_below (below_step VV.out.2.1 hW) D.out.2.1
                have z4 := pw_cell_below (below_step VV.out.2.1 hW) D.out.2.2
                have z5 := pw_cell_below (below_step VV.out.2.1 hW) E0.out
                intro Q2 K2 hK2
                simp only [XInv.puts, XPrint.pw]
                go_simp
                exact hK2.out (.bool false) w' ⟨bq, rfl, (by intros; first | rfl | trivial), hW⟩
              · refine XInv.yes_tab [(107, 17), (105, 15)] (by kernel_rfl) ?_
                have kz := blk_below VV.out.1 hW
                have z0 := (blk_cell kz 0).trans rfl
                have z1 := (blk_cell kz 1).trans rfl
                have z2 := pw_cell_below (below_step VV.out.2.1 hW) D.out.1
                have z3 := pw_cell_below (below_step VV.out.2.1 hW) D.out.2.1
                have z4 := pw_cell_below (below_step VV.out.2.1 hW) D.out.2.2
                have z5 := pw_cell_below (below_step VV.out.2.1 hW) E0.out
                intro Q2 K2 hK2
                simp only [XInv.puts, XPrint.pw]
                go_simp
                exact hK2.out (.bool false) w' ⟨bq, rfl, (by intros; first | rfl | trivial), hW⟩
              · refine XInv.yes_tab [(108, 18), (105, 15)] (by kernel_rfl) ?_
                have kz := blk_below VV.out.1 hW
                have z0 := (blk_cell kz 0).trans rfl
                have z1 := (blk_cell kz 1).trans rfl
                have z2 := pw_cell_below (below_step VV.out.2.1 hW) D.out.1
                have z3 := pw_cell_below (below_step VV.out.2.1 hW) D.out.2.1
                have z4 := pw_cell_below (below_step VV.out.2.1 hW) D.out.2.2
                have z5 := pw_cell_below (below_step VV.out.2.1 hW) E0.out
                intro Q2 K2 hK2
                simp only [XInv.puts, XPrint.pw]
                go_simp
                exact hK2.out (.bool false) w' ⟨bq, rfl, (by intros; first | rfl | trivial), hW⟩
              · refine XInv.yes_tab [(109, 19)] (by kernel_rfl) ?_
                have kz := blk_below VV.out.1 hW
                have z0 := (blk_cell kz 0).trans rfl
                have z1 := (blk_cell kz 1).trans rfl
                have z2 := pw_cell_below (below_step VV.out.2.1 hW) D.out.1
                have z3 := pw_cell_below (below_step VV.out.2.1 hW) D.out.2.1
                have z4 := pw_cell_below (below_step VV.out.2.1 hW) D.out.2.2
                have z5 := pw_cell_below (below_step VV.out.2.1 hW) E0.out
                intro Q2 K2 hK2
                simp only [XInv.puts, XPrint.pw]
                go_simp
                exact hK2.out (.int .i64 i) w' ⟨bq, rfl, (by intros; first | rfl | trivial), hW⟩
              · refine XInv.yes_tab [(110, 20), (109, 19)] (by kernel_rfl) ?_
                have kz := blk_below VV.out.1 hW
                have z0 := (blk_cell kz 0).trans rfl
                have z1 := (blk_cell kz 1).trans rfl
                have z2 := pw_cell_below (below_step VV.out.2.1 hW) D.out.1
                have z3 := pw_cell_below (below_step VV.out.2.1 hW) D.out.2.1
                have z4 := pw_cell_below (below_step VV.out.2.1 hW) D.out.2.2
                have z5 := pw_cell_below (below_step VV.out.2.1 hW) E0.out
                intro Q2 K2 hK2
                simp only [XInv.puts, XPrint.pw]
                go_simp
                exact hK2.out (.bool true) w' ⟨bq, rfl, (by intros; first | rfl | trivial), hW⟩
              · refine XInv.yes_tab [(111, 21), (109, 19)] (by kernel_rfl) ?_
                have kz := blk_below VV.out.1 hW
                have z0 := (blk_cell kz 0).trans rfl
                have z1 := (blk_cell kz 1).trans rfl
                have z2 := pw_cell_below (below_step VV.out.2.1 hW) D.out.1
                have z3 := pw_cell_below (below_step VV.out.2.1 hW) D.out.2.1
                have z4 := pw_cell_below (below_step VV.out.2.1 hW) D.out.2.2
                have z5 := pw_cell_below (below_step VV.out.2.1 hW) E0.out
                intro Q2 K2 hK2
                simp only [XInv.puts, XPrint.pw]
                go_simp
                exact hK2.out (.bool true) w' ⟨bq, rfl, (by intros; first | rfl | trivial), hW⟩
              · refine XInv.yes_tab [(112, 22)] (by kernel_rfl) ?_
                have kz := blk_below VV.out.1 hW
                have z0 := (blk_cell kz 0).trans rfl
                have z1 := (blk_cell kz 1).trans rfl
                have z2 := pw_cell_below (below_step VV.out.2.1 hW) D.out.1
                have z3 := pw_cell_below (below_step VV.out.2.1 hW) D.out.2.1
                have z4 := pw_cell_below (below_step VV.out.2.1 hW) D.out.2.2
                have z5 := pw_cell_below (below_step VV.out.2.1 hW) E0.out
                intro Q2 K2 hK2
                simp only [XInv.puts, XPrint.pw]
                go_simp
                exact hK2.out (.slice (some ad) ns.length c3) w' ⟨bq, rfl, (by intros; first | rfl | trivial), hW⟩
              · refine XInv.yes_tab [(112, 22)] (by kernel_rfl) ?_
                have kz := blk_below VV.out.1 hW
                have z0 := (blk_cell kz 0).trans rfl
                have z1 := (blk_cell kz 1).trans rfl
                have z2 := pw_cell_below (below_step VV.out.2.1 hW) D.out.1
                have z3 := pw_cell_below (below_step VV.out.2.1 hW) D.out.2.1
                have z4 := pw_cell_below (below_step VV.out.2.1 hW) D.out.2.2
                have z5 := pw_cell_below (below_step VV.out.2.1 hW) E0.out
                intro Q2 K2 hK2
                simp only [XInv.puts, XPrint.pw]
                go_simp
                exact hK2.out (.int .i64 i) w' ⟨bq, rfl, (by intros; first | rfl | trivial), hW⟩
              · refine XInv.yes_tab [(114, 24), (112, 22)] (by kernel_rfl) ?_
                have kz := blk_below VV.out.1 hW
                have z0 := (blk_cell kz 0).trans rfl
                have z1 := (blk_cell kz 1).trans rfl
                have z2 := pw_cell_below (below_step VV.out.2.1 hW) D.out.1
                have z3 := pw_cell_below (below_step VV.out.2.1 hW) D.out.2.1
                have z4 := pw_cell_below (below_step VV.out.2.1 hW) D.out.2.2
                have z5 := pw_cell_below (below_step VV.out.2.1 hW) E0.out
                intro Q2 K2 hK2
                simp only [XInv.puts, XPrint.pw]
                go_simp
                exact hK2.out (.int .i64 i2) w' ⟨bq, rfl, (by intros; first | rfl | trivial), hW⟩
              · refine XInv.yes_tab [(115, 25), (113, 23), (112, 22)] (by kernel_rfl) ?_
                have kz := blk_below VV.out.1 hW
                have z0 := (blk_cell kz 0).trans rfl
                have z1 := (blk_cell kz 1).trans rfl
                have z2 := pw_cell_below (below_step VV.out.2.1 hW) D.out.1
                have z3 := pw_cell_below (below_step VV.out.2.1 hW) D.out.2.1
                have z4 := pw_cell_below (below_step VV.out.2.1 hW) D.out.2.2
                have z5 := pw_cell_below (below_step VV.out.2.1 hW) E0.out
                intro Q2 K2 hK2
                simp only [XInv.puts, XPrint.pw]
                go_simp
                exact hK2.out (.pointer (some (ad.add (i2 * 3)))) w' ⟨bq, rfl, (by intros; first | rfl | trivial), hW⟩
              · refine XInv.yes_tab [(116, 26), (112, 22)] (by kernel_rfl) ?_
                have kz := blk_below VV.out.1 hW
                have z0 := (blk_cell kz 0).trans rfl
                have z1 := (blk_cell kz 1).trans rfl
                have z2 := pw_cell_below (below_step VV.out.2.1 hW) D.out.1
                have z3 := pw_cell_below (below_step VV.out.2.1 hW) D.out.2.1
                have z4 := pw_cell_below (below_step VV.out.2.1 hW) D.out.2.2
                have z5 := pw_cell_below (below_step VV.out.2.1 hW) E0.out
                intro Q2 K2 hK2
                simp only [XInv.puts, XPrint.pw]
                go_simp
                exact hK2.out (.pointer (some (ad.add (i2 * 3)))) w' ⟨bq, rfl, (by intros; first | rfl | trivial), hW⟩
              · refine XInv.yes_tab [(117, 27), (112, 22)] (by kernel_rfl) ?_
                have kz := blk_below VV.out.1 hW
                have z0 := (blk_cell kz 0).trans rfl
                have z1 := (blk_cell kz 1).trans rfl
                have z2 := pw_cell_below (below_step VV.out.2.1 hW) D.out.1
                have z3 := pw_cell_below (below_step VV.out.2.1 hW) D.out.2.1
                have z4 := pw_cell_below (below_step VV.out.2.1 hW) D.out.2.2
                have z5 := pw_cell_below (below_step VV.out.2.1 hW) E0.out
                intro Q2 K2 hK2
                simp only [XInv.puts, XPrint.pw]
                go_simp
                exact hK2.out (.int .u32 y0) w' ⟨bq, rfl, (by intros; first | rfl | trivial), hW⟩
              · refine XInv.yes_tab [(112, 22)] (by kernel_rfl) ?_
                have kz := blk_below VV.out.1 hW
                have z0 := (blk_cell kz 0).trans rfl
                have z1 := (blk_cell kz 1).trans rfl
                have z2 := pw_cell_below (below_step VV.out.2.1 hW) D.out.1
                have z3 := pw_cell_below (below_step VV.out.2.1 hW) D.out.2.1
                have z4 := pw_cell_below (below_step VV.out.2.1 hW) D.out.2.2
                have z5 := pw_cell_below (below_step VV.out.2.1 hW) E0.out
                intro Q2 K2 hK2
                simp only [XInv.puts, XPrint.pw]
                go_simp
                exact hK2.out (.slice (some ad) ns.length c3) w' ⟨bq, rfl, (by intros; first | rfl | trivial), hW⟩
              · refine XInv.yes_tab [(112, 22)] (by kernel_rfl) ?_
                have kz := blk_below VV.out.1 hW
                have z0 := (blk_cell kz 0).trans rfl
                have z1 := (blk_cell kz 1).trans rfl
                have z2 := pw_cell_below (below_step VV.out.2.1 hW) D.out.1
                have z3 := pw_cell_below (below_step VV.out.2.1 hW) D.out.2.1
                have z4 := pw_cell_below (below_step VV.out.2.1 hW) D.out.2.2
                have z5 := pw_cell_below (below_step VV.out.2.1 hW) E0.out
                intro Q2 K2 hK2
                simp only [XInv.puts, XPrint.pw]
                go_simp
                exact hK2.out (.int .i64 i) w' ⟨bq, rfl, (by intros; first | rfl | trivial), hW⟩
              · refine XInv.yes_tab [(120, 30), (119, 29), (112, 22)] (by kernel_rfl) ?_
                have kz := blk_below VV.out.1 hW
                have z0 := (blk_cell kz 0).trans rfl
                have z1 := (blk_cell kz 1).trans rfl
                have z2 := pw_cell_below (below_step VV.out.2.1 hW) D.out.1
                have z3 := pw_cell_below (below_step VV.out.2.1 hW) D.out.2.1
                have z4 := pw_cell_below (below_step VV.out.2.1 hW) D.out.2.2
                have z5 := pw_cell_below (below_step VV.out.2.1 hW) E0.out
                intro Q2 K2 hK2
                simp only [XInv.puts, XPrint.pw]
                go_simp
                exact hK2.out (.pointer (some (ad.add (i * 3)))) w' ⟨bq, rfl, (by intros; first | rfl | trivial), hW⟩
              · refine XInv.yes_tab [(121, 31), (112, 22)] (by kernel_rfl) ?_
                have kz := blk_below VV.out.1 hW
                have z0 := (blk_cell kz 0).trans rfl
                have z1 := (blk_cell kz 1).trans rfl
                have z2 := pw_cell_below (below_step VV.out.2.1 hW) D.out.1
                have z3 := pw_cell_below (below_step VV.out.2.1 hW) D.out.2.1
                have z4 := pw_cell_below (below_step VV.out.2.1 hW) D.out.2.2
                have z5 := pw_cell_below (below_step VV.out.2.1 hW) E0.out
                intro Q2 K2 hK2
                simp only [XInv.puts, XPrint.pw]
                go_simp
                exact hK2.out (.pointer (some (ad.add (i * 3)))) w' ⟨bq, rfl, (by intros; first | rfl | trivial), hW⟩
              · refine XInv.yes_tab [(122, 32), (112, 22)] (by kernel_rfl) ?_
                have kz := blk_below VV.out.1 hW
                have z0 := (blk_cell kz 0).trans rfl
                have z1 := (blk_cell kz 1).trans rfl
                have z2 := pw_cell_below (below_step VV.out.2.1 hW) D.out.1
                have z3 := pw_cell_below (below_step VV.out.2.1 hW) D.out.2.1
                have z4 := pw_cell_below (below_step VV.out.2.1 hW) D.out.2.2
                have z5 := pw_cell_below (below_step VV.out.2.1 hW) E0.out
                intro Q2 K2 hK2
                simp only [XInv.puts, XPrint.pw]
                go_simp
                exact hK2.out (.int .u32 x0) w' ⟨bq, rfl, (by intros; first | rfl | trivial), hW⟩
              · refine XInv.yes_tab [(123, 33), (118, 28), (112, 22)] (by kernel_rfl) ?_
                have kz := blk_below VV.out.1 hW
                have z0 := (blk_cell kz 0).trans rfl
                have z1 := (blk_cell kz 1).trans rfl
                have z2 := pw_cell_below (below_step VV.out.2.1 hW) D.out.1
                have z3 := pw_cell_below (below_step VV.out.2.1 hW) D.out.2.1
                have z4 := pw_cell_below (below_step VV.out.2.1 hW) D.out.2.2
                have z5 := pw_cell_below (below_step VV.out.2.1 hW) E0.out
                intro Q2 K2 hK2
                simp only [XInv.puts, XPrint.pw]
                go_simp
                exact hK2.out (.bool false) w' ⟨bq, rfl, (by intros; first | rfl | trivial), hW⟩
              · refine XInv.yes_tab [(124, 34), (112, 22), (109, 19)] (by kernel_rfl) ?_
                have kz := blk_below VV.out.1 hW
                have z0 := (blk_cell kz 0).trans rfl
                have z1 := (blk_cell kz 1).trans rfl
                have z2 := pw_cell_below (below_step VV.out.2.1 hW) D.out.1
                have z3 := pw_cell_below (below_step VV.out.2.1 hW) D.out.2.1
                have z4 := pw_cell_below (below_step VV.out.2.1 hW) D.out.2.2
                have z5 := pw_cell_below (below_step VV.out.2.1 hW) E0.out
                intro Q2 K2 hK2
                simp only [XInv.puts, XPrint.pw]
                go_simp
                exact hK2.out (.bool false) w' ⟨bq, rfl, (by intros; first | rfl | trivial), hW⟩
              · refine XInv.yes_tab [(125, 35), (109, 19)] (by kernel_rfl) ?_
                have kz := blk_below VV.out.1 hW
                have z0 := (blk_cell kz 0).trans rfl
                have z1 := (blk_cell kz 1).trans rfl
                have z2 := pw_cell_below (below_step VV.out.2.1 hW) D.out.1
                have z3 := pw_cell_below (below_step VV.out.2.1 hW) D.out.2.1
                have z4 := pw_cell_below (below_step VV.out.2.1 hW) D.out.2.2
                have z5 := pw_cell_below (below_step VV.out.2.1 hW) E0.out
                intro Q2 K2 hK2
                simp only [XInv.puts, XPrint.pw]
                go_simp
                exact hK2.out (.bool false) w' ⟨bq, rfl, (by intros; first | rfl | trivial), hW⟩
            · intro bq w' hW
              refine XInv.end_nil [(126, 36), (125, 35), (124, 34), (123, 33), (122, 32), (121, 31), (120, 30), (119, 29), (118, 28), (117, 27), (116, 26), (115, 25), (114, 24), (113, 23), (112, 22), (111, 21), (110, 20), (109, 19), (108, 18), (107, 17), (106, 16), (105, 15), (104, 14), (103, 13), (102, 12), (101, 11), (100, 10), (99, 9), (98, 8), (97, 7), (96, 6), (95, 5), (94, 4), (93, 3), (92, 2), (91, 1), (90, 0)] (by kernel_rfl) (by kernel_rfl) ?_
              simp only [XInv.puts, XPrint.pw]
              have HE := Aside0.mk (And.intro (below_step VV.out.2.1 hW) (blk_below VV.out.2.2 hW))
              clear hW
              go_wp2
              go_roundg (ns.length - (i + 1))
              case measure => omega
              case rel => exact ⟨i + 1, _, _, rfl, by go_num, by omega, SS.out.1, SS.out.2, HE.out.1, HE.out.2⟩
          · have LEF := Aside0.mk ((refLE s0 s1 x1 x2).trans (congrArg some hle))
            replace hs : (s2 == 0) = true := by simp [hs]
            clear hle
            refine XInv.region_tab [] [[], [0], [1], [2], [3, 2], [4, 2, 2], [5], [5], [5], [7, 8, 5], [9, 5], [10, 5], [6, 11, 5, 5], [5, 12, 2], [2, 13], [14, 12], [15], [16, 15], [15, 17], [18, 15], [19], [20, 19], [21, 19, 19], [22], [22], [24, 22], [23, 25, 22], [26, 22], [27, 22], [22], [22], [29, 30, 22], [31, 22], [32, 22], [28, 33, 22], [22, 34, 19], [19, 35]] (fun bq jq => match jq with
                | 0 => .int .i64 0
                | 1 => .bool false
                | 2 => .bool false
                | 3 => .int .i64 s2
                | 4 => .bool true
                | 5 => .bool true
                | 6 => .agg #[.int .i64 s0, .int .i64 s1]
                | 7 => .slice (some ad) ns.length c3
                | 8 => .int .i64 i
                | 9 => .pointer (some (ad.add (i * 3)))
                | 10 => .pointer (some ⟨(ad.add (i * 3)).block, (ad.add (i * 3)).off + 1, none⟩)
                | 11 => .agg #[.int .i64 x1, .int .i64 x2]
                | 12 => .bool false
                | 13 => .bool false
                | 14 => .bool false
                | 15 => .bool false
                | 16 => .int .i64 n
                | 17 => .bool false
                | 18 => .bool false
                | 19 => .bool false
                | 20 => .int .i64 i
                | 21 => .bool true
                | 22 => .bool true
                | 23 => .slice (some ad) ns.length c3
                | 24 => .int .i64 i
                | 25 => .int .i64 i2
                | 26 => .pointer (some (ad.add (i2 * 3)))
                | 27 => .pointer (some (ad.add (i2 * 3)))
                | 28 => .int .u32 y0
                | 29 => .slice (some ad) ns.length c3
                | 30 => .int .i64 i
                | 31 => .pointer (some (ad.add (i * 3)))
                | 32 => .pointer (some (ad.add (i * 3)))
                | 33 => .int .u32 x0
                | 34 => .bool false
                | 35 => .bool false
                | 36 => .bool false
                | _ => undef)
                (fun bq l w' => Below WA.heap.size WA w')
                (by kernel_rfl) rfl (by kernel_rfl) (by kernel_rfl) (by kernel_rfl) ⟨fun _ : Nat => (0 : Nat), below_drew (Below.refl _ _)⟩ ?_ ?_
            · intro i1 hi1 hds oi hoi bq lb w' hW hlb hcl hneed hclo
              have hi1 : i1 < 37 := hi1
              have hcs : i1 = 0 ∨ i1 = 1 ∨ i1 = 2 ∨ i1 = 3 ∨ i1 = 4 ∨ i1 = 5 ∨ i1 = 6 ∨ i1 = 7 ∨ i1 = 8 ∨ i1 = 9 ∨ i1 = 10 ∨ i1 = 11 ∨ i1 = 12 ∨ i1 = 13 ∨ i1 = 14 ∨ i1 = 15 ∨ i1 = 16 ∨ i1 = 17 ∨ i1 = 18 ∨ i1 = 19 ∨ i1 = 20 ∨ i1 = 21 ∨ i1 = 22 ∨ i1 = 23 ∨ i1 = 24 ∨ i1 = 25 ∨ i1 = 26 ∨ i1 = 27 ∨ i1 = 28 ∨ i1 = 29 ∨ i1 = 30 ∨ i1 = 31 ∨ i1 = 32 ∨ i1 = 33 ∨ i1 = 34 ∨ i1 = 35 ∨ i1 = 36 := by omega
              clear hi1 hcl hneed hclo
              have kz := blk_below VV.out.1 hW
              have z0 := (blk_cell kz 0).trans rfl
              have z1 := (blk_cell kz 1).trans rfl
              have z2 := pw_cell_below (below_step VV.out.2.1 hW) D.out.1
              have z3 := pw_cell_below (below_step VV.out.2.1 hW) D.out.2.1
              have z4 := pw_cell_below (below_step VV.out.2.1 hW) D.out.2.2
              have z5 := pw_cell_below (below_step VV.out.2.1 hW) E0.out
              rcases hcs with rfl | rfl | rfl | rfl | rfl | rfl | rfl | rfl | rfl | rfl | rfl | rfl | rfl | rfl | rfl | rfl | rfl | rfl | rfl | rfl | rfl | rfl | rfl | rfl | rfl | rfl | rfl | rfl | rfl | rfl | rfl | rfl | rfl | rfl | rfl | rfl | rfl
              all_goals simp only [List.getElem?_toArray, List.getElem?_cons_succ, List.getElem?_cons_zero, Option.some.injEq] at hoi
              all_goals subst hoi
              · refine XInv.yes_tab [] (by kernel_rfl) ?_
                have kz := blk_below VV.out.1 hW
                have z0 := (blk_cell kz 0).trans rfl
                have z1 := (blk_cell kz 1).trans rfl
                have z2 := pw_cell_below (below_step VV.out.2.1 hW) D.out.1
                have z3 := pw_cell_below (below_step VV.out.2.1 hW) D.out.2.1
                have z4 := pw_cell_below (below_step VV.out.2.1 hW) D.out.2.2
                have z5 := pw_cell_below (below_step VV.out.2.1 hW) E0.out
                intro Q2 K2 hK2
                simp only [XInv.puts, XPrint.pw]
                go_simp
                exact hK2.out (.int .i64 0) w' ⟨bq, rfl, (by intros; first | rfl | trivial), hW⟩
              · refine XInv.yes_tab [(90, 0)] (by kernel_rfl) ?_
                have kz := blk_below VV.out.1 hW
                have z0 := (blk_cell kz 0).trans rfl
                have z1 := (blk_cell kz 1).trans rfl
                have z2 := pw_cell_below (below_step VV.out.2.1 hW) D.out.1
                have z3 := pw_cell_below (below_step VV.out.2.1 hW) D.out.2.1
                have z4 := pw_cell_below (below_step VV.out.2.1 hW) D.out.2.2
                have z5 := pw_cell_below (below_step VV.out.2.1 hW) E0.out
                intro Q2 K2 hK2
                simp only [XInv.puts, XPrint.pw]
                go_simp
                exact hK2.out (.bool false) w' ⟨bq, rfl, (by intros; first | rfl | trivial), hW⟩
              · refine XInv.yes_tab [(91, 1)] (by kernel_rfl) ?_
                have kz := blk_below VV.out.1 hW
                have z0 := (blk_cell kz 0).trans rfl
                have z1 := (blk_cell kz 1).trans rfl
                have z2 := pw_cell_below (below_step VV.out.2.1 hW) D.out.1
                have z3 := pw_cell_below (below_step VV.out.2.1 hW) D.out.2.1
                have z4 := pw_cell_below (below_step VV.out.2.1 hW) D.out.2.2
                have z5 := pw_cell_below (below_step VV.out.2.1 hW) E0.out
                intro Q2 K2 hK2
                simp only [XInv.puts, XPrint.pw]
                go_simp
                exact hK2.out (.bool false) w' ⟨bq, rfl, (by intros; first | rfl | trivial), hW⟩
              · refine XInv.yes_tab [(92, 2)] (by kernel_rfl) ?_
                have kz := blk_below VV.out.1 hW
                have z0 := (blk_cell kz 0).trans rfl
                have z1 := (blk_cell kz 1).trans rfl
                have z2 := pw_cell_below (below_step VV.out.2.1 hW) D.out.1
                have z3 := pw_cell_below (below_step VV.out.2.1 hW) D.out.2.1
                have z4 := pw_cell_below (below_step VV.out.2.1 hW) D.out.2.2
                have z5 := pw_cell_below (below_step VV.out.2.1 hW) E0.out
                intro Q2 K2 hK2
                simp only [XInv.puts, XPrint.pw]
                go_simp
                exact hK2.out (.int .i64 s2) w' ⟨bq, rfl, (by intros; first | rfl | trivial), hW⟩
              · refine XInv.yes_tab [(93, 3), (92, 2)] (by kernel_rfl) ?_
                have kz := blk_below VV.out.1 hW
                have z0 := (blk_cell kz 0).trans rfl
                have z1 := (blk_cell kz 1).trans rfl
                have z2 := pw_cell_below (below_step VV.out.2.1 hW) D.out.1
                have z3 := pw_cell_below (below_step VV.out.2.1 hW) D.out.2.1
                have z4 := pw_cell_below (below_step VV.out.2.1 hW) D.out.2.2
                have z5 := pw_cell_below (below_step VV.out.2.1 hW) E0.out
                intro Q2 K2 hK2
                simp only [XInv.puts, XPrint.pw]
                go_simp
                exact hK2.out (.bool true) w' ⟨bq, rfl, (by intros; first | rfl | trivial), hW⟩
              · refine XInv.yes_tab [(94, 4), (92, 2)] (by kernel_rfl) ?_
                have kz := blk_below VV.out.1 hW
                have z0 := (blk_cell kz 0).trans rfl
                have z1 := (blk_cell kz 1).trans rfl
                have z2 := pw_cell_below (below_step VV.out.2.1 hW) D.out.1
                have z3 := pw_cell_below (below_step VV.out.2.1 hW) D.out.2.1
                have z4 := pw_cell_below (below_step VV.out.2.1 hW) D.out.2.2
                have z5 := pw_cell_below (below_step VV.out.2.1 hW) E0.out
                intro Q2 K2 hK2
                simp only [XInv.puts, XPrint.pw]
                go_simp
                exact hK2.out (.bool true) w' ⟨bq, rfl, (by intros; first | rfl | trivial), hW⟩
              · refine XInv.yes_tab [(95, 5)] (by kernel_rfl) ?_
                have kz := blk_below VV.out.1 hW
                have z0 := (blk_cell kz 0).trans rfl
                have z1 := (blk_cell kz 1).trans rfl
                have z2 := pw_cell_below (below_step VV.out.2.1 hW) D.out.1
                have z3 := pw_cell_below (below_step VV.out.2.1 hW) D.out.2.1
                have z4 := pw_cell_below (below_step VV.out.2.1 hW) D.out.2.2
                have z5 := pw_cell_below (below_step VV.out.2.1 hW) E0.out
                intro Q2 K2 hK2
                simp only [XInv.puts, XPrint.pw]
                go_simp
                exact hK2.out (.agg #[.int .i64 s0, .int .i64 s1]) w' ⟨bq, rfl, (by intros; first | rfl | trivial), hW⟩
              · refine XInv.yes_tab [(95, 5)] (by kernel_rfl) ?_
                have kz := blk_below VV.out.1 hW
                have z0 := (blk_cell kz 0).trans rfl
                have z1 := (blk_cell kz 1).trans rfl
                have z2 := pw_cell_below (below_step VV.out.2.1 hW) D.out.1
                have z3 := pw_cell_below (below_step VV.out.2.1 hW) D.out.2.1
                have z4 := pw_cell_below (below_step VV.out.2.1 hW) D.out.2.2
                have z5 := pw_cell_below (below_step VV.out.2.1 hW) E0.out
                intro Q2 K2 hK2
                simp only [XInv.puts, XPrint.pw]
                go_simp
                exact hK2.out (.slice (some ad) ns.length c3) w' ⟨bq, rfl, (by intros; first | rfl | trivial), hW⟩
              · refine XInv.yes_tab [(95, 5)] (by kernel_rfl) ?_
                have kz := blk_below VV.out.1 hW
                have z0 := (blk_cell kz 0).trans rfl
                have z1 := (blk_cell kz 1).trans rfl
                have z2 := pw_cell_below (below_step VV.out.2.1 hW) D.out.1
                have z3 := pw_cell_below (below_step VV.out.2.1 hW) D.out.2.1
                have z4 := pw_cell_below (below_step VV.out.2.1 hW) D.out.2.2
                have z5 := pw_cell_below (below_step VV.out.2.1 hW) E0.out
                intro Q2 K2 hK2
                simp only [XInv.puts, XPrint.pw]
                go_simp
                exact hK2.out (.int .i64 i) w' ⟨bq, rfl, (by intros; first | rfl | trivial), hW⟩
              · refine XInv.yes_tab [(98, 8), (97, 7), (95, 5)] (by kernel_rfl) ?_
                have kz := blk_below VV.out.1 hW
                have z0 := (blk_cell kz 0).trans rfl
                have z1 := (blk_cell kz 1).trans rfl
                have z2 := pw_cell_below (below_step VV.out.2.1 hW) D.out.1
                have z3 := pw_cell_below (below_step VV.out.2.1 hW) D.out.2.1
                have z4 := pw_cell_below (below_step VV.out.2.1 hW) D.out.2.2
                have z5 := pw_cell_below (below_step VV.out.2.1 hW) E0.out
                intro Q2 K2 hK2
                simp only [XInv.puts, XPrint.pw]
                go_simp
                exact hK2.out (.pointer (some (ad.add (i * 3)))) w' ⟨bq, rfl, (by intros; first | rfl | trivial), hW⟩
              · refine XInv.yes_tab [(99, 9), (95, 5)] (by kernel_rfl) ?_
                have kz := blk_below VV.out.1 hW
                have z0 := (blk_cell kz 0).trans rfl
                have z1 := (blk_cell kz 1).trans rfl
                have z2 := pw_cell_below (below_step VV.out.2.1 hW) D.out.1
                have z3 := pw_cell_below (below_step VV.out.2.1 hW) D.out.2.1
                have z4 := pw_cell_below (below_step VV.out.2.1 hW) D.out.2.2
                have z5 := pw_cell_below (below_step VV.out.2.1 hW) E0.out
                intro Q2 K2 hK2
                simp only [XInv.puts, XPrint.pw]
                go_simp
                exact hK2.out (.pointer (some ⟨(ad.add (i * 3)).block, (ad.add (i * 3)).off + 1, none⟩)) w' ⟨bq, rfl, (by intros; first | rfl | trivial), hW⟩
              · refine XInv.yes_tab [(100, 10), (95, 5)] (by kernel_rfl) ?_
                have kz := blk_below VV.out.1 hW
                have z0 := (blk_cell kz 0).trans rfl
                have z1 := (blk_cell kz 1).trans rfl
                have z2 := pw_cell_below (below_step VV.out.2.1 hW) D.out.1
                have z3 := pw_cell_below (below_step VV.out.2.1 hW) D.out.2.1
                have z4 := pw_cell_below (below_step VV.out.2.1 hW) D.out.2.2
                have z5 := pw_cell_below (below_step VV.out.2.1 hW) E0.out
                intro Q2 K2 hK2
                simp only [XInv.puts, XPrint.pw]
                go_simp
                exact hK2.out (.agg #[.int .i64 x1, .int .i64 x2]) w' ⟨bq, rfl, (by intros; first | rfl | trivial), hW⟩
              · refine XInv.yes_tab [(101, 11), (96, 6), (95, 5)] (by kernel_rfl) ?_
                have kz := blk_below VV.out.1 hW
                have z0 := (blk_cell kz 0).trans rfl
                have z1 := (blk_cell kz 1).trans rfl
                have z2 := pw_cell_below (below_step VV.out.2.1 hW) D.out.1
                have z3 := pw_cell_below (below_step VV.out.2.1 hW) D.out.2.1
                have z4 := pw_cell_below (below_step VV.out.2.1 hW) D.out.2.2
                have z5 := pw_cell_below (below_step VV.out.2.1 hW) E0.out
                intro Q2 K2 hK2
                simp only [XInv.puts, XPrint.pw]
                go_simp
                go_at_call 26
                (with_reducible refine (PNodeLib.liveryref01_LE.calls s0 s1 x1 x2 false _ LEF.out).mono ?_)
                rintro e wz ⟨rfl, hb⟩
                exact hK2.out (.bool false) wz ⟨bq, rfl, (by intros; first | rfl | trivial), below_step hW hb⟩
              · refine XInv.yes_tab [(102, 12), (95, 5), (92, 2)] (by kernel_rfl) ?_
                have kz := blk_below VV.out.1 hW
                have z0 := (blk_cell kz 0).trans rfl
                have z1 := (blk_cell kz 1).trans rfl
                have z2 := pw_cell_below (below_step VV.out.2.1 hW) D.out.1
                have z3 := pw_cell_below (below_step VV.out.2.1 hW) D.out.2.1
                have z4 := pw_cell_below (below_step VV.out.2.1 hW) D.out.2.2
                have z5 := pw_cell_below (below_step VV.out.2.1 hW) E0.out
                intro Q2 K2 hK2
                simp only [XInv.puts, XPrint.pw]
                go_simp
                exact hK2.out (.bool false) w' ⟨bq, rfl, (by intros; first | rfl | trivial), hW⟩
              · refine XInv.yes_tab [(103, 13), (92, 2)] (by kernel_rfl) ?_
                have kz := blk_below VV.out.1 hW
                have z0 := (blk_cell kz 0).trans rfl
                have z1 := (blk_cell kz 1).trans rfl
                have z2 := pw_cell_below (below_step VV.out.2.1 hW) D.out.1
                have z3 := pw_cell_below (below_step VV.out.2.1 hW) D.out.2.1
                have z4 := pw_cell_below (below_step VV.out.2.1 hW) D.out.2.2
                have z5 := pw_cell_below (below_step VV.out.2.1 hW) E0.out
                intro Q2 K2 hK2
                simp only [XInv.puts, XPrint.pw]
                go_simp
                exact hK2.out (.bool false) w' ⟨bq, rfl, (by intros; first | rfl | trivial), hW⟩
              · refine XInv.yes_tab [(104, 14), (102, 12)] (by kernel_rfl) ?_
                have kz := blk_below VV.out.1 hW
                have z0 := (blk_cell kz 0).trans rfl
                have z1 := (blk_cell kz 1).trans rfl
                have z2 := pw_cell_below (below_step VV.out.2.1 hW) D.out.1
                have z3 := pw_cell_below (below_step VV.out.2.1 hW) D.out.2.1
                have z4 := pw_cell_below (below_step VV.out.2.1 hW) D.out.2.2
                have z5 := pw_cell_below (below_step VV.out.2.1 hW) E0.out
                intro Q2 K2 hK2
                simp only [XInv.puts, XPrint.pw]
                go_simp
                exact hK2.out (.bool false) w' ⟨bq, rfl, (by intros; first | rfl | trivial), hW⟩
              · refine XInv.yes_tab [(105, 15)] (by kernel_rfl) ?_
                have kz := blk_below VV.out.1 hW
                have z0 := (blk_cell kz 0).trans rfl
                have z1 := (blk_cell kz 1).trans rfl
                have z2 := pw_cell_below (below_step VV.out.2.1 hW) D.out.1
                have z3 := pw_cell_below (below_step VV.out.2.1 hW) D.out.2.1
                have z4 := pw_cell_below (below_step VV.out.2.1 hW) D.out.2.2
                have z5 := pw_cell_below (below_step VV.out.2.1 hW) E0.out
                intro Q2 K2 hK2
                simp only [XInv.puts, XPrint.pw]
                go_simp
                exact hK2.out (.int .i64 n) w' ⟨bq, rfl, (by intros; first | rfl | trivial), hW⟩
              · refine XInv.yes_tab [(106, 16), (105, 15)] (by kernel_rfl) ?_
                have kz := blk_below VV.out.1 hW
                have z0 := (blk_cell kz 0).trans rfl
                have z1 := (blk_cell kz 1).trans rfl
                have z2 := pw_cell_below (below_step VV.out.2.1 hW) D.out.1
                have z3 := pw_cell_below (below_step VV.out.2.1 hW) D.out.2.1
                have z4 := pw_cell_below (below_step VV.out.2.1 hW) D.out.2.2
                have z5 := pw_cell_below (below_step VV.out.2.1 hW) E0.out
                intro Q2 K2 hK2
                simp only [XInv.puts, XPrint.pw]
                go_simp
                exact hK2.out (.bool false) w' ⟨bq, rfl, (by intros; first | rfl | trivial), hW⟩
              · refine XInv.yes_tab [(107, 17), (105, 15)] (by kernel_rfl) ?_
                have kz := blk_below VV.out.1 hW
                have z0 := (blk_cell kz 0).trans rfl
                have z1 := (blk_cell kz 1).trans rfl
                have z2 := pw_cell_below (below_step VV.out.2.1 hW) D.out.1
                have z3 := pw_cell_below (below_step VV.out.2.1 hW) D.out.2.1
                have z4 := pw_cell_below (below_step VV.out.2.1 hW) D.out.2.2
                have z5 := pw_cell_below (below_step VV.out.2.1 hW) E0.out
                intro Q2 K2 hK2
                simp only [XInv.puts, XPrint.pw]
                go_simp
                exact hK2.out (.bool false) w' ⟨bq, rfl, (by intros; first | rfl | trivial), hW⟩
              · refine XInv.yes_tab [(108, 18), (105, 15)] (by kernel_rfl) ?_
                have kz := blk_below VV.out.1 hW
                have z0 := (blk_cell kz 0).trans rfl
                have z1 := (blk_cell kz 1).trans rfl
                have z2 := pw_cell_below (below_step VV.out.2.1 hW) D.out.1
                have z3 := pw_cell_below (below_step VV.out.2.1 hW) D.out.2.1
                have z4 := pw_cell_below (below_step VV.out.2.1 hW) D.out.2.2
                have z5 := pw_cell_below (below_step VV.out.2.1 hW) E0.out
                intro Q2 K2 hK2
                simp only [XInv.puts, XPrint.pw]
                go_simp
                exact hK2.out (.bool false) w' ⟨bq, rfl, (by intros; first | rfl | trivial), hW⟩
              · refine XInv.yes_tab [(109, 19)] (by kernel_rfl) ?_
                have kz := blk_below VV.out.1 hW
                have z0 := (blk_cell kz 0).trans rfl
                have z1 := (blk_cell kz 1).trans rfl
                have z2 := pw_cell_below (below_step VV.out.2.1 hW) D.out.1
                have z3 := pw_cell_below (below_step VV.out.2.1 hW) D.out.2.1
                have z4 := pw_cell_below (below_step VV.out.2.1 hW) D.out.2.2
                have z5 := pw_cell_below (below_step VV.out.2.1 hW) E0.out
                intro Q2 K2 hK2
                simp only [XInv.puts, XPrint.pw]
                go_simp
                exact hK2.out (.int .i64 i) w' ⟨bq, rfl, (by intros; first | rfl | trivial), hW⟩
              · refine XInv.yes_tab [(110, 20), (109, 19)] (by kernel_rfl) ?_
                have kz := blk_below VV.out.1 hW
                have z0 := (blk_cell kz 0).trans rfl
                have z1 := (blk_cell kz 1).trans rfl
                have z2 := pw_cell_below (below_step VV.out.2.1 hW) D.out.1
                have z3 := pw_cell_below (below_step VV.out.2.1 hW) D.out.2.1
                have z4 := pw_cell_below (below_step VV.out.2.1 hW) D.out.2.2
                have z5 := pw_cell_below (below_step VV.out.2.1 hW) E0.out
                intro Q2 K2 hK2
                simp only [XInv.puts, XPrint.pw]
                go_simp
                exact hK2.out (.bool true) w' ⟨bq, rfl, (by intros; first | rfl | trivial), hW⟩
              · refine XInv.yes_tab [(111, 21), (109, 19)] (by kernel_rfl) ?_
                have kz := blk_below VV.out.1 hW
                have z0 := (blk_cell kz 0).trans rfl
                have z1 := (blk_cell kz 1).trans rfl
                have z2 := pw_cell_below (below_step VV.out.2.1 hW) D.out.1
                have z3 := pw_cell_below (below_step VV.out.2.1 hW) D.out.2.1
                have z4 := pw_cell_below (below_step VV.out.2.1 hW) D.out.2.2
                have z5 := pw_cell_below (below_step VV.out.2.1 hW) E0.out
                intro Q2 K2 hK2
                simp only [XInv.puts, XPrint.pw]
                go_simp
                exact hK2.out (.bool true) w' ⟨bq, rfl, (by intros; first | rfl | trivial), hW⟩
              · refine XInv.yes_tab [(112, 22)] (by kernel_rfl) ?_
                have kz := blk_below VV.out.1 hW
                have z0 := (blk_cell kz 0).trans rfl
                have z1 := (blk_cell kz 1).trans rfl
                have z2 := pw_cell_below (below_step VV.out.2.1 hW) D.out.1
                have z3 := pw_cell_below (below_step VV.out.2.1 hW) D.out.2.1
                have z4 := pw_cell_below (below_step VV.out.2.1 hW) D.out.2.2
                have z5 := pw_cell_below (below_step VV.out.2.1 hW) E0.out
                intro Q2 K2 hK2
                simp only [XInv.puts, XPrint.pw]
                go_simp
                exact hK2.out (.slice (some ad) ns.length c3) w' ⟨bq, rfl, (by intros; first | rfl | trivial), hW⟩
              · refine XInv.yes_tab [(112, 22)] (by kernel_rfl) ?_
                have kz := blk_below VV.out.1 hW
                have z0 := (blk_cell kz 0).trans rfl
                have z1 := (blk_cell kz 1).trans rfl
                have z2 := pw_cell_below (below_step VV.out.2.1 hW) D.out.1
                have z3 := pw_cell_below (below_step VV.out.2.1 hW) D.out.2.1
                have z4 := pw_cell_below (below_step VV.out.2.1 hW) D.out.2.2
                have z5 := pw_cell_below (below_step VV.out.2.1 hW) E0.out
                intro Q2 K2 hK2
                simp only [XInv.puts, XPrint.pw]
                go_simp
                exact hK2.out (.int .i64 i) w' ⟨bq, rfl, (by intros; first | rfl | trivial), hW⟩
              · refine XInv.yes_tab [(114, 24), (112, 22)] (by kernel_rfl) ?_
                have kz := blk_below VV.out.1 hW
                have z0 := (blk_cell kz 0).trans rfl
                have z1 := (blk_cell kz 1).trans rfl
                have z2 := pw_cell_below (below_step VV.out.2.1 hW) D.out.1
                have z3 := pw_cell_below (below_step VV.out.2.1 hW) D.out.2.1
                have z4 := pw_cell_below (below_step VV.out.2.1 hW) D.out.2.2
                have z5 := pw_cell_below (below_step VV.out.2.1 hW) E0.out
                intro Q2 K2 hK2
                simp only [XInv.puts, XPrint.pw]
                go_simp
                exact hK2.out (.int .i64 i2) w' ⟨bq, rfl, (by intros; first | rfl | trivial), hW⟩
              · refine XInv.yes_tab [(115, 25), (113, 23), (112, 22)] (by kernel_rfl) ?_
                have kz := blk_below VV.out.1 hW
                have z0 := (blk_cell kz 0).trans rfl
                have z1 := (blk_cell kz 1).trans rfl
                have z2 := pw_cell_below (below_step VV.out.2.1 hW) D.out.1
                have z3 := pw_cell_below (below_step VV.out.2.1 hW) D.out.2.1
                have z4 := pw_cell_below (below_step VV.out.2.1 hW) D.out.2.2
                have z5 := pw_cell_below (below_step VV.out.2.1 hW) E0.out
                intro Q2 K2 hK2
                simp only [XInv.puts, XPrint.pw]
                go_simp
                exact hK2.out (.pointer (some (ad.add (i2 * 3)))) w' ⟨bq, rfl, (by intros; first | rfl | trivial), hW⟩
              · refine XInv.yes_tab [(116, 26), (112, 22)] (by kernel_rfl) ?_
                have kz := blk_below VV.out.1 hW
                have z0 := (blk_cell kz 0).trans rfl
                have z1 := (blk_cell kz 1).trans rfl
                have z2 := pw_cell_below (below_step VV.out.2.1 hW) D.out.1
                have z3 := pw_cell_below (below_step VV.out.2.1 hW) D.out.2.1
                have z4 := pw_cell_below (below_step VV.out.2.1 hW) D.out.2.2
                have z5 := pw_cell_below (below_step VV.out.2.1 hW) E0.out
                intro Q2 K2 hK2
                simp only [XInv.puts, XPrint.pw]
                go_simp
                exact hK2.out (.pointer (some (ad.add (i2 * 3)))) w' ⟨bq, rfl, (by intros; first | rfl | trivial), hW⟩
              · refine XInv.yes_tab [(117, 27), (112, 22)] (by kernel_rfl) ?_
                have kz := blk_below VV.out.1 hW
                have z0 := (blk_cell kz 0).trans rfl
                have z1 := (blk_cell kz 1).trans rfl
                have z2 := pw_cell_below (below_step VV.out.2.1 hW) D.out.1
                have z3 := pw_cell_below (below_step VV.out.2.1 hW) D.out.2.1
                have z4 := pw_cell_below (below_step VV.out.2.1 hW) D.out.2.2
                have z5 := pw_cell_below (below_step VV.out.2.1 hW) E0.out
                intro Q2 K2 hK2
                simp only [XInv.puts, XPrint.pw]
                go_simp
                exact hK2.out (.int .u32 y0) w' ⟨bq, rfl, (by intros; first | rfl | trivial), hW⟩
              · refine XInv.yes_tab [(112, 22)] (by kernel_rfl) ?_
                have kz := blk_below VV.out.1 hW
                have z0 := (blk_cell kz 0).trans rfl
                have z1 := (blk_cell kz 1).trans rfl
                have z2 := pw_cell_below (below_step VV.out.2.1 hW) D.out.1
                have z3 := pw_cell_below (below_step VV.out.2.1 hW) D.out.2.1
                have z4 := pw_cell_below (below_step VV.out.2.1 hW) D.out.2.2
                have z5 := pw_cell_below (below_step VV.out.2.1 hW) E0.out
                intro Q2 K2 hK2
                simp only [XInv.puts, XPrint.pw]
                go_simp
                exact hK2.out (.slice (some ad) ns.length c3) w' ⟨bq, rfl, (by intros; first | rfl | trivial), hW⟩
              · refine XInv.yes_tab [(112, 22)] (by kernel_rfl) ?_
                have kz := blk_below VV.out.1 hW
                have z0 := (blk_cell kz 0).trans rfl
                have z1 := (blk_cell kz 1).trans rfl
                have z2 := pw_cell_below (below_step VV.out.2.1 hW) D.out.1
                have z3 := pw_cell_below (below_step VV.out.2.1 hW) D.out.2.1
                have z4 := pw_cell_below (below_step VV.out.2.1 hW) D.out.2.2
                have z5 := pw_cell_below (below_step VV.out.2.1 hW) E0.out
                intro Q2 K2 hK2
                simp only [XInv.puts, XPrint.pw]
                go_simp
                exact hK2.out (.int .i64 i) w' ⟨bq, rfl, (by intros; first | rfl | trivial), hW⟩
              · refine XInv.yes_tab [(120, 30), (119, 29), (112, 22)] (by kernel_rfl) ?_
                have kz := blk_below VV.out.1 hW
                have z0 := (blk_cell kz 0).trans rfl
                have z1 := (blk_cell kz 1).trans rfl
                have z2 := pw_cell_below (below_step VV.out.2.1 hW) D.out.1
                have z3 := pw_cell_below (below_step VV.out.2.1 hW) D.out.2.1
                have z4 := pw_cell_below (below_step VV.out.2.1 hW) D.out.2.2
                have z5 := pw_cell_below (below_step VV.out.2.1 hW) E0.out
                intro Q2 K2 hK2
                simp only [XInv.puts, XPrint.pw]
                go_simp
                exact hK2.out (.pointer (some (ad.add (i * 3)))) w' ⟨bq, rfl, (by intros; first | rfl | trivial), hW⟩
              · refine XInv.yes_tab [(121, 31), (112, 22)] (by kernel_rfl) ?_
                have kz := blk_below VV.out.1 hW
                have z0 := (blk_cell kz 0).trans rfl
                have z1 := (blk_cell kz 1).trans rfl
                have z2 := pw_cell_below (below_step VV.out.2.1 hW) D.out.1
                have z3 := pw_cell_below (below_step VV.out.2.1 hW) D.out.2.1
                have z4 := pw_cell_below (below_step VV.out.2.1 hW) D.out.2.2
                have z5 := pw_cell_below (below_step VV.out.2.1 hW) E0.out
                intro Q2 K2 hK2
                simp only [XInv.puts, XPrint.pw]
                go_simp
                exact hK2.out (.pointer (some (ad.add (i * 3)))) w' ⟨bq, rfl, (by intros; first | rfl | trivial), hW⟩
              · refine XInv.yes_tab [(122, 32), (112, 22)] (by kernel_rfl) ?_
                have kz := blk_below VV.out.1 hW
                have z0 := (blk_cell kz 0).trans rfl
                have z1 := (blk_cell kz 1).trans rfl
                have z2 := pw_cell_below (below_step VV.out.2.1 hW) D.out.1
                have z3 := pw_cell_below (below_step VV.out.2.1 hW) D.out.2.1
                have z4 := pw_cell_below (below_step VV.out.2.1 hW) D.out.2.2
                have z5 := pw_cell_below (below_step VV.out.2.1 hW) E0.out
                intro Q2 K2 hK2
                simp only [XInv.puts, XPrint.pw]
                go_simp
                exact hK2.out (.int .u32 x0) w' ⟨bq, rfl, (by intros; first | rfl | trivial), hW⟩
              · refine XInv.yes_tab [(123, 33), (118, 28), (112, 22)] (by kernel_rfl) ?_
                have kz := blk_below VV.out.1 hW
                have z0 := (blk_cell kz 0).trans rfl
                have z1 := (blk_cell kz 1).trans rfl
                have z2 := pw_cell_below (below_step VV.out.2.1 hW) D.out.1
                have z3 := pw_cell_below (below_step VV.out.2.1 hW) D.out.2.1
                have z4 := pw_cell_below (below_step VV.out.2.1 hW) D.out.2.2
                have z5 := pw_cell_below (below_step VV.out.2.1 hW) E0.out
                intro Q2 K2 hK2
                simp only [XInv.puts, XPrint.pw]
                go_simp
                exact hK2.out (.bool false) w' ⟨bq, rfl, (by intros; first | rfl | trivial), hW⟩
              · refine XInv.yes_tab [(124, 34), (112, 22), (109, 19)] (by kernel_rfl) ?_
                have kz := blk_below VV.out.1 hW
                have z0 := (blk_cell kz 0).trans rfl
                have z1 := (blk_cell kz 1).trans rfl
                have z2 := pw_cell_below (below_step VV.out.2.1 hW) D.out.1
                have z3 := pw_cell_below (below_step VV.out.2.1 hW) D.out.2.1
                have z4 := pw_cell_below (below_step VV.out.2.1 hW) D.out.2.2
                have z5 := pw_cell_below (below_step VV.out.2.1 hW) E0.out
                intro Q2 K2 hK2
                simp only [XInv.puts, XPrint.pw]
                go_simp
                exact hK2.out (.bool false) w' ⟨bq, rfl, (by intros; first | rfl | trivial), hW⟩
              · refine XInv.yes_tab [(125, 35), (109, 19)] (by kernel_rfl) ?_
                have kz := blk_below VV.out.1 hW
                have z0 := (blk_cell kz 0).trans rfl
                have z1 := (blk_cell kz 1).trans rfl
                have z2 := pw_cell_below (below_step VV.out.2.1 hW) D.out.1
                have z3 := pw_cell_below (below_step VV.out.2.1 hW) D.out.2.1
                have z4 := pw_cell_below (below_step VV.out.2.1 hW) D.out.2.2
                have z5 := pw_cell_below (below_step VV.out.2.1 hW) E0.out
                intro Q2 K2 hK2
                simp only [XInv.puts, XPrint.pw]
                go_simp
                exact hK2.out (.bool false) w' ⟨bq, rfl, (by intros; first | rfl | trivial), hW⟩
            · intro bq w' hW
              refine XInv.end_nil [(126, 36), (125, 35), (124, 34), (123, 33), (122, 32), (121, 31), (120, 30), (119, 29), (118, 28), (117, 27), (116, 26), (115, 25), (114, 24), (113, 23), (112, 22), (111, 21), (110, 20), (109, 19), (108, 18), (107, 17), (106, 16), (105, 15), (104, 14), (103, 13), (102, 12), (101, 11), (100, 10), (99, 9), (98, 8), (97, 7), (96, 6), (95, 5), (94, 4), (93, 3), (92, 2), (91, 1), (90, 0)] (by kernel_rfl) (by kernel_rfl) ?_
              simp only [XInv.puts, XPrint.pw]
              have HE := Aside0.mk (And.intro (below_step VV.out.2.1 hW) (blk_below VV.out.2.2 hW))
              clear hW
              go_wp2
              go_roundg (ns.length - (i + 1))
              case measure => omega
              case rel => exact ⟨i + 1, _, _, rfl, by go_num, by omega, SS.out.1, SS.out.2, HE.out.1, HE.out.2⟩
    · have hlt2' : ¬ (i : Int) < (ns.length : Int) := by omega
      have hie : ns.take i = ns := List.take_of_length_le (by omega)
      rw [hie] at hm hc
      obtain ⟨KA, hKA⟩ := units_all Y.out.1.unit ns (fun x hx => (Y.out.1.all x hx).2.1)
      have SC := Aside0.mk (scale_cap Y.out.1)
      have LE := cap_le Y.out.1
      rw [← hm, ← hc] at LE
      obtain ⟨r0, hr0⟩ : ∃ r0, u0 * sumU (uns u0 u1) ns = r0 := ⟨_, rfl⟩
      obtain ⟨r1, hr1⟩ : ∃ r1, u1 * sumU (uns u0 u1) ns = r1 := ⟨_, rfl⟩
      rw [hr0, hr1] at SC LE
      have LEF := Aside0.mk ((refLE r0 r1 m cc).trans (congrArg some LE))
      have UA := Aside0.mk hKA
      have W := Aside0.mk (And.intro hB hK)
      have hl32 : decide ((ns.length : Int) ≤ 32) = true := decide_eq_true (by have := Y.out.1.len; omega)
      have hl32' : decide (ns.length ≤ 32) = true := decide_eq_true Y.out.1.len
      have CP := Aside0.mk (fun w' hw' => cap KA _ b g u0 u1 ns (uns u0 u1) (fun _ => 0) w' (Z.out.1.tab.below hw') (by have := Y.out.1.len; omega) UA.out (fun x hx => ⟨(Y.out.1.units x hx).1, by have := (Y.out.1.units x hx).2; omega⟩) r0 r1 0 SC.out)
      clear hB hK hm hc hie hr0 hr1 LE hKA
      go_upto_region 19 with (fail)
      refine XInv.region_tab [] [[], [0], [], [1, 2, 1], [3, 3], [4], [5, 4], [6, 4], [4, 7], [8, 4], [9, 9], [9, 10], [11, 10, 0, 1, 2, 3, 4, 5, 6, 7, 8, 9, 10, 11]] (fun bq jq => match jq with
          | 0 => .pointer (some ⟨b, 0, none⟩)
          | 1 => .agg #[.int .i64 r0, .int .i64 r1]
          | 2 => .agg #[.int .i64 m, .int .i64 cc]
          | 3 => .bool true
          | 4 => .bool true
          | 5 => .slice A3 ns.length c3
          | 6 => .int .i64 ns.length
          | 7 => .bool true
          | 8 => .bool true
          | 9 => .bool true
          | 10 => .bool true
          | 11 => .bool true
          | 12 => .bool true
          | _ => undef)
          (fun bq l w' => Below wr.heap.size wr w')
          (by kernel_rfl) rfl (by kernel_rfl) (by kernel_rfl) (by kernel_rfl) ⟨fun _ : Nat => (0 : Nat), below_drew (Below.refl _ _)⟩ ?_ ?_
      · intro i1 hi1 hds oi hoi bq lb w' hW hlb hcl hneed hclo
        have hi1 : i1 < 13 := hi1
        have hcs : i1 = 0 ∨ i1 = 1 ∨ i1 = 2 ∨ i1 = 3 ∨ i1 = 4 ∨ i1 = 5 ∨ i1 = 6 ∨ i1 = 7 ∨ i1 = 8 ∨ i1 = 9 ∨ i1 = 10 ∨ i1 = 11 ∨ i1 = 12 := by omega
        clear hi1 hcl hneed hclo
        have kz := blk_below W.out.2 hW
        have q0 := (blk_cell kz 0).trans rfl
        have q1 := (blk_cell kz 1).trans rfl
        rcases hcs with rfl | rfl | rfl | rfl | rfl | rfl | rfl | rfl | rfl | rfl | rfl | rfl | rfl
        all_goals simp only [List.getElem?_toArray, List.getElem?_cons_succ, List.getElem?_cons_zero, Option.some.injEq] at hoi
        all_goals subst hoi
        · refine XInv.yes_tab [] (by kernel_rfl) ?_
          have kz := blk_below W.out.2 hW
          have q0 := (blk_cell kz 0).trans rfl
          have q1 := (blk_cell kz 1).trans rfl
          intro Q2 K2 hK2
          simp only [XInv.puts, XPrint.pw]
          go_simp
          exact hK2.out (.pointer (some ⟨b, 0, none⟩)) w' ⟨bq, rfl, (by intros; first | rfl | trivial), hW⟩
        · refine XInv.yes_tab [(127, 0)] (by kernel_rfl) ?_
          have kz := blk_below W.out.2 hW
          have q0 := (blk_cell kz 0).trans rfl
          have q1 := (blk_cell kz 1).trans rfl
          intro Q2 K2 hK2
          simp only [XInv.puts, XPrint.pw]
          go_simp
          go_at_call 27
          (with_reducible refine (CP.out _ (below_step W.out.1 hW)).mono ?_)
          rintro e wz ⟨rfl, hb⟩
          exact hK2.out (.agg #[.int .i64 r0, .int .i64 r1]) wz ⟨bq, rfl, (by intros; first | rfl | trivial), below_step hW hb⟩
        · refine XInv.yes_tab [] (by kernel_rfl) ?_
          have kz := blk_below W.out.2 hW
          have q0 := (blk_cell kz 0).trans rfl
          have q1 := (blk_cell kz 1).trans rfl
          intro Q2 K2 hK2
          simp only [XInv.puts, XPrint.pw]
          go_simp
          exact hK2.out (.agg #[.int .i64 m, .int .i64 cc]) w' ⟨bq, rfl, (by intros; first | rfl | trivial), hW⟩
        · refine XInv.yes_tab [(129, 2), (128, 1)] (by kernel_rfl) ?_
          have kz := blk_below W.out.2 hW
          have q0 := (blk_cell kz 0).trans rfl
          have q1 := (blk_cell kz 1).trans rfl
          intro Q2 K2 hK2
          simp only [XInv.puts, XPrint.pw]
          go_simp
          go_at_call 26
          (with_reducible refine (PNodeLib.liveryref01_LE.calls r0 r1 m cc true _ LEF.out).mono ?_)
          rintro e wz ⟨rfl, hb⟩
          exact hK2.out (.bool true) wz ⟨bq, rfl, (by intros; first | rfl | trivial), below_step hW hb⟩
        · refine XInv.yes_tab [(130, 3)] (by kernel_rfl) ?_
          have kz := blk_below W.out.2 hW
          have q0 := (blk_cell kz 0).trans rfl
          have q1 := (blk_cell kz 1).trans rfl
          intro Q2 K2 hK2
          simp only [XInv.puts, XPrint.pw]
          go_simp
          exact hK2.out (.bool true) w' ⟨bq, rfl, (by intros; first | rfl | trivial), hW⟩
        · refine XInv.yes_tab [(131, 4)] (by kernel_rfl) ?_
          have kz := blk_below W.out.2 hW
          have q0 := (blk_cell kz 0).trans rfl
          have q1 := (blk_cell kz 1).trans rfl
          intro Q2 K2 hK2
          simp only [XInv.puts, XPrint.pw]
          go_simp
          exact hK2.out (.slice A3 ns.length c3) w' ⟨bq, rfl, (by intros; first | rfl | trivial), hW⟩
        · refine XInv.yes_tab [(132, 5), (131, 4)] (by kernel_rfl) ?_
          have kz := blk_below W.out.2 hW
          have q0 := (blk_cell kz 0).trans rfl
          have q1 := (blk_cell kz 1).trans rfl
          intro Q2 K2 hK2
          simp only [XInv.puts, XPrint.pw]
          go_simp
          exact hK2.out (.int .i64 ns.length) w' ⟨bq, rfl, (by intros; first | rfl | trivial), hW⟩
        · refine XInv.yes_tab [(133, 6), (131, 4)] (by kernel_rfl) ?_
          have kz := blk_below W.out.2 hW
          have q0 := (blk_cell kz 0).trans rfl
          have q1 := (blk_cell kz 1).trans rfl
          intro Q2 K2 hK2
          simp only [XInv.puts, XPrint.pw]
          go_simp
          exact hK2.out (.bool true) w' ⟨bq, rfl, (by intros; first | rfl | trivial), hW⟩
        · refine XInv.yes_tab [(134, 7), (131, 4)] (by kernel_rfl) ?_
          have kz := blk_below W.out.2 hW
          have q0 := (blk_cell kz 0).trans rfl
          have q1 := (blk_cell kz 1).trans rfl
          intro Q2 K2 hK2
          simp only [XInv.puts, XPrint.pw]
          go_simp
          exact hK2.out (.bool true) w' ⟨bq, rfl, (by intros; first | rfl | trivial), hW⟩
        · refine XInv.yes_tab [(135, 8), (131, 4)] (by kernel_rfl) ?_
          have kz := blk_below W.out.2 hW
          have q0 := (blk_cell kz 0).trans rfl
          have q1 := (blk_cell kz 1).trans rfl
          intro Q2 K2 hK2
          simp only [XInv.puts, XPrint.pw]
          go_simp
          exact hK2.out (.bool true) w' ⟨bq, rfl, (by intros; first | rfl | trivial), hW⟩
        · refine XInv.yes_tab [(136, 9)] (by kernel_rfl) ?_
          have kz := blk_below W.out.2 hW
          have q0 := (blk_cell kz 0).trans rfl
          have q1 := (blk_cell kz 1).trans rfl
          intro Q2 K2 hK2
          simp only [XInv.puts, XPrint.pw]
          go_simp
          go_at_call 17
          (with_reducible refine (head _).mono ?_)
          rintro e wz ⟨rfl, hb⟩
          exact hK2.out (.bool true) wz ⟨bq, rfl, (by intros; first | rfl | trivial), below_step hW hb⟩
        · refine XInv.yes_tab [(137, 10), (136, 9)] (by kernel_rfl) ?_
          have kz := blk_below W.out.2 hW
          have q0 := (blk_cell kz 0).trans rfl
          have q1 := (blk_cell kz 1).trans rfl
          intro Q2 K2 hK2
          simp only [XInv.puts, XPrint.pw]
          go_simp
          exact hK2.out (.bool true) w' ⟨bq, rfl, (by intros; first | rfl | trivial), hW⟩
        · refine XInv.yes_tab [(138, 11), (137, 10), (136, 9), (135, 8), (134, 7), (133, 6), (132, 5), (131, 4), (130, 3), (129, 2), (128, 1), (127, 0)] (by kernel_rfl) ?_
          have kz := blk_below W.out.2 hW
          have q0 := (blk_cell kz 0).trans rfl
          have q1 := (blk_cell kz 1).trans rfl
          intro Q2 K2 hK2
          simp only [XInv.puts, XPrint.pw] at hK2 ⊢
          go_simp
          exact hK2.out (.bool true) w' ⟨bq, rfl, (by intros; first | rfl | trivial), hW⟩
      · intro bq w' hW
        refine XInv.end_nil [(4, 12), (138, 11), (137, 10), (136, 9), (135, 8), (134, 7), (133, 6), (132, 5), (131, 4), (130, 3), (129, 2), (128, 1), (127, 0)] (by kernel_rfl) (by kernel_rfl) ?_
        simp only [XInv.puts, XPrint.pw]
        have HE := Aside0.mk (below_step (below_step Z.out.1.below W.out.1) hW)
        clear hW
        go_wp2
        go_ret
        exact ⟨rfl, below_then (below_alloc (Below.refl _ _) _) (by simp) HE.out⟩
set_option maxHeartbeats 4000000 in
set_option maxRecDepth 100000 in
theorem nodeCaps_bad (u0 u1 : Int) (v : Value) (w : World) (hu : ¬ okV 1 ⟨u0, u1⟩) :
    Calls Try.prog 4 #[.agg #[.int .i64 u0, .int .i64 u1], v] w fun e w' => e = .returned (.bool true) ∧ Below w.heap.size w w' := by
  have hu23 := Try.underlying23
  have H := Aside0.mk hu
  clear hu
  go_enter Try.func4, Try.ntmps4
  go_wp2_with fail
  refine (new_no u0 u1 _ (by rw [in_f, decide_eq_false H.out])).mono ?_
  rintro e w1 ⟨rfl, hb⟩
  have X := Aside0.mk (below_then (below_alloc (Below.refl w.heap.size w) _) (by simp) hb)
  clear hb
  dsimp only
  go_wp2_with fail
  refine (head _).mono ?_
  rintro e w2 ⟨rfl, hb⟩
  replace X := Aside0.mk (below_step X.out hb)
  clear hb
  dsimp only
  go_wp2
  go_ret
  exact ⟨rfl, X.out⟩
set_option maxHeartbeats 4000000 in
set_option maxRecDepth 100000 in
theorem nodeCaps_long (u0 u1 : Int) (A : Option Addr) (n c : Nat) (w : World) (hu : okV 1 ⟨u0, u1⟩) (hn : 100 < n) :
    Calls Try.prog 4 #[.agg #[.int .i64 u0, .int .i64 u1], .slice A n c] w fun e w' => e = .returned (.bool true) ∧ Below w.heap.size w w' := by
  have hu23 := Try.underlying23
  have H := Aside0.mk hu
  have hn1 : decide ((100 : Int) < (n : Int)) = true := decide_eq_true (by omega)
  clear hu hn
  go_enter Try.func4, Try.ntmps4
  go_wp2_with fail
  refine (new_yes u0 u1 _ (by rw [in_f, decide_eq_true H.out])).mono ?_
  rintro e w1 ⟨b, g, rfl, hb, hT⟩
  have X := Aside0.mk (below_then (below_alloc (Below.refl w.heap.size w) _) (by simp) hb)
  clear hb hT
  dsimp only
  go_wp2_with fail
  refine (head _).mono ?_
  rintro e w2 ⟨rfl, hb⟩
  replace X := Aside0.mk (below_step X.out hb)
  clear hb
  dsimp only
  go_wp2
  go_ret
  exact ⟨rfl, X.out⟩
end Go.Proofs.Ythibppfdonepoaa.NodeT
