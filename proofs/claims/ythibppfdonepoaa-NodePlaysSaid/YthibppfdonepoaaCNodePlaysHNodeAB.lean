/- liverylaw22.NodePlays. -/
import Derived.Test.YthibppfdonepoaaCNodePlaysHNodeAA
set_option linter.unusedVariables false
namespace Go.Proofs.Ythibppfdonepoaa.NodeT
open Go.RowKit Go.MapKept Go.Maps Go.ChangeMaps Go.Proofs.Ythibppfdonepoaa.XBut Go.Proofs.Ythibppfdonepoaa.XMap Go.Proofs.Ythibppfdonepoaa.PNodePlays Go.Proofs.YthibppfdonepoaaW.PrintWords Go.Proofs.YthibppfdonepoaaW.PrintLast
theorem PL.put {W0 w : World} {b g t7 : Nat} {u0 u1 : Int} {ns : List S39} {v u : Value} (h : PL W0 w b g t7 u0 u1 ns v u) : PL W0 (((w.setCell ⟨t7, 0, none⟩ (.int .i64 u0)).setCell ⟨t7, 1, none⟩ (.int .i64 u1)).setCell ⟨t7, 2, none⟩ v) b g t7 u0 u1 ns v v := by
  have hb : But (fun k => k = t7) w (((w.setCell ⟨t7, 0, none⟩ (.int .i64 u0)).setCell ⟨t7, 1, none⟩ (.int .i64 u1)).setCell ⟨t7, 2, none⟩ v) :=
    (((But.refl (fun k => k = t7) w).setCell (b := t7) rfl _ _).setCell (b := t7) rfl _ _).setCell (b := t7) rfl _ _
  have d1 : (w.setCell ⟨t7, 0, none⟩ (.int .i64 u0)).heap[t7]? = some (.cells #[.int .i64 u0, .int .i64 u1, u] 31 (0, 0)) := by simpa using blk_set h.tab 0 (.int .i64 u0)
  have d2 : ((w.setCell ⟨t7, 0, none⟩ (.int .i64 u0)).setCell ⟨t7, 1, none⟩ (.int .i64 u1)).heap[t7]? = some (.cells #[.int .i64 u0, .int .i64 u1, u] 31 (0, 0)) := by simpa using blk_set d1 1 (.int .i64 u1)
  exact ⟨⟨But.below h.at_.below (Nat.le_refl _) hb (fun k hk => by rw [hk]; exact h.ne.2.2), h.at_.tab.but hb (fun hk => h.ne.1 hk.symm) (fun hk => h.ne.2.1 hk.symm)⟩, Kd.R_step h.row (fun k hk hlt => hb.block k hlt (fun e => (h.own k hk).2.2 e)), h.own, by simpa using blk_set d2 2 v, h.ne⟩
set_option maxHeartbeats 16000000 in
set_option maxRecDepth 100000 in
theorem nodePlays (u0 u1 : Int) (A : Option Addr) (c : Nat) (l : List (Bool × S39)) (w : World) (hA : Acts w A l) (hl : l.length ≤ 9223372036854775807) (hu : okV 1 ⟨u0, u1⟩) (hl2 : ¬ 100 < l.length) :
    Calls Try.prog 3 #[.agg #[.int .i64 u0, .int .i64 u1], .slice A l.length c] w fun e w' => e = .returned (.bool true) ∧ Below w.heap.size w w' := by
  have hu23 := Try.underlying23
  have hu31 := Try.underlying31
  have hu39 := Try.underlying39
  have hu41 := Try.underlying41
  obtain ⟨W0, hW0⟩ : ∃ W0, w.alloc (.cells #[.int .i64 u0, .int .i64 u1] 23) = W0 := ⟨_, rfl⟩
  have hB0 : Below w.heap.size w W0 := by rw [← hW0]; exact below_alloc (Below.refl _ _) _
  have k0 : W0.heap[w.heap.size]? = some (.cells #[.int .i64 u0, .int .i64 u1] 23 (0, 0)) := by rw [← hW0]; exact blk_new w _
  have HA := Aside0.mk (And.intro hA (And.intro hu (And.intro hl2 (And.intro hB0 k0))))
  have hl2' : decide ((100 : Int) < (l.length : Int)) = false := decide_eq_false (by omega)
  have HW0 := Aside0.mk hW0
  clear hA hu hl2 hB0 k0 hW0
  go_enter Try.func3, Try.ntmps3
  go_wp2_with fail
  rw [HW0.out]
  clear HW0
  refine (new_yes u0 u1 _ (by rw [in_f, decide_eq_true HA.out.2.1])).mono ?_
  rintro e w1 ⟨b, g, rfl, hb, hT⟩
  have X := Aside0.mk (show At W0 w1 b g u0 u1 [] from ⟨hb, hT⟩)
  clear hb hT
  dsimp only
  have c0 := (blk_cell (blk_below HA.out.2.2.2.2 X.out.below) 0).trans rfl
  have c1 := (blk_cell (blk_below HA.out.2.2.2.2 X.out.below) 1).trans rfl
  go_wp2_with fail
  refine (liveryref22_New.calls u0 u1 u0 u1 [] 0 _ (by rw [rnew_f, if_pos HA.out.2.1])).mono ?_
  rintro e w2 ⟨v2, rfl, hR, hb⟩
  obtain ⟨A2, c2, rfl⟩ := Kd.R_slice hR
  have hlt1 := X.out.tab.lt
  have Y := Aside0.mk (show PL W0 (w2.alloc (.cells #[.int .i64 u0, .int .i64 u1, .slice A2 ([] : List S39).length c2] 31)) b g w2.heap.size u0 u1 [] (.slice A2 ([] : List S39).length c2) (.slice A2 ([] : List S39).length c2) from
    ⟨(X.out.same hb).same (below_alloc (Below.refl _ _) _), Kd.R_below (Kd.R_lower (Kd.R_mono (Kd.R_tight (by rfl) hR) (fun k hk => hk.symm)) X.out.below.size) (below_alloc (Below.refl _ _) _),
     fun k hk => by have h1 := Kd.R_base hR k hk; have h2 := Kd.R_lt hR k hk; exact ⟨by omega, by omega, by omega⟩, blk_new _ _, by have := hb.size; omega, by have := hb.size; omega, by have := hb.size; have := X.out.below.size; omega⟩)
  clear hR hlt1 hb c0 c1 X
  dsimp only
  simp only [List.length_nil] at Y ⊢
  go_wp2_with fail
  go_loopg [9] l.length (fun kk i wr => ∃ (j : Nat) (ns : List S39) (v : Value), kk = l.length - j ∧ i = .int .i64 j ∧ j ≤ l.length ∧ Good u0 u1 ns ∧ PL W0 wr b g w2.heap.size u0 u1 ns v v)
  case atStart => exact ⟨0, [], _, rfl, rfl, Nat.zero_le _, Good.nil HA.out.2.1, Y.out⟩
  obtain ⟨j, ns, v, rfl, rfl, hj, hG, hP⟩ := hrel
  clear Y
  have hlen := HA.out.2.2.1
  by_cases hlt : j < l.length
  · obtain ⟨ad, rfl, hAct⟩ := HA.out.1.at_ j hlt
    obtain ⟨An, cn, rfl⟩ := Kd.R_slice hP.row
    obtain ⟨mn, hmn⟩ : ∃ mn, ns.length = mn := ⟨_, rfl⟩
    rw [hmn] at hP
    have hwf := HA.out.1.wf l[j] (List.getElem_mem hlt)
    obtain ⟨y, hy⟩ : ∃ y, l[j] = y := ⟨_, rfl⟩
    rw [hy] at hAct hwf
    obtain ⟨gone, x0, x1, x2⟩ := y
    have AC := Aside0.mk hAct
    have hlt' : (j : Int) < (l.length : Int) := by omega
    have Y := Aside0.mk (And.intro hG (And.intro hP (And.intro hwf hmn)))
    have AF : Aside0 (∀ w', Below W0.heap.size W0 w' → w'.cell? (ad.add (j * 4)) = some (.bool gone) ∧ w'.cell? ⟨(ad.add (j * 4)).block, (ad.add (j * 4)).off + 1, none⟩ = some (.int .u32 x0) ∧ w'.cell? ⟨(ad.add (j * 4)).block, (ad.add (j * 4)).off + 2, none⟩ = some (.int .i64 x1) ∧ w'.cell? ⟨(ad.add (j * 4)).block, (ad.add (j * 4)).off + 3, none⟩ = some (.int .i64 x2)) := ⟨fun w' h => by
      have a := AC.out.below (below_then HA.out.2.2.2.1 HA.out.2.2.2.1.size h)
      exact ⟨a.c0, a.c1, a.c2, a.c3⟩⟩
    obtain ⟨ns2, hns2⟩ : ∃ ns2, act u0 u1 ns (gone, ⟨x0, ⟨x1, x2⟩⟩) = ns2 := ⟨_, rfl⟩
    have hG2 := hG.act (gone, ⟨x0, ⟨x1, x2⟩⟩) hwf
    rw [hns2] at hG2
    have DC : Aside0 (∀ (w' : World), PL W0 w' b g w2.heap.size u0 u1 ns (.slice An mn cn) (.slice An mn cn) → Calls Try.prog 18 #[.pointer (some ⟨b, 0, none⟩), .agg #[.int .i64 u0, .int .i64 u1, .slice An mn cn], .agg #[.bool gone, .int .u32 x0, .int .i64 x1, .int .i64 x2]] w' fun e w'' => ∃ v', e = .returned (.tuple #[.agg #[.int .i64 u0, .int .i64 u1, v'], .bool true]) ∧
      PL W0 w'' b g w2.heap.size u0 u1 ns2 v' (.slice An mn cn) ∧ But (fun k => k = g ∨ (Value.slice An mn cn).ownBlock = some k) w' w'' ∧ (∀ k, v'.ownBlock = some k → (Value.slice An mn cn).ownBlock = some k ∨ w'.heap.size ≤ k)) := ⟨fun w' hp => by
      have := hp.does hG (gone, ⟨x0, ⟨x1, x2⟩⟩) hwf
      rw [hns2] at this
      exact this⟩
    have GG := Aside0.mk hG2
    clear hG hP hwf hAct hy hmn hns2 hG2
    go_upto_region 10 with (fail)
    refine XInv.region_tab [] [[], [], [], [], [2, 3], [4], [0, 1, 5], [6], [7], [7], [], [10, 8, 6, 0, 1, 2, 3, 4, 5, 6, 7, 8, 10], [9, 11, 0, 1, 2, 3, 4, 5, 6, 7, 8, 9, 10, 11]] (fun bq jq => match jq with
        | 0 => .pointer (some ⟨b, 0, none⟩)
        | 1 => .agg #[.int .i64 u0, .int .i64 u1, .slice An mn cn]
        | 2 => .slice (some ad) l.length c
        | 3 => .int .i64 j
        | 4 => .pointer (some (ad.add (j * 4)))
        | 5 => .agg #[.bool gone, .int .u32 x0, .int .i64 x1, .int .i64 x2]
        | 6 => .tuple #[.agg #[.int .i64 u0, .int .i64 u1, bq.1], .bool true]
        | 7 => .tuple #[.agg #[.int .i64 u0, .int .i64 u1, bq.1], .bool true]
        | 8 => .agg #[.int .i64 u0, .int .i64 u1, bq.1]
        | 9 => .bool true
        | 10 => .pointer (some ⟨bq.2, 0, none⟩)
        | 11 => undef
        | 12 => .bool true
        | _ => undef)
        (fun bq l w' => PW W0 b g w2.heap.size u0 u1 ns ns2 (.slice An mn cn) bq l w')
        (by kernel_rfl) rfl (by kernel_rfl) (by kernel_rfl) (by kernel_rfl) ⟨((undef, 0) : Value × Nat), PW.start (Y.out.2.1.same (below_drew (Below.refl _ _)))⟩ ?_ ?_
    · intro i1 hi1 hds oi hoi bq lb w' hW hlb hcl hneed hclo
      have hi1 : i1 < 13 := hi1
      have hcs : i1 = 0 ∨ i1 = 1 ∨ i1 = 2 ∨ i1 = 3 ∨ i1 = 4 ∨ i1 = 5 ∨ i1 = 6 ∨ i1 = 7 ∨ i1 = 8 ∨ i1 = 9 ∨ i1 = 10 ∨ i1 = 11 ∨ i1 = 12 := by omega
      clear hi1
      rcases hcs with rfl | rfl | rfl | rfl | rfl | rfl | rfl | rfl | rfl | rfl | rfl | rfl | rfl
      all_goals simp only [List.getElem?_toArray, List.getElem?_cons_succ, List.getElem?_cons_zero, Option.some.injEq] at hoi
      all_goals subst hoi
      · refine XInv.yes_tab [] (by kernel_rfl) ?_
        intro Q2 K2 hK2
        simp only [XInv.puts, XPrint.pw]
        go_simp
        exact hK2.out (.pointer (some ⟨b, 0, none⟩)) w' ⟨bq, rfl, (by intros; first | rfl | trivial), hW.up 0 (by decide)⟩
      · refine XInv.yes_tab [] (by kernel_rfl) ?_
        have n11 : lb 11 = false := hcl 11 (by decide) (by kernel_rfl)
        have tb := hW.tab n11
        have z0 := (blk_cell tb.1 0).trans rfl
        have z1 := (blk_cell tb.1 1).trans rfl
        have z2 := (blk_cell tb.1 2).trans rfl
        obtain ⟨a0, a1, a2, a3⟩ := AF.out _ tb.2
        clear hcl hneed hclo
        intro Q2 K2 hK2
        simp only [XInv.puts, XPrint.pw]
        go_simp
        exact hK2.out (.agg #[.int .i64 u0, .int .i64 u1, .slice An mn cn]) w' ⟨bq, rfl, (by intros; first | rfl | trivial), hW.up 1 (by decide)⟩
      · refine XInv.yes_tab [] (by kernel_rfl) ?_
        intro Q2 K2 hK2
        simp only [XInv.puts, XPrint.pw]
        go_simp
        exact hK2.out (.slice (some ad) l.length c) w' ⟨bq, rfl, (by intros; first | rfl | trivial), hW.up 2 (by decide)⟩
      · refine XInv.yes_tab [] (by kernel_rfl) ?_
        intro Q2 K2 hK2
        simp only [XInv.puts, XPrint.pw]
        go_simp
        exact hK2.out (.int .i64 j) w' ⟨bq, rfl, (by intros; first | rfl | trivial), hW.up 3 (by decide)⟩
      · refine XInv.yes_tab [(53, 3), (52, 2)] (by kernel_rfl) ?_
        intro Q2 K2 hK2
        simp only [XInv.puts, XPrint.pw]
        go_simp
        exact hK2.out (.pointer (some (ad.add (j * 4)))) w' ⟨bq, rfl, (by intros; first | rfl | trivial), hW.up 4 (by decide)⟩
      · refine XInv.yes_tab [(54, 4)] (by kernel_rfl) ?_
        have n11 : lb 11 = false := hcl 11 (by decide) (by kernel_rfl)
        have tb := hW.tab n11
        have z0 := (blk_cell tb.1 0).trans rfl
        have z1 := (blk_cell tb.1 1).trans rfl
        have z2 := (blk_cell tb.1 2).trans rfl
        obtain ⟨a0, a1, a2, a3⟩ := AF.out _ tb.2
        clear hcl hneed hclo
        intro Q2 K2 hK2
        simp only [XInv.puts, XPrint.pw]
        go_simp
        exact hK2.out (.agg #[.bool gone, .int .u32 x0, .int .i64 x1, .int .i64 x2]) w' ⟨bq, rfl, (by intros; first | rfl | trivial), hW.up 5 (by decide)⟩
      · refine XInv.yes_tab [(55, 5), (51, 1), (50, 0)] (by kernel_rfl) ?_
        have n11 : lb 11 = false := hcl 11 (by decide) (by kernel_rfl)
        have n7 : lb 7 = false := hcl 7 (by decide) (by kernel_rfl)
        have n8 : lb 8 = false := (Bool.eq_false_or_eq_true (lb 8)).elim (fun h => absurd (hclo 8 7 (by decide) h (by kernel_rfl)) (by rw [n7]; decide)) id
        have hp := (hW.pre n11 hlb).1
        clear hcl hneed hclo
        intro Q2 K2 hK2
        simp only [XInv.puts, XPrint.pw]
        go_simp
        go_at_call 18
        (with_reducible refine (DC.out _ hp).mono ?_)
        rintro e wz ⟨v1, rfl, hP1, hb1, ho1⟩
        exact hK2.out (.tuple #[.agg #[.int .i64 u0, .int .i64 u1, v1], .bool true]) wz ⟨(v1, bq.2), rfl, (by intro jj hjj hlj; have hjj : jj < 13 := hjj; rcases (by omega : jj = 0 ∨ jj = 1 ∨ jj = 2 ∨ jj = 3 ∨ jj = 4 ∨ jj = 5 ∨ jj = 6 ∨ jj = 7 ∨ jj = 8 ∨ jj = 9 ∨ jj = 10 ∨ jj = 11 ∨ jj = 12) with rfl | rfl | rfl | rfl | rfl | rfl | rfl | rfl | rfl | rfl | rfl | rfl | rfl <;> first | rfl | (rw [n7] at hlj; cases hlj) | (rw [n8] at hlj; cases hlj) | (rw [hlb] at hlj; cases hlj)), hW.s6 n11 hlb v1 hP1 hb1 ho1⟩
      · refine XInv.yes_tab [(56, 6)] (by kernel_rfl) ?_
        intro Q2 K2 hK2
        simp only [XInv.puts, XPrint.pw]
        go_simp
        exact hK2.out (.tuple #[.agg #[.int .i64 u0, .int .i64 u1, bq.1], .bool true]) w' ⟨bq, rfl, (by intros; first | rfl | trivial), hW.up 7 (by decide)⟩
      · refine XInv.yes_tab [(49, 7)] (by kernel_rfl) ?_
        intro Q2 K2 hK2
        simp only [XInv.puts, XPrint.pw]
        go_simp
        exact hK2.out (.agg #[.int .i64 u0, .int .i64 u1, bq.1]) w' ⟨bq, rfl, (by intros; first | rfl | trivial), hW.up 8 (by decide)⟩
      · refine XInv.yes_tab [(49, 7)] (by kernel_rfl) ?_
        intro Q2 K2 hK2
        simp only [XInv.puts, XPrint.pw]
        go_simp
        exact hK2.out (.bool true) w' ⟨bq, rfl, (by intros; first | rfl | trivial), hW.up 9 (by decide)⟩
      · refine XInv.yes_tab [] (by kernel_rfl) ?_
        have n11 : lb 11 = false := hcl 11 (by decide) (by kernel_rfl)
        clear hcl hneed hclo
        intro Q2 K2 hK2
        simp only [XInv.puts, XPrint.pw]
        go_simp
        exact hK2.out (.pointer (some ⟨w'.heap.size, 0, none⟩)) _ ⟨(bq.1, w'.heap.size), rfl, (by intro jj hjj hlj; have hjj : jj < 13 := hjj; rcases (by omega : jj = 0 ∨ jj = 1 ∨ jj = 2 ∨ jj = 3 ∨ jj = 4 ∨ jj = 5 ∨ jj = 6 ∨ jj = 7 ∨ jj = 8 ∨ jj = 9 ∨ jj = 10 ∨ jj = 11 ∨ jj = 12) with rfl | rfl | rfl | rfl | rfl | rfl | rfl | rfl | rfl | rfl | rfl | rfl | rfl <;> first | rfl | (rw [hlb] at hlj; cases hlj)), hW.s10 n11 rfl⟩
      · refine XInv.yes_tab [(10, 10), (57, 8), (49, 7), (56, 6), (55, 5), (54, 4), (53, 3), (52, 2), (51, 1), (50, 0)] (by kernel_rfl) ?_
        have n11 := hlb
        have y6 : lb 6 = true := hneed 6 (by kernel_rfl)
        have y10 : lb 10 = true := hneed 10 (by kernel_rfl)
        have m := hW.mid n11 y6
        have bx := (m.2 y10).1
        have r0 := (blk_cell bx 0).trans rfl
        have r1 := (blk_cell bx 1).trans rfl
        have r2 := (blk_cell bx 2).trans rfl
        have g0 := blk_frozen bx 0
        have g1 := blk_frozen bx 1
        have g2 := blk_frozen bx 2
        obtain ⟨A9, c9, e9⟩ := Kd.R_slice m.1.row
        obtain ⟨m9, hm9⟩ : ∃ m9, ns2.length = m9 := ⟨_, rfl⟩
        rw [hm9] at e9
        clear hm9
        have hfin := hW.s11 n11 y6 y10 rfl
        clear hcl hneed hclo
        intro Q2 K2 hK2
        simp only [XInv.puts, XPrint.pw] at hK2 ⊢
        rw [e9] at hfin hK2 ⊢
        go_simp
        exact hK2.out undef _ ⟨bq, rfl, (by intro jj hjj hlj; have hjj : jj < 13 := hjj; rcases (by omega : jj = 0 ∨ jj = 1 ∨ jj = 2 ∨ jj = 3 ∨ jj = 4 ∨ jj = 5 ∨ jj = 6 ∨ jj = 7 ∨ jj = 8 ∨ jj = 9 ∨ jj = 10 ∨ jj = 11 ∨ jj = 12) with rfl | rfl | rfl | rfl | rfl | rfl | rfl | rfl | rfl | rfl | rfl | rfl | rfl <;> first | rfl | (simp only [e9]; done) | (rw [e9]; done) | (rw [hlb] at hlj; cases hlj)), hfin⟩
      · refine XInv.yes_tab [(10, 10), (58, 9), (57, 8), (49, 7), (56, 6), (55, 5), (54, 4), (53, 3), (52, 2), (51, 1), (50, 0)] (by kernel_rfl) ?_
        intro Q2 K2 hK2
        simp only [XInv.puts, XPrint.pw] at hK2 ⊢
        go_simp
        exact hK2.out (.bool true) w' ⟨bq, rfl, (by intros; first | rfl | trivial), hW.up 12 (by decide)⟩
    · intro bq w' hW
      refine XInv.end_nil [(11, 12), (10, 10), (58, 9), (57, 8), (49, 7), (56, 6), (55, 5), (54, 4), (53, 3), (52, 2), (51, 1), (50, 0)] (by kernel_rfl) (by kernel_rfl) ?_
      simp only [XInv.puts, XPrint.pw]
      unfold PW at hW
      rw [if_pos (by kernel_rfl)] at hW
      obtain ⟨v3, t3⟩ := bq
      obtain ⟨hP, hx3, hn3, ho3⟩ := hW
      dsimp only at hP hx3 hn3 ho3 ⊢
      obtain ⟨A3, c3, rfl⟩ := Kd.R_slice hP.row
      obtain ⟨_, hc3, hC3⟩ := Kd.R_reads' hP.row
      have q0 := (blk_cell hx3 0).trans rfl
      have q1 := (blk_cell hx3 1).trans rfl
      have q2 := (blk_cell hx3 2).trans rfl
      have Z := Aside0.mk (And.intro hP (And.intro hx3 (And.intro hn3 (And.intro ho3 (And.intro hc3 hC3)))))
      clear hP hx3 hn3 ho3 hc3 hC3
      go_wp2_with fail
      refine (same W0.heap.size b g u0 u1 ns2 A3 c3 _ Z.out.1.at_.tab GG.out Z.out.2.2.2.2.2 Z.out.2.2.2.2.1).mono ?_
      rintro e w4 ⟨rfl, hb⟩
      have hP4 := Z.out.1.same hb
      have kt := blk_below Z.out.2.1 hb
      have q0 := (blk_cell kt 0).trans rfl
      have q1 := (blk_cell kt 1).trans rfl
      have q2 := (blk_cell kt 2).trans rfl
      have r0 := (blk_cell hP4.tab 0).trans rfl
      have r1 := (blk_cell hP4.tab 1).trans rfl
      have r2 := (blk_cell hP4.tab 2).trans rfl
      have g0 := blk_frozen hP4.tab 0
      have g1 := blk_frozen hP4.tab 1
      have g2 := blk_frozen hP4.tab 2
      have V := Aside0.mk hP4.put
      clear hb hP4 kt
      dsimp only
      go_wp2
      go_roundg (l.length - (j + 1))
      case measure => omega
      case rel => exact ⟨j + 1, ns2, _, rfl, by go_num, by omega, GG.out, V.out⟩
  · have hlt' : ¬ (j : Int) < (l.length : Int) := by omega
    have X := Aside0.mk hP.at_.below
    clear hG hP
    go_wp2_with fail
    refine (head _).mono ?_
    rintro e wz ⟨rfl, hb⟩
    replace X := Aside0.mk (below_step X.out hb)
    clear hb
    dsimp only
    go_wp2
    go_ret
    exact ⟨rfl, below_then HA.out.2.2.2.1 HA.out.2.2.2.1.size X.out⟩
set_option maxHeartbeats 4000000 in
set_option maxRecDepth 100000 in
theorem nodePlays_bad (u0 u1 : Int) (A : Option Addr) (n c : Nat) (w : World) (hu : ¬ okV 1 ⟨u0, u1⟩) :
    Calls Try.prog 3 #[.agg #[.int .i64 u0, .int .i64 u1], .slice A n c] w fun e w' => e = .returned (.bool true) ∧ Below w.heap.size w w' := by
  have hu23 := Try.underlying23
  have hu31 := Try.underlying31
  have H := Aside0.mk hu
  clear hu
  go_enter Try.func3, Try.ntmps3
  go_wp2_with fail
  refine (new_no u0 u1 _ (by rw [in_f, decide_eq_false H.out])).mono ?_
  rintro e w1 ⟨rfl, hb⟩
  have X := Aside0.mk (below_then (below_alloc (Below.refl w.heap.size w) _) (by simp) hb)
  have k0 := blk_below (blk_new w (.cells #[.int .i64 u0, .int .i64 u1] 23)) hb
  have c0 := (blk_cell k0 0).trans rfl
  have c1 := (blk_cell k0 1).trans rfl
  clear hb k0
  dsimp only
  go_wp2_with fail
  refine (liveryref22_New.calls u0 u1 0 0 [] 2 _ (by rw [rnew_f, if_neg H.out])).mono ?_
  rintro e w2 ⟨v2, rfl, hR, hb⟩
  obtain ⟨A2, c2, rfl⟩ := Kd.R_slice hR
  replace X := Aside0.mk (below_step X.out hb)
  clear hb hR c0 c1
  dsimp only
  obtain ⟨q, hq⟩ : ∃ q, decide ((100 : Int) < (n : Int)) = q := ⟨_, rfl⟩
  have XA := Aside0.mk (below_alloc (Below.refl w2.heap.size w2) (.cells #[.int .i64 0, .int .i64 0, .slice A2 ([] : List S39).length c2] 31))
  cases q
  · go_wp2_with fail
    refine (head _).mono ?_
    rintro e w3 ⟨rfl, hb⟩
    replace X := Aside0.mk (below_step (below_step X.out XA.out) hb)
    clear hb
    dsimp only
    go_wp2
    go_ret
    exact ⟨rfl, X.out⟩
  · go_wp2_with fail
    refine (head _).mono ?_
    rintro e w3 ⟨rfl, hb⟩
    replace X := Aside0.mk (below_step (below_step X.out XA.out) hb)
    clear hb
    dsimp only
    go_wp2
    go_ret
    exact ⟨rfl, X.out⟩
set_option maxHeartbeats 4000000 in
set_option maxRecDepth 100000 in
theorem nodePlays_long (u0 u1 : Int) (A : Option Addr) (n c : Nat) (w : World) (hu : okV 1 ⟨u0, u1⟩) (hn : 100 < n) :
    Calls Try.prog 3 #[.agg #[.int .i64 u0, .int .i64 u1], .slice A n c] w fun e w' => e = .returned (.bool true) ∧ Below w.heap.size w w' := by
  have hu23 := Try.underlying23
  have hu31 := Try.underlying31
  have H := Aside0.mk hu
  have hn1 : decide ((100 : Int) < (n : Int)) = true := decide_eq_true (by omega)
  clear hu hn
  go_enter Try.func3, Try.ntmps3
  go_wp2_with fail
  refine (new_yes u0 u1 _ (by rw [in_f, decide_eq_true H.out])).mono ?_
  rintro e w1 ⟨b, g, rfl, hb, hT⟩
  have X := Aside0.mk (below_then (below_alloc (Below.refl w.heap.size w) _) (by simp) hb)
  have k0 := blk_below (blk_new w (.cells #[.int .i64 u0, .int .i64 u1] 23)) hb
  have c0 := (blk_cell k0 0).trans rfl
  have c1 := (blk_cell k0 1).trans rfl
  clear hb k0 hT
  dsimp only
  go_wp2_with fail
  refine (liveryref22_New.calls u0 u1 u0 u1 [] 0 _ (by rw [rnew_f, if_pos H.out])).mono ?_
  rintro e w2 ⟨v2, rfl, hR, hb⟩
  obtain ⟨A2, c2, rfl⟩ := Kd.R_slice hR
  replace X := Aside0.mk (below_step X.out hb)
  have XA := Aside0.mk (below_alloc (Below.refl w2.heap.size w2) (.cells #[.int .i64 u0, .int .i64 u1, .slice A2 ([] : List S39).length c2] 31))
  clear hb hR c0 c1
  dsimp only
  go_wp2_with fail
  refine (head _).mono ?_
  rintro e w3 ⟨rfl, hb⟩
  replace X := Aside0.mk (below_step (below_step X.out XA.out) hb)
  clear hb
  dsimp only
  go_wp2
  go_ret
  exact ⟨rfl, X.out⟩
end Go.Proofs.Ythibppfdonepoaa.NodeT
