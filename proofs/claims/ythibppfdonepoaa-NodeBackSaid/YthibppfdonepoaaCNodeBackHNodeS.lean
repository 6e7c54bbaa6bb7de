/- liverylaw22.NodeBack. -/
import Derived.Test.YthibppfdonepoaaCNodeBackHNodeM
import Derived.Test.YthibppfdonepoaaCNodeBackHNodeQ
import Derived.Test.YthibppfdonepoaaCNodeBackHNodeR
set_option linter.unusedVariables false
namespace Go.Proofs.Ythibppfdonepoaa.NodeT
open Go.RowKit Go.MapKept Go.Maps Go.ChangeMaps Go.Proofs.Ythibppfdonepoaa.XBut Go.Proofs.Ythibppfdonepoaa.XMap Go.Proofs.Ythibppfdonepoaa.PNodePlays Go.Proofs.YthibppfdonepoaaW.PrintWords Go.Proofs.YthibppfdonepoaaW.PrintLast
theorem TabAt.low {w : World} {base base' b g : Nat} {u0 u1 : Int} {ns : List S39} (h : TabAt w base b g u0 u1 ns) (hb : base' ≤ base) : TabAt w base' b g u0 u1 ns := ⟨h.blk, h.map, Nat.le_trans hb h.base1, Nat.le_trans hb h.base2⟩
/-- A table, its copy, and the row of its nodes as they were. -/
structure Back (W0 w : World) (b g b2 g2 B : Nat) (u0 u1 : Int) (ns0 ns : List S39) (v : Value) : Prop where
  at_ : At W0 w b g u0 u1 ns
  copy : TabAt w 0 b2 g2 u0 u1 ns0
  row : Kd.R k39 39 w B (fun _ => True) v ns0
  gB : g < B
  b2 : b2 ≠ g
  g2 : g2 ≠ g
theorem Back.same {W0 w w' : World} {b g b2 g2 B : Nat} {u0 u1 : Int} {ns0 ns : List S39} {v : Value} (h : Back W0 w b g b2 g2 B u0 u1 ns0 ns v) (hb : Below w.heap.size w w') : Back W0 w' b g b2 g2 B u0 u1 ns0 ns v :=
  ⟨h.at_.same hb, h.copy.below hb, Kd.R_below h.row hb, h.gB, h.b2, h.g2⟩
theorem Back.step {W0 w w' : World} {b g b2 g2 B : Nat} {u0 u1 : Int} {ns0 ns ns' : List S39} {v : Value} (h : Back W0 w b g b2 g2 B u0 u1 ns0 ns v) (hb : But (fun k => k = g) w w') (hT : TabAt w' W0.heap.size b g u0 u1 ns') : Back W0 w' b g b2 g2 B u0 u1 ns0 ns' v :=
  ⟨h.at_.step hb hT, h.copy.but hb h.b2 h.g2, R_but h.row hb (fun k hk => by rw [hk]; exact h.gB), h.gB, h.b2, h.g2⟩
set_option maxHeartbeats 16000000 in
set_option maxRecDepth 100000 in
theorem nodeBack (u0 u1 x0 x1 x2 : Int) (A : Option Addr) (c : Nat) (l : List (Bool × S39)) (w : World) (hA : Acts w A l) (hl : l.length ≤ 9223372036854775807) (hu : okV 1 ⟨u0, u1⟩) (hl2 : ¬ 40 < l.length) (hx : (Lit.int .u32 x0).wf = true) :
    Calls Try.prog 5 #[.agg #[.int .i64 u0, .int .i64 u1], .slice A l.length c, .agg #[.int .u32 x0, .int .i64 x1, .int .i64 x2]] w fun e w' => e = .returned (.bool true) ∧ Below w.heap.size w w' := by
  have hu23 := Try.underlying23
  have hu39 := Try.underlying39
  obtain ⟨W0, hW0⟩ : ∃ W0, W0 = (w.alloc (.cells #[.int .i64 u0, .int .i64 u1] 23)).alloc (.cells #[.int .u32 x0, .int .i64 x1, .int .i64 x2] 39) := ⟨_, rfl⟩
  have hB0 : Below w.heap.size w W0 := by rw [hW0]; exact below_alloc (below_alloc (Below.refl _ _) _) _
  have k0 : W0.heap[w.heap.size]? = some (.cells #[.int .i64 u0, .int .i64 u1] 23 (0, 0)) := by rw [hW0]; exact blk_alloc (blk_new w _) _
  have k1 : W0.heap[w.heap.size + 1]? = some (.cells #[.int .u32 x0, .int .i64 x1, .int .i64 x2] 39 (0, 0)) := by
    rw [hW0]; have := blk_new (w.alloc (.cells #[.int .i64 u0, .int .i64 u1] 23)) (.cells #[.int .u32 x0, .int .i64 x1, .int .i64 x2] 39); rwa [World.size_alloc] at this
  have hs0 : W0.heap.size = w.heap.size + 2 := by rw [hW0]; simp
  have HA := Aside0.mk (And.intro hA (And.intro hu (And.intro hl2 (And.intro hB0 (And.intro k0 (And.intro k1 (And.intro hx hs0)))))))
  have hl2' : decide ((40 : Int) < (l.length : Int)) = false := decide_eq_false (by omega)
  clear hA hu hl2 hB0 k0 k1 hx hs0
  go_enter Try.func5, Try.ntmps5
  go_wp2_with fail
  rw [← hW0]
  clear hW0
  refine (new_yes u0 u1 _ (by rw [in_f, decide_eq_true HA.out.2.1])).mono ?_
  rintro e w1 ⟨b, g, rfl, hb, hT⟩
  have X := Aside0.mk (show At W0 w1 b g u0 u1 [] from ⟨hb, hT⟩)
  clear hb hT
  dsimp only
  go_wp2_with fail
  go_loopg [9] l.length (fun kk i wr => ∃ (j : Nat) (ns : List S39), kk = l.length - j ∧ i = .int .i64 j ∧ j ≤ l.length ∧ Good u0 u1 ns ∧ At W0 wr b g u0 u1 ns)
  case atStart => exact ⟨0, [], rfl, rfl, Nat.zero_le _, Good.nil HA.out.2.1, X.out⟩
  obtain ⟨j, ns, rfl, rfl, hj, hG, hN⟩ := hrel
  clear X
  have hlen := HA.out.2.2.1
  by_cases hlt : j < l.length
  · obtain ⟨ad, rfl, hAct⟩ := HA.out.1.at_ j hlt
    have a := hAct.below (below_then HA.out.2.2.2.1 HA.out.2.2.2.1.size hN.below)
    have hwf := HA.out.1.wf l[j] (List.getElem_mem hlt)
    obtain ⟨y, hy⟩ : ∃ y, l[j] = y := ⟨_, rfl⟩
    rw [hy] at a hwf
    obtain ⟨gone, y0, y1, y2⟩ := y
    obtain ⟨a0, a1, a2, a3⟩ := a
    have hlt' : (j : Int) < (l.length : Int) := by omega
    have Y := Aside0.mk (And.intro hG (And.intro hN hwf))
    dsimp only at a0 a1 a2 a3
    clear hG hN hwf hAct hy
    cases gone
    · go_wp2_with fail
      refine (joinC _ b g u0 u1 ns ⟨y0, ⟨y1, y2⟩⟩ _ Y.out.2.1.tab Y.out.1 Y.out.2.2).mono ?_
      rintro e w2 ⟨rfl, hb, hT⟩
      have Z := Aside0.mk (And.intro (Y.out.1.join ⟨y0, ⟨y1, y2⟩⟩ (wf32 Y.out.2.2)) (Y.out.2.1.step hb hT))
      clear hb hT a0 a1 a2 a3
      dsimp only
      go_wp2
      go_roundg (l.length - (j + 1))
      case measure => omega
      case rel => exact ⟨j + 1, _, rfl, by go_num, by omega, Z.out.1, Z.out.2⟩
    · go_wp2_with fail
      refine (loseC _ b g u0 u1 y0 ns _ Y.out.2.1.tab Y.out.2.2).mono ?_
      rintro e w2 ⟨rfl, hb, hT⟩
      have Z := Aside0.mk (And.intro (Y.out.1.less y0) (Y.out.2.1.step hb hT))
      clear hb hT a0 a1 a2 a3
      dsimp only
      go_wp2
      go_roundg (l.length - (j + 1))
      case measure => omega
      case rel => exact ⟨j + 1, _, rfl, by go_num, by omega, Z.out.1, Z.out.2⟩
  · have hlt' : ¬ (j : Int) < (l.length : Int) := by omega
    obtain ⟨KA, hKA⟩ := units_all hG.unit ns (fun x hx => (hG.all x hx).2.1)
    have Y := Aside0.mk (And.intro hG hKA)
    have X := Aside0.mk hN
    have G0 := Aside0.mk hN.tab.lt.2
    clear hG hN hKA
    go_wp2_with fail
    refine (nodes _ b g u0 u1 ns _ X.out.tab (by have := Y.out.1.len; omega)).mono ?_
    rintro e w3 ⟨v, rfl, hR, hb⟩
    obtain ⟨A3, c3, rfl⟩ := Kd.R_slice hR
    replace X := Aside0.mk (And.intro (X.out.same hb) hR)
    clear hb hR
    dsimp only
    go_wp2_with fail
    have hsm := fun x hx => (show 0 ≤ uns u0 u1 x ∧ uns u0 u1 x ≤ 1073741824 from ⟨(Y.out.1.units x hx).1, by have := (Y.out.1.units x hx).2; omega⟩)
    refine (total KA _ b g u0 u1 ns (uns u0 u1) (fun _ => 0) _ X.out.1.tab (by have := Y.out.1.len; omega) Y.out.2 hsm).mono ?_
    rintro e w4 ⟨rfl, hb⟩
    replace X := Aside0.mk (And.intro (X.out.1.same hb) (Kd.R_below X.out.2 hb))
    clear hb hsm
    dsimp only
    go_wp2_with fail
    refine (copy _ b g u0 u1 ns _ X.out.1.tab).mono ?_
    rintro e w5 ⟨b2, g2, rfl, hb, hT2⟩
    have hg0 := (X.out.1.tab.lt).2
    have XB := Aside0.mk (show Back W0 w5 b g b2 g2 wr.heap.size u0 u1 ns ns (.slice A3 ns.length c3) from
      ⟨X.out.1.same hb, (hT2.low (Nat.zero_le _)), Kd.R_below X.out.2 hb, G0.out, by have := hT2.base1; omega, by have := hT2.base2; omega⟩)
    clear hb hT2 hg0 X
    have BX : ∀ w', At W0 w' b g u0 u1 ns ∨ Below W0.heap.size W0 w' → w'.cell? ⟨w.heap.size, 0, none⟩ = some (.int .i64 u0) ∧ w'.cell? ⟨w.heap.size, 1, none⟩ = some (.int .i64 u1) ∧ w'.cell? ⟨w.heap.size + 1, 0, none⟩ = some (.int .u32 x0) ∧ w'.cell? ⟨w.heap.size + 1, 1, none⟩ = some (.int .i64 x1) ∧ w'.cell? ⟨w.heap.size + 1, 2, none⟩ = some (.int .i64 x2) := by
      intro w' h
      have h : Below W0.heap.size W0 w' := h.elim (fun h => h.below) id
      have p0 := blk_below HA.out.2.2.2.2.1 h
      have p1 := blk_below HA.out.2.2.2.2.2.1 h
      exact ⟨(blk_cell p0 0).trans rfl, (blk_cell p0 1).trans rfl, (blk_cell p1 0).trans rfl, (blk_cell p1 1).trans rfl, (blk_cell p1 2).trans rfl⟩
    have BX := Aside0.mk BX
    have e39 := eqA39
    dsimp only
    obtain ⟨c0, c1, n0, n1, n2⟩ := BX.out w5 (.inl XB.out.at_)
    go_wp2_with fail
    refine (joinC _ b g u0 u1 ns ⟨x0, ⟨x1, x2⟩⟩ _ XB.out.at_.tab Y.out.1 HA.out.2.2.2.2.2.2.1).mono ?_
    rintro e w6 ⟨rfl, hb, hT⟩
    replace XB := Aside0.mk (XB.out.step hb hT)
    clear hb hT c0 c1 n0 n1 n2
    obtain ⟨cd, hcd⟩ : ∃ cd, code u0 u1 ns ⟨x0, ⟨x1, x2⟩⟩ = cd := ⟨_, rfl⟩
    rw [hcd] at XB ⊢
    dsimp only
    by_cases h0 : cd = 0
    · have hq : (cd == 0) = true := by simp [h0]
      obtain ⟨z1, z2, z3, z4, z5⟩ := code_zero (hcd.trans h0)
      have hjo : joined cd ns ⟨x0, ⟨x1, x2⟩⟩ = ins ns ⟨x0, ⟨x1, x2⟩⟩ := by unfold joined; rw [if_pos h0]
      rw [hjo] at XB
      obtain ⟨hs1, hs2⟩ := ins_sum (uns u0 u1) z4
      have hgi : Good u0 u1 (ins ns ⟨x0, ⟨x1, x2⟩⟩) := by have := Y.out.1.join ⟨x0, ⟨x1, x2⟩⟩ (wf32 HA.out.2.2.2.2.2.2.1); rw [hcd, hjo] at this; exact this
      obtain ⟨KI, hKI⟩ := units_all hgi.unit _ (fun x hx => (hgi.all x hx).2.1)
      have hsi := fun x hx => (show 0 ≤ uns u0 u1 x ∧ uns u0 u1 x ≤ 1073741824 from ⟨(hgi.units x hx).1, by have := (hgi.units x hx).2; omega⟩)
      obtain ⟨KR, hKR⟩ := refUnits_at Y.out.1.unit z2
      have hT := Y.out.1.total
      have hun := uns_nonneg Y.out.1.unit z2
      have hle := Y.out.1.len
      have Z := Aside0.mk (And.intro z4 (And.intro hgi (And.intro hKI (And.intro hsi (And.intro (hKR KR (Nat.le_refl _)) (And.intro hs1 hs2))))))
      obtain ⟨T, hTe⟩ : ∃ T, sumU (uns u0 u1) ns = T := ⟨_, rfl⟩
      obtain ⟨q, hqe⟩ : ∃ q, uns u0 u1 ⟨x0, ⟨x1, x2⟩⟩ = q := ⟨_, rfl⟩
      rw [hTe] at hT
      rw [hqe] at hun
      have hl6 : (ns.length : Int) ≤ 1000000 := by omega
      have hr1 : -9223372036854775808 ≤ T + q := by omega
      have hr2 : T + q ≤ 9223372036854775807 := by omega
      have TQ := Aside0.mk (And.intro hTe hqe)
      clear h0 z1 z2 z3 z4 z5 hjo hs1 hs2 hgi hKI hsi hKR hT hun hle hTe hqe hcd
      obtain ⟨c0, c1, n0, n1, n2⟩ := BX.out w6 (.inr XB.out.at_.below)
      rw [TQ.out.1]
      go_wp2_with fail
      refine (liveryref01_Units.calls KR x1 x2 u0 u1 _ _ _ Z.out.2.2.2.2.1).mono ?_
      rintro e w7 ⟨rfl, hb⟩
      replace XB := Aside0.mk (XB.out.same hb)
      clear hb c0 c1 n0 n1 n2
      rw [TQ.out.2]
      dsimp only
      go_wp2_with fail
      refine (total KI _ b g u0 u1 _ (uns u0 u1) (fun _ => 0) _ XB.out.at_.tab (by have := Z.out.2.1.len; omega) Z.out.2.2.1 Z.out.2.2.2.1).mono ?_
      rintro e w8 ⟨rfl, hb⟩
      rw [Z.out.2.2.2.2.2.1, TQ.out.1, TQ.out.2]
      replace XB := Aside0.mk (XB.out.same hb)
      clear hb
      dsimp only
      go_wp2_with fail
      refine (nodes _ b g u0 u1 _ _ XB.out.at_.tab (by have := Z.out.2.1.len; omega)).mono ?_
      rintro e w9 ⟨v, rfl, hR, hb⟩
      obtain ⟨A4, c4, rfl⟩ := Kd.R_slice hR
      replace XB := Aside0.mk (XB.out.same hb)
      clear hR hb
      rw [Z.out.2.2.2.2.2.2]
      dsimp only
      go_wp2_with fail
      refine (nodes _ b2 g2 u0 u1 ns _ XB.out.copy (by have := Y.out.1.len; omega)).mono ?_
      rintro e w10 ⟨v, rfl, hR, hb⟩
      obtain ⟨A6, c6, rfl⟩ := Kd.R_slice hR
      replace XB := Aside0.mk (XB.out.same hb)
      clear hR hb
      dsimp only
      obtain ⟨c0, c1, n0, n1, n2⟩ := BX.out w10 (.inr XB.out.at_.below)
      go_wp2_with fail
      refine (loseC _ b g u0 u1 x0 _ _ XB.out.at_.tab HA.out.2.2.2.2.2.2.1).mono ?_
      rintro e w11 ⟨rfl, hb, hT⟩
      have hlo : lost (ins ns ⟨x0, ⟨x1, x2⟩⟩) x0 = (⟨x0, ⟨x1, x2⟩⟩, 0) := by unfold lost; rw [ins_who (x := ⟨x0, ⟨x1, x2⟩⟩) Z.out.1]
      have hle : less (ins ns ⟨x0, ⟨x1, x2⟩⟩) x0 = ns := ins_less (x := ⟨x0, ⟨x1, x2⟩⟩) Z.out.1
      rw [hle] at hT
      rw [hlo]
      unfold nv
      replace XB := Aside0.mk (XB.out.step hb hT)
      clear hb hT hlo hle c0 c1 n0 n1 n2
      dsimp only
      have BY : ∀ o, (w11.alloc o).cell? ⟨w.heap.size + 1, 0, none⟩ = some (.int .u32 x0) ∧ (w11.alloc o).cell? ⟨w.heap.size + 1, 1, none⟩ = some (.int .i64 x1) ∧ (w11.alloc o).cell? ⟨w.heap.size + 1, 2, none⟩ = some (.int .i64 x2) := fun o =>
        (BX.out (w11.alloc o) (.inr (below_step XB.out.at_.below (below_alloc (Below.refl _ _) o)))).2.2
      have n0 := fun o => (BY o).1
      have n1 := fun o => (BY o).2.1
      have n2 := fun o => (BY o).2.2
      clear BY
      go_wp2_with fail
      replace XB := Aside0.mk (XB.out.same (below_alloc (Below.refl _ _) (.cells #[.int .u32 x0, .int .i64 x1, .int .i64 x2] 39)))
      clear n0 n1 n2
      refine (nodes _ b g u0 u1 ns _ XB.out.at_.tab (by have := Y.out.1.len; omega)).mono ?_
      rintro e v1 ⟨v, rfl, hR, hb⟩
      obtain ⟨A5, c5, rfl⟩ := Kd.R_slice hR
      obtain ⟨_, hc5, hC5⟩ := Kd.R_reads' hR
      replace XB := Aside0.mk (XB.out.same hb)
      obtain ⟨_, hc3, hC3⟩ := Kd.R_reads' XB.out.row
      have RR := Aside0.mk (And.intro hC5 (And.intro hc5 (And.intro hC3 hc3)))
      clear hR hb hc5 hC5 hC3 hc3
      dsimp only
      go_wp2_with fail
      refine (liveryref22_Same.calls (ns.length + 1) A5 c5 ns A3 c3 ns true _ RR.out.1 RR.out.2.1 RR.out.2.2.1 RR.out.2.2.2 (same_self ns (by have := Y.out.1.len; omega) _ (Nat.lt_succ_self _))).mono ?_
      rintro e v2 ⟨rfl, hb⟩
      replace XB := Aside0.mk (XB.out.same hb.below)
      clear hb RR
      dsimp only
      go_wp2_with fail
      refine (total KA _ b g u0 u1 ns (uns u0 u1) (fun _ => 0) _ XB.out.at_.tab (by have := Y.out.1.len; omega) Y.out.2 (fun x hx => ⟨(Y.out.1.units x hx).1, by have := (Y.out.1.units x hx).2; omega⟩)).mono ?_
      rintro e v3 ⟨rfl, hb⟩
      rw [TQ.out.1]
      replace XB := Aside0.mk (XB.out.same hb)
      clear hb
      dsimp only
      go_wp2_with fail
      refine (head _).mono ?_
      rintro e v4 ⟨rfl, hb⟩
      replace XB := Aside0.mk (XB.out.same hb)
      clear hb
      dsimp only
      go_wp2
      go_ret
      exact ⟨rfl, below_then HA.out.2.2.2.1 HA.out.2.2.2.1.size XB.out.at_.below⟩
    · have hq : (cd == 0) = false := by simp [h0]
      have hjo : joined cd ns ⟨x0, ⟨x1, x2⟩⟩ = ns := by unfold joined; rw [if_neg h0]
      rw [hjo] at XB
      clear h0 hjo hcd
      go_wp2_with fail
      refine (nodes _ b g u0 u1 ns _ XB.out.at_.tab (by have := Y.out.1.len; omega)).mono ?_
      rintro e v1 ⟨v, rfl, hR, hb⟩
      obtain ⟨A5, c5, rfl⟩ := Kd.R_slice hR
      obtain ⟨_, hc5, hC5⟩ := Kd.R_reads' hR
      replace XB := Aside0.mk (XB.out.same hb)
      obtain ⟨_, hc3, hC3⟩ := Kd.R_reads' XB.out.row
      have RR := Aside0.mk (And.intro hC5 (And.intro hc5 (And.intro hC3 hc3)))
      clear hR hb hc5 hC5 hC3 hc3
      dsimp only
      go_wp2_with fail
      refine (liveryref22_Same.calls (ns.length + 1) A5 c5 ns A3 c3 ns true _ RR.out.1 RR.out.2.1 RR.out.2.2.1 RR.out.2.2.2 (same_self ns (by have := Y.out.1.len; omega) _ (Nat.lt_succ_self _))).mono ?_
      rintro e v2 ⟨rfl, hb⟩
      replace XB := Aside0.mk (XB.out.same hb.below)
      clear hb RR
      dsimp only
      go_wp2_with fail
      refine (total KA _ b g u0 u1 ns (uns u0 u1) (fun _ => 0) _ XB.out.at_.tab (by have := Y.out.1.len; omega) Y.out.2 (fun x hx => ⟨(Y.out.1.units x hx).1, by have := (Y.out.1.units x hx).2; omega⟩)).mono ?_
      rintro e v3 ⟨rfl, hb⟩
      replace XB := Aside0.mk (XB.out.same hb)
      clear hb
      dsimp only
      go_wp2_with fail
      refine (head _).mono ?_
      rintro e v4 ⟨rfl, hb⟩
      replace XB := Aside0.mk (XB.out.same hb)
      clear hb
      dsimp only
      go_wp2
      go_ret
      exact ⟨rfl, below_then HA.out.2.2.2.1 HA.out.2.2.2.1.size XB.out.at_.below⟩
set_option maxHeartbeats 4000000 in
set_option maxRecDepth 100000 in
theorem nodeBack_bad (u0 u1 x0 x1 x2 : Int) (v : Value) (w : World) (hu : ¬ okV 1 ⟨u0, u1⟩) :
    Calls Try.prog 5 #[.agg #[.int .i64 u0, .int .i64 u1], v, .agg #[.int .u32 x0, .int .i64 x1, .int .i64 x2]] w fun e w' => e = .returned (.bool true) ∧ Below w.heap.size w w' := by
  have hu23 := Try.underlying23
  have hu39 := Try.underlying39
  have H := Aside0.mk hu
  clear hu
  go_enter Try.func5, Try.ntmps5
  go_wp2_with fail
  refine (new_no u0 u1 _ (by rw [in_f, decide_eq_false H.out])).mono ?_
  rintro e w1 ⟨rfl, hb⟩
  have X := Aside0.mk (below_then (below_alloc (below_alloc (Below.refl w.heap.size w) _) _) (by simp; omega) hb)
  clear hb
  dsimp only
  go_wp2_with fail
  refine (head _).mono ?_
  rintro e w2 ⟨rfl, hb⟩
  replace X := Aside0.mk (below_step X.out hb)
  clear hb
  dsimp only
  go_wp2
  go_ret
  exact ⟨rfl, X.out⟩
set_option maxHeartbeats 4000000 in
set_option maxRecDepth 100000 in
theorem nodeBack_long (u0 u1 x0 x1 x2 : Int) (A : Option Addr) (n c : Nat) (w : World) (hu : okV 1 ⟨u0, u1⟩) (hn : 40 < n) :
    Calls Try.prog 5 #[.agg #[.int .i64 u0, .int .i64 u1], .slice A n c, .agg #[.int .u32 x0, .int .i64 x1, .int .i64 x2]] w fun e w' => e = .returned (.bool true) ∧ Below w.heap.size w w' := by
  have hu23 := Try.underlying23
  have hu39 := Try.underlying39
  have H := Aside0.mk hu
  have hn1 : decide ((40 : Int) < (n : Int)) = true := decide_eq_true (by omega)
  clear hu hn
  go_enter Try.func5, Try.ntmps5
  go_wp2_with fail
  refine (new_yes u0 u1 _ (by rw [in_f, decide_eq_true H.out])).mono ?_
  rintro e w1 ⟨b, g, rfl, hb, hT⟩
  have X := Aside0.mk (below_then (below_alloc (below_alloc (Below.refl w.heap.size w) _) _) (by simp; omega) hb)
  clear hb hT
  dsimp only
  go_wp2_with fail
  refine (head _).mono ?_
  rintro e w2 ⟨rfl, hb⟩
  replace X := Aside0.mk (below_step X.out hb)
  clear hb
  dsimp only
  go_wp2
  go_ret
  exact ⟨rfl, X.out⟩
end Go.Proofs.Ythibppfdonepoaa.NodeT
