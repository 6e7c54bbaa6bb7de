/- liverylaw22.does. -/
import Derived.Test.YthibppfdonepoaaCNodePlaysHNodeM
import Derived.Test.YthibppfdonepoaaCNodePlaysHNodeW
set_option linter.unusedVariables false
namespace Go.Proofs.Ythibppfdonepoaa.NodeT
open Go.RowKit Go.MapKept Go.Maps Go.ChangeMaps Go.Proofs.Ythibppfdonepoaa.XBut Go.Proofs.Ythibppfdonepoaa.XMap Go.Proofs.Ythibppfdonepoaa.PNodePlays Go.Proofs.YthibppfdonepoaaW.PrintWords Go.Proofs.YthibppfdonepoaaW.PrintLast
/-- What an act makes of the nodes. -/
def act (u0 u1 : Int) (ns : List S39) (a : Bool × S39) : List S39 := if a.1 = true then less ns a.2.f0 else joined (code u0 u1 ns a.2) ns a.2
theorem But.kept {T : Nat → Prop} {w0 w w' : World} (h0 : Below w0.heap.size w0 w) (h1 : Below w0.heap.size w0 w') (hk : Kept w w' T) : But T w w' := ⟨h1.os.trans h0.os.symm, h1.tape.trans h0.tape.symm, h1.output.trans h0.output.symm, hk.1, fun k hk' hn => hk.2 k hk' hn⟩
set_option maxHeartbeats 16000000 in
set_option maxRecDepth 100000 in
theorem does_join (base b g : Nat) (u0 u1 x0 x1 x2 : Int) (ns : List S39) (v : Value) (B : Nat) (ok : Nat → Prop) (w : World) (hT : TabAt w base b g u0 u1 ns) (hG : Good u0 u1 ns) (hr : Kd.R k39 39 w B ok v ns) (hB : B ≤ w.heap.size) (hok : ∀ k, ok k → k ≠ g) (hx : (Lit.int .u32 x0).wf = true) :
    Calls Try.prog 18 #[.pointer (some ⟨b, 0, none⟩), .agg #[.int .i64 u0, .int .i64 u1, v], .agg #[.bool false, .int .u32 x0, .int .i64 x1, .int .i64 x2]] w fun e w' => ∃ v', e = .returned (.tuple #[.agg #[.int .i64 u0, .int .i64 u1, v'], .bool true]) ∧
      Kd.R k39 39 w' B (fun k => ok k ∨ w.heap.size ≤ k) v' (act u0 u1 ns (false, ⟨x0, ⟨x1, x2⟩⟩)) ∧ TabAt w' base b g u0 u1 (act u0 u1 ns (false, ⟨x0, ⟨x1, x2⟩⟩)) ∧ But (fun k => k = g) w w' := by
  have hu31 := Try.underlying31
  have hu39 := Try.underlying39
  have hu41 := Try.underlying41
  obtain ⟨A, c, rfl⟩ := Kd.R_slice hr
  have H := Aside0.mk (And.intro hT (And.intro hG (And.intro hr (And.intro hB (And.intro hok hx)))))
  clear hT hG hr hB hok hx
  go_enter Try.func18, Try.ntmps18
  go_wp2_with fail
  obtain ⟨W0, hW0⟩ : ∃ W0, (((w.alloc (.cells #[.int .i64 u0, .int .i64 u1, .slice A ns.length c] 31)).alloc (.cells #[.bool false, .int .u32 x0, .int .i64 x1, .int .i64 x2] 41)).alloc (.cells #[.int .i64 0, .int .i64 0, .slice none 0 0] 31)) = W0 := ⟨_, rfl⟩
  have hB0 : Below w.heap.size w W0 := by rw [← hW0]; exact below_alloc (below_alloc (below_alloc (Below.refl _ _) _) _) _
  have k1 : W0.heap[w.heap.size + 1]? = some (.cells #[.bool false, .int .u32 x0, .int .i64 x1, .int .i64 x2] 41 (0, 0)) := by
    have := blk_alloc (blk_new (w.alloc (.cells #[.int .i64 u0, .int .i64 u1, .slice A ns.length c] 31)) (.cells #[.bool false, .int .u32 x0, .int .i64 x1, .int .i64 x2] 41)) (.cells #[.int .i64 0, .int .i64 0, .slice none 0 0] 31)
    rw [World.size_alloc] at this
    rw [← hW0]; exact this
  have k2 : W0.heap[w.heap.size + 1 + 1]? = some (.cells #[.int .i64 0, .int .i64 0, .slice none 0 0] 31 (0, 0)) := by
    have := blk_new ((w.alloc (.cells #[.int .i64 u0, .int .i64 u1, .slice A ns.length c] 31)).alloc (.cells #[.bool false, .int .u32 x0, .int .i64 x1, .int .i64 x2] 41)) (.cells #[.int .i64 0, .int .i64 0, .slice none 0 0] 31)
    rw [World.size_alloc, World.size_alloc] at this
    rw [← hW0]; exact this
  have hs0 : W0.heap.size = w.heap.size + 3 := by rw [← hW0]; simp
  have hg := H.out.1.lt.2
  obtain ⟨hT, hG, hr, hB, hok, hx⟩ := H.out
  have hr0 : Kd.R k39 39 w B (fun k => ok k ∧ k < w.heap.size) (.slice A ns.length c) ns := Kd.R_mono (Kd.R_bound hr) (fun k hk => ⟨hk.1, hk.2.2.1⟩)
  have JJ := Aside0.mk (rjoin u0 u1 x0 x1 x2 ns (.slice A ns.length c) B (fun k => ok k ∧ k < w.heap.size) W0 hG.unit (Kd.R_below hr0 hB0) (by omega) hG.len (wf32 hx).1)
  have S := Aside0.mk (And.intro hB0 (And.intro k1 (And.intro k2 (And.intro hs0 hg))))
  rw [hW0]
  clear hT hG hr hB hok hx hr0 hB0 k1 k2 hs0 hg hW0
  refine JJ.out.mono ?_
  rintro e w1 ⟨v', rfl, hR, hb⟩
  obtain ⟨A2, c2, rfl⟩ := Kd.R_slice hR
  obtain ⟨ns2, hns2⟩ : ∃ ns2, joined (code u0 u1 ns ⟨x0, ⟨x1, x2⟩⟩) ns ⟨x0, ⟨x1, x2⟩⟩ = ns2 := ⟨_, rfl⟩
  obtain ⟨cd, hcd⟩ : ∃ cd, code u0 u1 ns ⟨x0, ⟨x1, x2⟩⟩ = cd := ⟨_, rfl⟩
  have JC := Aside0.mk (fun (w' : World) (hT : TabAt w' base b g u0 u1 ns) => joinC base b g u0 u1 ns ⟨x0, ⟨x1, x2⟩⟩ w' hT H.out.2.1 H.out.2.2.2.2.2)
  have ACT := Aside0.mk (show act u0 u1 ns (false, ⟨x0, ⟨x1, x2⟩⟩) = ns2 from hns2)
  rw [hns2] at hR JC ⊢
  rw [hcd] at JC ⊢
  unfold nv at JC
  obtain ⟨m2, hm2⟩ : ∃ m2, ns2.length = m2 := ⟨_, rfl⟩
  rw [hm2] at hR ⊢
  have X := Aside0.mk (And.intro hR hb)
  clear hR hb hns2 hcd hm2 JJ
  dsimp only
  go_upto_region 3 with (fail)
  obtain ⟨W2, hW2⟩ : ∃ W2, w1.alloc (.cells #[.int .i64 u0, .int .i64 u1, .slice A2 m2 c2] 31) = W2 := ⟨_, rfl⟩
  have hB2 : Below w1.heap.size w1 W2 := by rw [← hW2]; exact below_alloc (Below.refl _ _) _
  have k8 : W2.heap[w1.heap.size]? = some (.cells #[.int .i64 u0, .int .i64 u1, .slice A2 m2 c2] 31 (0, 0)) := by rw [← hW2]; exact blk_new w1 _
  rw [hW2]
  have hx1 := X.out.2.size
  have hB02 := below_step X.out.2 hB2
  have Y := Aside0.mk (And.intro hB2 (And.intro k8 (And.intro hB02 (And.intro (blk_below S.out.2.1 hB02) (And.intro (blk_below S.out.2.2.1 hB02) hx1)))))
  have hne1 : w1.heap.size ≠ g := by have := S.out.2.2.2.1; have := S.out.2.2.2.2; omega
  have hne2 : w.heap.size + 1 ≠ g := by have := S.out.2.2.2.2; omega
  have hne3 : w.heap.size + 1 + 1 ≠ g := by have := S.out.2.2.2.2; omega
  have TT : Aside0 (∀ w', Below W2.heap.size W2 w' → TabAt w' base b g u0 u1 ns) := ⟨fun w' h => (H.out.1.below S.out.1).below (below_step hB02 h)⟩
  have NE := Aside0.mk (And.intro hne1 (And.intro hne2 hne3))
  clear hB2 k8 hx1 hB02 hne1 hne2 hne3 hW2
  refine XInv.region_tab [] [[], [], [], [2], [1, 3], [], [4, 5], [0, 4, 0], [6, 7, 0, 1, 2, 3, 4, 5, 6, 7]] (fun bq jq => match jq with
      | 0 => .agg #[.int .i64 u0, .int .i64 u1, .slice A2 m2 c2]
      | 1 => .pointer (some ⟨b, 0, none⟩)
      | 2 => .pointer (some ⟨w.heap.size + 1, 1, none⟩)
      | 3 => .agg #[.int .u32 x0, .int .i64 x1, .int .i64 x2]
      | 4 => .int .i64 cd
      | 5 => .int .i64 cd
      | 6 => .bool true
      | 7 => undef
      | 8 => .bool true
      | _ => undef)
      (fun bq l w' => if l 7 = true then (∃ wz, But (fun k => k = g) W2 wz ∧ TabAt wz base b g u0 u1 ns2 ∧ w' = (((wz.setCell ⟨w.heap.size + 1 + 1, 0, none⟩ (.int .i64 u0)).setCell ⟨w.heap.size + 1 + 1, 1, none⟩ (.int .i64 u1)).setCell ⟨w.heap.size + 1 + 1, 2, none⟩ (.slice A2 m2 c2))) else if l 4 = true then (But (fun k => k = g) W2 w' ∧ TabAt w' base b g u0 u1 ns2) else Below W2.heap.size W2 w')
      (by kernel_rfl) rfl (by kernel_rfl) (by kernel_rfl) (by kernel_rfl) ⟨fun _ : Nat => (0 : Nat), (by rw [if_neg (by simp)]; rw [if_neg (by simp)]; exact below_drew (Below.refl _ _))⟩ ?_ ?_
  · intro i1 hi1 hds oi hoi bq lb w' hW hlb hcl hneed hclo
    have hi1 : i1 < 9 := hi1
    have hcs : i1 = 0 ∨ i1 = 1 ∨ i1 = 2 ∨ i1 = 3 ∨ i1 = 4 ∨ i1 = 5 ∨ i1 = 6 ∨ i1 = 7 ∨ i1 = 8 := by omega
    clear hi1
    rcases hcs with rfl | rfl | rfl | rfl | rfl | rfl | rfl | rfl | rfl
    all_goals simp only [List.getElem?_toArray, List.getElem?_cons_succ, List.getElem?_cons_zero, Option.some.injEq] at hoi
    all_goals subst hoi
    · refine XInv.yes_tab [] (by kernel_rfl) ?_
      have hs1 := hcl 7 (by decide) (by kernel_rfl)
      cases hs0 : lb 4
      case false =>
        rw [if_neg (by rw [hs1]; decide)] at hW
        rw [if_neg (by rw [hs0]; decide)] at hW
        have hB := But.of_below (T := fun k => k = g) hW
        have k8 := hB.heap Y.out.2.1 NE.out.1
        have k1 := hB.heap Y.out.2.2.2.1 NE.out.2.1
        have k2 := hB.heap Y.out.2.2.2.2.1 NE.out.2.2
        have z0 := (blk_cell k8 0).trans rfl
        have z1 := (blk_cell k8 1).trans rfl
        have z2 := (blk_cell k8 2).trans rfl
        have n1 := (blk_cell k1 1).trans rfl
        have n2 := (blk_cell k1 2).trans rfl
        have n3 := (blk_cell k1 3).trans rfl
        have r0 := (blk_cell k2 0).trans rfl
        have r1 := (blk_cell k2 1).trans rfl
        have r2 := (blk_cell k2 2).trans rfl
        have g0 := blk_frozen k2 0
        have g1 := blk_frozen k2 1
        have g2 := blk_frozen k2 2
        clear hcl hneed hclo
        intro Q2 K2 hK2
        simp only [XInv.puts, XPrint.pw]
        go_simp
        exact hK2.out (.agg #[.int .i64 u0, .int .i64 u1, .slice A2 m2 c2]) w' ⟨bq, rfl, (by intros; first | rfl | trivial), (by rw [if_neg (by simp [XInv.up, hs1])]; rw [if_neg (by simp [XInv.up, hs0])]; exact hW)⟩
      case true =>
        rw [if_neg (by rw [hs1]; decide)] at hW
        rw [if_pos hs0] at hW
        have hB := hW.1
        have k8 := hB.heap Y.out.2.1 NE.out.1
        have k1 := hB.heap Y.out.2.2.2.1 NE.out.2.1
        have k2 := hB.heap Y.out.2.2.2.2.1 NE.out.2.2
        have z0 := (blk_cell k8 0).trans rfl
        have z1 := (blk_cell k8 1).trans rfl
        have z2 := (blk_cell k8 2).trans rfl
        have n1 := (blk_cell k1 1).trans rfl
        have n2 := (blk_cell k1 2).trans rfl
        have n3 := (blk_cell k1 3).trans rfl
        have r0 := (blk_cell k2 0).trans rfl
        have r1 := (blk_cell k2 1).trans rfl
        have r2 := (blk_cell k2 2).trans rfl
        have g0 := blk_frozen k2 0
        have g1 := blk_frozen k2 1
        have g2 := blk_frozen k2 2
        clear hcl hneed hclo
        intro Q2 K2 hK2
        simp only [XInv.puts, XPrint.pw]
        go_simp
        exact hK2.out (.agg #[.int .i64 u0, .int .i64 u1, .slice A2 m2 c2]) w' ⟨bq, rfl, (by intros; first | rfl | trivial), (by rw [if_neg (by simp [XInv.up, hs1])]; rw [if_pos (by simp [XInv.up, hs0])]; exact hW)⟩
    · refine XInv.yes_tab [] (by kernel_rfl) ?_
      have hs0 := hcl 4 (by decide) (by kernel_rfl)
      cases hs1 : lb 7
      case false =>
        rw [if_neg (by rw [hs1]; decide)] at hW
        rw [if_neg (by rw [hs0]; decide)] at hW
        have hB := But.of_below (T := fun k => k = g) hW
        have k8 := hB.heap Y.out.2.1 NE.out.1
        have k1 := hB.heap Y.out.2.2.2.1 NE.out.2.1
        have k2 := hB.heap Y.out.2.2.2.2.1 NE.out.2.2
        have z0 := (blk_cell k8 0).trans rfl
        have z1 := (blk_cell k8 1).trans rfl
        have z2 := (blk_cell k8 2).trans rfl
        have n1 := (blk_cell k1 1).trans rfl
        have n2 := (blk_cell k1 2).trans rfl
        have n3 := (blk_cell k1 3).trans rfl
        have r0 := (blk_cell k2 0).trans rfl
        have r1 := (blk_cell k2 1).trans rfl
        have r2 := (blk_cell k2 2).trans rfl
        have g0 := blk_frozen k2 0
        have g1 := blk_frozen k2 1
        have g2 := blk_frozen k2 2
        clear hcl hneed hclo
        intro Q2 K2 hK2
        simp only [XInv.puts, XPrint.pw]
        go_simp
        exact hK2.out (.pointer (some ⟨b, 0, none⟩)) w' ⟨bq, rfl, (by intros; first | rfl | trivial), (by rw [if_neg (by simp [XInv.up, hs1])]; rw [if_neg (by simp [XInv.up, hs0])]; exact hW)⟩
      case true =>
        exact absurd (hclo 7 4 (by decide) hs1 (by kernel_rfl)) (by rw [hs0]; decide)
    · refine XInv.yes_tab [] (by kernel_rfl) ?_
      cases hs0 : lb 4
      case false =>
        cases hs1 : lb 7
        case false =>
          rw [if_neg (by rw [hs1]; decide)] at hW
          rw [if_neg (by rw [hs0]; decide)] at hW
          have hB := But.of_below (T := fun k => k = g) hW
          have k8 := hB.heap Y.out.2.1 NE.out.1
          have k1 := hB.heap Y.out.2.2.2.1 NE.out.2.1
          have k2 := hB.heap Y.out.2.2.2.2.1 NE.out.2.2
          have z0 := (blk_cell k8 0).trans rfl
          have z1 := (blk_cell k8 1).trans rfl
          have z2 := (blk_cell k8 2).trans rfl
          have n1 := (blk_cell k1 1).trans rfl
          have n2 := (blk_cell k1 2).trans rfl
          have n3 := (blk_cell k1 3).trans rfl
          have r0 := (blk_cell k2 0).trans rfl
          have r1 := (blk_cell k2 1).trans rfl
          have r2 := (blk_cell k2 2).trans rfl
          have g0 := blk_frozen k2 0
          have g1 := blk_frozen k2 1
          have g2 := blk_frozen k2 2
          clear hcl hneed hclo
          intro Q2 K2 hK2
          simp only [XInv.puts, XPrint.pw]
          go_simp
          exact hK2.out (.pointer (some ⟨w.heap.size + 1, 1, none⟩)) w' ⟨bq, rfl, (by intros; first | rfl | trivial), (by rw [if_neg (by simp [XInv.up, hs1])]; rw [if_neg (by simp [XInv.up, hs0])]; exact hW)⟩
        case true =>
          exact absurd (hclo 7 4 (by decide) hs1 (by kernel_rfl)) (by rw [hs0]; decide)
      case true =>
        cases hs1 : lb 7
        case false =>
          rw [if_neg (by rw [hs1]; decide)] at hW
          rw [if_pos hs0] at hW
          have hB := hW.1
          have k8 := hB.heap Y.out.2.1 NE.out.1
          have k1 := hB.heap Y.out.2.2.2.1 NE.out.2.1
          have k2 := hB.heap Y.out.2.2.2.2.1 NE.out.2.2
          have z0 := (blk_cell k8 0).trans rfl
          have z1 := (blk_cell k8 1).trans rfl
          have z2 := (blk_cell k8 2).trans rfl
          have n1 := (blk_cell k1 1).trans rfl
          have n2 := (blk_cell k1 2).trans rfl
          have n3 := (blk_cell k1 3).trans rfl
          have r0 := (blk_cell k2 0).trans rfl
          have r1 := (blk_cell k2 1).trans rfl
          have r2 := (blk_cell k2 2).trans rfl
          have g0 := blk_frozen k2 0
          have g1 := blk_frozen k2 1
          have g2 := blk_frozen k2 2
          clear hcl hneed hclo
          intro Q2 K2 hK2
          simp only [XInv.puts, XPrint.pw]
          go_simp
          exact hK2.out (.pointer (some ⟨w.heap.size + 1, 1, none⟩)) w' ⟨bq, rfl, (by intros; first | rfl | trivial), (by rw [if_neg (by simp [XInv.up, hs1])]; rw [if_pos (by simp [XInv.up, hs0])]; exact hW)⟩
        case true =>
          rw [if_pos hs1] at hW
          clear hcl hneed hclo
          intro Q2 K2 hK2
          simp only [XInv.puts, XPrint.pw]
          go_simp
          exact hK2.out (.pointer (some ⟨w.heap.size + 1, 1, none⟩)) w' ⟨bq, rfl, (by intros; first | rfl | trivial), (by rw [if_pos (by simp [XInv.up, hs1])]; exact hW)⟩
    · refine XInv.yes_tab [(29, 2)] (by kernel_rfl) ?_
      have hs0 := hcl 4 (by decide) (by kernel_rfl)
      cases hs1 : lb 7
      case false =>
        rw [if_neg (by rw [hs1]; decide)] at hW
        rw [if_neg (by rw [hs0]; decide)] at hW
        have hB := But.of_below (T := fun k => k = g) hW
        have k8 := hB.heap Y.out.2.1 NE.out.1
        have k1 := hB.heap Y.out.2.2.2.1 NE.out.2.1
        have k2 := hB.heap Y.out.2.2.2.2.1 NE.out.2.2
        have z0 := (blk_cell k8 0).trans rfl
        have z1 := (blk_cell k8 1).trans rfl
        have z2 := (blk_cell k8 2).trans rfl
        have n1 := (blk_cell k1 1).trans rfl
        have n2 := (blk_cell k1 2).trans rfl
        have n3 := (blk_cell k1 3).trans rfl
        have r0 := (blk_cell k2 0).trans rfl
        have r1 := (blk_cell k2 1).trans rfl
        have r2 := (blk_cell k2 2).trans rfl
        have g0 := blk_frozen k2 0
        have g1 := blk_frozen k2 1
        have g2 := blk_frozen k2 2
        clear hcl hneed hclo
        intro Q2 K2 hK2
        simp only [XInv.puts, XPrint.pw]
        go_simp
        exact hK2.out (.agg #[.int .u32 x0, .int .i64 x1, .int .i64 x2]) w' ⟨bq, rfl, (by intros; first | rfl | trivial), (by rw [if_neg (by simp [XInv.up, hs1])]; rw [if_neg (by simp [XInv.up, hs0])]; exact hW)⟩
      case true =>
        exact absurd (hclo 7 4 (by decide) hs1 (by kernel_rfl)) (by rw [hs0]; decide)
    · refine XInv.yes_tab [(30, 3), (28, 1)] (by kernel_rfl) ?_
      have hs0 := hlb
      have hs1 := hcl 7 (by decide) (by kernel_rfl)
      rw [if_neg (by rw [hs1]; decide)] at hW
      rw [if_neg (by rw [hs0]; decide)] at hW
      have hB := But.of_below (T := fun k => k = g) hW
      have k8 := hB.heap Y.out.2.1 NE.out.1
      have k1 := hB.heap Y.out.2.2.2.1 NE.out.2.1
      have k2 := hB.heap Y.out.2.2.2.2.1 NE.out.2.2
      have z0 := (blk_cell k8 0).trans rfl
      have z1 := (blk_cell k8 1).trans rfl
      have z2 := (blk_cell k8 2).trans rfl
      have n1 := (blk_cell k1 1).trans rfl
      have n2 := (blk_cell k1 2).trans rfl
      have n3 := (blk_cell k1 3).trans rfl
      have r0 := (blk_cell k2 0).trans rfl
      have r1 := (blk_cell k2 1).trans rfl
      have r2 := (blk_cell k2 2).trans rfl
      have g0 := blk_frozen k2 0
      have g1 := blk_frozen k2 1
      have g2 := blk_frozen k2 2
      clear hcl hneed hclo
      intro Q2 K2 hK2
      simp only [XInv.puts, XPrint.pw]
      go_simp
      go_at_call 21
      (with_reducible refine (JC.out _ (TT.out _ hW)).mono ?_)
      rintro e wz ⟨rfl, hb, hT2⟩
      exact hK2.out (.int .i64 cd) wz ⟨bq, rfl, (by intros; first | rfl | trivial), (by rw [if_neg (by simp [XInv.up, hs1])]; rw [if_pos (by simp [XInv.up, hs0])]; exact ⟨hB.trans hb, hT2⟩)⟩
    · refine XInv.yes_tab [] (by kernel_rfl) ?_
      cases hs0 : lb 4
      case false =>
        cases hs1 : lb 7
        case false =>
          rw [if_neg (by rw [hs1]; decide)] at hW
          rw [if_neg (by rw [hs0]; decide)] at hW
          have hB := But.of_below (T := fun k => k = g) hW
          have k8 := hB.heap Y.out.2.1 NE.out.1
          have k1 := hB.heap Y.out.2.2.2.1 NE.out.2.1
          have k2 := hB.heap Y.out.2.2.2.2.1 NE.out.2.2
          have z0 := (blk_cell k8 0).trans rfl
          have z1 := (blk_cell k8 1).trans rfl
          have z2 := (blk_cell k8 2).trans rfl
          have n1 := (blk_cell k1 1).trans rfl
          have n2 := (blk_cell k1 2).trans rfl
          have n3 := (blk_cell k1 3).trans rfl
          have r0 := (blk_cell k2 0).trans rfl
          have r1 := (blk_cell k2 1).trans rfl
          have r2 := (blk_cell k2 2).trans rfl
          have g0 := blk_frozen k2 0
          have g1 := blk_frozen k2 1
          have g2 := blk_frozen k2 2
          clear hcl hneed hclo
          intro Q2 K2 hK2
          simp only [XInv.puts, XPrint.pw]
          go_simp
          exact hK2.out (.int .i64 cd) w' ⟨bq, rfl, (by intros; first | rfl | trivial), (by rw [if_neg (by simp [XInv.up, hs1])]; rw [if_neg (by simp [XInv.up, hs0])]; exact hW)⟩
        case true =>
          exact absurd (hclo 7 4 (by decide) hs1 (by kernel_rfl)) (by rw [hs0]; decide)
      case true =>
        cases hs1 : lb 7
        case false =>
          rw [if_neg (by rw [hs1]; decide)] at hW
          rw [if_pos hs0] at hW
          have hB := hW.1
          have k8 := hB.heap Y.out.2.1 NE.out.1
          have k1 := hB.heap Y.out.2.2.2.1 NE.out.2.1
          have k2 := hB.heap Y.out.2.2.2.2.1 NE.out.2.2
          have z0 := (blk_cell k8 0).trans rfl
          have z1 := (blk_cell k8 1).trans rfl
          have z2 := (blk_cell k8 2).trans rfl
          have n1 := (blk_cell k1 1).trans rfl
          have n2 := (blk_cell k1 2).trans rfl
          have n3 := (blk_cell k1 3).trans rfl
          have r0 := (blk_cell k2 0).trans rfl
          have r1 := (blk_cell k2 1).trans rfl
          have r2 := (blk_cell k2 2).trans rfl
          have g0 := blk_frozen k2 0
          have g1 := blk_frozen k2 1
          have g2 := blk_frozen k2 2
          clear hcl hneed hclo
          intro Q2 K2 hK2
          simp only [XInv.puts, XPrint.pw]
          go_simp
          exact hK2.out (.int .i64 cd) w' ⟨bq, rfl, (by intros; first | rfl | trivial), (by rw [if_neg (by simp [XInv.up, hs1])]; rw [if_pos (by simp [XInv.up, hs0])]; exact hW)⟩
        case true =>
          rw [if_pos hs1] at hW
          clear hcl hneed hclo
          intro Q2 K2 hK2
          simp only [XInv.puts, XPrint.pw]
          go_simp
          exact hK2.out (.int .i64 cd) w' ⟨bq, rfl, (by intros; first | rfl | trivial), (by rw [if_pos (by simp [XInv.up, hs1])]; exact hW)⟩
    · refine XInv.yes_tab [(32, 5), (31, 4)] (by kernel_rfl) ?_
      have hs0 := hneed 4 (by kernel_rfl)
      cases hs1 : lb 7
      case false =>
        rw [if_neg (by rw [hs1]; decide)] at hW
        rw [if_pos hs0] at hW
        have hB := hW.1
        have k8 := hB.heap Y.out.2.1 NE.out.1
        have k1 := hB.heap Y.out.2.2.2.1 NE.out.2.1
        have k2 := hB.heap Y.out.2.2.2.2.1 NE.out.2.2
        have z0 := (blk_cell k8 0).trans rfl
        have z1 := (blk_cell k8 1).trans rfl
        have z2 := (blk_cell k8 2).trans rfl
        have n1 := (blk_cell k1 1).trans rfl
        have n2 := (blk_cell k1 2).trans rfl
        have n3 := (blk_cell k1 3).trans rfl
        have r0 := (blk_cell k2 0).trans rfl
        have r1 := (blk_cell k2 1).trans rfl
        have r2 := (blk_cell k2 2).trans rfl
        have g0 := blk_frozen k2 0
        have g1 := blk_frozen k2 1
        have g2 := blk_frozen k2 2
        clear hcl hneed hclo
        intro Q2 K2 hK2
        simp only [XInv.puts, XPrint.pw]
        go_simp
        exact hK2.out (.bool true) w' ⟨bq, rfl, (by intros; first | rfl | trivial), (by rw [if_neg (by simp [XInv.up, hs1])]; rw [if_pos (by simp [XInv.up, hs0])]; exact hW)⟩
      case true =>
        rw [if_pos hs1] at hW
        clear hcl hneed hclo
        intro Q2 K2 hK2
        simp only [XInv.puts, XPrint.pw]
        go_simp
        exact hK2.out (.bool true) w' ⟨bq, rfl, (by intros; first | rfl | trivial), (by rw [if_pos (by simp [XInv.up, hs1])]; exact hW)⟩
    · refine XInv.yes_tab [(31, 4), (27, 0)] (by kernel_rfl) ?_
      have hs0 := hneed 4 (by kernel_rfl)
      have hs1 := hlb
      rw [if_neg (by rw [hs1]; decide)] at hW
      rw [if_pos hs0] at hW
      have hB := hW.1
      have k8 := hB.heap Y.out.2.1 NE.out.1
      have k1 := hB.heap Y.out.2.2.2.1 NE.out.2.1
      have k2 := hB.heap Y.out.2.2.2.2.1 NE.out.2.2
      have z0 := (blk_cell k8 0).trans rfl
      have z1 := (blk_cell k8 1).trans rfl
      have z2 := (blk_cell k8 2).trans rfl
      have n1 := (blk_cell k1 1).trans rfl
      have n2 := (blk_cell k1 2).trans rfl
      have n3 := (blk_cell k1 3).trans rfl
      have r0 := (blk_cell k2 0).trans rfl
      have r1 := (blk_cell k2 1).trans rfl
      have r2 := (blk_cell k2 2).trans rfl
      have g0 := blk_frozen k2 0
      have g1 := blk_frozen k2 1
      have g2 := blk_frozen k2 2
      clear hcl hneed hclo
      intro Q2 K2 hK2
      simp only [XInv.puts, XPrint.pw]
      go_simp
      exact hK2.out undef _ ⟨bq, rfl, (by intros; first | rfl | trivial), (by rw [if_pos (by simp [XInv.up, hs1])]; exact ⟨w', hW.1, hW.2, rfl⟩)⟩
    · refine XInv.yes_tab [(33, 6), (32, 5), (31, 4), (30, 3), (29, 2), (28, 1), (27, 0)] (by kernel_rfl) ?_
      have hs0 := hneed 4 (by kernel_rfl)
      have hs1 := hneed 7 (by kernel_rfl)
      rw [if_pos hs1] at hW
      clear hcl hneed hclo
      intro Q2 K2 hK2
      simp only [XInv.puts, XPrint.pw] at hK2 ⊢
      go_simp
      exact hK2.out (.bool true) w' ⟨bq, rfl, (by intros; first | rfl | trivial), (by rw [if_pos (by simp [XInv.up, hs1])]; exact hW)⟩
  · intro bq w' hW
    refine XInv.end_nil [(7, 8), (33, 6), (32, 5), (31, 4), (30, 3), (29, 2), (28, 1), (27, 0)] (by kernel_rfl) (by kernel_rfl) ?_
    simp only [XInv.puts, XPrint.pw]
    rw [if_pos (by kernel_rfl)] at hW
    obtain ⟨wz, hbz, hTz, rfl⟩ := hW
    have k2 := hbz.heap Y.out.2.2.2.2.1 NE.out.2.2
    have r0 := (blk_cell k2 0).trans rfl
    have r1 := (blk_cell k2 1).trans rfl
    have r2 := (blk_cell k2 2).trans rfl
    have F := Aside0.mk (And.intro hbz hTz)
    clear hbz hTz k2
    go_wp2
    refine bodyPost_ret (v := .tuple #[.agg #[.int .i64 u0, .int .i64 u1, .slice A2 m2 c2], .bool true]) (by simp [results, Try.results18, go_sem, r0, r1, r2]) rfl ⟨_, rfl, ?_, ?_, ?_⟩
    · rw [ACT.out]
      have hs3 := S.out.2.2.2.1
      have hgw := S.out.2.2.2.2
      have R2 := Kd.R_below X.out.1 Y.out.1
      have R3 := Kd.R_step R2 (fun k hk hlt => F.out.1.block k hlt (hk.elim (fun h => H.out.2.2.2.2.1 k h.1) (fun h (e : k = g) => by omega)))
      have no : ∀ k, (ok k ∧ k < w.heap.size ∨ W0.heap.size ≤ k) → k ≠ w.heap.size + 1 + 1 := fun k hk => by rcases hk with hk | hk <;> omega
      exact Kd.R_mono (Kd.R_far (p := ⟨w.heap.size + 1 + 1, 2, none⟩) (Kd.R_far (p := ⟨w.heap.size + 1 + 1, 1, none⟩) (Kd.R_far (p := ⟨w.heap.size + 1 + 1, 0, none⟩) R3 no _) no _) no _) (fun k hk => hk.elim (fun h => .inl h.1) (fun h => .inr (by omega)))
    · rw [ACT.out]
      have hb2 := H.out.1.lt
      exact F.out.2.but (T := fun k => k = w.heap.size + 1 + 1) ((((But.refl (fun k => k = w.heap.size + 1 + 1) wz).setCell (b := w.heap.size + 1 + 1) rfl _ _).setCell (b := w.heap.size + 1 + 1) rfl _ _).setCell (b := w.heap.size + 1 + 1) rfl _ _) (by omega) (by omega)
    · have hb1 : But (fun k => k = g) w wz := ((But.of_below S.out.1).trans (But.of_below Y.out.2.2.1)).trans F.out.1
      exact but_new (but_new (but_new hb1 (by omega) _ _) (by omega) _ _) (by omega) _ _
theorem who_less (ns : List S39) (i : Int) : who (less ns i) i = none := by
  unfold who less
  refine List.find?_eq_none.2 fun x hx => ?_
  have := (List.mem_filter.1 hx).2
  simpa using this
set_option maxHeartbeats 16000000 in
set_option maxRecDepth 100000 in
theorem does_lose (base b g : Nat) (u0 u1 x0 x1 x2 : Int) (ns : List S39) (v : Value) (ok : Nat → Prop) (wB w : World) (hT : TabAt w base b g u0 u1 ns) (hG : Good u0 u1 ns) (hr : Kd.R k39 39 w wB.heap.size ok v ns) (hB : Below wB.heap.size wB w) (hok : ∀ k, ok k → k ≠ b ∧ k ≠ g) (hx : (Lit.int .u32 x0).wf = true) :
    Calls Try.prog 18 #[.pointer (some ⟨b, 0, none⟩), .agg #[.int .i64 u0, .int .i64 u1, v], .agg #[.bool true, .int .u32 x0, .int .i64 x1, .int .i64 x2]] w fun e w' => ∃ v', e = .returned (.tuple #[.agg #[.int .i64 u0, .int .i64 u1, v'], .bool true]) ∧
      Kd.R k39 39 w' wB.heap.size (fun k => ok k ∨ w.heap.size ≤ k) v' (act u0 u1 ns (true, ⟨x0, ⟨x1, x2⟩⟩)) ∧ TabAt w' base b g u0 u1 (act u0 u1 ns (true, ⟨x0, ⟨x1, x2⟩⟩)) ∧ But (fun k => k = g ∨ ok k) w w' := by
  have hu31 := Try.underlying31
  have hu39 := Try.underlying39
  have hu41 := Try.underlying41
  have e39 := eqA39
  obtain ⟨A, c, rfl⟩ := Kd.R_slice hr
  have H := Aside0.mk (And.intro hT (And.intro hG (And.intro hr (And.intro hB (And.intro hok hx)))))
  clear hT hG hr hB hok hx
  go_enter Try.func18, Try.ntmps18
  go_wp2_with fail
  obtain ⟨W0, hW0⟩ : ∃ W0, (((w.alloc (.cells #[.int .i64 u0, .int .i64 u1, .slice A ns.length c] 31)).alloc (.cells #[.bool true, .int .u32 x0, .int .i64 x1, .int .i64 x2] 41)).alloc (.cells #[.int .i64 0, .int .i64 0, .slice none 0 0] 31)) = W0 := ⟨_, rfl⟩
  have hB0 : Below w.heap.size w W0 := by rw [← hW0]; exact below_alloc (below_alloc (below_alloc (Below.refl _ _) _) _) _
  have k1 : W0.heap[w.heap.size + 1]? = some (.cells #[.bool true, .int .u32 x0, .int .i64 x1, .int .i64 x2] 41 (0, 0)) := by
    have := blk_alloc (blk_new (w.alloc (.cells #[.int .i64 u0, .int .i64 u1, .slice A ns.length c] 31)) (.cells #[.bool true, .int .u32 x0, .int .i64 x1, .int .i64 x2] 41)) (.cells #[.int .i64 0, .int .i64 0, .slice none 0 0] 31)
    rw [World.size_alloc] at this
    rw [← hW0]; exact this
  have k2 : W0.heap[w.heap.size + 1 + 1]? = some (.cells #[.int .i64 0, .int .i64 0, .slice none 0 0] 31 (0, 0)) := by
    have := blk_new ((w.alloc (.cells #[.int .i64 u0, .int .i64 u1, .slice A ns.length c] 31)).alloc (.cells #[.bool true, .int .u32 x0, .int .i64 x1, .int .i64 x2] 41)) (.cells #[.int .i64 0, .int .i64 0, .slice none 0 0] 31)
    rw [World.size_alloc, World.size_alloc] at this
    rw [← hW0]; exact this
  have hs0 : W0.heap.size = w.heap.size + 3 := by rw [← hW0]; simp
  have hbg := H.out.1.lt
  obtain ⟨hT, hG, hr, hB, hok, hx⟩ := H.out
  have hr0 : Kd.R k39 39 w wB.heap.size (fun k => ok k ∧ k < w.heap.size) (.slice A ns.length c) ns := Kd.R_mono (Kd.R_bound hr) (fun k hk => ⟨hk.1, hk.2.2.1⟩)
  have hB0' : Below wB.heap.size wB W0 := below_then hB hB.size hB0
  have JJ := Aside0.mk (liveryref22_Lose.calls (ns.length + 1) u0 u1 (fun k => ok k ∧ k < w.heap.size) (.slice A ns.length c) ns x0 _ _ _ _ _ _ _ wB W0 hB0' (Kd.R_below hr0 hB0) (rlose_f u0 u1 x0 ns hG.len hG.rising _ (Nat.lt_succ_self _)))
  have S := Aside0.mk (And.intro hB0 (And.intro k1 (And.intro k2 (And.intro hs0 (And.intro hbg hB0')))))
  rw [hW0]
  clear hT hG hr hB hok hx hr0 hB0 k1 k2 hs0 hbg hW0 hB0'
  refine JJ.out.mono ?_
  rintro e w1 ⟨v', rfl, hR, hb, hk⟩
  have hbut := But.kept S.out.2.2.2.2.2 hb hk
  obtain ⟨A2, c2, rfl⟩ := Kd.R_slice hR
  have X := Aside0.mk (And.intro hR (And.intro hb hbut))
  have k1 := hbut.heap S.out.2.1 (fun h => by have := h.2; omega)
  have K1 := Aside0.mk k1
  clear hR hb hbut hk JJ k1
  obtain ⟨y0, hy0⟩ : ∃ y0, (lost ns x0).1.f0 = y0 := ⟨_, rfl⟩
  obtain ⟨y1, hy1⟩ : ∃ y1, (lost ns x0).1.f1.f0 = y1 := ⟨_, rfl⟩
  obtain ⟨y2, hy2⟩ : ∃ y2, (lost ns x0).1.f1.f1 = y2 := ⟨_, rfl⟩
  obtain ⟨cc, hcc⟩ : ∃ cc, (lost ns x0).2 = cc := ⟨_, rfl⟩
  rw [hy0, hy1, hy2, hcc]
  have LL := Aside0.mk (show lost ns x0 = (⟨y0, ⟨y1, y2⟩⟩, cc) by rw [← hy0, ← hy1, ← hy2, ← hcc])
  clear hy0 hy1 hy2 hcc
  obtain ⟨m2, hm2⟩ : ∃ m2, (less ns x0).length = m2 := ⟨_, rfl⟩
  rw [hm2] at X ⊢
  clear hm2
  dsimp only
  go_upto_region 5 with (fail)
  obtain ⟨W2, hW2⟩ : ∃ W2, (w1.alloc (.cells #[.int .i64 u0, .int .i64 u1, .slice A2 m2 c2] 31)).alloc (.cells #[.int .u32 y0, .int .i64 y1, .int .i64 y2] 39) = W2 := ⟨_, rfl⟩
  have hB2 : Below w1.heap.size w1 W2 := by rw [← hW2]; exact below_alloc (below_alloc (Below.refl _ _) _) _
  have k8 : W2.heap[w1.heap.size]? = some (.cells #[.int .i64 u0, .int .i64 u1, .slice A2 m2 c2] 31 (0, 0)) := by rw [← hW2]; exact blk_alloc (blk_new w1 _) _
  have k9 : W2.heap[w1.heap.size + 1]? = some (.cells #[.int .u32 y0, .int .i64 y1, .int .i64 y2] 39 (0, 0)) := by
    have := blk_new (w1.alloc (.cells #[.int .i64 u0, .int .i64 u1, .slice A2 m2 c2] 31)) (.cells #[.int .u32 y0, .int .i64 y1, .int .i64 y2] 39)
    rw [World.size_alloc] at this
    rw [← hW2]; exact this
  rw [hW2]
  have hx1 := X.out.2.2.size
  have b02 : But (fun k => ok k ∧ k < w.heap.size) W0 W2 := X.out.2.2.trans (But.of_below hB2)
  have hT2 : TabAt W2 base b g u0 u1 ns := (H.out.1.below S.out.1).but b02 (fun h => (H.out.2.2.2.2.1 b h.1).1 rfl) (fun h => (H.out.2.2.2.2.1 g h.1).2 rfl)
  have k2 := b02.heap S.out.2.2.1 (fun h => by have := h.2; omega)
  have Y := Aside0.mk (And.intro hB2 (And.intro k8 (And.intro k9 (And.intro b02 (And.intro hT2 (And.intro (blk_below K1.out hB2) (And.intro k2 hx1)))))))
  have a1 := (blk_cell (blk_below K1.out hB2) 1).trans rfl
  clear hB2 k8 k9 b02 hT2 k2 hx1 hW2
  go_wp2_with fail
  refine (loseC base b g u0 u1 x0 ns _ Y.out.2.2.2.2.1 H.out.2.2.2.2.2).mono ?_
  rintro e w3 ⟨rfl, hb, hT⟩
  rw [LL.out]
  unfold nv
  have hgw := S.out.2.2.2.2.1
  have hs3 := S.out.2.2.2.1
  have hx1 := Y.out.2.2.2.2.2.2.2
  have k1 := hb.heap Y.out.2.2.2.2.2.1 (by omega)
  have k2 := hb.heap Y.out.2.2.2.2.2.2.1 (by omega)
  have k8 := hb.heap Y.out.2.1 (by omega)
  have k9 := hb.heap Y.out.2.2.1 (by omega)
  have Z := Aside0.mk (And.intro hb (And.intro hT (And.intro k1 (And.intro k2 (And.intro k8 k9)))))
  clear hb hT k1 k2 k8 k9 hgw hs3 hx1 a1
  dsimp only
  have a1 := fun o => (blk_cell (blk_alloc Z.out.2.2.1 o) 1).trans rfl
  go_wp2_with fail
  refine (units_no base b g u0 u1 x0 (less ns x0) _ (Z.out.2.1.below (below_alloc (Below.refl _ _) _)) H.out.2.2.2.2.2 (who_less ns x0)).mono ?_
  rintro e w4 ⟨rfl, hb⟩
  obtain ⟨W3, hW3⟩ : ∃ W3, w3.alloc (.cells #[.int .u32 y0, .int .i64 y1, .int .i64 y2] 39) = W3 := ⟨_, rfl⟩
  have h3 : Below w3.heap.size w3 W3 := by rw [← hW3]; exact below_alloc (Below.refl _ _) _
  have k13 : W3.heap[w3.heap.size]? = some (.cells #[.int .u32 y0, .int .i64 y1, .int .i64 y2] 39 (0, 0)) := by rw [← hW3]; exact blk_new w3 _
  rw [hW3] at hb
  have hb4 := below_step h3 hb
  have V := Aside0.mk (And.intro hb4 (And.intro (blk_below k13 hb) (And.intro (blk_below Z.out.2.2.2.1 hb4) (And.intro (blk_below Z.out.2.2.2.2.1 hb4) (blk_below Z.out.2.2.2.2.2 hb4)))))
  clear hb h3 k13 hb4 a1 hW3
  dsimp only
  go_upto_region 7 with (fail)
  refine XInv.region_tab [] [[], [], [], [1, 2], [3], [4], [4], [5, 6, 4], [4, 7], [8, 4], [9], [10, 9], [9, 11], [0, 9, 0], [12, 13, 0, 1, 2, 3, 4, 5, 6, 7, 8, 9, 10, 11, 12, 13]] (fun bq jq => match jq with
      | 0 => .agg #[.int .i64 u0, .int .i64 u1, .slice A2 m2 c2]
      | 1 => .agg #[.int .u32 y0, .int .i64 y1, .int .i64 y2]
      | 2 => .agg #[.int .u32 y0, .int .i64 y1, .int .i64 y2]
      | 3 => .bool true
      | 4 => .bool true
      | 5 => .int .i64 cc
      | 6 => .int .i64 cc
      | 7 => .bool true
      | 8 => .bool true
      | 9 => .bool true
      | 10 => .int .i64 7
      | 11 => .bool true
      | 12 => .bool true
      | 13 => undef
      | 14 => .bool true
      | _ => undef)
      (fun bq l w' => if l 13 = true then (∃ wz, Below w4.heap.size w4 wz ∧ w' = (((wz.setCell ⟨w.heap.size + 1 + 1, 0, none⟩ (.int .i64 u0)).setCell ⟨w.heap.size + 1 + 1, 1, none⟩ (.int .i64 u1)).setCell ⟨w.heap.size + 1 + 1, 2, none⟩ (.slice A2 m2 c2))) else Below w4.heap.size w4 w')
      (by kernel_rfl) rfl (by kernel_rfl) (by kernel_rfl) (by kernel_rfl) ⟨fun _ : Nat => (0 : Nat), (by rw [if_neg (by simp)]; exact below_drew (Below.refl _ _))⟩ ?_ ?_
  · intro i1 hi1 hds oi hoi bq lb w' hW hlb hcl hneed hclo
    have hi1 : i1 < 15 := hi1
    have hcs : i1 = 0 ∨ i1 = 1 ∨ i1 = 2 ∨ i1 = 3 ∨ i1 = 4 ∨ i1 = 5 ∨ i1 = 6 ∨ i1 = 7 ∨ i1 = 8 ∨ i1 = 9 ∨ i1 = 10 ∨ i1 = 11 ∨ i1 = 12 ∨ i1 = 13 ∨ i1 = 14 := by omega
    clear hi1
    rcases hcs with rfl | rfl | rfl | rfl | rfl | rfl | rfl | rfl | rfl | rfl | rfl | rfl | rfl | rfl | rfl
    all_goals simp only [List.getElem?_toArray, List.getElem?_cons_succ, List.getElem?_cons_zero, Option.some.injEq] at hoi
    all_goals subst hoi
    · refine XInv.yes_tab [] (by kernel_rfl) ?_
      have hs0 := hcl 13 (by decide) (by kernel_rfl)
      rw [if_neg (by rw [hs0]; decide)] at hW
      have k13 := blk_below V.out.2.1 hW
      have k2 := blk_below V.out.2.2.1 hW
      have k8 := blk_below V.out.2.2.2.1 hW
      have k9 := blk_below V.out.2.2.2.2 hW
      have z0 := (blk_cell k8 0).trans rfl
      have z1 := (blk_cell k8 1).trans rfl
      have z2 := (blk_cell k8 2).trans rfl
      have n0 := (blk_cell k9 0).trans rfl
      have n1 := (blk_cell k9 1).trans rfl
      have n2 := (blk_cell k9 2).trans rfl
      have p0 := (blk_cell k13 0).trans rfl
      have p1 := (blk_cell k13 1).trans rfl
      have p2 := (blk_cell k13 2).trans rfl
      have r0 := (blk_cell k2 0).trans rfl
      have r1 := (blk_cell k2 1).trans rfl
      have r2 := (blk_cell k2 2).trans rfl
      have g0 := blk_frozen k2 0
      have g1 := blk_frozen k2 1
      have g2 := blk_frozen k2 2
      clear hcl hneed hclo
      intro Q2 K2 hK2
      simp only [XInv.puts, XPrint.pw]
      go_simp
      exact hK2.out (.agg #[.int .i64 u0, .int .i64 u1, .slice A2 m2 c2]) w' ⟨bq, rfl, (by intros; first | rfl | trivial), (by rw [if_neg (by simp [XInv.up, hs0])]; exact hW)⟩
    · refine XInv.yes_tab [] (by kernel_rfl) ?_
      cases hs0 : lb 13
      case false =>
        rw [if_neg (by rw [hs0]; decide)] at hW
        have k13 := blk_below V.out.2.1 hW
        have k2 := blk_below V.out.2.2.1 hW
        have k8 := blk_below V.out.2.2.2.1 hW
        have k9 := blk_below V.out.2.2.2.2 hW
        have z0 := (blk_cell k8 0).trans rfl
        have z1 := (blk_cell k8 1).trans rfl
        have z2 := (blk_cell k8 2).trans rfl
        have n0 := (blk_cell k9 0).trans rfl
        have n1 := (blk_cell k9 1).trans rfl
        have n2 := (blk_cell k9 2).trans rfl
        have p0 := (blk_cell k13 0).trans rfl
        have p1 := (blk_cell k13 1).trans rfl
        have p2 := (blk_cell k13 2).trans rfl
        have r0 := (blk_cell k2 0).trans rfl
        have r1 := (blk_cell k2 1).trans rfl
        have r2 := (blk_cell k2 2).trans rfl
        have g0 := blk_frozen k2 0
        have g1 := blk_frozen k2 1
        have g2 := blk_frozen k2 2
        clear hcl hneed hclo
        intro Q2 K2 hK2
        simp only [XInv.puts, XPrint.pw]
        go_simp
        exact hK2.out (.agg #[.int .u32 y0, .int .i64 y1, .int .i64 y2]) w' ⟨bq, rfl, (by intros; first | rfl | trivial), (by rw [if_neg (by simp [XInv.up, hs0])]; exact hW)⟩
      case true =>
        rw [if_pos hs0] at hW
        obtain ⟨wz, hbz, hwz⟩ := id hW
        have hbt : But (fun k => k = w.heap.size + 1 + 1) wz w' := by rw [hwz]; exact (((But.refl (fun k => k = w.heap.size + 1 + 1) wz).setCell (b := w.heap.size + 1 + 1) rfl _ _).setCell (b := w.heap.size + 1 + 1) rfl _ _).setCell (b := w.heap.size + 1 + 1) rfl _ _
        clear hwz
        have hx3 := Z.out.1.size
        have hx2 := Y.out.1.size
        have hx1 := Y.out.2.2.2.2.2.2.2
        have hs3 := S.out.2.2.2.1
        have k13 := hbt.heap (blk_below V.out.2.1 hbz) (by omega)
        have k9 := hbt.heap (blk_below V.out.2.2.2.2 hbz) (by omega)
        have n0 := (blk_cell k9 0).trans rfl
        have n1 := (blk_cell k9 1).trans rfl
        have n2 := (blk_cell k9 2).trans rfl
        have p0 := (blk_cell k13 0).trans rfl
        have p1 := (blk_cell k13 1).trans rfl
        have p2 := (blk_cell k13 2).trans rfl
        clear hx3 hx2 hx1 hs3
        clear hcl hneed hclo
        intro Q2 K2 hK2
        simp only [XInv.puts, XPrint.pw]
        go_simp
        exact hK2.out (.agg #[.int .u32 y0, .int .i64 y1, .int .i64 y2]) w' ⟨bq, rfl, (by intros; first | rfl | trivial), (by rw [if_pos (by simp [XInv.up, hs0])]; exact hW)⟩
    · refine XInv.yes_tab [] (by kernel_rfl) ?_
      cases hs0 : lb 13
      case false =>
        rw [if_neg (by rw [hs0]; decide)] at hW
        have k13 := blk_below V.out.2.1 hW
        have k2 := blk_below V.out.2.2.1 hW
        have k8 := blk_below V.out.2.2.2.1 hW
        have k9 := blk_below V.out.2.2.2.2 hW
        have z0 := (blk_cell k8 0).trans rfl
        have z1 := (blk_cell k8 1).trans rfl
        have z2 := (blk_cell k8 2).trans rfl
        have n0 := (blk_cell k9 0).trans rfl
        have n1 := (blk_cell k9 1).trans rfl
        have n2 := (blk_cell k9 2).trans rfl
        have p0 := (blk_cell k13 0).trans rfl
        have p1 := (blk_cell k13 1).trans rfl
        have p2 := (blk_cell k13 2).trans rfl
        have r0 := (blk_cell k2 0).trans rfl
        have r1 := (blk_cell k2 1).trans rfl
        have r2 := (blk_cell k2 2).trans rfl
        have g0 := blk_frozen k2 0
        have g1 := blk_frozen k2 1
        have g2 := blk_frozen k2 2
        clear hcl hneed hclo
        intro Q2 K2 hK2
        simp only [XInv.puts, XPrint.pw]
        go_simp
        exact hK2.out (.agg #[.int .u32 y0, .int .i64 y1, .int .i64 y2]) w' ⟨bq, rfl, (by intros; first | rfl | trivial), (by rw [if_neg (by simp [XInv.up, hs0])]; exact hW)⟩
      case true =>
        rw [if_pos hs0] at hW
        obtain ⟨wz, hbz, hwz⟩ := id hW
        have hbt : But (fun k => k = w.heap.size + 1 + 1) wz w' := by rw [hwz]; exact (((But.refl (fun k => k = w.heap.size + 1 + 1) wz).setCell (b := w.heap.size + 1 + 1) rfl _ _).setCell (b := w.heap.size + 1 + 1) rfl _ _).setCell (b := w.heap.size + 1 + 1) rfl _ _
        clear hwz
        have hx3 := Z.out.1.size
        have hx2 := Y.out.1.size
        have hx1 := Y.out.2.2.2.2.2.2.2
        have hs3 := S.out.2.2.2.1
        have k13 := hbt.heap (blk_below V.out.2.1 hbz) (by omega)
        have k9 := hbt.heap (blk_below V.out.2.2.2.2 hbz) (by omega)
        have n0 := (blk_cell k9 0).trans rfl
        have n1 := (blk_cell k9 1).trans rfl
        have n2 := (blk_cell k9 2).trans rfl
        have p0 := (blk_cell k13 0).trans rfl
        have p1 := (blk_cell k13 1).trans rfl
        have p2 := (blk_cell k13 2).trans rfl
        clear hx3 hx2 hx1 hs3
        clear hcl hneed hclo
        intro Q2 K2 hK2
        simp only [XInv.puts, XPrint.pw]
        go_simp
        exact hK2.out (.agg #[.int .u32 y0, .int .i64 y1, .int .i64 y2]) w' ⟨bq, rfl, (by intros; first | rfl | trivial), (by rw [if_pos (by simp [XInv.up, hs0])]; exact hW)⟩
    · refine XInv.yes_tab [(61, 2), (60, 1)] (by kernel_rfl) ?_
      cases hs0 : lb 13
      case false =>
        rw [if_neg (by rw [hs0]; decide)] at hW
        have k13 := blk_below V.out.2.1 hW
        have k2 := blk_below V.out.2.2.1 hW
        have k8 := blk_below V.out.2.2.2.1 hW
        have k9 := blk_below V.out.2.2.2.2 hW
        have z0 := (blk_cell k8 0).trans rfl
        have z1 := (blk_cell k8 1).trans rfl
        have z2 := (blk_cell k8 2).trans rfl
        have n0 := (blk_cell k9 0).trans rfl
        have n1 := (blk_cell k9 1).trans rfl
        have n2 := (blk_cell k9 2).trans rfl
        have p0 := (blk_cell k13 0).trans rfl
        have p1 := (blk_cell k13 1).trans rfl
        have p2 := (blk_cell k13 2).trans rfl
        have r0 := (blk_cell k2 0).trans rfl
        have r1 := (blk_cell k2 1).trans rfl
        have r2 := (blk_cell k2 2).trans rfl
        have g0 := blk_frozen k2 0
        have g1 := blk_frozen k2 1
        have g2 := blk_frozen k2 2
        clear hcl hneed hclo
        intro Q2 K2 hK2
        simp only [XInv.puts, XPrint.pw]
        go_simp
        exact hK2.out (.bool true) w' ⟨bq, rfl, (by intros; first | rfl | trivial), (by rw [if_neg (by simp [XInv.up, hs0])]; exact hW)⟩
      case true =>
        rw [if_pos hs0] at hW
        obtain ⟨wz, hbz, hwz⟩ := id hW
        have hbt : But (fun k => k = w.heap.size + 1 + 1) wz w' := by rw [hwz]; exact (((But.refl (fun k => k = w.heap.size + 1 + 1) wz).setCell (b := w.heap.size + 1 + 1) rfl _ _).setCell (b := w.heap.size + 1 + 1) rfl _ _).setCell (b := w.heap.size + 1 + 1) rfl _ _
        clear hwz
        have hx3 := Z.out.1.size
        have hx2 := Y.out.1.size
        have hx1 := Y.out.2.2.2.2.2.2.2
        have hs3 := S.out.2.2.2.1
        have k13 := hbt.heap (blk_below V.out.2.1 hbz) (by omega)
        have k9 := hbt.heap (blk_below V.out.2.2.2.2 hbz) (by omega)
        have n0 := (blk_cell k9 0).trans rfl
        have n1 := (blk_cell k9 1).trans rfl
        have n2 := (blk_cell k9 2).trans rfl
        have p0 := (blk_cell k13 0).trans rfl
        have p1 := (blk_cell k13 1).trans rfl
        have p2 := (blk_cell k13 2).trans rfl
        clear hx3 hx2 hx1 hs3
        clear hcl hneed hclo
        intro Q2 K2 hK2
        simp only [XInv.puts, XPrint.pw]
        go_simp
        exact hK2.out (.bool true) w' ⟨bq, rfl, (by intros; first | rfl | trivial), (by rw [if_pos (by simp [XInv.up, hs0])]; exact hW)⟩
    · refine XInv.yes_tab [(62, 3)] (by kernel_rfl) ?_
      cases hs0 : lb 13
      case false =>
        rw [if_neg (by rw [hs0]; decide)] at hW
        have k13 := blk_below V.out.2.1 hW
        have k2 := blk_below V.out.2.2.1 hW
        have k8 := blk_below V.out.2.2.2.1 hW
        have k9 := blk_below V.out.2.2.2.2 hW
        have z0 := (blk_cell k8 0).trans rfl
        have z1 := (blk_cell k8 1).trans rfl
        have z2 := (blk_cell k8 2).trans rfl
        have n0 := (blk_cell k9 0).trans rfl
        have n1 := (blk_cell k9 1).trans rfl
        have n2 := (blk_cell k9 2).trans rfl
        have p0 := (blk_cell k13 0).trans rfl
        have p1 := (blk_cell k13 1).trans rfl
        have p2 := (blk_cell k13 2).trans rfl
        have r0 := (blk_cell k2 0).trans rfl
        have r1 := (blk_cell k2 1).trans rfl
        have r2 := (blk_cell k2 2).trans rfl
        have g0 := blk_frozen k2 0
        have g1 := blk_frozen k2 1
        have g2 := blk_frozen k2 2
        clear hcl hneed hclo
        intro Q2 K2 hK2
        simp only [XInv.puts, XPrint.pw]
        go_simp
        exact hK2.out (.bool true) w' ⟨bq, rfl, (by intros; first | rfl | trivial), (by rw [if_neg (by simp [XInv.up, hs0])]; exact hW)⟩
      case true =>
        rw [if_pos hs0] at hW
        obtain ⟨wz, hbz, hwz⟩ := id hW
        have hbt : But (fun k => k = w.heap.size + 1 + 1) wz w' := by rw [hwz]; exact (((But.refl (fun k => k = w.heap.size + 1 + 1) wz).setCell (b := w.heap.size + 1 + 1) rfl _ _).setCell (b := w.heap.size + 1 + 1) rfl _ _).setCell (b := w.heap.size + 1 + 1) rfl _ _
        clear hwz
        have hx3 := Z.out.1.size
        have hx2 := Y.out.1.size
        have hx1 := Y.out.2.2.2.2.2.2.2
        have hs3 := S.out.2.2.2.1
        have k13 := hbt.heap (blk_below V.out.2.1 hbz) (by omega)
        have k9 := hbt.heap (blk_below V.out.2.2.2.2 hbz) (by omega)
        have n0 := (blk_cell k9 0).trans rfl
        have n1 := (blk_cell k9 1).trans rfl
        have n2 := (blk_cell k9 2).trans rfl
        have p0 := (blk_cell k13 0).trans rfl
        have p1 := (blk_cell k13 1).trans rfl
        have p2 := (blk_cell k13 2).trans rfl
        clear hx3 hx2 hx1 hs3
        clear hcl hneed hclo
        intro Q2 K2 hK2
        simp only [XInv.puts, XPrint.pw]
        go_simp
        exact hK2.out (.bool true) w' ⟨bq, rfl, (by intros; first | rfl | trivial), (by rw [if_pos (by simp [XInv.up, hs0])]; exact hW)⟩
    · refine XInv.yes_tab [(63, 4)] (by kernel_rfl) ?_
      cases hs0 : lb 13
      case false =>
        rw [if_neg (by rw [hs0]; decide)] at hW
        have k13 := blk_below V.out.2.1 hW
        have k2 := blk_below V.out.2.2.1 hW
        have k8 := blk_below V.out.2.2.2.1 hW
        have k9 := blk_below V.out.2.2.2.2 hW
        have z0 := (blk_cell k8 0).trans rfl
        have z1 := (blk_cell k8 1).trans rfl
        have z2 := (blk_cell k8 2).trans rfl
        have n0 := (blk_cell k9 0).trans rfl
        have n1 := (blk_cell k9 1).trans rfl
        have n2 := (blk_cell k9 2).trans rfl
        have p0 := (blk_cell k13 0).trans rfl
        have p1 := (blk_cell k13 1).trans rfl
        have p2 := (blk_cell k13 2).trans rfl
        have r0 := (blk_cell k2 0).trans rfl
        have r1 := (blk_cell k2 1).trans rfl
        have r2 := (blk_cell k2 2).trans rfl
        have g0 := blk_frozen k2 0
        have g1 := blk_frozen k2 1
        have g2 := blk_frozen k2 2
        clear hcl hneed hclo
        intro Q2 K2 hK2
        simp only [XInv.puts, XPrint.pw]
        go_simp
        exact hK2.out (.int .i64 cc) w' ⟨bq, rfl, (by intros; first | rfl | trivial), (by rw [if_neg (by simp [XInv.up, hs0])]; exact hW)⟩
      case true =>
        rw [if_pos hs0] at hW
        obtain ⟨wz, hbz, hwz⟩ := id hW
        have hbt : But (fun k => k = w.heap.size + 1 + 1) wz w' := by rw [hwz]; exact (((But.refl (fun k => k = w.heap.size + 1 + 1) wz).setCell (b := w.heap.size + 1 + 1) rfl _ _).setCell (b := w.heap.size + 1 + 1) rfl _ _).setCell (b := w.heap.size + 1 + 1) rfl _ _
        clear hwz
        have hx3 := Z.out.1.size
        have hx2 := Y.out.1.size
        have hx1 := Y.out.2.2.2.2.2.2.2
        have hs3 := S.out.2.2.2.1
        have k13 := hbt.heap (blk_below V.out.2.1 hbz) (by omega)
        have k9 := hbt.heap (blk_below V.out.2.2.2.2 hbz) (by omega)
        have n0 := (blk_cell k9 0).trans rfl
        have n1 := (blk_cell k9 1).trans rfl
        have n2 := (blk_cell k9 2).trans rfl
        have p0 := (blk_cell k13 0).trans rfl
        have p1 := (blk_cell k13 1).trans rfl
        have p2 := (blk_cell k13 2).trans rfl
        clear hx3 hx2 hx1 hs3
        clear hcl hneed hclo
        intro Q2 K2 hK2
        simp only [XInv.puts, XPrint.pw]
        go_simp
        exact hK2.out (.int .i64 cc) w' ⟨bq, rfl, (by intros; first | rfl | trivial), (by rw [if_pos (by simp [XInv.up, hs0])]; exact hW)⟩
    · refine XInv.yes_tab [(63, 4)] (by kernel_rfl) ?_
      cases hs0 : lb 13
      case false =>
        rw [if_neg (by rw [hs0]; decide)] at hW
        have k13 := blk_below V.out.2.1 hW
        have k2 := blk_below V.out.2.2.1 hW
        have k8 := blk_below V.out.2.2.2.1 hW
        have k9 := blk_below V.out.2.2.2.2 hW
        have z0 := (blk_cell k8 0).trans rfl
        have z1 := (blk_cell k8 1).trans rfl
        have z2 := (blk_cell k8 2).trans rfl
        have n0 := (blk_cell k9 0).trans rfl
        have n1 := (blk_cell k9 1).trans rfl
        have n2 := (blk_cell k9 2).trans rfl
        have p0 := (blk_cell k13 0).trans rfl
        have p1 := (blk_cell k13 1).trans rfl
        have p2 := (blk_cell k13 2).trans rfl
        have r0 := (blk_cell k2 0).trans rfl
        have r1 := (blk_cell k2 1).trans rfl
        have r2 := (blk_cell k2 2).trans rfl
        have g0 := blk_frozen k2 0
        have g1 := blk_frozen k2 1
        have g2 := blk_frozen k2 2
        clear hcl hneed hclo
        intro Q2 K2 hK2
        simp only [XInv.puts, XPrint.pw]
        go_simp
        exact hK2.out (.int .i64 cc) w' ⟨bq, rfl, (by intros; first | rfl | trivial), (by rw [if_neg (by simp [XInv.up, hs0])]; exact hW)⟩
      case true =>
        rw [if_pos hs0] at hW
        obtain ⟨wz, hbz, hwz⟩ := id hW
        have hbt : But (fun k => k = w.heap.size + 1 + 1) wz w' := by rw [hwz]; exact (((But.refl (fun k => k = w.heap.size + 1 + 1) wz).setCell (b := w.heap.size + 1 + 1) rfl _ _).setCell (b := w.heap.size + 1 + 1) rfl _ _).setCell (b := w.heap.size + 1 + 1) rfl _ _
        clear hwz
        have hx3 := Z.out.1.size
        have hx2 := Y.out.1.size
        have hx1 := Y.out.2.2.2.2.2.2.2
        have hs3 := S.out.2.2.2.1
        have k13 := hbt.heap (blk_below V.out.2.1 hbz) (by omega)
        have k9 := hbt.heap (blk_below V.out.2.2.2.2 hbz) (by omega)
        have n0 := (blk_cell k9 0).trans rfl
        have n1 := (blk_cell k9 1).trans rfl
        have n2 := (blk_cell k9 2).trans rfl
        have p0 := (blk_cell k13 0).trans rfl
        have p1 := (blk_cell k13 1).trans rfl
        have p2 := (blk_cell k13 2).trans rfl
        clear hx3 hx2 hx1 hs3
        clear hcl hneed hclo
        intro Q2 K2 hK2
        simp only [XInv.puts, XPrint.pw]
        go_simp
        exact hK2.out (.int .i64 cc) w' ⟨bq, rfl, (by intros; first | rfl | trivial), (by rw [if_pos (by simp [XInv.up, hs0])]; exact hW)⟩
    · refine XInv.yes_tab [(65, 6), (64, 5), (63, 4)] (by kernel_rfl) ?_
      cases hs0 : lb 13
      case false =>
        rw [if_neg (by rw [hs0]; decide)] at hW
        have k13 := blk_below V.out.2.1 hW
        have k2 := blk_below V.out.2.2.1 hW
        have k8 := blk_below V.out.2.2.2.1 hW
        have k9 := blk_below V.out.2.2.2.2 hW
        have z0 := (blk_cell k8 0).trans rfl
        have z1 := (blk_cell k8 1).trans rfl
        have z2 := (blk_cell k8 2).trans rfl
        have n0 := (blk_cell k9 0).trans rfl
        have n1 := (blk_cell k9 1).trans rfl
        have n2 := (blk_cell k9 2).trans rfl
        have p0 := (blk_cell k13 0).trans rfl
        have p1 := (blk_cell k13 1).trans rfl
        have p2 := (blk_cell k13 2).trans rfl
        have r0 := (blk_cell k2 0).trans rfl
        have r1 := (blk_cell k2 1).trans rfl
        have r2 := (blk_cell k2 2).trans rfl
        have g0 := blk_frozen k2 0
        have g1 := blk_frozen k2 1
        have g2 := blk_frozen k2 2
        clear hcl hneed hclo
        intro Q2 K2 hK2
        simp only [XInv.puts, XPrint.pw]
        go_simp
        exact hK2.out (.bool true) w' ⟨bq, rfl, (by intros; first | rfl | trivial), (by rw [if_neg (by simp [XInv.up, hs0])]; exact hW)⟩
      case true =>
        rw [if_pos hs0] at hW
        obtain ⟨wz, hbz, hwz⟩ := id hW
        have hbt : But (fun k => k = w.heap.size + 1 + 1) wz w' := by rw [hwz]; exact (((But.refl (fun k => k = w.heap.size + 1 + 1) wz).setCell (b := w.heap.size + 1 + 1) rfl _ _).setCell (b := w.heap.size + 1 + 1) rfl _ _).setCell (b := w.heap.size + 1 + 1) rfl _ _
        clear hwz
        have hx3 := Z.out.1.size
        have hx2 := Y.out.1.size
        have hx1 := Y.out.2.2.2.2.2.2.2
        have hs3 := S.out.2.2.2.1
        have k13 := hbt.heap (blk_below V.out.2.1 hbz) (by omega)
        have k9 := hbt.heap (blk_below V.out.2.2.2.2 hbz) (by omega)
        have n0 := (blk_cell k9 0).trans rfl
        have n1 := (blk_cell k9 1).trans rfl
        have n2 := (blk_cell k9 2).trans rfl
        have p0 := (blk_cell k13 0).trans rfl
        have p1 := (blk_cell k13 1).trans rfl
        have p2 := (blk_cell k13 2).trans rfl
        clear hx3 hx2 hx1 hs3
        clear hcl hneed hclo
        intro Q2 K2 hK2
        simp only [XInv.puts, XPrint.pw]
        go_simp
        exact hK2.out (.bool true) w' ⟨bq, rfl, (by intros; first | rfl | trivial), (by rw [if_pos (by simp [XInv.up, hs0])]; exact hW)⟩
    · refine XInv.yes_tab [(66, 7), (63, 4)] (by kernel_rfl) ?_
      cases hs0 : lb 13
      case false =>
        rw [if_neg (by rw [hs0]; decide)] at hW
        have k13 := blk_below V.out.2.1 hW
        have k2 := blk_below V.out.2.2.1 hW
        have k8 := blk_below V.out.2.2.2.1 hW
        have k9 := blk_below V.out.2.2.2.2 hW
        have z0 := (blk_cell k8 0).trans rfl
        have z1 := (blk_cell k8 1).trans rfl
        have z2 := (blk_cell k8 2).trans rfl
        have n0 := (blk_cell k9 0).trans rfl
        have n1 := (blk_cell k9 1).trans rfl
        have n2 := (blk_cell k9 2).trans rfl
        have p0 := (blk_cell k13 0).trans rfl
        have p1 := (blk_cell k13 1).trans rfl
        have p2 := (blk_cell k13 2).trans rfl
        have r0 := (blk_cell k2 0).trans rfl
        have r1 := (blk_cell k2 1).trans rfl
        have r2 := (blk_cell k2 2).trans rfl
        have g0 := blk_frozen k2 0
        have g1 := blk_frozen k2 1
        have g2 := blk_frozen k2 2
        clear hcl hneed hclo
        intro Q2 K2 hK2
        simp only [XInv.puts, XPrint.pw]
        go_simp
        exact hK2.out (.bool true) w' ⟨bq, rfl, (by intros; first | rfl | trivial), (by rw [if_neg (by simp [XInv.up, hs0])]; exact hW)⟩
      case true =>
        rw [if_pos hs0] at hW
        obtain ⟨wz, hbz, hwz⟩ := id hW
        have hbt : But (fun k => k = w.heap.size + 1 + 1) wz w' := by rw [hwz]; exact (((But.refl (fun k => k = w.heap.size + 1 + 1) wz).setCell (b := w.heap.size + 1 + 1) rfl _ _).setCell (b := w.heap.size + 1 + 1) rfl _ _).setCell (b := w.heap.size + 1 + 1) rfl _ _
        clear hwz
        have hx3 := Z.out.1.size
        have hx2 := Y.out.1.size
        have hx1 := Y.out.2.2.2.2.2.2.2
        have hs3 := S.out.2.2.2.1
        have k13 := hbt.heap (blk_below V.out.2.1 hbz) (by omega)
        have k9 := hbt.heap (blk_below V.out.2.2.2.2 hbz) (by omega)
        have n0 := (blk_cell k9 0).trans rfl
        have n1 := (blk_cell k9 1).trans rfl
        have n2 := (blk_cell k9 2).trans rfl
        have p0 := (blk_cell k13 0).trans rfl
        have p1 := (blk_cell k13 1).trans rfl
        have p2 := (blk_cell k13 2).trans rfl
        clear hx3 hx2 hx1 hs3
        clear hcl hneed hclo
        intro Q2 K2 hK2
        simp only [XInv.puts, XPrint.pw]
        go_simp
        exact hK2.out (.bool true) w' ⟨bq, rfl, (by intros; first | rfl | trivial), (by rw [if_pos (by simp [XInv.up, hs0])]; exact hW)⟩
    · refine XInv.yes_tab [(67, 8), (63, 4)] (by kernel_rfl) ?_
      have hs0 := hcl 13 (by decide) (by kernel_rfl)
      rw [if_neg (by rw [hs0]; decide)] at hW
      have k13 := blk_below V.out.2.1 hW
      have k2 := blk_below V.out.2.2.1 hW
      have k8 := blk_below V.out.2.2.2.1 hW
      have k9 := blk_below V.out.2.2.2.2 hW
      have z0 := (blk_cell k8 0).trans rfl
      have z1 := (blk_cell k8 1).trans rfl
      have z2 := (blk_cell k8 2).trans rfl
      have n0 := (blk_cell k9 0).trans rfl
      have n1 := (blk_cell k9 1).trans rfl
      have n2 := (blk_cell k9 2).trans rfl
      have p0 := (blk_cell k13 0).trans rfl
      have p1 := (blk_cell k13 1).trans rfl
      have p2 := (blk_cell k13 2).trans rfl
      have r0 := (blk_cell k2 0).trans rfl
      have r1 := (blk_cell k2 1).trans rfl
      have r2 := (blk_cell k2 2).trans rfl
      have g0 := blk_frozen k2 0
      have g1 := blk_frozen k2 1
      have g2 := blk_frozen k2 2
      clear hcl hneed hclo
      intro Q2 K2 hK2
      simp only [XInv.puts, XPrint.pw]
      go_simp
      exact hK2.out (.bool true) w' ⟨bq, rfl, (by intros; first | rfl | trivial), (by rw [if_neg (by simp [XInv.up, hs0])]; exact hW)⟩
    · refine XInv.yes_tab [(68, 9)] (by kernel_rfl) ?_
      cases hs0 : lb 13
      case false =>
        rw [if_neg (by rw [hs0]; decide)] at hW
        have k13 := blk_below V.out.2.1 hW
        have k2 := blk_below V.out.2.2.1 hW
        have k8 := blk_below V.out.2.2.2.1 hW
        have k9 := blk_below V.out.2.2.2.2 hW
        have z0 := (blk_cell k8 0).trans rfl
        have z1 := (blk_cell k8 1).trans rfl
        have z2 := (blk_cell k8 2).trans rfl
        have n0 := (blk_cell k9 0).trans rfl
        have n1 := (blk_cell k9 1).trans rfl
        have n2 := (blk_cell k9 2).trans rfl
        have p0 := (blk_cell k13 0).trans rfl
        have p1 := (blk_cell k13 1).trans rfl
        have p2 := (blk_cell k13 2).trans rfl
        have r0 := (blk_cell k2 0).trans rfl
        have r1 := (blk_cell k2 1).trans rfl
        have r2 := (blk_cell k2 2).trans rfl
        have g0 := blk_frozen k2 0
        have g1 := blk_frozen k2 1
        have g2 := blk_frozen k2 2
        clear hcl hneed hclo
        intro Q2 K2 hK2
        simp only [XInv.puts, XPrint.pw]
        go_simp
        exact hK2.out (.int .i64 7) w' ⟨bq, rfl, (by intros; first | rfl | trivial), (by rw [if_neg (by simp [XInv.up, hs0])]; exact hW)⟩
      case true =>
        rw [if_pos hs0] at hW
        obtain ⟨wz, hbz, hwz⟩ := id hW
        have hbt : But (fun k => k = w.heap.size + 1 + 1) wz w' := by rw [hwz]; exact (((But.refl (fun k => k = w.heap.size + 1 + 1) wz).setCell (b := w.heap.size + 1 + 1) rfl _ _).setCell (b := w.heap.size + 1 + 1) rfl _ _).setCell (b := w.heap.size + 1 + 1) rfl _ _
        clear hwz
        have hx3 := Z.out.1.size
        have hx2 := Y.out.1.size
        have hx1 := Y.out.2.2.2.2.2.2.2
        have hs3 := S.out.2.2.2.1
        have k13 := hbt.heap (blk_below V.out.2.1 hbz) (by omega)
        have k9 := hbt.heap (blk_below V.out.2.2.2.2 hbz) (by omega)
        have n0 := (blk_cell k9 0).trans rfl
        have n1 := (blk_cell k9 1).trans rfl
        have n2 := (blk_cell k9 2).trans rfl
        have p0 := (blk_cell k13 0).trans rfl
        have p1 := (blk_cell k13 1).trans rfl
        have p2 := (blk_cell k13 2).trans rfl
        clear hx3 hx2 hx1 hs3
        clear hcl hneed hclo
        intro Q2 K2 hK2
        simp only [XInv.puts, XPrint.pw]
        go_simp
        exact hK2.out (.int .i64 7) w' ⟨bq, rfl, (by intros; first | rfl | trivial), (by rw [if_pos (by simp [XInv.up, hs0])]; exact hW)⟩
    · refine XInv.yes_tab [(69, 10), (68, 9)] (by kernel_rfl) ?_
      cases hs0 : lb 13
      case false =>
        rw [if_neg (by rw [hs0]; decide)] at hW
        have k13 := blk_below V.out.2.1 hW
        have k2 := blk_below V.out.2.2.1 hW
        have k8 := blk_below V.out.2.2.2.1 hW
        have k9 := blk_below V.out.2.2.2.2 hW
        have z0 := (blk_cell k8 0).trans rfl
        have z1 := (blk_cell k8 1).trans rfl
        have z2 := (blk_cell k8 2).trans rfl
        have n0 := (blk_cell k9 0).trans rfl
        have n1 := (blk_cell k9 1).trans rfl
        have n2 := (blk_cell k9 2).trans rfl
        have p0 := (blk_cell k13 0).trans rfl
        have p1 := (blk_cell k13 1).trans rfl
        have p2 := (blk_cell k13 2).trans rfl
        have r0 := (blk_cell k2 0).trans rfl
        have r1 := (blk_cell k2 1).trans rfl
        have r2 := (blk_cell k2 2).trans rfl
        have g0 := blk_frozen k2 0
        have g1 := blk_frozen k2 1
        have g2 := blk_frozen k2 2
        clear hcl hneed hclo
        intro Q2 K2 hK2
        simp only [XInv.puts, XPrint.pw]
        go_simp
        exact hK2.out (.bool true) w' ⟨bq, rfl, (by intros; first | rfl | trivial), (by rw [if_neg (by simp [XInv.up, hs0])]; exact hW)⟩
      case true =>
        rw [if_pos hs0] at hW
        obtain ⟨wz, hbz, hwz⟩ := id hW
        have hbt : But (fun k => k = w.heap.size + 1 + 1) wz w' := by rw [hwz]; exact (((But.refl (fun k => k = w.heap.size + 1 + 1) wz).setCell (b := w.heap.size + 1 + 1) rfl _ _).setCell (b := w.heap.size + 1 + 1) rfl _ _).setCell (b := w.heap.size + 1 + 1) rfl _ _
        clear hwz
        have hx3 := Z.out.1.size
        have hx2 := Y.out.1.size
        have hx1 := Y.out.2.2.2.2.2.2.2
        have hs3 := S.out.2.2.2.1
        have k13 := hbt.heap (blk_below V.out.2.1 hbz) (by omega)
        have k9 := hbt.heap (blk_below V.out.2.2.2.2 hbz) (by omega)
        have n0 := (blk_cell k9 0).trans rfl
        have n1 := (blk_cell k9 1).trans rfl
        have n2 := (blk_cell k9 2).trans rfl
        have p0 := (blk_cell k13 0).trans rfl
        have p1 := (blk_cell k13 1).trans rfl
        have p2 := (blk_cell k13 2).trans rfl
        clear hx3 hx2 hx1 hs3
        clear hcl hneed hclo
        intro Q2 K2 hK2
        simp only [XInv.puts, XPrint.pw]
        go_simp
        exact hK2.out (.bool true) w' ⟨bq, rfl, (by intros; first | rfl | trivial), (by rw [if_pos (by simp [XInv.up, hs0])]; exact hW)⟩
    · refine XInv.yes_tab [(70, 11), (68, 9)] (by kernel_rfl) ?_
      cases hs0 : lb 13
      case false =>
        rw [if_neg (by rw [hs0]; decide)] at hW
        have k13 := blk_below V.out.2.1 hW
        have k2 := blk_below V.out.2.2.1 hW
        have k8 := blk_below V.out.2.2.2.1 hW
        have k9 := blk_below V.out.2.2.2.2 hW
        have z0 := (blk_cell k8 0).trans rfl
        have z1 := (blk_cell k8 1).trans rfl
        have z2 := (blk_cell k8 2).trans rfl
        have n0 := (blk_cell k9 0).trans rfl
        have n1 := (blk_cell k9 1).trans rfl
        have n2 := (blk_cell k9 2).trans rfl
        have p0 := (blk_cell k13 0).trans rfl
        have p1 := (blk_cell k13 1).trans rfl
        have p2 := (blk_cell k13 2).trans rfl
        have r0 := (blk_cell k2 0).trans rfl
        have r1 := (blk_cell k2 1).trans rfl
        have r2 := (blk_cell k2 2).trans rfl
        have g0 := blk_frozen k2 0
        have g1 := blk_frozen k2 1
        have g2 := blk_frozen k2 2
        clear hcl hneed hclo
        intro Q2 K2 hK2
        simp only [XInv.puts, XPrint.pw]
        go_simp
        exact hK2.out (.bool true) w' ⟨bq, rfl, (by intros; first | rfl | trivial), (by rw [if_neg (by simp [XInv.up, hs0])]; exact hW)⟩
      case true =>
        rw [if_pos hs0] at hW
        obtain ⟨wz, hbz, hwz⟩ := id hW
        have hbt : But (fun k => k = w.heap.size + 1 + 1) wz w' := by rw [hwz]; exact (((But.refl (fun k => k = w.heap.size + 1 + 1) wz).setCell (b := w.heap.size + 1 + 1) rfl _ _).setCell (b := w.heap.size + 1 + 1) rfl _ _).setCell (b := w.heap.size + 1 + 1) rfl _ _
        clear hwz
        have hx3 := Z.out.1.size
        have hx2 := Y.out.1.size
        have hx1 := Y.out.2.2.2.2.2.2.2
        have hs3 := S.out.2.2.2.1
        have k13 := hbt.heap (blk_below V.out.2.1 hbz) (by omega)
        have k9 := hbt.heap (blk_below V.out.2.2.2.2 hbz) (by omega)
        have n0 := (blk_cell k9 0).trans rfl
        have n1 := (blk_cell k9 1).trans rfl
        have n2 := (blk_cell k9 2).trans rfl
        have p0 := (blk_cell k13 0).trans rfl
        have p1 := (blk_cell k13 1).trans rfl
        have p2 := (blk_cell k13 2).trans rfl
        clear hx3 hx2 hx1 hs3
        clear hcl hneed hclo
        intro Q2 K2 hK2
        simp only [XInv.puts, XPrint.pw]
        go_simp
        exact hK2.out (.bool true) w' ⟨bq, rfl, (by intros; first | rfl | trivial), (by rw [if_pos (by simp [XInv.up, hs0])]; exact hW)⟩
    · refine XInv.yes_tab [(68, 9), (59, 0)] (by kernel_rfl) ?_
      have hs0 := hlb
      rw [if_neg (by rw [hs0]; decide)] at hW
      have k13 := blk_below V.out.2.1 hW
      have k2 := blk_below V.out.2.2.1 hW
      have k8 := blk_below V.out.2.2.2.1 hW
      have k9 := blk_below V.out.2.2.2.2 hW
      have z0 := (blk_cell k8 0).trans rfl
      have z1 := (blk_cell k8 1).trans rfl
      have z2 := (blk_cell k8 2).trans rfl
      have n0 := (blk_cell k9 0).trans rfl
      have n1 := (blk_cell k9 1).trans rfl
      have n2 := (blk_cell k9 2).trans rfl
      have p0 := (blk_cell k13 0).trans rfl
      have p1 := (blk_cell k13 1).trans rfl
      have p2 := (blk_cell k13 2).trans rfl
      have r0 := (blk_cell k2 0).trans rfl
      have r1 := (blk_cell k2 1).trans rfl
      have r2 := (blk_cell k2 2).trans rfl
      have g0 := blk_frozen k2 0
      have g1 := blk_frozen k2 1
      have g2 := blk_frozen k2 2
      clear hcl hneed hclo
      intro Q2 K2 hK2
      simp only [XInv.puts, XPrint.pw]
      go_simp
      exact hK2.out undef _ ⟨bq, rfl, (by intros; first | rfl | trivial), (by rw [if_pos (by simp [XInv.up, hs0])]; exact ⟨w', hW, rfl⟩)⟩
    · refine XInv.yes_tab [(71, 12), (70, 11), (69, 10), (68, 9), (67, 8), (66, 7), (65, 6), (64, 5), (63, 4), (62, 3), (61, 2), (60, 1), (59, 0)] (by kernel_rfl) ?_
      have hs0 := hneed 13 (by kernel_rfl)
      rw [if_pos hs0] at hW
      obtain ⟨wz, hbz, hwz⟩ := id hW
      have hbt : But (fun k => k = w.heap.size + 1 + 1) wz w' := by rw [hwz]; exact (((But.refl (fun k => k = w.heap.size + 1 + 1) wz).setCell (b := w.heap.size + 1 + 1) rfl _ _).setCell (b := w.heap.size + 1 + 1) rfl _ _).setCell (b := w.heap.size + 1 + 1) rfl _ _
      clear hwz
      have hx3 := Z.out.1.size
      have hx2 := Y.out.1.size
      have hx1 := Y.out.2.2.2.2.2.2.2
      have hs3 := S.out.2.2.2.1
      have k13 := hbt.heap (blk_below V.out.2.1 hbz) (by omega)
      have k9 := hbt.heap (blk_below V.out.2.2.2.2 hbz) (by omega)
      have n0 := (blk_cell k9 0).trans rfl
      have n1 := (blk_cell k9 1).trans rfl
      have n2 := (blk_cell k9 2).trans rfl
      have p0 := (blk_cell k13 0).trans rfl
      have p1 := (blk_cell k13 1).trans rfl
      have p2 := (blk_cell k13 2).trans rfl
      clear hx3 hx2 hx1 hs3
      clear hcl hneed hclo
      intro Q2 K2 hK2
      simp only [XInv.puts, XPrint.pw] at hK2 ⊢
      go_simp
      exact hK2.out (.bool true) w' ⟨bq, rfl, (by intros; first | rfl | trivial), (by rw [if_pos (by simp [XInv.up, hs0])]; exact hW)⟩
  · intro bq w' hW
    refine XInv.end_nil [(7, 14), (71, 12), (70, 11), (69, 10), (68, 9), (67, 8), (66, 7), (65, 6), (64, 5), (63, 4), (62, 3), (61, 2), (60, 1), (59, 0)] (by kernel_rfl) (by kernel_rfl) ?_
    simp only [XInv.puts, XPrint.pw]
    rw [if_pos (by kernel_rfl)] at hW
    obtain ⟨wz, hbz, rfl⟩ := hW
    have k2 := blk_below V.out.2.2.1 hbz
    have r0 := (blk_cell k2 0).trans rfl
    have r1 := (blk_cell k2 1).trans rfl
    have r2 := (blk_cell k2 2).trans rfl
    have F := Aside0.mk (below_step V.out.1 hbz)
    clear hbz k2
    go_wp2
    have hgw := S.out.2.2.2.2.1
    have hs3 := S.out.2.2.2.1
    refine bodyPost_ret (v := .tuple #[.agg #[.int .i64 u0, .int .i64 u1, .slice A2 m2 c2], .bool true]) (by simp [results, Try.results18, go_sem, r0, r1, r2]) rfl ⟨_, rfl, ?_, ?_, ?_⟩
    · have R2 := Kd.R_below X.out.1 Y.out.1
      have R3 := Kd.R_step R2 (fun k hk hlt => Z.out.1.block k hlt (hk.elim (fun h => (H.out.2.2.2.2.1 k h.1).2) (fun h (e : k = g) => by omega)))
      have R4 := Kd.R_below R3 F.out
      have no : ∀ k, (ok k ∧ k < w.heap.size ∨ W0.heap.size ≤ k) → k ≠ w.heap.size + 1 + 1 := fun k hk => by rcases hk with hk | hk <;> omega
      exact Kd.R_mono (Kd.R_far (p := ⟨w.heap.size + 1 + 1, 2, none⟩) (Kd.R_far (p := ⟨w.heap.size + 1 + 1, 1, none⟩) (Kd.R_far (p := ⟨w.heap.size + 1 + 1, 0, none⟩) R4 no _) no _) no _) (fun k hk => hk.elim (fun h => .inl h.1) (fun h => .inr (by omega)))
    · exact (Z.out.2.1.below F.out).but (T := fun k => k = w.heap.size + 1 + 1) ((((But.refl (fun k => k = w.heap.size + 1 + 1) wz).setCell (b := w.heap.size + 1 + 1) rfl _ _).setCell (b := w.heap.size + 1 + 1) rfl _ _).setCell (b := w.heap.size + 1 + 1) rfl _ _) (by omega) (by omega)
    · have hb1 : But (fun k => k = g ∨ ok k) w wz := (((But.of_below S.out.1).trans (Y.out.2.2.2.1.mono fun k hk => .inr hk.1)).trans (Z.out.1.mono fun k hk => .inl hk)).trans (But.of_below F.out)
      exact but_new (but_new (but_new hb1 (by omega) _ _) (by omega) _ _) (by omega) _ _
end Go.Proofs.Ythibppfdonepoaa.NodeT
