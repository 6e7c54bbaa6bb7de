/- ledger.Ledger: Join, Lose. ledger.Ledger: Give. slices.Index, slices.Contains over boxes; the closures of Take and of owned; Of. ledger.Ledger: Give, whatever is asked; Take. ledger.Ledger: a ledger along a law. -/
import Derived.Test.YthibppfdonepoaaGreatCLedgerPlaysHLedJ
import Derived.Laws.LoneSync
import Derived.Test.YthibppfdonepoaaGreatCLedgerPlaysPLedLibx0
import Derived.Test.YthibppfdonepoaaGreatCLedgerPlaysPLedLibx1
import Derived.Test.YthibppfdonepoaaGreatCLedgerPlaysPLedLibx10
import Derived.Test.YthibppfdonepoaaGreatCLedgerPlaysPLedLibx11
import Derived.Test.YthibppfdonepoaaGreatCLedgerPlaysPLedLibx12
import Derived.Test.YthibppfdonepoaaGreatCLedgerPlaysPLedLibx13
import Derived.Test.YthibppfdonepoaaGreatCLedgerPlaysPLedLibx14
import Derived.Test.YthibppfdonepoaaGreatCLedgerPlaysPLedLibx16
import Derived.Test.YthibppfdonepoaaGreatCLedgerPlaysPLedLibx17
import Derived.Test.YthibppfdonepoaaGreatCLedgerPlaysPLedLibx2
import Derived.Test.YthibppfdonepoaaGreatCLedgerPlaysPLedLibx3
import Derived.Test.YthibppfdonepoaaGreatCLedgerPlaysPLedLibx4
import Derived.Test.YthibppfdonepoaaGreatCLedgerPlaysPLedLibx5
import Derived.Test.YthibppfdonepoaaGreatCLedgerPlaysPLedLibx7
import Derived.Test.YthibppfdonepoaaGreatCLedgerPlaysPLedLibx8
import Derived.Test.YthibppfdonepoaaGreatCLedgerPlaysPLedLibx9
set_option maxHeartbeats 16000000
set_option maxRecDepth 100000
set_option linter.unusedVariables false
set_option linter.unusedSimpArgs false
namespace Go.Proofs.YthibppfdonepoaaGreat.LedT
open Go.RowKit Go.MapKept Go.Maps Go.ChangeMaps Go.Proofs.YthibppfdonepoaaGreat.XBut Go.Proofs.YthibppfdonepoaaGreat.XMap Go.Proofs.YthibppfdonepoaaGreat.NodeT Go.Proofs.YthibppfdonepoaaGreatW.PrintWords Go.Proofs.YthibppfdonepoaaGreatW.PrintLast
theorem LedAt.lt {w : World} {base p b g : Nat} {u0 u1 : Int} {ns : List Nd} {v : Value} {bx : List Bx} {last : Int} (h : LedAt w base p b g u0 u1 ns v bx last) : p < w.heap.size ∧ b < w.heap.size ∧ g < w.heap.size ∧ ∀ k, v.ownBlock = some k → k < w.heap.size :=
 ⟨blk_lt h.blk, h.tab.lt.1, h.tab.lt.2, fun k hk => Kd.R_lt h.row k hk⟩
theorem LedAt.tabbed {w w' : World} {base p b g : Nat} {u0 u1 : Int} {ns ns' : List Nd} {v : Value} {bx : List Bx} {last : Int} (h : LedAt w base p b g u0 u1 ns v bx last) (hb : But (fun k => k = g) w w') (hT : TabAt w' base b g u0 u1 ns') : LedAt w' base p b g u0 u1 ns' v bx last :=
 ⟨hT, hb.heap h.blk (fun e => h.ne.2.1 e), Kd.R_step h.row (fun k hk hlt => hb.block k hlt (fun e => (h.own k hk).2.1 e)), h.own, h.ne⟩
theorem LedAt.store {w : World} {base p b g N : Nat} {u0 u1 : Int} {ns : List Nd} {v : Value} {bx : List Bx} {last : Int} (h : LedAt w base p b g u0 u1 ns v bx last) {v' : Value} {bx' : List Bx} (hR : RB w N v' bx') (hB : base ≤ N) (ho : ∀ k, v'.ownBlock = some k → k ≠ b ∧ k ≠ g ∧ k ≠ p) : LedAt (w.setCell ⟨p, 1, none⟩ v') base p b g u0 u1 ns v' bx' last := by
 have hb : But (fun k => k = p) w (w.setCell ⟨p, 1, none⟩ v') := (But.refl (fun k => k = p) w).setCell (b := p) rfl 1 v'
 exact ⟨h.tab.but hb (fun e => h.ne.1 e.symm) (fun e => h.ne.2.1 e.symm), by simpa using blk_set h.blk 1 v', Kd.R_lower (Kd.R_step hR (fun k hk hlt => hb.block k hlt (ho k hk).2.2)) hB, ho, h.ne⟩
theorem LedAt.number {w : World} {base p b g : Nat} {u0 u1 : Int} {ns : List Nd} {v : Value} {bx : List Bx} {last : Int} (h : LedAt w base p b g u0 u1 ns v bx last) (n : Int) : LedAt (w.setCell ⟨p, 2, none⟩ (.int .u32 n)) base p b g u0 u1 ns v bx n := by
 have hb : But (fun k => k = p) w (w.setCell ⟨p, 2, none⟩ (.int .u32 n)) := (But.refl (fun k => k = p) w).setCell (b := p) rfl 2 _
 exact ⟨h.tab.but hb (fun e => h.ne.1 e.symm) (fun e => h.ne.2.1 e.symm), by simpa using blk_set h.blk 2 (.int .u32 n), Kd.R_step h.row (fun k hk hlt => hb.block k hlt (h.own k hk).2.2), h.own, h.ne⟩
theorem ljoin {base p b g : Nat} {u0 u1 : Int} {ns : List Nd} {v : Value} {bx : List Bx} {last : Int} (x0 x1 x2 : Int) (w : World) (h : LedAt w base p b g u0 u1 ns v bx last) (hG : NodeT.Good u0 u1 ns) (hx : (Lit.int .u32 x0).wf = true) :
  Calls Tryz.prog 39 #[.pointer (some ⟨p, 0, none⟩), .agg #[.int .u32 x0, .int .i64 x1, .int .i64 x2]] w fun e w' => e = .returned (.int .i64 (code u0 u1 ns ⟨x0, ⟨x1, x2⟩⟩)) ∧ But (fun k => k = g) w w' ∧ LedAt w' base p b g u0 u1 (nsJ u0 u1 ns ⟨x0, ⟨x1, x2⟩⟩) v bx last := by
 have hu39 := Tryz.underlying59
 obtain ⟨W0, hW0⟩ : ∃ W0, w.alloc (.cells #[.int .u32 x0, .int .i64 x1, .int .i64 x2] 59) = W0 := ⟨_, rfl⟩
 have hB0 : Below w.heap.size w W0 := by rw [← hW0]; exact below_alloc (Below.refl _ _) _
 have k0 : W0.heap[w.heap.size]? = some (.cells #[.int .u32 x0, .int .i64 x1, .int .i64 x2] 59 (0, 0)) := by rw [← hW0]; exact blk_new w _
 have HW := Aside0.mk hW0
 have ng : w.heap.size ≠ g := by have := h.lt.2.2.1; omega
 obtain ⟨cd, hcd⟩ : ∃ cd, code u0 u1 ns ⟨x0, ⟨x1, x2⟩⟩ = cd := ⟨_, rfl⟩
 have JC := Aside0.mk (fun (w' : World) (hT : TabAt w' base b g u0 u1 ns) => joinC base b g u0 u1 ns ⟨x0, ⟨x1, x2⟩⟩ w' hT hG hx)
 unfold nsJ
 rw [hcd] at JC ⊢
 unfold nv at JC
 have H := Aside0.mk (And.intro (h.below hB0) (And.intro k0 (And.intro hB0 ng)))
 have c0 := (h.below hB0).cells.1
 clear h hG hx hB0 k0 ng hW0 hcd
 go_enter Tryz.func39, Tryz.ntmps39
 go_wp2_with fail
 rw [HW.out]
 refine (none_at p _ _ c0).mono ?_
 rintro e wz ⟨rfl, hz⟩
 obtain rfl := hz.symm
 clear hz HW
 simp only [Option.isNone]
 go_upto_region 3 with (fail)
 refine XInv.region_tab [] [[], [0], [1], [2], [], [3, 4], [5, 5, 0, 1, 2, 3, 4, 5]] (fun bq jq => match jq with
   | 0 => .pointer (some ⟨p, 0, none⟩)
   | 1 => .pointer (some ⟨p, 0, none⟩)
   | 2 => .pointer (some ⟨p, 0, none⟩)
   | 3 => .pointer (some ⟨b, 0, none⟩)
   | 4 => .agg #[.int .u32 x0, .int .i64 x1, .int .i64 x2]
   | 5 => .int .i64 cd
   | 6 => .int .i64 cd
   | _ => undef)
   (fun bq l w' => if l 5 = true then (But (fun k => k = g) W0 w' ∧ TabAt w' base b g u0 u1 (joined cd ns ⟨x0, ⟨x1, x2⟩⟩)) else Below W0.heap.size W0 w')
   (by kernel_rfl) rfl (by kernel_rfl) (by kernel_rfl) (by kernel_rfl) ⟨fun _ : Nat => (0 : Nat), (by rw [if_neg (by simp)]; exact below_drew (Below.refl _ _))⟩ ?_ ?_
 ·intro i1 hi1 hds oi hoi bq lb w' hW hlb hcl hneed hclo
  have hi1 : i1 < 7 := hi1
  have hcs : i1 = 0 ∨ i1 = 1 ∨ i1 = 2 ∨ i1 = 3 ∨ i1 = 4 ∨ i1 = 5 ∨ i1 = 6 := by omega
  clear hi1
  rcases hcs with rfl | rfl | rfl | rfl | rfl | rfl | rfl
  all_goals simp only [List.getElem?_toArray, List.getElem?_cons_succ, List.getElem?_cons_zero, Option.some.injEq] at hoi
  all_goals subst hoi
  ·refine XInv.yes_tab [] (by kernel_rfl) ?_
   have hs0 := XInv.unreach hclo [3, 2, 1] 5 0 (by kernel_rfl) hlb
   rw [if_neg (by rw [hs0]; decide)] at hW
   clear hcl hneed hclo
   intro Q2 K2 hK2
   simp only [XInv.puts, XPrint.pw]
   go_simp
   exact hK2.out (.pointer (some ⟨p, 0, none⟩)) w' ⟨bq, rfl, (by intros; first | rfl | trivial), (by rw [if_neg (by simp [XInv.up, hs0])]; exact hW)⟩
  ·refine XInv.yes_tab [(7, 0)] (by kernel_rfl) ?_
   have hs0 := XInv.unreach hclo [3, 2] 5 1 (by kernel_rfl) hlb
   rw [if_neg (by rw [hs0]; decide)] at hW
   clear hcl hneed hclo
   intro Q2 K2 hK2
   simp only [XInv.puts, XPrint.pw]
   go_simp
   exact hK2.out (.pointer (some ⟨p, 0, none⟩)) w' ⟨bq, rfl, (by intros; first | rfl | trivial), (by rw [if_neg (by simp [XInv.up, hs0])]; exact hW)⟩
  ·refine XInv.yes_tab [(8, 1)] (by kernel_rfl) ?_
   have hs0 := XInv.unreach hclo [3] 5 2 (by kernel_rfl) hlb
   rw [if_neg (by rw [hs0]; decide)] at hW
   clear hcl hneed hclo
   intro Q2 K2 hK2
   simp only [XInv.puts, XPrint.pw]
   go_simp
   exact hK2.out (.pointer (some ⟨p, 0, none⟩)) w' ⟨bq, rfl, (by intros; first | rfl | trivial), (by rw [if_neg (by simp [XInv.up, hs0])]; exact hW)⟩
  ·refine XInv.yes_tab [(9, 2)] (by kernel_rfl) ?_
   have hs0 := hcl 5 (by decide) (by kernel_rfl)
   rw [if_neg (by rw [hs0]; decide)] at hW
   obtain ⟨c0, c1, c2⟩ := (H.out.1.below hW).cells
   have kn := blk_below H.out.2.1 hW
   have n0 := (blk_cell kn 0).trans rfl
   have n1 := (blk_cell kn 1).trans rfl
   have n2 := (blk_cell kn 2).trans rfl
   clear hcl hneed hclo
   intro Q2 K2 hK2
   simp only [XInv.puts, XPrint.pw]
   go_simp
   exact hK2.out (.pointer (some ⟨b, 0, none⟩)) w' ⟨bq, rfl, (by intros; first | rfl | trivial), (by rw [if_neg (by simp [XInv.up, hs0])]; exact hW)⟩
  ·refine XInv.yes_tab [] (by kernel_rfl) ?_
   have hs0 := hcl 5 (by decide) (by kernel_rfl)
   rw [if_neg (by rw [hs0]; decide)] at hW
   obtain ⟨c0, c1, c2⟩ := (H.out.1.below hW).cells
   have kn := blk_below H.out.2.1 hW
   have n0 := (blk_cell kn 0).trans rfl
   have n1 := (blk_cell kn 1).trans rfl
   have n2 := (blk_cell kn 2).trans rfl
   clear hcl hneed hclo
   intro Q2 K2 hK2
   simp only [XInv.puts, XPrint.pw]
   go_simp
   exact hK2.out (.agg #[.int .u32 x0, .int .i64 x1, .int .i64 x2]) w' ⟨bq, rfl, (by intros; first | rfl | trivial), (by rw [if_neg (by simp [XInv.up, hs0])]; exact hW)⟩
  ·refine XInv.yes_tab [(11, 4), (10, 3)] (by kernel_rfl) ?_
   have hs0 := hlb
   rw [if_neg (by rw [hs0]; decide)] at hW
   obtain ⟨c0, c1, c2⟩ := (H.out.1.below hW).cells
   have kn := blk_below H.out.2.1 hW
   have n0 := (blk_cell kn 0).trans rfl
   have n1 := (blk_cell kn 1).trans rfl
   have n2 := (blk_cell kn 2).trans rfl
   clear hcl hneed
   intro Q2 K2 hK2
   simp only [XInv.puts, XPrint.pw]
   go_simp
   go_at_call 87
   (with_reducible refine (JC.out _ (H.out.1.below hW).tab).mono ?_)
   rintro e wz ⟨rfl, hb, hT2⟩
   exact hK2.out (.int .i64 cd) wz ⟨bq, rfl, (by intros; first | rfl | trivial), (by rw [if_pos (by simp [XInv.up, hs0])]; exact ⟨(But.of_below hW).trans hb, hT2⟩)⟩
  ·refine XInv.yes_tab [(12, 5), (11, 4), (10, 3), (9, 2), (8, 1), (7, 0)] (by kernel_rfl) ?_
   have hs0 := hneed 5 (by kernel_rfl)
   rw [if_pos hs0] at hW
   clear hcl hneed hclo
   intro Q2 K2 hK2
   simp only [XInv.puts, XPrint.pw] at hK2 ⊢
   go_simp
   exact hK2.out (.int .i64 cd) w' ⟨bq, rfl, (by intros; first | rfl | trivial), (by rw [if_pos (by simp [XInv.up, hs0])]; exact hW)⟩
 ·intro bq w' hW
  refine XInv.end_nil [(4, 6), (12, 5), (11, 4), (10, 3), (9, 2), (8, 1), (7, 0)] (by kernel_rfl) (by kernel_rfl) ?_
  simp only [XInv.puts, XPrint.pw]
  rw [if_pos (by kernel_rfl)] at hW
  have X := Aside0.mk hW
  clear hW
  go_wp2
  go_ret
  exact ⟨rfl, (But.of_below H.out.2.2.1).trans X.out.1, H.out.1.tabbed X.out.1 X.out.2⟩
structure LW (base b g : Nat) (u0 u1 : Int) (ns : List Nd) (i : Int) (W0 : World) (bq : Nat) (l : Nat → Bool) (w' : World) : Prop where
 but : But (fun k => k = g) W0 w'
 tab0 : l 5 = false → TabAt w' base b g u0 u1 ns
 tab1 : l 5 = true → TabAt w' base b g u0 u1 (less ns i)
 blk : l 9 = true → l 10 = false → W0.heap.size ≤ bq ∧ ∃ a0 a1 a2, w'.heap[bq]? = some (.cells #[a0, a1, a2] 59 (0, 0))
theorem LW.up {base b g : Nat} {u0 u1 : Int} {ns : List Nd} {i : Int} {W0 w' : World} {bq : Nat} {l : Nat → Bool} (h : LW base b g u0 u1 ns i W0 bq l w') (j : Nat) (hj : j ≠ 5 ∧ j ≠ 9) : LW base b g u0 u1 ns i W0 bq (XInv.up l j) w' := by
 have e : ∀ k, k ≠ j → XInv.up l j k = l k := fun k hk => by unfold XInv.up; rw [if_neg hk]
 refine ⟨h.but, fun h5 => h.tab0 ?_, fun h5 => h.tab1 ?_, fun h9 h10 => h.blk ?_ ?_⟩
 ·rwa [e 5 (by omega)] at h5
 ·rwa [e 5 (by omega)] at h5
 ·rwa [e 9 (by omega)] at h9
 ·by_cases hk : 10 = j
  ·subst hk
   simp [XInv.up] at h10
  ·rwa [e 10 hk] at h10
theorem LW.s5 {base b g : Nat} {u0 u1 : Int} {ns : List Nd} {i : Int} {W0 w' w1 : World} {bq : Nat} {l : Nat → Bool} (h : LW base b g u0 u1 ns i W0 bq l w') (hg : g < W0.heap.size) (hb : But (fun k => k = g) w' w1) (hT : TabAt w1 base b g u0 u1 (less ns i)) : LW base b g u0 u1 ns i W0 bq (XInv.up l 5) w1 := by
 refine ⟨h.but.trans hb, fun h5 => ?_, fun _ => hT, fun h9 h10 => ?_⟩
 ·simp [XInv.up] at h5
 ·simp [XInv.up] at h9 h10
  obtain ⟨h1, a0, a1, a2, h2⟩ := h.blk h9 h10
  exact ⟨h1, a0, a1, a2, hb.heap h2 (by omega)⟩
theorem LW.s9 {base b g : Nat} {u0 u1 : Int} {ns : List Nd} {i : Int} {W0 w' w1 : World} {bq : Nat} {l : Nat → Bool} (h : LW base b g u0 u1 ns i W0 bq l w') (o0 o1 o2 : Value) (hw : w1 = w'.alloc (.cells #[o0, o1, o2] 59)) : LW base b g u0 u1 ns i W0 w'.heap.size (XInv.up l 9) w1 := by
 subst hw
 have hb : Below w'.heap.size w' (w'.alloc (.cells #[o0, o1, o2] 59)) := below_alloc (Below.refl _ _) _
 refine ⟨h.but.alloc _, fun h5 => ?_, fun h5 => ?_, fun _ _ => ⟨h.but.size, o0, o1, o2, blk_new w' _⟩⟩
 ·simp [XInv.up] at h5
  exact (h.tab0 h5).below hb
 ·simp [XInv.up] at h5
  exact (h.tab1 h5).below hb
theorem LW.s10 {base b g : Nat} {u0 u1 : Int} {ns : List Nd} {i : Int} {W0 w' w1 : World} {bq : Nat} {l : Nat → Bool} (h : LW base b g u0 u1 ns i W0 bq l w') (h5 : l 5 = true) (h9 : l 9 = true) (h10 : l 10 = false) (hb : b < W0.heap.size) (hg : g < W0.heap.size) (o0 o1 o2 : Value) (hw : w1 = ((w'.setCell ⟨bq, 0, none⟩ o0).setCell ⟨bq, 1, none⟩ o1).setCell ⟨bq, 2, none⟩ o2) : LW base b g u0 u1 ns i W0 bq (XInv.up l 10) w1 := by
 obtain ⟨h1, a0, a1, a2, h2⟩ := h.blk h9 h10
 have k : But (fun k => k = bq) w' w1 := by
  rw [hw]
  exact (((But.refl (fun k => k = bq) w').setCell (b := bq) rfl 0 _).setCell (b := bq) rfl 1 _).setCell (b := bq) rfl 2 _
 have k2 : But (fun k => k = g) W0 w1 := by
  rw [hw]
  exact but_new (but_new (but_new h.but h1 0 _) h1 1 _) h1 2 _
 refine ⟨k2, fun e => ?_, fun _ => (h.tab1 h5).but k (by omega) (by omega), fun _ e => ?_⟩
 ·simp [XInv.up] at e
  rw [h5] at e
  cases e
 ·simp [XInv.up] at e
theorem llose {base p b g : Nat} {u0 u1 : Int} {ns : List Nd} {v : Value} {bx : List Bx} {last : Int} (i : Int) (w : World) (h : LedAt w base p b g u0 u1 ns v bx last) (hG : LG u0 u1 ns bx last) (hl : bx.length ≤ 1000000) (hi : (Lit.int .u32 i).wf = true) :
  Calls Tryz.prog 59 #[.pointer (some ⟨p, 0, none⟩), .int .u32 i] w fun e w' => ∃ vo v', e = .returned (.tuple #[vo, .int .i64 (lost ns i).2]) ∧ LedAt w' base p b g u0 u1 (less ns i) v' (offN bx i) last ∧ RB w' w.heap.size vo (onN bx i) ∧ (∀ k, vo.ownBlock = some k → v'.ownBlock ≠ some k) ∧ But (fun k => k = p ∨ k = g) w w' ∧ (∀ k, v'.ownBlock = some k → v.ownBlock = some k ∨ w.heap.size ≤ k) := by
 have hu39 := Tryz.underlying59
 have hlt := h.lt
 obtain ⟨A, c, rfl⟩ := Kd.R_slice h.row
 obtain ⟨W0, hW0⟩ : ∃ W0, w.alloc (.cells #[.int .u32 i] 35) = W0 := ⟨_, rfl⟩
 have hB0 : Below w.heap.size w W0 := by rw [← hW0]; exact below_alloc (Below.refl _ _) _
 have k0 : W0.heap[w.heap.size]? = some (.cells #[.int .u32 i] 35 (0, 0)) := by rw [← hW0]; exact blk_new w _
 have HW := Aside0.mk hW0
 have hs0 := hB0.size
 have ng : w.heap.size ≠ g ∧ p ≠ g := by have := h.ne.2.1; omega
 have LC := Aside0.mk (fun (w' : World) (hT : TabAt w' base b g u0 u1 ns) => loseC base b g u0 u1 i ns w' hT hi)
 have LE : Aside0 ((lost ns i).2 = 0 ∨ (lost ns i).2 = 7 ∧ who ns i = none) := ⟨by
  unfold lost
  cases who ns i
  ·exact .inr ⟨rfl, rfl⟩
  ·exact .inl rfl⟩
 obtain ⟨lx, lc⟩ : ∃ _ : Unit, True := ⟨(), trivial⟩
 obtain ⟨z, hz⟩ : ∃ z, lost ns i = z := ⟨_, rfl⟩
 rw [hz] at LC LE ⊢
 obtain ⟨⟨y0, y1, y2⟩, lc⟩ := z
 unfold nv at LC
 have H := Aside0.mk (And.intro (h.below hB0) (And.intro k0 (And.intro hB0 (And.intro ng (And.intro hlt (And.intro hG hl))))))
 have c0 := (h.below hB0).cells.1
 have hWB := W0.heap.size
 dsimp only at LC LE ⊢
 clear h hG hl hi hB0 k0 ng hW0 hlt hz hs0 lx
 go_enter Tryz.func59, Tryz.ntmps59
 go_wp2_with fail
 rw [HW.out]
 refine (none_at p _ _ c0).mono ?_
 rintro e wz ⟨rfl, hz⟩
 obtain rfl := hz.symm
 clear hz HW
 simp only [Option.isNone]
 go_upto_region 3 with (fail)
 refine XInv.region_tab [] [[], [0], [1], [2], [], [3, 4], [5], [6], [6], [], [9, 7, 5, 0, 1, 2, 3, 4, 5, 6, 7, 9], [8, 10, 0, 1, 2, 3, 4, 5, 6, 7, 8, 9, 10]] (fun bq jq => match jq with
   | 0 => .pointer (some ⟨p, 0, none⟩)
   | 1 => .pointer (some ⟨p, 0, none⟩)
   | 2 => .pointer (some ⟨p, 0, none⟩)
   | 3 => .pointer (some ⟨b, 0, none⟩)
   | 4 => .int .u32 i
   | 5 => .tuple #[.agg #[.int .u32 y0, .int .i64 y1, .int .i64 y2], .int .i64 lc]
   | 6 => .tuple #[.agg #[.int .u32 y0, .int .i64 y1, .int .i64 y2], .int .i64 lc]
   | 7 => .agg #[.int .u32 y0, .int .i64 y1, .int .i64 y2]
   | 8 => .int .i64 lc
   | 9 => .pointer (some ⟨bq, 0, none⟩)
   | 10 => undef
   | 11 => .int .i64 lc
   | _ => undef)
   (fun bq l w' => LW base b g u0 u1 ns i W0 bq l w')
   (by kernel_rfl) rfl (by kernel_rfl) (by kernel_rfl) (by kernel_rfl) ⟨(0 : Nat), ⟨But.of_below (below_drew (Below.refl _ _)), fun _ => H.out.1.tab.below (below_drew (Below.refl _ _)), fun h => (by cases h), fun h => (by cases h)⟩⟩ ?_ ?_
 ·intro i1 hi1 hds oi hoi bq lb w' hW hlb hcl hneed hclo
  have hi1 : i1 < 12 := hi1
  have hcs : i1 = 0 ∨ i1 = 1 ∨ i1 = 2 ∨ i1 = 3 ∨ i1 = 4 ∨ i1 = 5 ∨ i1 = 6 ∨ i1 = 7 ∨ i1 = 8 ∨ i1 = 9 ∨ i1 = 10 ∨ i1 = 11 := by omega
  clear hi1
  obtain ⟨c0, c1, c2⟩ := H.out.1.cells
  have hP := hW.but.heap H.out.1.blk H.out.2.2.2.1.2
  have c0 := (blk_cell hP 0).trans rfl
  have kn := hW.but.heap H.out.2.1 H.out.2.2.2.1.1
  have n0 := (blk_cell kn 0).trans rfl
  rcases hcs with rfl | rfl | rfl | rfl | rfl | rfl | rfl | rfl | rfl | rfl | rfl | rfl
  all_goals simp only [List.getElem?_toArray, List.getElem?_cons_succ, List.getElem?_cons_zero, Option.some.injEq] at hoi
  all_goals subst hoi
  ·refine XInv.yes_tab [] (by kernel_rfl) ?_
   intro Q2 K2 hK2
   simp only [XInv.puts, XPrint.pw]
   go_simp
   exact hK2.out (.pointer (some ⟨p, 0, none⟩)) w' ⟨bq, rfl, (by intros; first | rfl | trivial), hW.up 0 (by decide)⟩
  ·refine XInv.yes_tab [(13, 0)] (by kernel_rfl) ?_
   intro Q2 K2 hK2
   simp only [XInv.puts, XPrint.pw]
   go_simp
   exact hK2.out (.pointer (some ⟨p, 0, none⟩)) w' ⟨bq, rfl, (by intros; first | rfl | trivial), hW.up 1 (by decide)⟩
  ·refine XInv.yes_tab [(14, 1)] (by kernel_rfl) ?_
   intro Q2 K2 hK2
   simp only [XInv.puts, XPrint.pw]
   go_simp
   exact hK2.out (.pointer (some ⟨p, 0, none⟩)) w' ⟨bq, rfl, (by intros; first | rfl | trivial), hW.up 2 (by decide)⟩
  ·refine XInv.yes_tab [(15, 2)] (by kernel_rfl) ?_
   intro Q2 K2 hK2
   simp only [XInv.puts, XPrint.pw]
   go_simp
   exact hK2.out (.pointer (some ⟨b, 0, none⟩)) w' ⟨bq, rfl, (by intros; first | rfl | trivial), hW.up 3 (by decide)⟩
  ·refine XInv.yes_tab [] (by kernel_rfl) ?_
   intro Q2 K2 hK2
   simp only [XInv.puts, XPrint.pw]
   go_simp
   exact hK2.out (.int .u32 i) w' ⟨bq, rfl, (by intros; first | rfl | trivial), hW.up 4 (by decide)⟩
  ·refine XInv.yes_tab [(17, 4), (16, 3)] (by kernel_rfl) ?_
   obtain ⟨c0, c1, c2⟩ := H.out.1.cells
   have hP := hW.but.heap H.out.1.blk H.out.2.2.2.1.2
   have c0 := (blk_cell hP 0).trans rfl
   have kn := hW.but.heap H.out.2.1 H.out.2.2.2.1.1
   have n0 := (blk_cell kn 0).trans rfl
   intro Q2 K2 hK2
   simp only [XInv.puts, XPrint.pw] at hK2 ⊢
   go_simp
   go_at_call 110
   (with_reducible refine (LC.out _ (hW.tab0 hlb)).mono ?_)
   rintro e wz ⟨rfl, hb, hT2⟩
   exact hK2.out (.tuple #[.agg #[.int .u32 y0, .int .i64 y1, .int .i64 y2], .int .i64 lc]) wz ⟨bq, rfl, (by intros; first | rfl | trivial), hW.s5 H.out.1.lt.2.2.1 hb hT2⟩
  ·refine XInv.yes_tab [(18, 5)] (by kernel_rfl) ?_
   intro Q2 K2 hK2
   simp only [XInv.puts, XPrint.pw]
   go_simp
   exact hK2.out (.tuple #[.agg #[.int .u32 y0, .int .i64 y1, .int .i64 y2], .int .i64 lc]) w' ⟨bq, rfl, (by intros; first | rfl | trivial), hW.up 6 (by decide)⟩
  ·refine XInv.yes_tab [(12, 6)] (by kernel_rfl) ?_
   intro Q2 K2 hK2
   simp only [XInv.puts, XPrint.pw]
   go_simp
   exact hK2.out (.agg #[.int .u32 y0, .int .i64 y1, .int .i64 y2]) w' ⟨bq, rfl, (by intros; first | rfl | trivial), hW.up 7 (by decide)⟩
  ·refine XInv.yes_tab [(12, 6)] (by kernel_rfl) ?_
   intro Q2 K2 hK2
   simp only [XInv.puts, XPrint.pw]
   go_simp
   exact hK2.out (.int .i64 lc) w' ⟨bq, rfl, (by intros; first | rfl | trivial), hW.up 8 (by decide)⟩
  ·refine XInv.yes_tab [] (by kernel_rfl) ?_
   intro Q2 K2 hK2
   simp only [XInv.puts, XPrint.pw]
   go_simp
   exact hK2.out (.pointer (some ⟨w'.heap.size, 0, none⟩)) _ ⟨w'.heap.size, rfl, (by intro jj hjj hlj; have hjj : jj < 12 := hjj; rcases (by omega : jj = 0 ∨ jj = 1 ∨ jj = 2 ∨ jj = 3 ∨ jj = 4 ∨ jj = 5 ∨ jj = 6 ∨ jj = 7 ∨ jj = 8 ∨ jj = 9 ∨ jj = 10 ∨ jj = 11) with rfl | rfl | rfl | rfl | rfl | rfl | rfl | rfl | rfl | rfl | rfl | rfl <;> first | rfl | (rw [hlb] at hlj; cases hlj)), hW.s9 _ _ _ rfl⟩
  ·refine XInv.yes_tab [(6, 9), (19, 7), (12, 6), (18, 5), (17, 4), (16, 3), (15, 2), (14, 1), (13, 0)] (by kernel_rfl) ?_
   have h5 := hneed 5 (by kernel_rfl)
   have h9 := hneed 9 (by kernel_rfl)
   obtain ⟨hq, a0, a1, a2, hk⟩ := hW.blk h9 hlb
   have d0 := (blk_cell hk 0).trans rfl
   have d1 := (blk_cell hk 1).trans rfl
   have d2 := (blk_cell hk 2).trans rfl
   have f0 := blk_frozen hk 0
   have f1 := blk_frozen hk 1
   have f2 := blk_frozen hk 2
   intro Q2 K2 hK2
   simp only [XInv.puts, XPrint.pw] at hK2 ⊢
   go_simp
   exact hK2.out undef _ ⟨bq, rfl, (by intros; first | rfl | trivial), hW.s10 h5 h9 hlb H.out.1.lt.2.1 H.out.1.lt.2.2.1 _ _ _ rfl⟩
  ·refine XInv.yes_tab [(6, 9), (20, 8), (19, 7), (12, 6), (18, 5), (17, 4), (16, 3), (15, 2), (14, 1), (13, 0)] (by kernel_rfl) ?_
   intro Q2 K2 hK2
   simp only [XInv.puts, XPrint.pw] at hK2 ⊢
   go_simp
   exact hK2.out (.int .i64 lc) w' ⟨bq, rfl, (by intros; first | rfl | trivial), hW.up 11 (by decide)⟩
 ·intro bq w' hW
  refine XInv.end_nil [(7, 11), (6, 9), (20, 8), (19, 7), (12, 6), (18, 5), (17, 4), (16, 3), (15, 2), (14, 1), (13, 0)] (by kernel_rfl) (by kernel_rfl) ?_
  simp only [XInv.puts, XPrint.pw]
  have X := Aside0.mk hW
  have b1 := hW.but
  have t1 := hW.tab1 (by kernel_rfl)
  have L1 : LedAt w' base p b g u0 u1 (less ns i) (.slice A bx.length c) bx last := H.out.1.tabbed b1 t1
  have K1 := b1.heap H.out.2.1 H.out.2.2.2.1.1
  have hBw : But (fun k => k = g) w w' := (But.of_below H.out.2.2.1).trans b1
  obtain ⟨w2, hw2⟩ : ∃ w2, w' = w2 := ⟨_, rfl⟩
  rw [hw2] at L1 K1 hBw ⊢
  have c1 := L1.cells.2.1
  have hsz := hBw.size
  clear hW b1 t1 X hw2
  rcases LE.out with hlc | ⟨hlc, hno⟩
  ·have Y := Aside0.mk (And.intro L1 (And.intro K1 hBw))
   have hlc' : Aside0 (lc = 0) := ⟨hlc⟩
   have t0 : (lc != 0) = false := by simp [hlc]
   have PK := Aside0.mk (picked 111 (.pointer (some ⟨w.heap.size, 0, none⟩)) (fun x => x.f1 == i) bx A c w2 (Kd.R_reads' L1.row).2.2 H.out.2.2.2.2.2.2 (fun _ _ => rfl) (fun y hy wy hwy => lose1 y w.heap.size i wy ((blk_cell (blk_below K1 hwy) 0).trans rfl)))
   clear L1 K1 hBw hlc
   go_wp2_with fail
   refine PK.out.mono ?_
   rintro e w3 ⟨v1, v2, rfl, hR1, hR2, hd, hb⟩
   have c1 := pw_cell_below hb c1
   have k1 := blk_below Y.out.1.blk hb
   have f1 := blk_frozen k1 1
   have Z := Aside0.mk (And.intro hR1 (And.intro hR2 (And.intro hd (And.intro hb k1))))
   obtain ⟨A1, n1, e1⟩ := Kd.R_slice hR1
   obtain ⟨A2, n2, e2⟩ := Kd.R_slice hR2
   obtain ⟨m1, hm1⟩ : ∃ m1, (bx.filter fun x => x.f1 == i).length = m1 := ⟨_, rfl⟩
   obtain ⟨m2, hm2⟩ : ∃ m2, (bx.filter fun x => !(x.f1 == i)).length = m2 := ⟨_, rfl⟩
   rw [hm1] at e1
   rw [hm2] at e2
   subst e1
   subst e2
   clear hR1 hR2 hd hb k1 hm1 hm2
   dsimp only
   go_wp2
   go_ret2
   have hs3 := Z.out.2.2.2.1.size
   have hlow : ∀ k, (Value.slice A2 m2 n2).ownBlock = some k → w2.heap.size ≤ k := fun k hk => Kd.R_base Z.out.2.1 k hk
   have hlow1 : ∀ k, (Value.slice A1 m1 n1).ownBlock = some k → w2.heap.size ≤ k := fun k hk => Kd.R_base Z.out.1 k hk
   have hlt := Y.out.1.lt
   have hne := Y.out.1.ne
   have hbp : But (fun k => k = p) w3 (w3.setCell ⟨p, 1, none⟩ (.slice A2 m2 n2)) := (But.refl (fun k => k = p) w3).setCell (b := p) rfl 1 _
   refine ⟨_, _, by rw [hlc'.out]; rfl, (Y.out.1.below Z.out.2.2.2.1).store Z.out.2.1 (by omega) (fun k hk => by have := hlow k hk; omega), Kd.R_lower (Kd.R_step Z.out.1 (fun k hk hlt => hbp.block k hlt (by have := hlow1 k hk; omega))) hsz, Z.out.2.2.1, ((Y.out.2.2.mono (fun k h => .inr h)).trans (But.of_below Z.out.2.2.2.1)).trans (hbp.mono fun k h => .inl h), fun k hk => .inr (by have := hlow k hk; omega)⟩
  ·have t0 : (lc != 0) = true := by simp [hlc]
   have hl2 : Aside0 (lc = 7) := ⟨hlc⟩
   have N := Aside0.mk hno
   have Y := Aside0.mk (And.intro L1 (And.intro K1 hBw))
   clear L1 K1 hBw hlc hno
   go_wp2
   go_ret2
   refine ⟨_, _, rfl, ?_, ?_, fun k hk => by simp [Value.ownBlock] at hk, Y.out.2.2.mono fun k h => .inr h, fun k hk => .inl hk⟩
   ·rw [off_none H.out.2.2.2.2.2.1.on N.out]
    exact Y.out.1
   ·rw [onN_none H.out.2.2.2.2.2.1.on N.out]
    exact Kd.R_nil _ _ _ _ _
theorem add (p : Nat) (n d : Int) (w : World) (hc : w.cell? ⟨p, 2, none⟩ = some (.int .u32 n)) (hz : w.frozen? ⟨p, 2, none⟩ = false) : Calls Tryz.prog 69 #[.pointer (some ⟨p, 2, none⟩), .int .u32 d] w fun e w' => e = .returned (.int .u32 (IntKind.u32.wrap (n + d))) ∧ w' = w.setCell ⟨p, 2, none⟩ (.int .u32 (IntKind.u32.wrap (n + d))) := by
 obtain ⟨r, hr⟩ : ∃ r, IntKind.u32.wrap (n + d) = r := ⟨_, rfl⟩
 have R0 := Aside0.mk hr
 rw [hr]
 clear hr
 go_enter Tryz.func69, Tryz.ntmps69
 go_wp2
 rw [run_call_add Tryz.func124 (by kernel_rfl) (by kernel_rfl) (by kernel_rfl) .u32 (by kernel_rfl) (s := r) hc hz (by rw [← R0.out]; simp [Op.intArith, go_sem])]
 go_wp2
 go_ret
 exact ⟨rfl, rfl⟩
theorem LG.len {u0 u1 : Int} {ns : List Nd} {bx : List Bx} {last : Int} (h : LG u0 u1 ns bx last) : bx.length ≤ 131072 ∧ 0 ≤ freeN u0 u1 ns bx ∧ freeN u0 u1 ns bx ≤ 131072 := by
 have h1 := h.free_nonneg
 have h2 := h.nodes.total
 unfold freeN at h1 ⊢
 omega
theorem LG.full {u0 u1 : Int} {ns : List Nd} {bx : List Bx} {last : Int} (h : LG u0 u1 ns bx last) {o : Int} (s : Bool) (ho : o ≠ 0) {m N : Nat} (hm : m ≤ N) (hN : (N : Int) ≤ freeN u0 u1 ns bx) (hr : ∀ x ∈ ns, roomN u0 u1 ns (bx ++ LedT.grow u0 u1 ns bx last o s m) x.f0 ≤ 0) : m = N := by
 have h1 := (h.grow o s ho m (by omega)).free
 have h2 := sumU_nonpos (U := fun x => roomN u0 u1 ns (bx ++ LedT.grow u0 u1 ns bx last o s m) x.f0) hr
 rw [h1] at h2
 unfold freeN at h2 hN
 rw [List.length_append, grow_len] at h2
 omega
structure GS (w2 wr : World) (base p b g : Nat) (u0 u1 : Int) (ns : List Nd) (v : Value) (bx : List Bx) (last o : Int) (s : Bool) (N : Nat) (vo : Value) (m : Nat) (near near2 : List Nd) : Prop where
 but : But (fun k => k = p) w2 wr
 led : LedAt wr base p b g u0 u1 ns v bx (last + m)
 row : RB wr w2.heap.size vo (grow u0 u1 ns bx last o s m)
 le : m ≤ N
 full : m = N ∨ ∀ x ∈ near, roomN u0 u1 ns (bx ++ grow u0 u1 ns bx last o s m) x.f0 ≤ 0
 on : ∀ y ∈ grow u0 u1 ns bx last o s m, ∃ x ∈ near2, y.f1 = x.f0
theorem led_put {w : World} {base p b g N : Nat} {u0 u1 : Int} {ns : List Nd} {v0 v' : Value} {bx' : List Bx} {last : Int} (hT : TabAt w base b g u0 u1 ns) (hk : w.heap[p]? = some (.cells #[.pointer (some ⟨b, 0, none⟩), v0, .int .u32 last] 107 (0, 0))) (hne : p ≠ b ∧ p ≠ g ∧ base ≤ p) (hR : RB w N v' bx') (hB : base ≤ N) (ho : ∀ k, v'.ownBlock = some k → k ≠ b ∧ k ≠ g ∧ k ≠ p) : LedAt (w.setCell ⟨p, 1, none⟩ v') base p b g u0 u1 ns v' bx' last := by
 have hb : But (fun k => k = p) w (w.setCell ⟨p, 1, none⟩ v') := (But.refl (fun k => k = p) w).setCell (b := p) rfl 1 v'
 exact ⟨hT.but hb (fun e => hne.1 e.symm) (fun e => hne.2.1 e.symm), by simpa using blk_set hk 1 v', Kd.R_lower (Kd.R_step hR (fun k hk hlt => hb.block k hlt (ho k hk).2.2)) hB, ho, hne⟩
theorem GS.below {w2 wr w' : World} {base p b g : Nat} {u0 u1 : Int} {ns : List Nd} {v : Value} {bx : List Bx} {last o : Int} {s : Bool} {N : Nat} {vo : Value} {m : Nat} {near near2 : List Nd} (h : GS w2 wr base p b g u0 u1 ns v bx last o s N vo m near near2) (hb : Below wr.heap.size wr w') : GS w2 w' base p b g u0 u1 ns v bx last o s N vo m near near2 :=
 ⟨h.but.trans (But.of_below hb), h.led.below hb, Kd.R_below h.row hb, h.le, h.full, h.on⟩
theorem GS.wide {w2 wr : World} {base p b g : Nat} {u0 u1 : Int} {ns : List Nd} {v : Value} {bx : List Bx} {last o : Int} {s : Bool} {N : Nat} {vo : Value} {m : Nat} {near near2 near2' : List Nd} (h : GS w2 wr base p b g u0 u1 ns v bx last o s N vo m near near2) (hs : ∀ x ∈ near2, x ∈ near2') : GS w2 wr base p b g u0 u1 ns v bx last o s N vo m near near2' :=
 ⟨h.but, h.led, h.row, h.le, h.full, fun y hy => by obtain ⟨x, hx, e⟩ := h.on y hy; exact ⟨x, hs x hx, e⟩⟩
theorem GS.room {w2 wr : World} {base p b g : Nat} {u0 u1 : Int} {ns : List Nd} {v : Value} {bx : List Bx} {last o : Int} {s : Bool} {N : Nat} {vo : Value} {m j : Nat} (h : GS w2 wr base p b g u0 u1 ns v bx last o s N vo m (ns.take j) (ns.take j)) (hG : LG u0 u1 ns bx last) (hj : j < ns.length) : roomN u0 u1 ns (bx ++ grow u0 u1 ns bx last o s m) ns[j].f0 = roomN u0 u1 ns bx ns[j].f0 := by
 have hw := who_of hG.nodes.rising (List.getElem_mem hj)
 rw [room_some hw, room_some hw, onN_append]
 have : onN (grow u0 u1 ns bx last o s m) ns[j].f0 = [] := List.filter_eq_nil_iff.2 fun y hy e => by
  obtain ⟨x, hx, e2⟩ := h.on y hy
  obtain ⟨i, hi, rfl⟩ := List.mem_iff_getElem.1 hx
  rw [List.getElem_take] at e2
  have hi2 : i < j := by rw [List.length_take] at hi; omega
  have h3 := List.pairwise_iff_getElem.1 hG.nodes.rising i j (by omega) hj hi2
  have h4 : y.f1 = ns[j].f0 := by simpa using e
  omega
 rw [this, List.append_nil]
theorem GS.next {w2 wr w' : World} {base p b g : Nat} {u0 u1 : Int} {ns : List Nd} {v : Value} {bx : List Bx} {last o : Int} {s : Bool} {N : Nat} {vo : Value} {m j : Nat} (h : GS w2 wr base p b g u0 u1 ns v bx last o s N vo m (ns.take j) (ns.take (j + 1))) (hG : LG u0 u1 ns bx last) (hj : j < ns.length) (hm : m < N) (hr : 0 < roomN u0 u1 ns (bx ++ grow u0 u1 ns bx last o s m) ns[j].f0)
  (v1 : Value) (hb : But (fun k => k = p) w2 w') (hL : LedAt w' base p b g u0 u1 ns v bx (last + m + 1)) (hR : RB w' w2.heap.size v1 (grow u0 u1 ns bx last o s m ++ [⟨last + m + 1, ns[j].f0, o, s⟩])) :
  GS w2 w' base p b g u0 u1 ns v bx last o s N v1 (m + 1) (ns.take j) (ns.take (j + 1)) ∧ roomN u0 u1 ns (bx ++ grow u0 u1 ns bx last o s (m + 1)) ns[j].f0 = roomN u0 u1 ns (bx ++ grow u0 u1 ns bx last o s m) ns[j].f0 - 1 := by
 have hf : ∀ x ∈ ns.take j, roomN u0 u1 ns (bx ++ grow u0 u1 ns bx last o s m) x.f0 ≤ 0 := h.full.resolve_left (by omega)
 have hp := placeN_at j hj hf hr
 have hg : grow u0 u1 ns bx last o s (m + 1) = grow u0 u1 ns bx last o s m ++ [⟨last + m + 1, ns[j].f0, o, s⟩] := by rw [grow, hp]
 refine ⟨⟨hb, by rw [show last + ((m + 1 : Nat) : Int) = last + m + 1 by omega]; exact hL, by rw [hg]; exact hR, hm, .inr fun x hx => ?_, fun y hy => ?_⟩, ?_⟩
 ·rw [hg, ← List.append_assoc, room_put _ _ _ (by rw [who_of hG.nodes.rising (List.mem_of_mem_take hx)]; rfl)]
  have := hf x hx
  split <;> omega
 ·rw [hg] at hy
  rcases List.mem_append.1 hy with hy | hy
  ·exact h.on y hy
  ·refine ⟨ns[j], ?_, by rw [List.mem_singleton.1 hy]⟩
   rw [List.take_add_one, List.getElem?_eq_getElem hj]
   exact List.mem_append_right _ (by simp)
 ·rw [hg, ← List.append_assoc, room_put _ _ _ (by rw [who_of hG.nodes.rising (List.getElem_mem hj)]; rfl), if_pos rfl]
theorem GS.done {w2 wr : World} {base p b g : Nat} {u0 u1 : Int} {ns : List Nd} {v : Value} {bx : List Bx} {last o : Int} {s : Bool} {N : Nat} {vo : Value} {m j : Nat} (h : GS w2 wr base p b g u0 u1 ns v bx last o s N vo m (ns.take j) (ns.take (j + 1))) (hj : j < ns.length) (hr : m = N ∨ roomN u0 u1 ns (bx ++ grow u0 u1 ns bx last o s m) ns[j].f0 = 0) : GS w2 wr base p b g u0 u1 ns v bx last o s N vo m (ns.take (j + 1)) (ns.take (j + 1)) := by
 refine ⟨h.but, h.led, h.row, h.le, ?_, h.on⟩
 rcases hr with hr | hr
 ·exact .inl hr
 ·rcases h.full with hf | hf
  ·exact .inl hf
  ·refine .inr fun x hx => ?_
   rw [List.take_add_one, List.getElem?_eq_getElem hj] at hx
   rcases List.mem_append.1 hx with hx | hx
   ·exact hf x hx
   ·rw [show x = ns[j] by simpa using hx]
    omega
theorem LedAt.low {w w' : World} {base p b g N : Nat} {u0 u1 : Int} {ns : List Nd} {v : Value} {bx : List Bx} {last : Int} (h : LedAt w base p b g u0 u1 ns v bx last) (hb : Below N w w') (hp : p < N) (hb2 : b < N) (hg : g < N) (hv : ∀ k, v.ownBlock = some k → k < N) : LedAt w' base p b g u0 u1 ns v bx last :=
 h.but (T := fun k => N ≤ k) ⟨hb.os, hb.tape, hb.output, hb.size, fun k hk hn => hb.block k (by omega)⟩ (by omega) (by omega) (by omega) (fun k hk => by have := hv k hk; omega)
theorem lgive_ok {base p b g : Nat} {u0 u1 : Int} {ns : List Nd} {v : Value} {bx : List Bx} {last : Int} (o n : Int) (s : Bool) (w : World) (h : LedAt w base p b g u0 u1 ns v bx last) (hG : LG u0 u1 ns bx last) (hla : last ≤ 4000000000) (hm : mayc o n ≠ 2) (hf : ¬ freeN u0 u1 ns bx < n) :
  Calls Tryz.prog 28 #[.pointer (some ⟨p, 0, none⟩), .int .u32 o, .bool s, .int .i64 n] w fun e w' => ∃ vo v', e = .returned (.tuple #[vo, .int .i64 0]) ∧ LedAt w' base p b g u0 u1 ns v' (bx ++ grow u0 u1 ns bx last o s n.toNat) (last + n.toNat) ∧ RB w' w.heap.size vo (grow u0 u1 ns bx last o s n.toNat) ∧ (∀ k, vo.ownBlock = some k → v'.ownBlock ≠ some k) ∧ But (fun k => k = p ∨ v.ownBlock = some k) w w' ∧ (∀ k, v'.ownBlock = some k → v.ownBlock = some k ∨ w.heap.size ≤ k) := by
 have hu39 := Tryz.underlying59
 have hu113 := Tryz.underlying100
 obtain ⟨A, c, rfl⟩ := Kd.R_slice h.row
 obtain ⟨bl, hbl⟩ : ∃ bl, bx.length = bl := ⟨_, rfl⟩
 rw [hbl] at h ⊢
 have hz := mayc_zero hm
 have hm0 : mayc o n = 0 := (mayc_cases o n).resolve_left hm
 have hlen := hG.len
 have MY := may_at p b o n w h.cells.1
 rw [hm0] at MY
 have MY := Aside0.mk MY
 have FR := free w h hG.nodes (by omega)
 have FE : Aside0 ((n.toNat : Int) ≤ freeN u0 u1 ns bx) := ⟨by omega⟩
 obtain ⟨fr, hfr⟩ : ∃ fr, freeN u0 u1 ns bx = fr := ⟨_, rfl⟩
 rw [hfr] at FR hf
 have FR := Aside0.mk FR
 have t1 : decide (fr < n) = false := decide_eq_false hf
 have hnl : (ns.length : Int) ≤ 32 := by have := hG.nodes.len; omega
 obtain ⟨N, hN⟩ : ∃ N : Nat, n = N := ⟨n.toNat, by omega⟩
 subst hN
 have hNN : (N : Int) ≤ 1048576 := hz.2.2
 have ho := Aside0.mk hz.1
 have eN : ((N : Int)).toNat = N := by simp
 rw [eN] at FE ⊢
 have H := Aside0.mk (And.intro h (And.intro hG (And.intro hla hbl)))
 have c0 := h.cells.1
 clear h hG hla hbl hz hm hm0 hlen hfr hf eN
 go_enter Tryz.func28, Tryz.ntmps28
 go_wp2_with fail
 refine MY.out.mono ?_
 rintro e wz ⟨rfl, hz⟩
 obtain rfl := hz.symm
 clear hz MY
 dsimp only
 go_wp2_with fail
 refine FR.out.mono ?_
 rintro e w1 ⟨rfl, hb1⟩
 have c0 := pw_cell_below hb1 c0
 have B1 := Aside0.mk hb1
 clear hb1 FR
 dsimp only
 go_wp2_with fail
 refine (nodes base b g u0 u1 ns w1 (H.out.1.below B1.out).tab (by omega)).mono ?_
 rintro e w2 ⟨vn, rfl, hRn, hb2⟩
 obtain ⟨An, cn, rfl⟩ := Kd.R_slice hRn
 have B2 := below_step B1.out hb2
 have L2 := H.out.1.below B2
 have hp2 := L2.lt
 have hpw := H.out.1.lt
 have hs1 := B1.out.size
 have hs2 := hb2.size
 have Y := Aside0.mk (And.intro hRn (And.intro B2 (And.intro L2 (And.intro hp2 (And.intro hpw (And.intro hs1 hs2))))))
 clear hRn hb2 B2 L2 hp2 hpw hs1 hs2 c0 B1
 dsimp only
 go_wp2_with fail
 go_loopg [11, 32] ns.length (fun kk v11 v32 wr => ∃ j m : Nat, kk = ns.length - j ∧ v32 = .int .i64 j ∧ j ≤ ns.length ∧ GS w2 wr base p b g u0 u1 ns (.slice A bl c) bx last o s N v11 m (ns.take j) (ns.take j))
 case atStart => exact ⟨0, 0, rfl, rfl, Nat.zero_le _, ⟨But.refl _ _, by simpa using Y.out.2.2.1, Kd.R_nil _ _ _ _ _, Nat.zero_le _, .inr (by simp), fun y hy => (by cases hy)⟩⟩
 obtain ⟨j, m, rfl, rfl, hj, hS⟩ := hrel
 obtain ⟨Ao, co, rfl⟩ := Kd.R_slice hS.row
 by_cases hlt : j < ns.length
 ·have RN := R_but Y.out.1 hS.but (fun k hk => by have := Y.out.2.2.2.2.1.1; have := Y.out.2.2.2.2.2.1; omega)
  obtain ⟨ad, rfl, d0, d1, d2⟩ := PNodePlays.at_T59 (Kd.R_reads' RN).2.2 (j : Int) (by omega) (by omega)
  have ej : (j : Int).toNat = j := by simp
  have er : PNodePlays.rd_T59 ns (j : Int) = ns[j] := by unfold PNodePlays.rd_T59; rw [ej, List.getD_eq_getElem?_getD, List.getElem?_eq_getElem hlt]; rfl
  rw [er, ej] at d0 d1 d2
  have hroom := hS.room H.out.2.1 hlt
  have hmem : ns[j] ∈ ns := List.getElem_mem hlt
  have hall := H.out.2.1.nodes.all _ hmem
  have hwho := who_of H.out.2.1.nodes.rising hmem
  have hrn := H.out.2.1.room ns[j].f0
  obtain ⟨x, hx⟩ : ∃ x, ns[j] = x := ⟨_, rfl⟩
  rw [hx] at d0 d1 d2 hroom hall hwho hrn
  obtain ⟨r0, hr0⟩ : ∃ r0 : Nat, roomN u0 u1 ns bx x.f0 = r0 := ⟨_, (Int.toNat_of_nonneg hrn).symm⟩
  have hwf : (Lit.int .u32 x.f0).wf = true := by simp [Lit.wf, IntKind.min, IntKind.max, IntKind.signed, IntKind.bits]; omega
  have RC := Aside0.mk (fun w' (hL : LedAt w' base p b g u0 u1 ns (.slice A bl c) bx (last + m)) => room_yes w' x.f0 hL H.out.2.1.nodes (by have := H.out.2.1.len; omega) hwf x hwho)
  have rub : (r0 : Int) ≤ 4096 := by rw [← hr0, room_some hwho]; have := hall.2.2; omega
  rw [hr0] at RC hroom
  have hlt' : (j : Int) < (ns.length : Int) := by omega
  have X := Aside0.mk (And.intro hS (And.intro hroom hx))
  obtain ⟨x0, x1, x2⟩ := x
  dsimp only at d0 d1 d2 RC
  clear hS RN er ej hroom hmem hall hwho hrn hr0 hwf hx
  go_wp2_with fail
  obtain ⟨W4, hW4⟩ : ∃ W4, wr.alloc (.cells #[.int .u32 x0, .int .i64 x1, .int .i64 x2] 59) = W4 := ⟨_, rfl⟩
  have hB4 : Below wr.heap.size wr W4 := by rw [← hW4]; exact below_alloc (Below.refl _ _) _
  have k4 : W4.heap[wr.heap.size]? = some (.cells #[.int .u32 x0, .int .i64 x1, .int .i64 x2] 59 (0, 0)) := by rw [← hW4]; exact blk_new wr _
  rw [hW4]
  refine (RC.out _ (X.out.1.led.below hB4)).mono ?_
  rintro e w5 ⟨rfl, hb5⟩
  have K5 := blk_below k4 hb5
  have S5 := (X.out.1.below (below_step hB4 hb5)).wide (near2' := ns.take (j + 1)) (fun x hx => by rw [List.take_add_one]; exact List.mem_append_left _ hx)
  have Z := Aside0.mk (And.intro K5 S5)
  have hxb : w2.heap.size ≤ wr.heap.size := X.out.1.but.size
  have hr5 := X.out.2.1
  have hx5 := X.out.2.2
  obtain ⟨xb, hxe⟩ : ∃ xb, wr.heap.size = xb := ⟨_, rfl⟩
  rw [hxe] at hxb Z ⊢
  have XX := Aside0.mk (And.intro hr5 (And.intro hx5 hxb))
  clear hr5 hx5 hxb hxe X
  clear hB4 k4 hb5 K5 S5 d0 d1 d2 RC hW4
  dsimp only
  go_wp2_with fail
  go_loopg [11, 14] r0 (fun kk v11 v14 wq => ∃ m r : Nat, r = kk ∧ v14 = .int .i64 r ∧ r ≤ r0 ∧ roomN u0 u1 ns (bx ++ grow u0 u1 ns bx last o s m) x0 = r ∧ wq.heap[xb]? = some (.cells #[.int .u32 x0, .int .i64 x1, .int .i64 x2] 59 (0, 0)) ∧ GS w2 wq base p b g u0 u1 ns (.slice A bl c) bx last o s N v11 m (ns.take j) (ns.take (j + 1)))
  case atStart => exact ⟨m, r0, rfl, rfl, Nat.le_refl _, XX.out.1, Z.out.1, Z.out.2⟩
  obtain ⟨m2, r, rfl, rfl, hrr, hrm, hk, hS⟩ := hrel
  obtain ⟨Ao2, co2, rfl⟩ := Kd.R_slice hS.row
  have hml : (grow u0 u1 ns bx last o s m2).length = m2 := grow_len ..
  rw [hml] at hS ⊢
  have hmN := hS.le
  have Q := Aside0.mk (And.intro hS (And.intro hk (And.intro hrm hrr)))
  clear hS hk hrm hml Z hrr
  rcases Nat.eq_zero_or_pos r with h0 | h0
  ·have tr : decide ((0 : Int) < (r : Int)) = false := decide_eq_false (by omega)
   have tr2 : decide (0 < r) = false := decide_eq_false (by omega)
   have tr3 : ¬ (0 : Int) < (r : Int) := by omega
   have R0 := Aside0.mk h0
   clear h0
   go_wp2
   go_roundg (ns.length - (j + 1))
   case measure => omega
   case rel => exact ⟨j + 1, m2, rfl, by go_num, by omega, Q.out.1.done hlt (.inr (by have := Q.out.2.2.1; rw [R0.out] at this; rw [XX.out.2.1]; exact this))⟩
  ·have tr : decide ((0 : Int) < (r : Int)) = true := decide_eq_true (by omega)
   have tr2 : decide (0 < r) = true := decide_eq_true (by omega)
   have tr3 : (0 : Int) < (r : Int) := by omega
   by_cases hmm : m2 < N
   ·have tm : decide ((m2 : Int) < (N : Int)) = true := decide_eq_true (by omega)
    have tm2 : decide (m2 < N) = true := decide_eq_true hmm
    have tm3 : (m2 : Int) < (N : Int) := by omega
    have hlow := H.out.2.1.low
    have hla := H.out.2.2.1
    obtain ⟨l1, hl1⟩ : ∃ l1, last + (m2 : Int) + 1 = l1 := ⟨_, rfl⟩
    have hw1 : IntKind.u32.wrap (last + (m2 : Int) + 1) = l1 := by rw [IntKind.wrap_u32]; omega
    have AD : Aside0 (∀ w', LedAt w' base p b g u0 u1 ns (.slice A bl c) bx (last + m2) → Calls Tryz.prog 69 #[.pointer (some ⟨p, 2, none⟩), .int .u32 1] w' fun e w'' => e = .returned (.int .u32 l1) ∧ But (fun k => k = p) w' w'' ∧ LedAt w'' base p b g u0 u1 ns (.slice A bl c) bx l1) := ⟨fun w' hL => by
     have h := add p (last + m2) 1 w' hL.cells.2.2 (blk_frozen hL.blk 2)
     rw [hw1] at h
     refine h.mono ?_
     rintro e w'' ⟨h1, rfl⟩
     exact ⟨h1, (But.refl (fun k => k = p) w').setCell (b := p) rfl 2 _, hL.number l1⟩⟩
    have NE : Aside0 (xb ≠ p) := ⟨by have := Y.out.2.2.2.1.1; have := XX.out.2.2; omega⟩
    have LE1 := Aside0.mk hl1
    have MM := Aside0.mk hmm
    have R0 := Aside0.mk h0
    clear hlow hla hl1 hw1 h0 hmm
    go_upto_region 13 with (fail)
    refine XInv.region_tab [] [[], [], [1], [2], [3], [], [5], [], [], [4, 6, 7, 8], [9], [0, 10, 4], [11, 11, 0, 1, 2, 3, 4, 5, 6, 7, 8, 9, 10, 11]] (fun bq jq => match jq with
      | 0 => .slice Ao2 m2 co2
      | 1 => .pointer (some ⟨p, 0, none⟩)
      | 2 => .pointer (some ⟨p, 0, none⟩)
      | 3 => .pointer (some ⟨p, 2, none⟩)
      | 4 => .int .u32 l1
      | 5 => .pointer (some ⟨xb, 0, none⟩)
      | 6 => .int .u32 x0
      | 7 => .int .u32 o
      | 8 => .bool s
      | 9 => .agg #[.int .u32 l1, .int .u32 x0, .int .u32 o, .bool s]
      | 10 => .slice (some ⟨bq.1, 0, none⟩) 1 1
      | 11 => bq.2
      | 12 => bq.2
      | _ => undef)
      (fun bq l w' => if l 11 = true then (But (fun k => k = p) w2 w' ∧ LedAt w' base p b g u0 u1 ns (.slice A bl c) bx l1 ∧ RB w' w2.heap.size bq.2 (grow u0 u1 ns bx last o s m2 ++ [⟨l1, x0, o, s⟩]) ∧ w'.heap[xb]? = some (.cells #[.int .u32 x0, .int .i64 x1, .int .i64 x2] 59 (0, 0))) else if l 10 = true then (∃ wz, (But (fun k => k = p) wr wz ∧ LedAt wz base p b g u0 u1 ns (.slice A bl c) bx l1) ∧ bq.1 = wz.heap.size ∧ w' = wz.alloc (.cells #[.int .u32 l1, .int .u32 x0, .int .u32 o, .bool s] 100)) else if l 4 = true then (But (fun k => k = p) wr w' ∧ LedAt w' base p b g u0 u1 ns (.slice A bl c) bx l1) else Below wr.heap.size wr w')
      (by kernel_rfl) rfl (by kernel_rfl) (by kernel_rfl) (by kernel_rfl) ⟨((0, undef) : Nat × Value), (by rw [if_neg (by simp)]; rw [if_neg (by simp)]; rw [if_neg (by simp)]; exact below_drew (Below.refl _ _))⟩ ?_ ?_
    ·intro i1 hi1 hds oi hoi bq lb w' hW hlb hcl hneed hclo
     have hi1 : i1 < 13 := hi1
     have hcs : i1 = 0 ∨ i1 = 1 ∨ i1 = 2 ∨ i1 = 3 ∨ i1 = 4 ∨ i1 = 5 ∨ i1 = 6 ∨ i1 = 7 ∨ i1 = 8 ∨ i1 = 9 ∨ i1 = 10 ∨ i1 = 11 ∨ i1 = 12 := by omega
     clear hi1
     rcases hcs with rfl | rfl | rfl | rfl | rfl | rfl | rfl | rfl | rfl | rfl | rfl | rfl | rfl
     all_goals simp only [List.getElem?_toArray, List.getElem?_cons_succ, List.getElem?_cons_zero, Option.some.injEq] at hoi
     all_goals subst hoi
     ·refine XInv.yes_tab [] (by kernel_rfl) ?_
      have hs2 := hcl 11 (by decide) (by kernel_rfl)
      cases hs0 : lb 4
      case false =>
       cases hs1 : lb 10
       case false =>
        rw [if_neg (by rw [hs2]; decide)] at hW
        rw [if_neg (by rw [hs1]; decide)] at hW
        rw [if_neg (by rw [hs0]; decide)] at hW
        clear hcl hneed hclo
        intro Q2 K2 hK2
        simp only [XInv.puts, XPrint.pw]
        go_simp
        exact hK2.out (.slice Ao2 m2 co2) w' ⟨bq, rfl, (by intros; first | rfl | trivial), (by rw [if_neg (by simp [XInv.up, hs2])]; rw [if_neg (by simp [XInv.up, hs1])]; rw [if_neg (by simp [XInv.up, hs0])]; exact hW)⟩
       case true =>
        exact absurd (XInv.reach hclo [9] 10 4 (by kernel_rfl) hs1) (by rw [hs0]; decide)
      case true =>
       cases hs1 : lb 10
       case false =>
        rw [if_neg (by rw [hs2]; decide)] at hW
        rw [if_neg (by rw [hs1]; decide)] at hW
        rw [if_pos hs0] at hW
        clear hcl hneed hclo
        intro Q2 K2 hK2
        simp only [XInv.puts, XPrint.pw]
        go_simp
        exact hK2.out (.slice Ao2 m2 co2) w' ⟨bq, rfl, (by intros; first | rfl | trivial), (by rw [if_neg (by simp [XInv.up, hs2])]; rw [if_neg (by simp [XInv.up, hs1])]; rw [if_pos (by simp [XInv.up, hs0])]; exact hW)⟩
       case true =>
        rw [if_neg (by rw [hs2]; decide)] at hW
        rw [if_pos hs1] at hW
        clear hcl hneed hclo
        intro Q2 K2 hK2
        simp only [XInv.puts, XPrint.pw]
        go_simp
        exact hK2.out (.slice Ao2 m2 co2) w' ⟨bq, rfl, (by intros; first | rfl | trivial), (by rw [if_neg (by simp [XInv.up, hs2])]; rw [if_pos (by simp [XInv.up, hs1])]; exact hW)⟩
     ·refine XInv.yes_tab [] (by kernel_rfl) ?_
      have hs0 := XInv.unreach hclo [3, 2] 4 1 (by kernel_rfl) hlb
      have hs1 := XInv.unreach hclo [9, 4, 3, 2] 10 1 (by kernel_rfl) hlb
      have hs2 := XInv.unreach hclo [4, 3, 2] 11 1 (by kernel_rfl) hlb
      rw [if_neg (by rw [hs2]; decide)] at hW
      rw [if_neg (by rw [hs1]; decide)] at hW
      rw [if_neg (by rw [hs0]; decide)] at hW
      clear hcl hneed hclo
      intro Q2 K2 hK2
      simp only [XInv.puts, XPrint.pw]
      go_simp
      exact hK2.out (.pointer (some ⟨p, 0, none⟩)) w' ⟨bq, rfl, (by intros; first | rfl | trivial), (by rw [if_neg (by simp [XInv.up, hs2])]; rw [if_neg (by simp [XInv.up, hs1])]; rw [if_neg (by simp [XInv.up, hs0])]; exact hW)⟩
     ·refine XInv.yes_tab [(51, 1)] (by kernel_rfl) ?_
      have hs0 := XInv.unreach hclo [3] 4 2 (by kernel_rfl) hlb
      have hs1 := XInv.unreach hclo [9, 4, 3] 10 2 (by kernel_rfl) hlb
      have hs2 := XInv.unreach hclo [4, 3] 11 2 (by kernel_rfl) hlb
      rw [if_neg (by rw [hs2]; decide)] at hW
      rw [if_neg (by rw [hs1]; decide)] at hW
      rw [if_neg (by rw [hs0]; decide)] at hW
      clear hcl hneed hclo
      intro Q2 K2 hK2
      simp only [XInv.puts, XPrint.pw]
      go_simp
      exact hK2.out (.pointer (some ⟨p, 0, none⟩)) w' ⟨bq, rfl, (by intros; first | rfl | trivial), (by rw [if_neg (by simp [XInv.up, hs2])]; rw [if_neg (by simp [XInv.up, hs1])]; rw [if_neg (by simp [XInv.up, hs0])]; exact hW)⟩
     ·refine XInv.yes_tab [(52, 2)] (by kernel_rfl) ?_
      have hs0 := hcl 4 (by decide) (by kernel_rfl)
      have hs1 := XInv.unreach hclo [9, 4] 10 3 (by kernel_rfl) hlb
      have hs2 := XInv.unreach hclo [4] 11 3 (by kernel_rfl) hlb
      rw [if_neg (by rw [hs2]; decide)] at hW
      rw [if_neg (by rw [hs1]; decide)] at hW
      rw [if_neg (by rw [hs0]; decide)] at hW
      clear hcl hneed hclo
      intro Q2 K2 hK2
      simp only [XInv.puts, XPrint.pw]
      go_simp
      exact hK2.out (.pointer (some ⟨p, 2, none⟩)) w' ⟨bq, rfl, (by intros; first | rfl | trivial), (by rw [if_neg (by simp [XInv.up, hs2])]; rw [if_neg (by simp [XInv.up, hs1])]; rw [if_neg (by simp [XInv.up, hs0])]; exact hW)⟩
     ·refine XInv.yes_tab [(53, 3)] (by kernel_rfl) ?_
      have hs0 := hlb
      have hs1 := XInv.unreach hclo [9] 10 4 (by kernel_rfl) hlb
      have hs2 := hcl 11 (by decide) (by kernel_rfl)
      rw [if_neg (by rw [hs2]; decide)] at hW
      rw [if_neg (by rw [hs1]; decide)] at hW
      rw [if_neg (by rw [hs0]; decide)] at hW
      obtain ⟨c0, c1, c2⟩ := (Q.out.1.led.below hW).cells
      have n0 := (blk_cell (blk_below Q.out.2.1 hW) 0).trans rfl
      clear hcl hneed
      intro Q2 K2 hK2
      simp only [XInv.puts, XPrint.pw]
      go_simp
      go_at_call 69
      (with_reducible refine (AD.out _ (Q.out.1.led.below hW)).mono ?_)
      rintro e wz ⟨rfl, hb, hL⟩
      exact hK2.out (.int .u32 l1) wz ⟨bq, rfl, (by intros; first | rfl | trivial), (by rw [if_neg (by simp [XInv.up, hs2])]; rw [if_neg (by simp [XInv.up, hs1])]; rw [if_pos (by simp [XInv.up, hs0])]; exact ⟨(But.of_below hW).trans hb, hL⟩)⟩
     ·refine XInv.yes_tab [] (by kernel_rfl) ?_
      have hs1 := XInv.unreach hclo [9, 6] 10 5 (by kernel_rfl) hlb
      have hs2 := XInv.unreach hclo [10, 9, 6] 11 5 (by kernel_rfl) hlb
      cases hs0 : lb 4
      case false =>
       rw [if_neg (by rw [hs2]; decide)] at hW
       rw [if_neg (by rw [hs1]; decide)] at hW
       rw [if_neg (by rw [hs0]; decide)] at hW
       clear hcl hneed hclo
       intro Q2 K2 hK2
       simp only [XInv.puts, XPrint.pw]
       go_simp
       exact hK2.out (.pointer (some ⟨xb, 0, none⟩)) w' ⟨bq, rfl, (by intros; first | rfl | trivial), (by rw [if_neg (by simp [XInv.up, hs2])]; rw [if_neg (by simp [XInv.up, hs1])]; rw [if_neg (by simp [XInv.up, hs0])]; exact hW)⟩
      case true =>
       rw [if_neg (by rw [hs2]; decide)] at hW
       rw [if_neg (by rw [hs1]; decide)] at hW
       rw [if_pos hs0] at hW
       clear hcl hneed hclo
       intro Q2 K2 hK2
       simp only [XInv.puts, XPrint.pw]
       go_simp
       exact hK2.out (.pointer (some ⟨xb, 0, none⟩)) w' ⟨bq, rfl, (by intros; first | rfl | trivial), (by rw [if_neg (by simp [XInv.up, hs2])]; rw [if_neg (by simp [XInv.up, hs1])]; rw [if_pos (by simp [XInv.up, hs0])]; exact hW)⟩
     ·refine XInv.yes_tab [(55, 5)] (by kernel_rfl) ?_
      have hs1 := XInv.unreach hclo [9] 10 6 (by kernel_rfl) hlb
      have hs2 := XInv.unreach hclo [10, 9] 11 6 (by kernel_rfl) hlb
      cases hs0 : lb 4
      case false =>
       rw [if_neg (by rw [hs2]; decide)] at hW
       rw [if_neg (by rw [hs1]; decide)] at hW
       rw [if_neg (by rw [hs0]; decide)] at hW
       obtain ⟨c0, c1, c2⟩ := (Q.out.1.led.below hW).cells
       have n0 := (blk_cell (blk_below Q.out.2.1 hW) 0).trans rfl
       clear hcl hneed hclo
       intro Q2 K2 hK2
       simp only [XInv.puts, XPrint.pw]
       go_simp
       exact hK2.out (.int .u32 x0) w' ⟨bq, rfl, (by intros; first | rfl | trivial), (by rw [if_neg (by simp [XInv.up, hs2])]; rw [if_neg (by simp [XInv.up, hs1])]; rw [if_neg (by simp [XInv.up, hs0])]; exact hW)⟩
      case true =>
       rw [if_neg (by rw [hs2]; decide)] at hW
       rw [if_neg (by rw [hs1]; decide)] at hW
       rw [if_pos hs0] at hW
       obtain ⟨c0, c1, c2⟩ := hW.2.cells
       have n0 := (blk_cell (hW.1.heap Q.out.2.1 NE.out) 0).trans rfl
       clear hcl hneed hclo
       intro Q2 K2 hK2
       simp only [XInv.puts, XPrint.pw]
       go_simp
       exact hK2.out (.int .u32 x0) w' ⟨bq, rfl, (by intros; first | rfl | trivial), (by rw [if_neg (by simp [XInv.up, hs2])]; rw [if_neg (by simp [XInv.up, hs1])]; rw [if_pos (by simp [XInv.up, hs0])]; exact hW)⟩
     ·refine XInv.yes_tab [] (by kernel_rfl) ?_
      have hs1 := XInv.unreach hclo [9] 10 7 (by kernel_rfl) hlb
      have hs2 := XInv.unreach hclo [10, 9] 11 7 (by kernel_rfl) hlb
      cases hs0 : lb 4
      case false =>
       rw [if_neg (by rw [hs2]; decide)] at hW
       rw [if_neg (by rw [hs1]; decide)] at hW
       rw [if_neg (by rw [hs0]; decide)] at hW
       clear hcl hneed hclo
       intro Q2 K2 hK2
       simp only [XInv.puts, XPrint.pw]
       go_simp
       exact hK2.out (.int .u32 o) w' ⟨bq, rfl, (by intros; first | rfl | trivial), (by rw [if_neg (by simp [XInv.up, hs2])]; rw [if_neg (by simp [XInv.up, hs1])]; rw [if_neg (by simp [XInv.up, hs0])]; exact hW)⟩
      case true =>
       rw [if_neg (by rw [hs2]; decide)] at hW
       rw [if_neg (by rw [hs1]; decide)] at hW
       rw [if_pos hs0] at hW
       clear hcl hneed hclo
       intro Q2 K2 hK2
       simp only [XInv.puts, XPrint.pw]
       go_simp
       exact hK2.out (.int .u32 o) w' ⟨bq, rfl, (by intros; first | rfl | trivial), (by rw [if_neg (by simp [XInv.up, hs2])]; rw [if_neg (by simp [XInv.up, hs1])]; rw [if_pos (by simp [XInv.up, hs0])]; exact hW)⟩
     ·refine XInv.yes_tab [] (by kernel_rfl) ?_
      have hs1 := XInv.unreach hclo [9] 10 8 (by kernel_rfl) hlb
      have hs2 := XInv.unreach hclo [10, 9] 11 8 (by kernel_rfl) hlb
      cases hs0 : lb 4
      case false =>
       rw [if_neg (by rw [hs2]; decide)] at hW
       rw [if_neg (by rw [hs1]; decide)] at hW
       rw [if_neg (by rw [hs0]; decide)] at hW
       clear hcl hneed hclo
       intro Q2 K2 hK2
       simp only [XInv.puts, XPrint.pw]
       go_simp
       exact hK2.out (.bool s) w' ⟨bq, rfl, (by intros; first | rfl | trivial), (by rw [if_neg (by simp [XInv.up, hs2])]; rw [if_neg (by simp [XInv.up, hs1])]; rw [if_neg (by simp [XInv.up, hs0])]; exact hW)⟩
      case true =>
       rw [if_neg (by rw [hs2]; decide)] at hW
       rw [if_neg (by rw [hs1]; decide)] at hW
       rw [if_pos hs0] at hW
       clear hcl hneed hclo
       intro Q2 K2 hK2
       simp only [XInv.puts, XPrint.pw]
       go_simp
       exact hK2.out (.bool s) w' ⟨bq, rfl, (by intros; first | rfl | trivial), (by rw [if_neg (by simp [XInv.up, hs2])]; rw [if_neg (by simp [XInv.up, hs1])]; rw [if_pos (by simp [XInv.up, hs0])]; exact hW)⟩
     ·refine XInv.yes_tab [(58, 8), (57, 7), (56, 6), (54, 4)] (by kernel_rfl) ?_
      have hs0 := hneed 4 (by kernel_rfl)
      have hs1 := hcl 10 (by decide) (by kernel_rfl)
      have hs2 := XInv.unreach hclo [10] 11 9 (by kernel_rfl) hlb
      rw [if_neg (by rw [hs2]; decide)] at hW
      rw [if_neg (by rw [hs1]; decide)] at hW
      rw [if_pos hs0] at hW
      clear hcl hneed hclo
      intro Q2 K2 hK2
      simp only [XInv.puts, XPrint.pw] at hK2 ⊢
      go_simp
      exact hK2.out (.agg #[.int .u32 l1, .int .u32 x0, .int .u32 o, .bool s]) w' ⟨bq, rfl, (by intros; first | rfl | trivial), (by rw [if_neg (by simp [XInv.up, hs2])]; rw [if_neg (by simp [XInv.up, hs1])]; rw [if_pos (by simp [XInv.up, hs0])]; exact hW)⟩
     ·refine XInv.yes_tab [(59, 9)] (by kernel_rfl) ?_
      have hs0 := (XInv.reach hclo [] 9 4 (by kernel_rfl) (hneed 9 (by kernel_rfl)))
      have hs1 := hlb
      have hs2 := hcl 11 (by decide) (by kernel_rfl)
      rw [if_neg (by rw [hs2]; decide)] at hW
      rw [if_neg (by rw [hs1]; decide)] at hW
      rw [if_pos hs0] at hW
      obtain ⟨c0, c1, c2⟩ := hW.2.cells
      have n0 := (blk_cell (hW.1.heap Q.out.2.1 NE.out) 0).trans rfl
      clear hcl hneed
      intro Q2 K2 hK2
      simp only [XInv.puts, XPrint.pw]
      go_simp
      exact hK2.out (.slice (some ⟨w'.heap.size, 0, none⟩) 1 1) _ ⟨(w'.heap.size, bq.2), rfl, (by intro jj hjj hlj; have hjj : jj < 13 := hjj; rcases (by omega : jj = 0 ∨ jj = 1 ∨ jj = 2 ∨ jj = 3 ∨ jj = 4 ∨ jj = 5 ∨ jj = 6 ∨ jj = 7 ∨ jj = 8 ∨ jj = 9 ∨ jj = 10 ∨ jj = 11 ∨ jj = 12) with rfl | rfl | rfl | rfl | rfl | rfl | rfl | rfl | rfl | rfl | rfl | rfl | rfl <;> first | rfl | (rw [hlb] at hlj; cases hlj)), (by rw [if_neg (by simp [XInv.up, hs2])]; rw [if_pos (by simp [XInv.up, hs1])]; exact ⟨w', hW, rfl, rfl⟩)⟩
     ·refine XInv.yes_tab [(60, 10), (54, 4), (50, 0)] (by kernel_rfl) ?_
      have hs0 := hneed 4 (by kernel_rfl)
      have hs1 := hneed 10 (by kernel_rfl)
      have hs2 := hlb
      rw [if_neg (by rw [hs2]; decide)] at hW
      rw [if_pos hs1] at hW
      have n12 : lb 12 = false := hcl 12 (by decide) (by kernel_rfl)
      clear hcl hneed
      obtain ⟨wz, hz, hq, rfl⟩ := id hW
      have hro : RB wz w2.heap.size (.slice Ao2 m2 co2) (grow u0 u1 ns bx last o s m2) := Kd.R_step Q.out.1.row (fun k hk hlt => hz.1.block k hlt (by have := Kd.R_base Q.out.1.row k hk; have := Y.out.2.2.2.1.1; omega))
      have hxk := hz.1.heap Q.out.2.1 NE.out
      have hxne := Kd.R_ne hro hxk (by decide)
      have hsz : w2.heap.size ≤ wz.heap.size := Nat.le_trans Q.out.1.but.size hz.1.size
      have h12 := Q.out.1.but.trans hz.1
      intro Q2 K2 hK2
      simp only [XInv.puts]
      refine Kd.R_append_step PLedLib.k100 (w0 := wz) (W := wz) w2.heap.size (by rfl) (.tmp 50) (.tmp 60) 34 100 (.agg #[.int .u32 0, .int .u32 0, .int .u32 0, .bool false]) 16 rfl Tryz.underlying34 PLedLib.info100 rfl (by decide) (by omega) (.slice Ao2 m2 co2) (grow u0 u1 ns bx last o s m2) ⟨l1, x0, o, s⟩ [.int .u32 l1, .int .u32 x0, .int .u32 o, .bool s] (fun _ => True) (fun _ => False) rfl (by show Value.slice (some ⟨bq.1, 0, none⟩) 1 1 = _; rw [hq]) (PLedLib.k100_mkM _ _ _ _) (fun _ h => h.elim) (fun _ _ => trivial) (Kd.R_mono hro (fun _ _ => trivial)) (Below.refl _ _) hsz (by rw [grow_len]; omega) ?_
      intro v1 w1 hR2 hB2 hg2 hat2
      exact hK2.out v1 w1 ⟨(bq.1, v1), rfl, (by intro jj hjj hlj; have hjj : jj < 13 := hjj; rcases (by omega : jj = 0 ∨ jj = 1 ∨ jj = 2 ∨ jj = 3 ∨ jj = 4 ∨ jj = 5 ∨ jj = 6 ∨ jj = 7 ∨ jj = 8 ∨ jj = 9 ∨ jj = 10 ∨ jj = 11 ∨ jj = 12) with rfl | rfl | rfl | rfl | rfl | rfl | rfl | rfl | rfl | rfl | rfl | rfl | rfl <;> first | rfl | (rw [hlb] at hlj; cases hlj) | (simp only [hq]; done) | (rw [n12] at hlj; cases hlj)), (by rw [if_pos (by simp [XInv.up, hs2])]; exact ⟨⟨hB2.os.trans h12.os, hB2.tape.trans h12.tape, hB2.output.trans h12.output, Nat.le_trans h12.size hB2.size, fun k hk hn => (hB2.block k hk).trans (h12.block k hk hn)⟩, hz.2.low hB2 Y.out.2.2.2.1.1 Y.out.2.2.2.1.2.1 Y.out.2.2.2.1.2.2.1 Y.out.2.2.2.1.2.2.2, Kd.R_mono (Kd.R_tight (by rfl) hR2) (fun k hk => hk.symm), (hg2.block xb (blk_lt hxk) hxne).trans hxk⟩)⟩
     ·refine XInv.yes_tab [(61, 11), (60, 10), (59, 9), (58, 8), (57, 7), (56, 6), (55, 5), (54, 4), (53, 3), (52, 2), (51, 1), (50, 0)] (by kernel_rfl) ?_
      have hs0 := hneed 4 (by kernel_rfl)
      have hs1 := hneed 10 (by kernel_rfl)
      have hs2 := hneed 11 (by kernel_rfl)
      rw [if_pos hs2] at hW
      clear hcl hneed hclo
      intro Q2 K2 hK2
      simp only [XInv.puts, XPrint.pw] at hK2 ⊢
      go_simp
      exact hK2.out (bq.2) w' ⟨bq, rfl, (by intros; first | rfl | trivial), (by rw [if_pos (by simp [XInv.up, hs2])]; exact hW)⟩
    ·intro bq w' hW
     refine XInv.end_nil [(11, 12), (61, 11), (60, 10), (59, 9), (58, 8), (57, 7), (56, 6), (55, 5), (54, 4), (53, 3), (52, 2), (51, 1), (50, 0)] (by kernel_rfl) (by kernel_rfl) ?_
     simp only [XInv.puts, XPrint.pw]
     rw [if_pos (by kernel_rfl)] at hW
     obtain ⟨hb3, hL3, hR3, hk3⟩ := hW
     have ej : ns[j].f0 = x0 := by rw [XX.out.2.1]
     have hnx := Q.out.1.next H.out.2.1 hlt MM.out (by rw [ej, Q.out.2.2.1]; have := R0.out; omega) bq.2 hb3 (by rw [LE1.out]; exact hL3) (by rw [LE1.out, ej]; exact hR3)
     rw [ej, Q.out.2.2.1] at hnx
     have V := Aside0.mk (And.intro hnx hk3)
     have R1 := R0.out
     have rub2 : (r : Int) ≤ 4096 := by have := Q.out.2.2.2; omega
     clear hb3 hL3 hR3 hk3 hnx ej tr tr2 tr3
     go_wp2
     go_roundg (r - 1)
     case measure => omega
     case rel => exact ⟨m2 + 1, r - 1, rfl, by go_num, by have := Q.out.2.2.2; omega, by rw [V.out.1.2]; omega, V.out.2, V.out.1.1⟩
   ·have tm : decide ((m2 : Int) < (N : Int)) = false := decide_eq_false (by omega)
    have tm2 : decide (m2 < N) = false := decide_eq_false hmm
    have tm3 : ¬ (m2 : Int) < (N : Int) := by omega
    have R0 := Aside0.mk h0
    clear h0
    go_wp2
    go_roundg (ns.length - (j + 1))
    case measure => omega
    case rel => exact ⟨j + 1, m2, rfl, by go_num, by omega, Q.out.1.done hlt (.inl (by omega))⟩
 ·have hlt' : ¬ (j : Int) < (ns.length : Int) := by omega
  have htk : ns.take j = ns := List.take_of_length_le (by omega)
  rw [htk] at hS
  have hmN : m = N := by
   rcases hS.full with h | h
   ·exact h
   ·exact H.out.2.1.full s ho.out hS.le FE.out h
  subst hmN
  have hml : (grow u0 u1 ns bx last o s m).length = m := grow_len ..
  rw [hml] at hS ⊢
  have c1 := hS.led.cells.2.1
  have kp := hS.led.blk
  have CC := (Kd.R_reads' hS.row).2.2
  rw [hml] at CC
  have Q := Aside0.mk (And.intro hS (And.intro CC (And.intro kp hml)))
  have hbb := H.out.2.1.len
  have hbl := H.out.2.2.2
  clear hS CC kp hml htk
  go_wp2_with (refine Kd.R_append_rows PLedLib.k100 (w0 := wr) (W := wr) base (by rfl) (.tmp 67) (.tmp 68) 34 100 (.agg #[.int .u32 0, .int .u32 0, .int .u32 0, .bool false]) 16 rfl Tryz.underlying34 PLedLib.info100 rfl (by decide) (by omega) (.slice A bl c) bx (grow u0 u1 ns bx last o s m) Ao m co (fun _ => True) (fun _ => False) rfl rfl (Kd.R_mono Q.out.1.led.row (fun _ _ => trivial)) Q.out.2.1 (fun x cs hK => by obtain rfl := PLedLib.k100_open hK; exact PLedLib.k100_mkM _ _ _ _) (fun _ h => h.elim) (fun _ _ => trivial) (Below.refl _ _) (by have := Q.out.1.led.ne.2.2; have := Q.out.1.led.lt.1; omega) ?hl ?_)
  case hl => omega
  intro v1 w3 hR3 hB3 hg3 hat3
  have hown := Q.out.1.led.own
  have hpl := Y.out.2.2.2.1
  have hsw := Q.out.1.but.size
  have hpne : some p ≠ (Value.slice A bl c).ownBlock := fun e => (hown p e.symm).2.2 rfl
  have kp3 := (hg3.block p (blk_lt Q.out.2.2.1) hpne).trans Q.out.2.2.1
  have f1 := blk_frozen kp3 1
  have d1 := (blk_cell kp3 1).trans rfl
  have gBut : But (fun k => (Value.slice A bl c).ownBlock = some k) wr w3 := But.grown hg3 (fun k hk => hk)
  have T3 := Q.out.1.led.tab.but gBut (fun e => (hown _ e).1 rfl) (fun e => (hown _ e).2.1 rfl)
  have hvl : ∀ k, (Value.slice Ao m co).ownBlock = some k → w2.heap.size ≤ k := fun k hk => Kd.R_base Q.out.1.row k hk
  have hvl2 := Kd.R_lt Q.out.1.row
  have RV3 : RB w3 w2.heap.size (.slice Ao m co) (grow u0 u1 ns bx last o s m) := Kd.R_step Q.out.1.row (fun k hk hlt => gBut.block k hlt (fun e => by have := hvl k hk; have := hpl.2.2.2 k e; omega))
  have R3 : RB w3 base v1 (bx ++ grow u0 u1 ns bx last o s m) := Kd.R_mono (Kd.R_tight (by rfl) hR3) (fun k hk => hk.symm)
  have hat : ∀ k, v1.ownBlock = some k → (Value.slice A bl c).ownBlock = some k ∨ wr.heap.size ≤ k := fun k hk => by
   rcases hat3 with h3 | ⟨b3, h3, h4⟩
   ·exact .inl (h3 ▸ hk)
   ·have h5 : b3 = k := Option.some.inj (h3.symm.trans hk)
    exact .inr (by omega)
  have ho1 : ∀ k, v1.ownBlock = some k → k ≠ b ∧ k ≠ g ∧ k ≠ p := fun k hk => by
   rcases hat k hk with h3 | h3
   ·exact hown k h3
   ·omega
  obtain ⟨A1, c1', e1⟩ := Kd.R_slice R3
  obtain ⟨l3, hl3⟩ : ∃ l3, (bx ++ grow u0 u1 ns bx last o s m).length = l3 := ⟨_, rfl⟩
  rw [hl3] at e1
  subst e1
  have Z := Aside0.mk (And.intro T3 (And.intro kp3 (And.intro R3 (And.intro ho1 (And.intro hat (And.intro gBut RV3))))))
  clear hR3 hB3 hg3 hat3 hown hpne kp3 T3 R3 hat ho1 gBut RV3 hl3 c1
  go_wp2
  go_ret2
  have hbp : But (fun k => k = p) w3 (w3.setCell ⟨p, 1, none⟩ (.slice A1 l3 c1')) := (But.refl (fun k => k = p) w3).setCell (b := p) rfl 1 _
  have hsz3 : w.heap.size ≤ w2.heap.size := by have := Y.out.2.2.2.2.2; omega
  have hpw := Y.out.2.2.2.2.1
  refine ⟨_, _, rfl, led_put Z.out.1 Z.out.2.1 Q.out.1.led.ne Z.out.2.2.1 (Nat.le_refl _) Z.out.2.2.2.1, Kd.R_lower (Kd.R_step Z.out.2.2.2.2.2.2 (fun k hk hlt => hbp.block k hlt (by have := hvl k hk; omega))) hsz3, fun k hk hk2 => ?_, (((But.of_below Y.out.2.1).trans (Q.out.1.but.mono fun k h => .inl h)).trans (Z.out.2.2.2.2.2.1.mono fun k h => .inr h)).trans (hbp.mono fun k h => .inl h), fun k hk => ?_⟩
  ·have h1 := hvl k hk
   have h2 := hvl2 k hk
   rcases Z.out.2.2.2.2.1 k hk2 with h3 | h3
   ·have := hpl.2.2.2 k h3
    omega
   ·omega
  ·rcases Z.out.2.2.2.2.1 k hk with h3 | h3
   ·exact .inl h3
   ·exact .inr (by omega)
theorem eq_box (x y : Bx) : (x.f0 == y.f0 && (x.f1 == y.f1 && (x.f2 == y.f2 && (x.f3 == y.f3)))) = decide (x = y) := by
 obtain ⟨x0, x1, x2, x3⟩ := x
 obtain ⟨y0, y1, y2, y3⟩ := y
 rw [Bool.eq_iff_iff]
 simp
theorem index (l : List Bx) (A : Option Addr) (c : Nat) (y : Bx) (w : World) (hC : Kd.C PLedLib.k100 w A l.length l) (hl : l.length ≤ 1000000) :
  Calls Tryz.prog 125 #[.slice A l.length c, bv y] w fun e w' => ∃ z : Int, e = .returned (.int .i64 z) ∧ (0 ≤ z ↔ y ∈ l) ∧ Below w.heap.size w w' := by
 have e113 := PLedLib.eqA100
 have hu113 := Tryz.underlying100
 have hl6 : (l.length : Int) ≤ 1000000 := by omega
 have H := Aside0.mk (And.intro hC hl)
 have Y := Aside0.mk (show y = y from rfl)
 obtain ⟨y0, y1, y2, y3⟩ := y
 have k0 := blk_new w (.cells #[.int .u32 y0, .int .u32 y1, .int .u32 y2, .bool y3] 100)
 have hB0 : Below w.heap.size w (w.alloc (.cells #[.int .u32 y0, .int .u32 y1, .int .u32 y2, .bool y3] 100)) := below_alloc (Below.refl _ _) _
 have HW := Aside0.mk (And.intro k0 hB0)
 unfold bv
 dsimp only
 clear hC hl Y k0 hB0
 go_enter Tryz.func125, Tryz.ntmps125
 go_wp2_with fail
 go_loopg [5, 8] l.length (fun kk v5 v8 wr => ∃ j : Nat, kk = l.length - j ∧ v8 = .int .i64 j ∧ j ≤ l.length ∧ Below w.heap.size w wr ∧ wr.heap[w.heap.size]? = some (.cells #[.int .u32 y0, .int .u32 y1, .int .u32 y2, .bool y3] 100 (0, 0)) ∧ (⟨y0, y1, y2, y3⟩ : Bx) ∉ l.take j)
 case atStart => exact ⟨0, rfl, rfl, Nat.zero_le _, HW.out.2, HW.out.1, by simp⟩
 obtain ⟨j, rfl, rfl, hj, hB, hk, hno⟩ := hrel
 by_cases hlt : j < l.length
 ·obtain ⟨ad, rfl, d0, d1, d2, d3⟩ := PLedLib.at_T100 (Kd.C_below H.out.1 hB) (j : Int) (by omega) (by omega)
  have ej : (j : Int).toNat = j := by simp
  have er : PLedLib.rd_T100 l (j : Int) = l[j] := by unfold PLedLib.rd_T100; rw [ej, List.getD_eq_getElem?_getD, List.getElem?_eq_getElem hlt]; rfl
  rw [er, ej] at d0 d1 d2 d3
  have htk : l.take (j + 1) = l.take j ++ [l[j]] := by rw [List.take_add_one, List.getElem?_eq_getElem hlt]; rfl
  have hmem : l[j] ∈ l := List.getElem_mem hlt
  obtain ⟨x, hx⟩ : ∃ x, l[j] = x := ⟨_, rfl⟩
  rw [hx] at d0 d1 d2 d3 htk hmem
  have eb := eq_box ⟨y0, y1, y2, y3⟩ x
  obtain ⟨q, hq⟩ : ∃ q, decide ((⟨y0, y1, y2, y3⟩ : Bx) = x) = q := ⟨_, rfl⟩
  rw [hq] at eb
  obtain ⟨x0, x1, x2, x3⟩ := x
  dsimp only at d0 d1 d2 d3 eb
  have hlt' : (j : Int) < (l.length : Int) := by omega
  have X := Aside0.mk (And.intro hB (And.intro hk (And.intro hno (And.intro htk (And.intro hmem hq)))))
  have E := Aside0.mk eb
  have D := Aside0.mk (And.intro d0 (And.intro d1 (And.intro d2 d3)))
  clear hB hk hno htk hmem hq hx er eb
  clear d0 d1 d2 d3
  go_upto_region 4 with (fail)
  refine XInv.region_tab [] [[], [], [], [1, 2], [3], [0, 4]] (fun bq jq => match jq with
    | 0 => .agg #[.int .u32 y0, .int .u32 y1, .int .u32 y2, .bool y3]
    | 1 => .slice (some ad) l.length c
    | 2 => .int .i64 j
    | 3 => .pointer (some (ad.add (j * 4)))
    | 4 => .agg #[.int .u32 x0, .int .u32 x1, .int .u32 x2, .bool x3]
    | 5 => .bool q
    | _ => undef)
    (fun bq l w' => Below wr.heap.size wr w')
    (by kernel_rfl) rfl (by kernel_rfl) (by kernel_rfl) (by kernel_rfl) ⟨fun _ : Nat => (0 : Nat), below_drew (Below.refl _ _)⟩ ?_ ?_
  ·intro i1 hi1 hds oi hoi bq lb w' hW hlb hcl hneed hclo
   have hi1 : i1 < 6 := hi1
   have hcs : i1 = 0 ∨ i1 = 1 ∨ i1 = 2 ∨ i1 = 3 ∨ i1 = 4 ∨ i1 = 5 := by omega
   clear hi1 hcl hneed hclo
   have ky := blk_below X.out.2.1 hW
   have n0 := (blk_cell ky 0).trans rfl
   have n1 := (blk_cell ky 1).trans rfl
   have n2 := (blk_cell ky 2).trans rfl
   have n3 := (blk_cell ky 3).trans rfl
   have d0 := pw_cell_below hW D.out.1
   have d1 := pw_cell_below hW D.out.2.1
   have d2 := pw_cell_below hW D.out.2.2.1
   have d3 := pw_cell_below hW D.out.2.2.2
   have eb := E.out
   rcases hcs with rfl | rfl | rfl | rfl | rfl | rfl
   all_goals simp only [List.getElem?_toArray, List.getElem?_cons_succ, List.getElem?_cons_zero, Option.some.injEq] at hoi
   all_goals subst hoi
   ·refine XInv.yes_tab [] (by kernel_rfl) ?_
    intro Q2 K2 hK2
    simp only [XInv.puts, XPrint.pw]
    go_simp
    exact hK2.out (.agg #[.int .u32 y0, .int .u32 y1, .int .u32 y2, .bool y3]) w' ⟨bq, rfl, (by intros; first | rfl | trivial), hW⟩
   ·refine XInv.yes_tab [] (by kernel_rfl) ?_
    intro Q2 K2 hK2
    simp only [XInv.puts, XPrint.pw]
    go_simp
    exact hK2.out (.slice (some ad) l.length c) w' ⟨bq, rfl, (by intros; first | rfl | trivial), hW⟩
   ·refine XInv.yes_tab [] (by kernel_rfl) ?_
    intro Q2 K2 hK2
    simp only [XInv.puts, XPrint.pw]
    go_simp
    exact hK2.out (.int .i64 j) w' ⟨bq, rfl, (by intros; first | rfl | trivial), hW⟩
   ·refine XInv.yes_tab [(13, 2), (12, 1)] (by kernel_rfl) ?_
    intro Q2 K2 hK2
    simp only [XInv.puts, XPrint.pw]
    go_simp
    exact hK2.out (.pointer (some (ad.add (j * 4)))) w' ⟨bq, rfl, (by intros; first | rfl | trivial), hW⟩
   ·refine XInv.yes_tab [(14, 3)] (by kernel_rfl) ?_
    intro Q2 K2 hK2
    simp only [XInv.puts, XPrint.pw]
    go_simp
    exact hK2.out (.agg #[.int .u32 x0, .int .u32 x1, .int .u32 x2, .bool x3]) w' ⟨bq, rfl, (by intros; first | rfl | trivial), hW⟩
   ·refine XInv.yes_tab [(15, 4), (11, 0)] (by kernel_rfl) ?_
    intro Q2 K2 hK2
    simp only [XInv.puts, XPrint.pw]
    go_simp
    exact hK2.out (.bool q) w' ⟨bq, rfl, (by intros; first | rfl | trivial), hW⟩
  ·intro bq w' hW
   refine XInv.end_nil [(16, 5), (15, 4), (14, 3), (13, 2), (12, 1), (11, 0)] (by kernel_rfl) (by kernel_rfl) ?_
   simp only [XInv.puts, XPrint.pw]
   have V := Aside0.mk hW
   clear hW
   cases q
   ·go_wp2
    go_roundg (l.length - (j + 1))
    case measure => omega
    case rel => exact ⟨j + 1, rfl, by go_num, by omega, below_step X.out.1 V.out, blk_below X.out.2.1 V.out, by rw [X.out.2.2.2.1]; intro hm; rcases List.mem_append.1 hm with hm | hm; exact X.out.2.2.1 hm; exact of_decide_eq_false X.out.2.2.2.2.2 (List.mem_singleton.1 hm)⟩
   ·go_wp2
    go_ret
    refine ⟨j, rfl, ⟨fun _ => ?_, fun _ => by omega⟩, below_step X.out.1 V.out⟩
    rw [of_decide_eq_true X.out.2.2.2.2.2]
    exact X.out.2.2.2.2.1
 ·have hlt' : ¬ (j : Int) < (l.length : Int) := by omega
  have htk : l.take j = l := List.take_of_length_le (by omega)
  rw [htk] at hno
  have X := Aside0.mk (And.intro hB hno)
  clear hB hno hk htk
  go_wp2
  go_ret
  exact ⟨-1, rfl, ⟨fun h => by omega, fun h => absurd h X.out.2⟩, X.out.1⟩
theorem contains (l : List Bx) (A : Option Addr) (c : Nat) (y : Bx) (w : World) (hC : Kd.C PLedLib.k100 w A l.length l) (hl : l.length ≤ 1000000) :
  Calls Tryz.prog 71 #[.slice A l.length c, bv y] w fun e w' => e = .returned (.bool (decide (y ∈ l))) ∧ Below w.heap.size w w' := by
 have hu113 := Tryz.underlying100
 have H := Aside0.mk (fun w' (hb : Below w.heap.size w w') => index l A c y w' (Kd.C_below hC hb) hl)
 clear hC hl
 have M : Aside0 (∀ z : Int, (0 ≤ z ↔ y ∈ l) → decide (0 ≤ z) = decide (y ∈ l)) := ⟨fun z hz => decide_eq_decide.2 hz⟩
 obtain ⟨q, hq⟩ : ∃ q, decide (y ∈ l) = q := ⟨_, rfl⟩
 rw [hq] at M ⊢
 clear hq
 obtain ⟨y0, y1, y2, y3⟩ := y
 unfold bv at H ⊢
 dsimp only at H ⊢
 go_enter Tryz.func71, Tryz.ntmps71
 go_wp2_with fail
 refine (H.out _ (below_alloc (Below.refl _ _) _)).mono ?_
 rintro e w1 ⟨z, rfl, hz, hb⟩
 have t1 := M.out z hz
 have X := Aside0.mk hb
 clear hb hz
 dsimp only
 go_wp2
 go_ret
 exact ⟨rfl, below_then (below_alloc (Below.refl _ _) _) (by simp) X.out⟩
theorem take1 (l : List Bx) (A : Option Addr) (c p : Nat) (y : Bx) (w : World) (hk : w.cell? ⟨p, 0, none⟩ = some (.slice A l.length c)) (hC : Kd.C PLedLib.k100 w A l.length l) (hl : l.length ≤ 1000000) :
  Calls Tryz.prog 70 #[bv y, .pointer (some ⟨p, 0, none⟩)] w fun e w' => e = .returned (.bool (decide (y ∈ l))) ∧ Below w.heap.size w w' := by
 have hu113 := Tryz.underlying100
 have H := Aside0.mk (fun w' (hb : Below w.heap.size w w') => contains l A c y w' (Kd.C_below hC hb) hl)
 obtain ⟨n, hn⟩ : ∃ n, l.length = n := ⟨_, rfl⟩
 rw [hn] at hk H
 have c0 : ∀ o, (w.alloc o).cell? ⟨p, 0, none⟩ = some (.slice A n c) := fun o => pw_cell_below (below_alloc (Below.refl _ _) o) hk
 obtain ⟨q, hq⟩ : ∃ q, decide (y ∈ l) = q := ⟨_, rfl⟩
 rw [hq] at H ⊢
 clear hC hl hq hn hk
 obtain ⟨y0, y1, y2, y3⟩ := y
 unfold bv at H ⊢
 dsimp only at H ⊢
 go_enter Tryz.func70, Tryz.ntmps70
 go_wp2_with fail
 refine (H.out _ (below_alloc (Below.refl _ _) _)).mono ?_
 rintro e w1 ⟨rfl, hb⟩
 have X := Aside0.mk hb
 clear hb
 dsimp only
 go_wp2
 go_ret
 exact ⟨rfl, below_then (below_alloc (Below.refl _ _) _) (by simp) X.out⟩
theorem owned1 (x : Bx) (p q : Nat) (o : Int) (s : Bool) (w : World) (h : w.cell? ⟨p, 0, none⟩ = some (.int .u32 o)) (h2 : w.cell? ⟨q, 0, none⟩ = some (.bool s)) : Calls Tryz.prog 98 #[bv x, .pointer (some ⟨p, 0, none⟩), .pointer (some ⟨q, 0, none⟩)] w fun e w' => e = .returned (.bool (x.f2 == o && x.f3 == s)) ∧ Below w.heap.size w w' := by
 have hu113 := Tryz.underlying100
 obtain ⟨x0, x1, x2, x3⟩ := x
 have c0 : ∀ o', (w.alloc o').cell? ⟨p, 0, none⟩ = some (.int .u32 o) := fun o' => pw_cell_below (below_alloc (Below.refl _ _) o') h
 have c1 : ∀ o', (w.alloc o').cell? ⟨q, 0, none⟩ = some (.bool s) := fun o' => pw_cell_below (below_alloc (Below.refl _ _) o') h2
 clear h h2
 unfold bv
 dsimp only
 obtain ⟨t, ht⟩ : ∃ t, (x2 == o) = t := ⟨_, rfl⟩
 rw [ht]
 cases t
 ·go_enter Tryz.func98, Tryz.ntmps98
  go_wp2
  go_ret
  exact ⟨rfl, below_alloc (Below.refl _ _) _⟩
 ·go_enter Tryz.func98, Tryz.ntmps98
  go_wp2
  go_ret
  exact ⟨rfl, below_alloc (Below.refl _ _) _⟩
theorem owned (o : Int) (s : Bool) (w : World) : Calls Tryz.prog 52 #[.int .u32 o, .bool s] w fun e w' => e = .returned (.func (.func 98) #[] #[.pointer (some ⟨w.heap.size, 0, none⟩), .pointer (some ⟨w.heap.size + 1, 0, none⟩)]) ∧ w' = (w.alloc (.cells #[.int .u32 o] 35)).alloc (.cells #[.bool s] 4) := by
 go_enter Tryz.func52, Tryz.ntmps52
 go_wp2
 go_ret
 exact ⟨rfl, rfl⟩
theorem picked2 (gf : FuncId) (cap cap2 : Value) (q : Bx → Bool) (bx : List Bx) (A : Option Addr) (c : Nat) (w : World) (hC : Kd.C PLedLib.k100 w A bx.length bx) (hl : bx.length ≤ 1000000) (hent : ∀ args w, (callFunc gf args).run Tryz.prog w = .ok (.enter gf args) w)
  (hq : ∀ x ∈ bx, ∀ w', Below w.heap.size w w' → Calls Tryz.prog gf #[bv x, cap, cap2] w' fun e w'' => e = .returned (.bool (q x)) ∧ Below w'.heap.size w' w'') :
  Calls Tryz.prog 51 #[.slice A bx.length c, .func (.func gf) #[] #[cap, cap2]] w fun e w' => ∃ v1 v2, e = .returned (.tuple #[v1, v2]) ∧ RB w' w.heap.size v1 (bx.filter q) ∧ RB w' w.heap.size v2 (bx.filter fun x => !q x) ∧ (∀ k, v1.ownBlock = some k → v2.ownBlock ≠ some k) ∧ Below w.heap.size w w' := by
 have hu113 := Tryz.underlying100
 have H := Aside0.mk (And.intro hC (And.intro hl hq))
 have hl6 : (bx.length : Int) ≤ 1000000 := by omega
 clear hC hl hq
 go_enter Tryz.func51, Tryz.ntmps51
 go_wp2_with fail
 go_loopg [4, 5, 10] bx.length (fun kk v4 v5 v10 wr => ∃ j : Nat, kk = bx.length - j ∧ v10 = .int .i64 j ∧ j ≤ bx.length ∧ Below w.heap.size w wr ∧ RB wr w.heap.size v4 ((bx.take j).filter q) ∧ RB wr w.heap.size v5 ((bx.take j).filter fun x => !q x) ∧ (∀ k, v4.ownBlock = some k → v5.ownBlock ≠ some k))
 case atStart => exact ⟨0, rfl, rfl, Nat.zero_le _, Below.refl _ _, by rw [List.take_zero]; exact Kd.R_nil _ _ _ _ _, by rw [List.take_zero]; exact Kd.R_nil _ _ _ _ _, fun k hk => by simp [Value.ownBlock] at hk⟩
 obtain ⟨j, rfl, rfl, hj, hB, hR4, hR5, hne⟩ := hrel
 by_cases hlt : j < bx.length
 ·obtain ⟨ad, rfl, d0, d1, d2, d3⟩ := PLedLib.at_T100 (Kd.C_below H.out.1 hB) (j : Int) (by omega) (by omega)
  have ej : (j : Int).toNat = j := by simp
  have er : PLedLib.rd_T100 bx (j : Int) = bx[j] := by unfold PLedLib.rd_T100; rw [ej, List.getD_eq_getElem?_getD, List.getElem?_eq_getElem hlt]; rfl
  rw [er, ej] at d0 d1 d2 d3
  have hmem : bx[j] ∈ bx := List.getElem_mem hlt
  have htk : bx.take (j + 1) = bx.take j ++ [bx[j]] := by rw [List.take_add_one, List.getElem?_eq_getElem hlt]; rfl
  obtain ⟨x, hx⟩ : ∃ x, bx[j] = x := ⟨_, rfl⟩
  rw [hx] at d0 d1 d2 d3 hmem htk
  have f1 : (bx.take (j + 1)).filter q = (bx.take j).filter q ++ (if q x = true then [x] else []) := by rw [htk, List.filter_append]; congr 1; cases hqx : q x <;> simp [hqx]
  have f2 : (bx.take (j + 1)).filter (fun x => !q x) = (bx.take j).filter (fun x => !q x) ++ (if q x = true then [] else [x]) := by rw [htk, List.filter_append]; congr 1; cases hqx : q x <;> simp [hqx]
  have hcall := H.out.2.2 x hmem
  have hlt' : (j : Int) < (bx.length : Int) := by omega
  have l1 : ((bx.take j).filter q).length ≤ j := Nat.le_trans (List.length_filter_le _ _) (by rw [List.length_take]; omega)
  have l2 : ((bx.take j).filter fun x => !q x).length ≤ j := Nat.le_trans (List.length_filter_le _ _) (by rw [List.length_take]; omega)
  have Y := Aside0.mk (And.intro hB (And.intro hR4 (And.intro hR5 (And.intro hne (And.intro f1 (And.intro f2 (And.intro hcall (And.intro l1 l2))))))))
  obtain ⟨x0, x1, x2, x3⟩ := x
  dsimp only at d0 d1 d2 d3
  clear hB hR4 hR5 hne f1 f2 hcall l1 l2 hx hmem htk er
  go_wp2_with fail
  refine (Y.out.2.2.2.2.2.2.1 _ (below_step Y.out.1 (below_alloc (Below.refl _ _) _))).mono ?_
  rintro e wz ⟨rfl, hb⟩
  have X := Aside0.mk hb
  have kz := blk_below (blk_new wr (.cells #[.int .u32 x0, .int .u32 x1, .int .u32 x2, .bool x3] 100)) hb
  have z0 := (blk_cell kz 0).trans rfl
  have z1 := (blk_cell kz 1).trans rfl
  have z2 := (blk_cell kz 2).trans rfl
  have z3 := (blk_cell kz 3).trans rfl
  clear hb kz d0 d1 d2 d3
  dsimp only
  cases hqx : q ⟨x0, x1, x2, x3⟩
  ·go_wp2_with (refine Kd.R_append PLedLib.k100 (w0 := w) w.heap.size (by rfl) (.tmp 21) (.tmp 23) 34 100 (.agg #[.int .u32 0, .int .u32 0, .int .u32 0, .bool false]) 16 rfl Tryz.underlying34 PLedLib.info100 rfl (by decide) (by omega) u5 ((bx.take j).filter fun x => !q x) ⟨x0, x1, x2, x3⟩ [.int .u32 x0, .int .u32 x1, .int .u32 x2, .bool x3] (fun _ => True) (fun _ => False) rfl rfl (PLedLib.k100_mkM _ _ _ _) (fun _ h => h.elim) (fun _ _ => trivial) (Kd.R_mono (Kd.R_below Y.out.2.2.1 (below_step (below_alloc (Below.refl _ _) _) X.out)) (fun _ _ => trivial)) (below_step (below_step Y.out.1 (below_alloc (Below.refl _ _) _)) X.out) (below_step (below_step Y.out.1 (below_alloc (Below.refl _ _) _)) X.out).size ?hl ?_)
   case hl => have h := Y.out.2.2.2.2.2.2.2.2; have h2 := H.out.2.1; exact Nat.le_trans (Nat.mul_le_mul_right _ (Nat.add_le_add_right h 1)) (by omega)
   intro v1 w2 hR2 hB2 hg2 hat2
   have hbx : Below wr.heap.size wr wz := below_step (below_alloc (Below.refl _ _) _) X.out
   have ho : RB w2 w.heap.size u4 _ := Kd.R_grown (Kd.R_below Y.out.2.1 hbx) hg2 (fun k hk he => Y.out.2.2.2.1 k hk he.symm)
   have hm : RB w2 w.heap.size v1 _ := Kd.R_mono (Kd.R_tight (by rfl) hR2) (fun k hk => hk.symm)
   have hn : ∀ k, u4.ownBlock = some k → v1.ownBlock ≠ some k := by
    intro k hk hk2
    rcases hat2 with h3 | ⟨b3, h3, h4⟩
    ·exact Y.out.2.2.2.1 k hk (h3.symm.trans hk2)
    ·have h5 := Kd.R_lt Y.out.2.1 k hk
     have h6 : some b3 = some k := h3.symm.trans hk2
     have h7 : b3 = k := Option.some.inj h6
     have := hbx.size
     omega
   have Z := Aside0.mk (And.intro hm (And.intro ho (And.intro hn hB2)))
   clear hR2 hB2 hg2 hat2 hbx ho hm hn
   go_wp2
   go_roundg (bx.length - (j + 1))
   case measure => omega
   case rel => exact ⟨j + 1, rfl, by go_num, by omega, Z.out.2.2.2, by rw [Y.out.2.2.2.2.1, hqx, if_neg (by decide), List.append_nil]; exact Z.out.2.1, by rw [Y.out.2.2.2.2.2.1, hqx, if_neg (by decide)]; exact Z.out.1, Z.out.2.2.1⟩
  ·go_wp2_with (refine Kd.R_append PLedLib.k100 (w0 := w) w.heap.size (by rfl) (.tmp 17) (.tmp 19) 34 100 (.agg #[.int .u32 0, .int .u32 0, .int .u32 0, .bool false]) 16 rfl Tryz.underlying34 PLedLib.info100 rfl (by decide) (by omega) u4 ((bx.take j).filter q) ⟨x0, x1, x2, x3⟩ [.int .u32 x0, .int .u32 x1, .int .u32 x2, .bool x3] (fun _ => True) (fun _ => False) rfl rfl (PLedLib.k100_mkM _ _ _ _) (fun _ h => h.elim) (fun _ _ => trivial) (Kd.R_mono (Kd.R_below Y.out.2.1 (below_step (below_alloc (Below.refl _ _) _) X.out)) (fun _ _ => trivial)) (below_step (below_step Y.out.1 (below_alloc (Below.refl _ _) _)) X.out) (below_step (below_step Y.out.1 (below_alloc (Below.refl _ _) _)) X.out).size ?hl ?_)
   case hl => have h := Y.out.2.2.2.2.2.2.2.1; have h2 := H.out.2.1; exact Nat.le_trans (Nat.mul_le_mul_right _ (Nat.add_le_add_right h 1)) (by omega)
   intro v1 w2 hR2 hB2 hg2 hat2
   have hbx : Below wr.heap.size wr wz := below_step (below_alloc (Below.refl _ _) _) X.out
   have ho : RB w2 w.heap.size u5 _ := Kd.R_grown (Kd.R_below Y.out.2.2.1 hbx) hg2 (fun k hk he => Y.out.2.2.2.1 k he.symm hk)
   have hm : RB w2 w.heap.size v1 _ := Kd.R_mono (Kd.R_tight (by rfl) hR2) (fun k hk => hk.symm)
   have hn : ∀ k, v1.ownBlock = some k → u5.ownBlock ≠ some k := by
    intro k hk hk2
    rcases hat2 with h3 | ⟨b3, h3, h4⟩
    ·exact Y.out.2.2.2.1 k (h3.symm.trans hk) hk2
    ·have h5 := Kd.R_lt Y.out.2.2.1 k hk2
     have h6 : some b3 = some k := h3.symm.trans hk
     have h7 : b3 = k := Option.some.inj h6
     have := hbx.size
     omega
   have Z := Aside0.mk (And.intro hm (And.intro ho (And.intro hn hB2)))
   clear hR2 hB2 hg2 hat2 hbx ho hm hn
   go_wp2
   go_roundg (bx.length - (j + 1))
   case measure => omega
   case rel => exact ⟨j + 1, rfl, by go_num, by omega, Z.out.2.2.2, by rw [Y.out.2.2.2.2.1, hqx, if_pos rfl]; exact Z.out.1, by rw [Y.out.2.2.2.2.2.1, hqx, if_pos rfl, List.append_nil]; exact Z.out.2.1, Z.out.2.2.1⟩
 ·have hlt' : ¬ (j : Int) < (bx.length : Int) := by omega
  have htk : bx.take j = bx := List.take_of_length_le (by omega)
  rw [htk] at hR4 hR5
  have Y := Aside0.mk (And.intro hB (And.intro hR4 (And.intro hR5 hne)))
  clear hB hR4 hR5 hne htk
  go_wp2
  go_ret2
  exact ⟨_, _, rfl, Y.out.2.1, Y.out.2.2.1, Y.out.2.2.2, Y.out.1⟩
theorem of_at {base p b g : Nat} {u0 u1 : Int} {ns : List Nd} {v : Value} {bx : List Bx} {last : Int} (o : Int) (s : Bool) (w : World) (h : LedAt w base p b g u0 u1 ns v bx last) (hl : bx.length ≤ 1000000) :
  Calls Tryz.prog 17 #[.pointer (some ⟨p, 0, none⟩), .int .u32 o, .bool s] w fun e w' => ∃ v', e = .returned v' ∧ RB w' w.heap.size v' (ownN bx o s) ∧ Below w.heap.size w w' := by
 have BX := Aside0.mk (boxes w h hl)
 have L := Aside0.mk hl
 clear h hl
 go_enter Tryz.func17, Tryz.ntmps17
 go_wp2_with fail
 refine BX.out.mono ?_
 rintro e w1 ⟨v1, rfl, hR1, hb1⟩
 obtain ⟨A1, c1, rfl⟩ := Kd.R_slice hR1
 have X := Aside0.mk (And.intro hR1 hb1)
 obtain ⟨n1, hn1⟩ : ∃ n1, bx.length = n1 := ⟨_, rfl⟩
 have N := Aside0.mk hn1
 rw [hn1]
 clear hR1 hb1 hn1
 dsimp only
 go_wp2_with fail
 refine (owned o s w1).mono ?_
 rintro e w2 ⟨rfl, hw2⟩
 have hb2 : Below w1.heap.size w1 w2 := by rw [hw2]; exact below_alloc (below_alloc (Below.refl _ _) _) _
 have ka : w2.heap[w1.heap.size]? = some (.cells #[.int .u32 o] 35 (0, 0)) := by rw [hw2]; exact blk_alloc (blk_new w1 _) _
 have kb : w2.heap[w1.heap.size + 1]? = some (.cells #[.bool s] 4 (0, 0)) := by
  have := blk_new (w1.alloc (.cells #[.int .u32 o] 35)) (.cells #[.bool s] 4)
  rw [World.size_alloc] at this
  rw [hw2]; exact this
 have PK := Aside0.mk (picked2 98 (.pointer (some ⟨w1.heap.size, 0, none⟩)) (.pointer (some ⟨w1.heap.size + 1, 0, none⟩)) (fun x => x.f2 == o && x.f3 == s) bx A1 c1 w2 (Kd.C_below (Kd.R_reads' X.out.1).2.2 hb2) L.out (fun _ _ => rfl) (fun y hy wy hwy => owned1 y w1.heap.size (w1.heap.size + 1) o s wy ((blk_cell (blk_below ka hwy) 0).trans rfl) ((blk_cell (blk_below kb hwy) 0).trans rfl)))
 rw [N.out] at PK
 have Z := Aside0.mk hb2
 clear hb2 ka kb hw2
 dsimp only
 go_wp2_with fail
 refine PK.out.mono ?_
 rintro e w3 ⟨va, vb, rfl, hRa, hRb, hd, hb3⟩
 have Y := Aside0.mk (And.intro hRa hb3)
 obtain ⟨Aa, ca, e1⟩ := Kd.R_slice hRa
 obtain ⟨Ab, cb, e2⟩ := Kd.R_slice hRb
 obtain ⟨m1, hm1⟩ : ∃ m1, (bx.filter fun x => x.f2 == o && x.f3 == s).length = m1 := ⟨_, rfl⟩
 obtain ⟨m2, hm2⟩ : ∃ m2, (bx.filter fun x => !(x.f2 == o && x.f3 == s)).length = m2 := ⟨_, rfl⟩
 rw [hm1] at e1
 rw [hm2] at e2
 subst e1
 subst e2
 clear hRa hRb hd hb3 hm1 hm2
 dsimp only
 go_wp2
 go_ret
 have hbb := below_step X.out.2 Z.out
 exact ⟨_, rfl, Kd.R_lower Y.out.1 hbb.size, below_step hbb Y.out.2⟩
theorem lgive_bad {base p b g : Nat} {u0 u1 : Int} {ns : List Nd} {v : Value} {bx : List Bx} {last : Int} (o n : Int) (s : Bool) (w : World) (h : LedAt w base p b g u0 u1 ns v bx last) (hm : mayc o n = 2) :
  Calls Tryz.prog 28 #[.pointer (some ⟨p, 0, none⟩), .int .u32 o, .bool s, .int .i64 n] w fun e w' => e = .returned (.tuple #[.slice none 0 0, .int .i64 2]) ∧ w' = w := by
 have MY := may_at p b o n w h.cells.1
 rw [hm] at MY
 have MY := Aside0.mk MY
 clear h hm
 go_enter Tryz.func28, Tryz.ntmps28
 go_wp2_with fail
 refine MY.out.mono ?_
 rintro e wz ⟨rfl, hz⟩
 obtain rfl := hz.symm
 clear hz MY
 dsimp only
 go_wp2
 go_ret2
 exact ⟨rfl, rfl⟩
theorem lgive_full {base p b g : Nat} {u0 u1 : Int} {ns : List Nd} {v : Value} {bx : List Bx} {last : Int} (o n : Int) (s : Bool) (w : World) (h : LedAt w base p b g u0 u1 ns v bx last) (hG : LG u0 u1 ns bx last) (hm : mayc o n = 0) (hf : freeN u0 u1 ns bx < n) :
  Calls Tryz.prog 28 #[.pointer (some ⟨p, 0, none⟩), .int .u32 o, .bool s, .int .i64 n] w fun e w' => e = .returned (.tuple #[.slice none 0 0, .int .i64 6]) ∧ Below w.heap.size w w' := by
 have MY := may_at p b o n w h.cells.1
 rw [hm] at MY
 have MY := Aside0.mk MY
 have FR := free w h hG.nodes (by have := hG.len; omega)
 obtain ⟨fr, hfr⟩ : ∃ fr, freeN u0 u1 ns bx = fr := ⟨_, rfl⟩
 rw [hfr] at FR hf
 have FR := Aside0.mk FR
 have t1 : decide (fr < n) = true := decide_eq_true hf
 clear h hm hG hfr hf
 go_enter Tryz.func28, Tryz.ntmps28
 go_wp2_with fail
 refine MY.out.mono ?_
 rintro e wz ⟨rfl, hz⟩
 obtain rfl := hz.symm
 clear hz MY
 dsimp only
 go_wp2_with fail
 refine FR.out.mono ?_
 rintro e w1 ⟨rfl, hb1⟩
 have X := Aside0.mk hb1
 clear hb1 FR
 dsimp only
 go_wp2
 go_ret2
 exact ⟨rfl, X.out⟩
theorem lgive {base p b g : Nat} {u0 u1 : Int} {ns : List Nd} {v : Value} {bx : List Bx} {last : Int} (o n : Int) (s : Bool) (w : World) (h : LedAt w base p b g u0 u1 ns v bx last) (hG : LG u0 u1 ns bx last) (hla : last ≤ 4000000000) :
  Calls Tryz.prog 28 #[.pointer (some ⟨p, 0, none⟩), .int .u32 o, .bool s, .int .i64 n] w fun e w' => ∃ vo v', e = .returned (.tuple #[vo, .int .i64 (gcode u0 u1 ns bx o n)]) ∧ LedAt w' base p b g u0 u1 ns v' (bx ++ given u0 u1 ns bx last o s n) (last + (given u0 u1 ns bx last o s n).length) ∧ RB w' w.heap.size vo (given u0 u1 ns bx last o s n) ∧ (∀ k, vo.ownBlock = some k → v'.ownBlock ≠ some k) ∧ But (fun k => k = p ∨ v.ownBlock = some k) w w' ∧ (∀ k, v'.ownBlock = some k → v.ownBlock = some k ∨ w.heap.size ≤ k) := by
 by_cases hm : mayc o n = 2
 ·have hc : gcode u0 u1 ns bx o n = 2 := if_pos hm
  have hg : given u0 u1 ns bx last o s n = [] := if_neg (by rw [hc]; decide)
  rw [hc, hg, List.append_nil]
  refine (lgive_bad o n s w h hm).mono ?_
  rintro e w' ⟨rfl, rfl⟩
  exact ⟨_, v, rfl, by simpa using h, Kd.R_nil _ _ _ _ _, fun k hk => by simp [Value.ownBlock] at hk, But.refl _ _, fun k hk => .inl hk⟩
 ·have hm0 := (mayc_cases o n).resolve_left hm
  by_cases hf : freeN u0 u1 ns bx < n
  ·have hc : gcode u0 u1 ns bx o n = 6 := by unfold gcode; rw [if_neg hm, if_pos hf]
   have hg : given u0 u1 ns bx last o s n = [] := if_neg (by rw [hc]; decide)
   rw [hc, hg, List.append_nil]
   refine (lgive_full o n s w h hG hm0 hf).mono ?_
   rintro e w' ⟨rfl, hb⟩
   exact ⟨_, v, rfl, by simpa using h.below hb, Kd.R_nil _ _ _ _ _, fun k hk => by simp [Value.ownBlock] at hk, But.of_below hb, fun k hk => .inl hk⟩
  ·have hc : gcode u0 u1 ns bx o n = 0 := by unfold gcode; rw [if_neg hm, if_neg hf]
   have hg : given u0 u1 ns bx last o s n = grow u0 u1 ns bx last o s n.toNat := if_pos hc
   rw [hc, hg, grow_len]
   exact lgive_ok o n s w h hG hla hm hf
theorem ltake_bad {base p b g : Nat} {u0 u1 : Int} {ns : List Nd} {v : Value} {bx : List Bx} {last : Int} (o n : Int) (s : Bool) (w : World) (h : LedAt w base p b g u0 u1 ns v bx last) (hm : mayc o n = 2) :
  Calls Tryz.prog 30 #[.pointer (some ⟨p, 0, none⟩), .int .u32 o, .bool s, .int .i64 n] w fun e w' => e = .returned (.tuple #[.slice none 0 0, .int .i64 2]) ∧ w' = w := by
 have MY := may_at p b o n w h.cells.1
 rw [hm] at MY
 have MY := Aside0.mk MY
 clear h hm
 go_enter Tryz.func30, Tryz.ntmps30
 go_wp2_with fail
 refine MY.out.mono ?_
 rintro e wz ⟨rfl, hz⟩
 obtain rfl := hz.symm
 clear hz MY
 dsimp only
 go_wp2
 go_ret2
 exact ⟨rfl, rfl⟩
theorem ltake_few {base p b g : Nat} {u0 u1 : Int} {ns : List Nd} {v : Value} {bx : List Bx} {last : Int} (o n : Int) (s : Bool) (w : World) (h : LedAt w base p b g u0 u1 ns v bx last) (hl : bx.length ≤ 1000000) (hm : mayc o n = 0) (hf : ((ownN bx o s).length : Int) < n) :
  Calls Tryz.prog 30 #[.pointer (some ⟨p, 0, none⟩), .int .u32 o, .bool s, .int .i64 n] w fun e w' => e = .returned (.tuple #[.slice none 0 0, .int .i64 7]) ∧ Below w.heap.size w w' := by
 have MY := may_at p b o n w h.cells.1
 rw [hm] at MY
 have MY := Aside0.mk MY
 have OF := Aside0.mk (of_at o s w h hl)
 have hol : (ownN bx o s).length ≤ bx.length := List.length_filter_le _ _
 obtain ⟨m, hmm⟩ : ∃ m, (ownN bx o s).length = m := ⟨_, rfl⟩
 rw [hmm] at hf hol
 have t1 : decide ((m : Int) < n) = true := decide_eq_true hf
 have M := Aside0.mk hmm
 clear h hm hmm
 go_enter Tryz.func30, Tryz.ntmps30
 go_wp2_with fail
 refine MY.out.mono ?_
 rintro e wz ⟨rfl, hz⟩
 obtain rfl := hz.symm
 clear hz MY
 dsimp only
 go_wp2_with fail
 refine OF.out.mono ?_
 rintro e w1 ⟨v1, rfl, hR, hb1⟩
 obtain ⟨Ao, co, rfl⟩ := Kd.R_slice hR
 rw [M.out]
 have X := Aside0.mk hb1
 clear hb1 hR OF
 dsimp only
 go_wp2
 go_ret2
 exact ⟨rfl, X.out⟩
theorem ltake_ok {base p b g : Nat} {u0 u1 : Int} {ns : List Nd} {v : Value} {bx : List Bx} {last : Int} (o : Int) (N : Nat) (s : Bool) (w : World) (h : LedAt w base p b g u0 u1 ns v bx last) (hl : bx.length ≤ 1000000) (hm : mayc o N = 0) (hf : N ≤ (ownN bx o s).length) :
  Calls Tryz.prog 30 #[.pointer (some ⟨p, 0, none⟩), .int .u32 o, .bool s, .int .i64 N] w fun e w' => ∃ vo v', e = .returned (.tuple #[vo, .int .i64 0]) ∧ LedAt w' base p b g u0 u1 ns v' (leftN bx (goneN bx o s N)) last ∧ RB w' w.heap.size vo (goneN bx o s N) ∧ (∀ k, vo.ownBlock = some k → v'.ownBlock ≠ some k) ∧ But (fun k => k = p) w w' ∧ (∀ k, v'.ownBlock = some k → v.ownBlock = some k ∨ w.heap.size ≤ k) := by
 have MY := may_at p b o N w h.cells.1
 rw [hm] at MY
 have MY := Aside0.mk MY
 have OF := Aside0.mk (of_at o s w h hl)
 obtain ⟨A, c, rfl⟩ := Kd.R_slice h.row
 have hol : (ownN bx o s).length ≤ bx.length := List.length_filter_le _ _
 have hgl : (goneN bx o s N).length = N := by unfold goneN; rw [List.length_drop]; omega
 obtain ⟨m, hmm⟩ : ∃ m, (ownN bx o s).length = m := ⟨_, rfl⟩
 rw [hmm] at hf hol
 have t1 : decide ((m : Int) < (N : Int)) = false := decide_eq_false (by omega)
 have t2 : ¬ (m : Int) < (N : Int) := by omega
 have t3 : decide (m < N) = false := decide_eq_false (by omega)
 obtain ⟨d, hd⟩ : ∃ d, m - N = d := ⟨_, rfl⟩
 have hw : IntKind.i64.wrap ((m : Int) - (N : Int)) = (d : Int) := by rw [IntKind.wrap_i64]; omega
 obtain ⟨bl, hbl⟩ : ∃ bl, bx.length = bl := ⟨_, rfl⟩
 have M := Aside0.mk (And.intro hmm (And.intro hd (And.intro hgl hbl)))
 have H := Aside0.mk (And.intro h hl)
 rw [hbl] at hol
 have hbl6 : (bl : Int) ≤ 1000000 := by omega
 have hdm : d + N = m := by omega
 clear h hm hmm hd hgl
 go_enter Tryz.func30, Tryz.ntmps30
 go_wp2_with fail
 refine MY.out.mono ?_
 rintro e wz ⟨rfl, hz⟩
 obtain rfl := hz.symm
 clear hz MY
 dsimp only
 go_wp2_with fail
 refine OF.out.mono ?_
 rintro e w1 ⟨v1, rfl, hR, hb1⟩
 obtain ⟨Ao, co, rfl⟩ := Kd.R_slice hR
 obtain ⟨_, hmc, hC1⟩ := Kd.R_reads' hR
 have eg : (ownN bx o s).drop d = goneN bx o s N := by unfold goneN; rw [M.out.1, M.out.2.1]
 rw [M.out.1] at hmc hR ⊢
 have OR := Aside0.mk hR
 obtain ⟨i0, hi0, _, hsz, _⟩ := info_parts PLedLib.info100
 have hcut := cut_from (P := Tryz.prog) 34 100 .i64 Tryz.underlying34 hi0 4 hsz Ao m co (d : Int) (by omega) (by omega)
 simp only [Int.toNat_natCast] at hcut
 obtain ⟨A2, hA2⟩ : ∃ A2, (if co = d then Ao else Option.map (fun x => x.add (d * 4)) Ao) = A2 := ⟨_, rfl⟩
 have DD : Aside0 (∀ W', RB W' w.heap.size (.slice Ao m co) (ownN bx o s) → Kd.C PLedLib.k100 W' A2 N (goneN bx o s N)) := ⟨fun W' hr => by
  have hD := Kd.C_drop (m := d) (c := co) (Kd.R_reads' hr).2.2 (by rw [M.out.1]; omega) (by rw [M.out.1]; exact hmc)
  rw [eg, M.out.2.2.1] at hD
  rw [← hA2]
  exact hD⟩
 have hD := DD.out w1 hR
 rw [hA2] at hcut
 have emN : m - d = N := by omega
 rw [emN] at hcut
 obtain ⟨c2, hc2⟩ : ∃ c2, co - d = c2 := ⟨_, rfl⟩
 rw [hc2] at hcut
 have L1 := H.out.1.below hb1
 obtain ⟨W2, hW2⟩ : ∃ W2, w1.alloc (.cells #[.slice A2 N c2] 34) = W2 := ⟨_, rfl⟩
 have hB2 : Below w1.heap.size w1 W2 := by rw [← hW2]; exact below_alloc (Below.refl _ _) _
 have k2 : W2.heap[w1.heap.size]? = some (.cells #[.slice A2 N c2] 34 (0, 0)) := by rw [← hW2]; exact blk_new w1 _
 have L2 := L1.below hB2
 have D2 := Kd.C_below hD hB2
 have hgl := M.out.2.2.1
 have PK := picked 70 (.pointer (some ⟨w1.heap.size, 0, none⟩)) (fun x => decide (x ∈ goneN bx o s N)) bx A c W2 (Kd.R_reads' L2.row).2.2 H.out.2 (fun _ _ => rfl) (fun y hy wy hwy => take1 (goneN bx o s N) A2 c2 w1.heap.size y wy (by rw [hgl]; exact (blk_cell (blk_below k2 hwy) 0).trans rfl) (by rw [hgl]; exact Kd.C_below D2 hwy) (by rw [hgl]; omega))
 rw [hbl] at PK
 have PK := Aside0.mk PK
 have X := Aside0.mk (And.intro hb1 (And.intro hB2 (And.intro k2 (And.intro L2 (And.intro D2 (And.intro hW2 hgl))))))
 have c1 : ∀ ob, (w1.alloc ob).cell? ⟨p, 1, none⟩ = some (.slice A bl c) := fun ob => by
  have := pw_cell_below (below_alloc (Below.refl _ _) ob) (H.out.1.below hb1).cells.2.1
  rwa [hbl] at this
 clear hb1 hR OF hD hi0 hsz hA2 L1 L2 D2 hc2 hmc hC1 eg hB2 k2 hW2 hgl
 dsimp only
 go_wp2_with fail
 rw [X.out.2.2.2.2.2.1]
 refine PK.out.mono ?_
 rintro e w3 ⟨va, vb, rfl, hRa, hRb, hd, hb3⟩
 have hR3 : RB w3 W2.heap.size vb (leftN bx (goneN bx o s N)) := hRb
 obtain ⟨Aa, ca, e1⟩ := Kd.R_slice hRa
 obtain ⟨Ab, cb, e2⟩ := Kd.R_slice hRb
 obtain ⟨m1, hm1⟩ : ∃ m1, (bx.filter fun x => decide (x ∈ goneN bx o s N)).length = m1 := ⟨_, rfl⟩
 obtain ⟨m2, hm2⟩ : ∃ m2, (bx.filter fun x => !decide (x ∈ goneN bx o s N)).length = m2 := ⟨_, rfl⟩
 rw [hm1] at e1
 rw [hm2] at e2
 subst e1
 subst e2
 have kp := blk_below X.out.2.2.2.1.blk hb3
 have f1 := blk_frozen kp 1
 have d1 := (blk_cell kp 1).trans rfl
 have hlt2 := X.out.2.2.2.1.lt
 have hne := X.out.2.2.2.1.ne
 have hpw := H.out.1.lt
 have hs1 := X.out.1.size
 have hs2 := X.out.2.1.size
 have hs3 := hb3.size
 have hlow : ∀ k, (Value.slice Ab m2 cb).ownBlock = some k → W2.heap.size ≤ k := fun k hk => Kd.R_base hR3 k hk
 have L4 : LedAt (w3.setCell ⟨p, 1, none⟩ (.slice Ab m2 cb)) base p b g u0 u1 ns (.slice Ab m2 cb) (leftN bx (goneN bx o s N)) last := (X.out.2.2.2.1.below hb3).store hR3 (by omega) (fun k hk => by have := hlow k hk; omega)
 have hbp : But (fun k => k = p) w3 (w3.setCell ⟨p, 1, none⟩ (.slice Ab m2 cb)) := (But.refl (fun k => k = p) w3).setCell (b := p) rfl 1 _
 have K4 := hbp.heap (blk_below X.out.2.2.1 hb3) (by omega)
 have hb13 := below_step (below_step X.out.1 X.out.2.1) hb3
 have B4 : But (fun k => k = p) w (w3.setCell ⟨p, 1, none⟩ (.slice Ab m2 cb)) := (But.of_below hb13).trans hbp
 have g0 := (blk_cell K4 0).trans rfl
 have D4 : Kd.C PLedLib.k100 (w3.setCell ⟨p, 1, none⟩ (.slice Ab m2 cb)) A2 (goneN bx o s N).length (goneN bx o s N) := by
  rw [X.out.2.2.2.2.2.2]
  exact DD.out _ (Kd.R_step (Kd.R_below (Kd.R_below OR.out X.out.2.1) hb3) (fun k hk hlt => hbp.block k hlt (by have := Kd.R_base OR.out k hk; omega)))
 have CL := clone (goneN bx o s N) A2 c2 _ D4 (by rw [X.out.2.2.2.2.2.2]; omega)
 rw [X.out.2.2.2.2.2.2] at CL
 have CL := Aside0.mk CL
 have Z := Aside0.mk (And.intro L4 (And.intro B4 hlow))
 clear hRa hRb hd hb3 hm1 hm2 hR3 L4 hbp K4 hb13 B4 D4 hlow
 dsimp only
 go_wp2_with fail
 refine CL.out.mono ?_
 rintro e w5 ⟨vo, rfl, hRo, hb5⟩
 have V := Aside0.mk (And.intro hRo hb5)
 clear hRo hb5 g0 d1
 dsimp only
 go_wp2
 go_ret2
 have hsz4 := Z.out.2.1.size
 refine ⟨_, _, rfl, Z.out.1.below V.out.2, Kd.R_lower V.out.1 hsz4, fun k hk hk2 => ?_, Z.out.2.1.trans (But.of_below V.out.2), fun k hk => .inr (by have := Z.out.2.2 k hk; omega)⟩
 have h1 := Kd.R_base V.out.1 k hk
 have h2 := Z.out.1.lt.2.2.2 k hk2
 omega
theorem ltake {base p b g : Nat} {u0 u1 : Int} {ns : List Nd} {v : Value} {bx : List Bx} {last : Int} (o n : Int) (s : Bool) (w : World) (h : LedAt w base p b g u0 u1 ns v bx last) (hl : bx.length ≤ 1000000) :
  Calls Tryz.prog 30 #[.pointer (some ⟨p, 0, none⟩), .int .u32 o, .bool s, .int .i64 n] w fun e w' => ∃ vo v', e = .returned (.tuple #[vo, .int .i64 (tcode bx o s n)]) ∧ LedAt w' base p b g u0 u1 ns v' (leftN bx (taken bx o s n)) last ∧ RB w' w.heap.size vo (taken bx o s n) ∧ (∀ k, vo.ownBlock = some k → v'.ownBlock ≠ some k) ∧ But (fun k => k = p) w w' ∧ (∀ k, v'.ownBlock = some k → v.ownBlock = some k ∨ w.heap.size ≤ k) := by
 by_cases hm : mayc o n = 2
 ·have hc : tcode bx o s n = 2 := if_pos hm
  have hg : taken bx o s n = [] := if_neg (by rw [hc]; decide)
  rw [hc, hg, left_nil]
  refine (ltake_bad o n s w h hm).mono ?_
  rintro e w' ⟨rfl, rfl⟩
  exact ⟨_, v, rfl, h, Kd.R_nil _ _ _ _ _, fun k hk => by simp [Value.ownBlock] at hk, But.refl _ _, fun k hk => .inl hk⟩
 ·have hm0 := (mayc_cases o n).resolve_left hm
  by_cases hf : ((ownN bx o s).length : Int) < n
  ·have hc : tcode bx o s n = 7 := by unfold tcode; rw [if_neg hm, if_pos hf]
   have hg : taken bx o s n = [] := if_neg (by rw [hc]; decide)
   rw [hc, hg, left_nil]
   refine (ltake_few o n s w h hl hm0 hf).mono ?_
   rintro e w' ⟨rfl, hb⟩
   exact ⟨_, v, rfl, h.below hb, Kd.R_nil _ _ _ _ _, fun k hk => by simp [Value.ownBlock] at hk, But.of_below hb, fun k hk => .inl hk⟩
  ·have hc : tcode bx o s n = 0 := by unfold tcode; rw [if_neg hm, if_neg hf]
   have hg : taken bx o s n = goneN bx o s n.toNat := if_pos hc
   have hz := mayc_zero hm
   obtain ⟨N, hN⟩ : ∃ N : Nat, n = N := ⟨n.toNat, by omega⟩
   subst hN
   have eN : ((N : Int)).toNat = N := by simp
   rw [hc, hg, eN]
   exact ltake_ok o N s w h hl hm0 (by omega)
structure HS (w0 w : World) (p b g : Nat) (u0 u1 : Int) (ns : List Nd) (v : Value) (bx : List Bx) (last : Int) (rows : List (Value × List Bx)) : Prop where
 below : Below w0.heap.size w0 w
 led : LedAt w w0.heap.size p b g u0 u1 ns v bx last
 good : LG u0 u1 ns bx last
 rows : ∀ r ∈ rows, RB w w0.heap.size r.1 r.2 ∧ ∀ k, r.1.ownBlock = some k → v.ownBlock ≠ some k ∧ k ≠ p ∧ k ≠ b ∧ k ≠ g
section
variable {w0 w w' : World} {p b g : Nat} {u0 u1 : Int} {ns ns' : List Nd} {v v' : Value} {bx bx' : List Bx} {last last' : Int} {rows rows' : List (Value × List Bx)}
theorem HS.same (h : HS w0 w p b g u0 u1 ns v bx last rows) (hb : Below w.heap.size w w') : HS w0 w' p b g u0 u1 ns v bx last rows :=
 ⟨below_step h.below hb, h.led.below hb, h.good, fun r hr => ⟨Kd.R_below (h.rows r hr).1 hb, (h.rows r hr).2⟩⟩
theorem HS.next (h : HS w0 w p b g u0 u1 ns v bx last rows) (hG : LG u0 u1 ns' bx' last') (hL : LedAt w' w0.heap.size p b g u0 u1 ns' v' bx' last') (hb : But (fun k => (k = p ∨ k = g) ∨ v.ownBlock = some k) w w') (ho : ∀ k, v'.ownBlock = some k → v.ownBlock = some k ∨ w.heap.size ≤ k) : HS w0 w' p b g u0 u1 ns' v' bx' last' rows := by
 refine ⟨But.below h.below (Nat.le_refl _) hb (fun k hk => ?_), hL, hG, fun r hr => ?_⟩
 ·rcases hk with (rfl | rfl) | hk
  ·exact h.led.ne.2.2
  ·exact h.led.tab.base2
  ·exact Kd.R_base h.led.row k hk
 ·obtain ⟨hR, hd⟩ := h.rows r hr
  refine ⟨Kd.R_step hR (fun k hk hlt => hb.block k hlt (fun e => ?_)), fun k hk => ⟨fun e => ?_, (hd k hk).2⟩⟩
  ·obtain ⟨h1, h2, h3, h4⟩ := hd k hk
   rcases e with (e | e) | e
   ·exact h2 e
   ·exact h4 e
   ·exact h1 e
  ·rcases ho k e with e | e
   ·exact (hd k hk).1 e
   ·have := Kd.R_lt hR k hk
    omega
theorem HS.add {vo : Value} {out : List Bx} {N : Nat} (h : HS w0 w p b g u0 u1 ns v bx last rows) (hR : RB w N vo out) (hN : w0.heap.size ≤ N ∧ p < N ∧ b < N ∧ g < N) (hd : ∀ k, vo.ownBlock = some k → v.ownBlock ≠ some k) : HS w0 w p b g u0 u1 ns v bx last ((vo, out) :: rows) := by
 refine ⟨h.below, h.led, h.good, fun r hr => ?_⟩
 rcases List.mem_cons.1 hr with rfl | hr
 ·refine ⟨Kd.R_lower hR hN.1, fun k hk => ?_⟩
  have := Kd.R_base hR k hk
  exact ⟨hd k hk, by omega, by omega, by omega⟩
 ·exact h.rows r hr
theorem HS.up {N : Nat} (h : HS w0 w p b g u0 u1 ns v bx last rows) (hb : w.heap.size ≤ N) : w0.heap.size ≤ N ∧ p < N ∧ b < N ∧ g < N := by
 have h1 := h.led.lt
 have h2 := h.below.size
 omega
theorem HS.len (h : HS w0 w p b g u0 u1 ns v bx last rows) : bx.length ≤ 1000000 := by
 have := h.good.len
 omega
theorem HS.new (w0 w : World) {p b g : Nat} {u0 u1 : Int} (hu : okV 1 ⟨u0, u1⟩) (hb : Below w0.heap.size w0 w) (h : LedAt w w0.heap.size p b g u0 u1 [] (.slice none 0 0) [] 0) : HS w0 w p b g u0 u1 [] (.slice none 0 0) [] 0 [] :=
 ⟨hb, h, LG.nil hu, fun r hr => by cases hr⟩
theorem HS.join (h : HS w0 w p b g u0 u1 ns v bx last rows) (x0 x1 x2 : Int) (hx : (Lit.int .u32 x0).wf = true) :
  Calls Tryz.prog 39 #[.pointer (some ⟨p, 0, none⟩), .agg #[.int .u32 x0, .int .i64 x1, .int .i64 x2]] w fun e w' => e = .returned (.int .i64 (code u0 u1 ns ⟨x0, ⟨x1, x2⟩⟩)) ∧ HS w0 w' p b g u0 u1 (nsJ u0 u1 ns ⟨x0, ⟨x1, x2⟩⟩) v bx last rows := by
 refine (ljoin x0 x1 x2 w h.led h.good.nodes hx).mono ?_
 rintro e w' ⟨rfl, hb, hL⟩
 exact ⟨rfl, h.next (h.good.join ⟨x0, ⟨x1, x2⟩⟩ (wf32 hx)) hL (hb.mono fun k hk => .inl (.inr hk)) (fun k hk => .inl hk)⟩
theorem HS.lose (h : HS w0 w p b g u0 u1 ns v bx last rows) (i : Int) (hi : (Lit.int .u32 i).wf = true) :
  Calls Tryz.prog 59 #[.pointer (some ⟨p, 0, none⟩), .int .u32 i] w fun e w' => ∃ vo v', e = .returned (.tuple #[vo, .int .i64 (lost ns i).2]) ∧ HS w0 w' p b g u0 u1 (less ns i) v' (offN bx i) last ((vo, onN bx i) :: rows) := by
 refine (llose i w h.led h.good h.len hi).mono ?_
 rintro e w' ⟨vo, v', rfl, hL, hR, hd, hb, ho⟩
 exact ⟨vo, v', rfl, (h.next (h.good.lose i) hL (hb.mono fun k hk => .inl hk) ho).add hR (h.up (Nat.le_refl _)) hd⟩
theorem HS.give (h : HS w0 w p b g u0 u1 ns v bx last rows) (o n : Int) (s : Bool) (hla : last ≤ 4000000000) :
  Calls Tryz.prog 28 #[.pointer (some ⟨p, 0, none⟩), .int .u32 o, .bool s, .int .i64 n] w fun e w' => ∃ vo v', e = .returned (.tuple #[vo, .int .i64 (gcode u0 u1 ns bx o n)]) ∧ HS w0 w' p b g u0 u1 ns v' (bx ++ given u0 u1 ns bx last o s n) (last + (given u0 u1 ns bx last o s n).length) ((vo, given u0 u1 ns bx last o s n) :: rows) := by
 refine (lgive o n s w h.led h.good hla).mono ?_
 rintro e w' ⟨vo, v', rfl, hL, hR, hd, hb, ho⟩
 exact ⟨vo, v', rfl, (h.next (h.good.give o s n) hL (hb.mono fun k hk => hk.elim (fun e => .inl (.inl e)) .inr) ho).add hR (h.up (Nat.le_refl _)) hd⟩
theorem HS.take (h : HS w0 w p b g u0 u1 ns v bx last rows) (o n : Int) (s : Bool) :
  Calls Tryz.prog 30 #[.pointer (some ⟨p, 0, none⟩), .int .u32 o, .bool s, .int .i64 n] w fun e w' => ∃ vo v', e = .returned (.tuple #[vo, .int .i64 (tcode bx o s n)]) ∧ HS w0 w' p b g u0 u1 ns v' (leftN bx (taken bx o s n)) last ((vo, taken bx o s n) :: rows) := by
 refine (ltake o n s w h.led h.len).mono ?_
 rintro e w' ⟨vo, v', rfl, hL, hR, hd, hb, ho⟩
 exact ⟨vo, v', rfl, (h.next (h.good.take _) hL (hb.mono fun k hk => .inl (.inl hk)) ho).add hR (h.up (Nat.le_refl _)) hd⟩
theorem HS.free (h : HS w0 w p b g u0 u1 ns v bx last rows) :
  Calls Tryz.prog 26 #[.pointer (some ⟨p, 0, none⟩)] w fun e w' => e = .returned (.int .i64 (freeN u0 u1 ns bx)) ∧ Below w.heap.size w w' := LedT.free w h.led h.good.nodes h.len
theorem HS.room (h : HS w0 w p b g u0 u1 ns v bx last rows) (i : Int) (hi : (Lit.int .u32 i).wf = true) :
  Calls Tryz.prog 58 #[.pointer (some ⟨p, 0, none⟩), .int .u32 i] w fun e w' => e = .returned (.int .i64 (roomN u0 u1 ns bx i)) ∧ Below w.heap.size w w' := by
 cases hw : who ns i with
 | none => exact room_no w i h.led h.good.nodes h.len hi hw
 | some x => exact room_yes w i h.led h.good.nodes h.len hi x hw
theorem HS.boxes (h : HS w0 w p b g u0 u1 ns v bx last rows) :
  Calls Tryz.prog 13 #[.pointer (some ⟨p, 0, none⟩)] w fun e w' => ∃ v', e = .returned v' ∧ RB w' w.heap.size v' bx ∧ Below w.heap.size w w' := LedT.boxes w h.led h.len
theorem HS.keep (h : HS w0 w p b g u0 u1 ns v bx last rows) (hs : ∀ r ∈ rows', r ∈ rows) : HS w0 w p b g u0 u1 ns v bx last rows' := ⟨h.below, h.led, h.good, fun r hr => h.rows r (hs r hr)⟩
end
theorem lit1 (w : World) (x : Bx) : Kd.C PLedLib.k100 (w.alloc (.cells #[.int .u32 x.f0, .int .u32 x.f1, .int .u32 x.f2, .bool x.f3] 100)) (some ⟨w.heap.size, 0, none⟩) 1 [x] := by
 have h : Kd.R PLedLib.k100 100 (w.alloc (.cells #[.int .u32 x.f0, .int .u32 x.f1, .int .u32 x.f2, .bool x.f3] 100)) w.heap.size (fun _ => True) (.slice (some ⟨w.heap.size, 0, none⟩) 1 1) [x] :=
  ⟨fun _ _ => trivial, [.int .u32 x.f0, .int .u32 x.f1, .int .u32 x.f2, .bool x.f3], World.ownsRow_lit w _ 1 (Nat.le_refl _) (by decide) rfl, Reps.c4 (PLedLib.k100_mkM _ _ _ x) (Reps.none _ _)⟩
 exact (Kd.R_reads' h).2.2
theorem lit2 (w : World) (x y : Bx) : Kd.C PLedLib.k100 (w.alloc (.cells #[.int .u32 x.f0, .int .u32 x.f1, .int .u32 x.f2, .bool x.f3, .int .u32 y.f0, .int .u32 y.f1, .int .u32 y.f2, .bool y.f3] 100)) (some ⟨w.heap.size, 0, none⟩) 2 [x, y] := by
 have h : Kd.R PLedLib.k100 100 (w.alloc (.cells #[.int .u32 x.f0, .int .u32 x.f1, .int .u32 x.f2, .bool x.f3, .int .u32 y.f0, .int .u32 y.f1, .int .u32 y.f2, .bool y.f3] 100)) w.heap.size (fun _ => True) (.slice (some ⟨w.heap.size, 0, none⟩) 2 2) [x, y] :=
  ⟨fun _ _ => trivial, [.int .u32 x.f0, .int .u32 x.f1, .int .u32 x.f2, .bool x.f3, .int .u32 y.f0, .int .u32 y.f1, .int .u32 y.f2, .bool y.f3], World.ownsRow_lit w _ 2 (Nat.le_refl _) (by decide) rfl, Reps.c4 (PLedLib.k100_mkM _ _ _ x) (Reps.c4 (PLedLib.k100_mkM _ _ _ y) (Reps.none _ _))⟩
 exact (Kd.R_reads' h).2.2
end Go.Proofs.YthibppfdonepoaaGreat.LedT
