/- liverylaw23.does. liverylaw23: the acts' numbers; both ledgers at the beginning. ledger.Ledger: Copy. slices.Compact over numbers (by the library's contract, laid in plain words); ledger.Ledger: Owners. ledger: a ledger that is none. ledger: Of and Owners of a ledger that is none. ledger.Ledger: Owners. -/
import Derived.Test.YthibppfdonepoaaGreatCLedgerPlaysHNodeX
import Derived.Test.YthibppfdonepoaaGreatCLedgerPlaysHNodeW
import Derived.Test.YthibppfdonepoaaGreatCLedgerPlaysHLedP
import Derived.Test.YthibppfdonepoaaGreatCLedgerPlaysHSortC
import Derived.Shelf.SlicesE.Compact
import Derived.Lib.OwnBridge
import Derived.Test.YthibppfdonepoaaGreatCLedgerPlaysHLedJ
import Derived.Test.YthibppfdonepoaaGreatCLedgerPlaysHSortJ
import Derived.Test.YthibppfdonepoaaGreatCLedgerPlaysHLedBB
set_option maxHeartbeats 32000000
set_option maxRecDepth 100000
set_option linter.unusedVariables false
set_option linter.unusedSimpArgs false
namespace Go.Proofs.YthibppfdonepoaaGreat.LedT
open Go.RowKit Go.MapKept Go.Maps Go.ChangeMaps Go.Proofs.YthibppfdonepoaaGreat.XBut Go.Proofs.YthibppfdonepoaaGreat.XMap Go.Proofs.YthibppfdonepoaaGreat.NodeT Go.Proofs.YthibppfdonepoaaGreatW.PrintWords Go.Proofs.YthibppfdonepoaaGreatW.PrintLast
theorem wf8 {n : Int} (h : (Lit.int .u8 n).wf = true) : 0 ≤ n ∧ n ≤ 255 := by
 simp only [Lit.wf, IntKind.min, IntKind.max, IntKind.signed, IntKind.bits, Bool.and_eq_true] at h
 simp at h
 omega
theorem taken_le (bx : List Bx) (o : Int) (s : Bool) (m : Int) : (taken bx o s m).length ≤ bx.length := by
 unfold taken
 split
 ·unfold goneN
  rw [List.length_drop]
  have : (ownN bx o s).length ≤ bx.length := List.length_filter_le _ _
  omega
 ·exact Nat.zero_le _
def May2 (p g : Nat) (v vb : Value) (okn : Nat → Prop) (k : Nat) : Prop := May p g v k ∨ okn k ∨ vb.ownBlock = some k
structure Did (w0 w wx : World) (p b g q : Nat) (u0 u1 : Int) (ns : List Nd) (v : Value) (bx : List Bx) (last : Int) (vn vb : Value) (okn : Nat → Prop) (x : Ac) (v9 v10 v11 v12 : Value) (v' vn' vb' : Value) (okn' : Nat → Prop) (er : Int) (Ag Aw : Option Addr) (ng cg cw : Nat) (ot : List Bx) : Prop where
 e10 : v10 = .int .i64 er
 e12 : v12 = .int .i64 er
 e11 : v11 = .slice Ag ng cg
 e9 : v9 = .slice Aw ng cw
 got : Kd.C PLedLib.k100 wx Ag ng ot
 want : Kd.C PLedLib.k100 wx Aw ng ot
 len : ot.length = ng ∧ ng ≤ 1000000
 ds : DS w0 wx p b g u0 u1 (acN u0 u1 ns x) v' (acB u0 u1 ns bx last x) (acL u0 u1 ns bx last x) vn' vb' okn'
 q4 : wx.heap[q + 3]? = some (.cells #[.int .i64 u0, .int .i64 u1, vn', vb', .int .u32 (acL u0 u1 ns bx last x)] LT (0, 0))
 q3 : wx.heap[q + 2]? = some (.cells #[.int .i64 0, .int .i64 0, .slice none 0 0, .slice none 0 0, .int .u32 0] LT (0, 0))
 but : But (May2 p g v vb okn) w wx
 own : ∀ k, May2 p g v' vb' okn' k → May2 p g v vb okn k ∨ w.heap.size + 4 ≤ k
theorem does (p b g : Nat) (u0 u1 : Int) (ns : List Nd) (v : Value) (bx : List Bx) (last : Int) (An A : Option Addr) (nn cn n c : Nat) (okn : Nat → Prop) (xw n0 n1 n2 o m : Int) (s : Bool) (w0 w : World) (h : DS w0 w p b g u0 u1 ns v bx last (.slice An nn cn) (.slice A n c) okn) (h8 : (Lit.int .u8 xw).wf = true) (hn0 : (Lit.int .u32 n0).wf = true) (hla : last ≤ 4000000000) :
  Calls Tryz.prog 25 #[.pointer (some ⟨p, 0, none⟩), dv u0 u1 (.slice An nn cn) (.slice A n c) last, .agg #[.int .u8 xw, .int .u32 n0, .int .i64 n1, .int .i64 n2, .int .u32 o, .bool s, .int .i64 m]] w fun e w' => ∃ v' vn' vb' okn', e = .returned (.tuple #[dv u0 u1 vn' vb' (acL u0 u1 ns bx last ⟨xw, ⟨n0, ⟨n1, n2⟩⟩, o, s, m⟩), .bool true]) ∧ DS w0 w' p b g u0 u1 (acN u0 u1 ns ⟨xw, ⟨n0, ⟨n1, n2⟩⟩, o, s, m⟩) v' (acB u0 u1 ns bx last ⟨xw, ⟨n0, ⟨n1, n2⟩⟩, o, s, m⟩) (acL u0 u1 ns bx last ⟨xw, ⟨n0, ⟨n1, n2⟩⟩, o, s, m⟩) vn' vb' okn' ∧ But (May2 p g v (.slice A n c) okn) w w' ∧ (∀ k, May2 p g v' vb' okn' k → May2 p g v (.slice A n c) okn k ∨ w.heap.size ≤ k) := by
 have hu118 := Tryz.underlying37
 have hu107 := Tryz.underlying61
 have hu31 := Tryz.underlying33
 have hu39 := Tryz.underlying59
 obtain ⟨W1, hW1⟩ : ∃ W1, ((w.alloc (db u0 u1 (.slice An nn cn) (.slice A n c) last)).alloc (.cells #[.int .u8 xw, .int .u32 n0, .int .i64 n1, .int .i64 n2, .int .u32 o, .bool s, .int .i64 m] 61)).alloc (db 0 0 (.slice none 0 0) (.slice none 0 0) 0) = W1 := ⟨_, rfl⟩
 have hB1 : Below w.heap.size w W1 := by rw [← hW1]; exact below_alloc (below_alloc (below_alloc (Below.refl _ _) _) _) _
 have hs1 : W1.heap.size = w.heap.size + 3 := by rw [← hW1]; simp
 have k1 : W1.heap[w.heap.size]? = some (.cells #[.int .i64 u0, .int .i64 u1, .slice An nn cn, .slice A n c, .int .u32 last] LT (0, 0)) := by rw [← hW1]; exact blk_alloc (blk_alloc (blk_new w _) _) _
 have k2 : W1.heap[w.heap.size + 1]? = some (.cells #[.int .u8 xw, .int .u32 n0, .int .i64 n1, .int .i64 n2, .int .u32 o, .bool s, .int .i64 m] 61 (0, 0)) := by
  have := blk_alloc (blk_new (w.alloc (db u0 u1 (.slice An nn cn) (.slice A n c) last)) (.cells #[.int .u8 xw, .int .u32 n0, .int .i64 n1, .int .i64 n2, .int .u32 o, .bool s, .int .i64 m] 61)) (db 0 0 (.slice none 0 0) (.slice none 0 0) 0)
  rw [World.size_alloc] at this
  rw [← hW1]; exact this
 have k3 : W1.heap[w.heap.size + 2]? = some (.cells #[.int .i64 0, .int .i64 0, .slice none 0 0, .slice none 0 0, .int .u32 0] LT (0, 0)) := by
  have := blk_new ((w.alloc (db u0 u1 (.slice An nn cn) (.slice A n c) last)).alloc (.cells #[.int .u8 xw, .int .u32 n0, .int .i64 n1, .int .i64 n2, .int .u32 o, .bool s, .int .i64 m] 61)) (db 0 0 (.slice none 0 0) (.slice none 0 0) 0)
  rw [World.size_alloc, World.size_alloc] at this
  rw [← hW1]; exact this
 obtain ⟨W0, hW0⟩ : ∃ W0, W1.alloc (db u0 u1 (.slice An nn cn) (.slice A n c) last) = W0 := ⟨_, rfl⟩
 have hB0 : Below W1.heap.size W1 W0 := by rw [← hW0]; exact below_alloc (Below.refl _ _) _
 have k4 : W0.heap[w.heap.size + 3]? = some (.cells #[.int .i64 u0, .int .i64 u1, .slice An nn cn, .slice A n c, .int .u32 last] LT (0, 0)) := by
  have := blk_new W1 (db u0 u1 (.slice An nn cn) (.slice A n c) last)
  rw [hs1] at this
  rw [← hW0]; exact this
 have hx0 : 0 ≤ xw ∧ xw ≤ 255 := wf8 h8
 obtain ⟨r, hr⟩ : ∃ r, xw % 6 = r := ⟨_, rfl⟩
 have hr2 : xw.tmod 6 = r := by rw [Int.tmod_eq_emod_of_nonneg hx0.1]; exact hr
 have hr3 : 0 ≤ r ∧ r < 6 := by omega
 have hr4 : IntKind.u8.wrap r = r := by rw [IntKind.wrap_u8]; omega
 have hBw : Below w.heap.size w W0 := below_then hB1 hB1.size hB0
 have H := Aside0.mk (And.intro h (And.intro hn0 (And.intro hla (And.intro hr (And.intro hBw (And.intro (blk_below k1 hB0) (And.intro (blk_below k2 hB0) (And.intro (blk_below k3 hB0) (And.intro k4 (And.intro hW1 hW0))))))))))
 have q0 := (blk_cell k1 0).trans rfl
 have q1 := (blk_cell k1 1).trans rfl
 have q2 := (blk_cell k1 2).trans rfl
 have q3 := (blk_cell k1 3).trans rfl
 have q4 := (blk_cell k1 4).trans rfl
 unfold dv
 clear h h8 hn0 hla hr hB1 k1 k2 k3 hB0 k4 hW1 hW0 hx0 hBw
 go_enter Tryz.func25, Tryz.ntmps25
 go_upto_region 1 with (fail)
 rw [H.out.2.2.2.2.2.2.2.2.2.1]
 have hs1' : W1.heap.size = w.heap.size + 3 := hs1
 go_upto_region 4 with (fail)
 rw [H.out.2.2.2.2.2.2.2.2.2.2]
 have a0 := (blk_cell H.out.2.2.2.2.2.2.1 0).trans rfl
 clear q0 q1 q2 q3 q4
 go_upto_block 0 with (fail)
 have D0 := Aside0.mk (H.out.1.same H.out.2.2.2.2.1)
 have hsw := H.out.2.2.2.2.1.size
 have hW0s := blk_lt H.out.2.2.2.2.2.2.2.2.1
 have ML := Aside0.mk H.out.1.lt
 clear a0 hr2 hr4 hs1'
 go_cut [9, 10, 11, 12] from 14 to 108 (fun v9 v10 v11 v12 wx => ∃ v' vn' vb' okn' er Ag Aw ng cg cw ot, Did w0 w wx p b g w.heap.size u0 u1 ns v bx last (.slice An nn cn) (.slice A n c) okn ⟨xw, ⟨n0, ⟨n1, n2⟩⟩, o, s, m⟩ v9 v10 v11 v12 v' vn' vb' okn' er Ag Aw ng cg cw ot)
 case first =>
  have a1 := (blk_cell H.out.2.2.2.2.2.2.1 1).trans rfl
  have a2 := (blk_cell H.out.2.2.2.2.2.2.1 2).trans rfl
  have a3 := (blk_cell H.out.2.2.2.2.2.2.1 3).trans rfl
  have a4 := (blk_cell H.out.2.2.2.2.2.2.1 4).trans rfl
  have a5 := (blk_cell H.out.2.2.2.2.2.2.1 5).trans rfl
  have a6 := (blk_cell H.out.2.2.2.2.2.2.1 6).trans rfl
  rcases (by omega : r = 0 ∨ r = 1 ∨ r = 2 ∨ r = 3 ∨ r = 4 ∨ r = 5) with rfl | rfl | rfl | rfl | rfl | rfl
  ·as_aux_lemma =>
    go_wp2_with fail
    refine (D0.out.hs.joinB n0 n1 n2 H.out.2.1).mono ?_
    rintro e w1 ⟨rfl, hS, hb⟩
    obtain ⟨hN, hBx⟩ := D0.out.rows hb
    have hnm : ∀ k, w.heap.size ≤ k → ¬ May p g v k := fun k hk hm => by have := ML.out k (.inl hm); omega
    have k1 := hb.heap H.out.2.2.2.2.2.1 (hnm _ (Nat.le_refl _))
    have k2 := hb.heap H.out.2.2.2.2.2.2.1 (hnm _ (by omega))
    have k3 := hb.heap H.out.2.2.2.2.2.2.2.1 (hnm _ (by omega))
    have k4 := hb.heap H.out.2.2.2.2.2.2.2.2.1 (hnm _ (by omega))
    have hs01 := hb.size
    have RJ := rjoin u0 u1 n0 n1 n2 ns (.slice An nn cn) w0.heap.size okn w1 D0.out.hs.good.nodes.unit hN (by have := D0.out.hs.below.size; omega) D0.out.hs.good.nodes.len (wf32 H.out.2.1).1
    obtain ⟨cd, hcd⟩ : ∃ cd, code u0 u1 ns ⟨n0, ⟨n1, n2⟩⟩ = cd := ⟨_, rfl⟩
    rw [hcd] at RJ ⊢
    have RJ := Aside0.mk RJ
    have X := Aside0.mk (And.intro hS (And.intro hb (And.intro hBx (And.intro k1 (And.intro k2 (And.intro k3 (And.intro k4 hcd)))))))
    clear a1 a2 a3 a4 a5 a6 hS hb hN hBx hcd
    have q0 := (blk_cell k1 0).trans rfl
    have q1 := (blk_cell k1 1).trans rfl
    have q2 := (blk_cell k1 2).trans rfl
    have a1 := (blk_cell k2 1).trans rfl
    have a2 := (blk_cell k2 2).trans rfl
    have a3 := (blk_cell k2 3).trans rfl
    clear k1 k2 k3 k4
    dsimp only
    go_wp2_with fail
    refine RJ.out.mono ?_
    rintro e w2 ⟨v2, rfl, hR2, hb2⟩
    obtain ⟨A2, c2, rfl⟩ := Kd.R_slice hR2
    obtain ⟨n2', hn2'⟩ : ∃ n2', (joined cd ns ⟨n0, ⟨n1, n2⟩⟩).length = n2' := ⟨_, rfl⟩
    rw [hn2'] at hR2 ⊢
    have k4 := blk_below X.out.2.2.2.2.2.2.1 hb2
    have Z := Aside0.mk (And.intro hR2 (And.intro hb2 k4))
    have y0 := (blk_cell k4 0).trans rfl
    have y1 := (blk_cell k4 1).trans rfl
    have y2 := (blk_cell k4 2).trans rfl
    have g0 := blk_frozen k4 0
    have g1 := blk_frozen k4 1
    have g2 := blk_frozen k4 2
    clear q0 q1 q2 a1 a2 a3 hR2 hb2 k4 RJ hn2'
    dsimp only
    go_wp2
    go_meet
    case rel =>
     have e1 : acN u0 u1 ns ⟨xw, ⟨n0, ⟨n1, n2⟩⟩, o, s, m⟩ = nsJ u0 u1 ns ⟨n0, ⟨n1, n2⟩⟩ := if_pos H.out.2.2.2.1
     have e2 : acB u0 u1 ns bx last ⟨xw, ⟨n0, ⟨n1, n2⟩⟩, o, s, m⟩ = bx := if_pos H.out.2.2.2.1
     have e3 : acL u0 u1 ns bx last ⟨xw, ⟨n0, ⟨n1, n2⟩⟩, o, s, m⟩ = last := if_neg (by show ¬ (xw % 6 = 2 ∨ xw % 6 = 3); have := H.out.2.2.2.1; omega)
     have hR2 := Z.out.1
     rw [← X.out.2.2.2.2.2.2.2] at hR2
     have T2 : RNd w2 w0.heap.size (fun k => (Value.slice A2 n2' c2).ownBlock = some k) (.slice A2 n2' c2) (nsJ u0 u1 ns ⟨n0, ⟨n1, n2⟩⟩) := Kd.R_mono (Kd.R_tight (by rfl) hR2) (fun k hk => hk.symm)
     have hok : ∀ k, (Value.slice A2 n2' c2).ownBlock = some k → okn k ∨ w1.heap.size ≤ k := fun k hk => hR2.1 k hk
     have hlw := ML.out
     have hs1 := X.out.2.1.size
     have D2 : DS w0 w2 p b g u0 u1 (nsJ u0 u1 ns ⟨n0, ⟨n1, n2⟩⟩) v bx last (.slice A2 n2' c2) (.slice A n c) (fun k => (Value.slice A2 n2' c2).ownBlock = some k) := by
      refine ⟨X.out.1.same Z.out.2.1, T2, Kd.R_below X.out.2.2.1 Z.out.2.1, fun k hk => ?_, H.out.1.okb, fun k hk => Kd.R_lt T2 k hk⟩
      rcases hok k hk with h3 | h3
      ·exact H.out.1.okp k h3
      ·have hbl := H.out.1.hs.led.lt.2.1
       exact ⟨fun hm => by have := hlw k (.inl hm); omega, by omega, fun he => by have := hlw k (.inr (.inr he)); omega⟩
     have hQ4 : But (fun k => k = w.heap.size + 3) w2 (((w2.setCell ⟨w.heap.size + 3, 0, none⟩ (.int .i64 u0)).setCell ⟨w.heap.size + 3, 1, none⟩ (.int .i64 u1)).setCell ⟨w.heap.size + 3, 2, none⟩ (.slice A2 n2' c2)) := but3T (But.refl (fun k => k = w.heap.size + 3) w2) (q := w.heap.size + 3) rfl _ _ _
     have hbw := H.out.1.hs.below.size
     have hbl := H.out.1.hs.led.lt.2.1
     refine ⟨v, .slice A2 n2' c2, .slice A n c, fun k => (Value.slice A2 n2' c2).ownBlock = some k, cd, none, none, 0, 0, 0, [], ⟨rfl, rfl, rfl, rfl, nil_row _, nil_row _, ⟨rfl, by omega⟩, ?_, ?_, ?_, ?_, ?_⟩⟩
     ·rw [e1, e2, e3]
      refine D2.put hQ4 (by omega) (fun hm => by have := hlw _ (.inl hm); omega) (by omega) (fun hk => ?_) (fun he => by have := hlw _ (.inr (.inr he)); omega)
      rcases hok _ hk with h3 | h3
      ·have := hlw _ (.inr (.inl h3)); omega
      ·omega
     ·rw [e3]
      exact set3of5 Z.out.2.2
     ·exact hQ4.heap (blk_below X.out.2.2.2.2.2.1 Z.out.2.1) (by omega)
     ·exact but_drop (((But.of_below H.out.2.2.2.2.1).trans (X.out.2.1.mono fun k hk => .inl hk)).trans (But.of_below Z.out.2.1)) hQ4 (fun k hk => by omega)
     ·intro k hk
      rcases hk with hk | hk | hk
      ·exact .inl (.inl hk)
      ·rcases hok k hk with h3 | h3
       ·exact .inl (.inr (.inl h3))
       ·exact .inr (by omega)
      ·exact .inl (.inr (.inr hk))
  ·as_aux_lemma =>
    go_wp2_with fail
    refine (D0.out.hs.loseB n0 H.out.2.1).mono ?_
    rintro e w1 ⟨vo, v1, rfl, hS, hb, hgr, hvo⟩
    obtain ⟨hN, hBx⟩ := D0.out.rows hb
    have hlw := ML.out
    have hnm : ∀ k, w.heap.size ≤ k → ¬ May p g v k := fun k hk hm => by have := hlw k (.inl hm); omega
    have k1 := hb.heap H.out.2.2.2.2.2.1 (hnm _ (Nat.le_refl _))
    have k2 := hb.heap H.out.2.2.2.2.2.2.1 (hnm _ (by omega))
    have k3 := hb.heap H.out.2.2.2.2.2.2.2.1 (hnm _ (by omega))
    have k4 := hb.heap H.out.2.2.2.2.2.2.2.2.1 (hnm _ (by omega))
    have hs01 := hb.size
    have hRo := (hS.rows _ (List.mem_cons_self ..)).1
    obtain ⟨Ag, cg, e1⟩ := Kd.R_slice hRo
    dsimp only at e1
    subst e1
    have DT := dlose u0 u1 An A nn cn n c last n0 ns bx (fun k => (Value.slice An nn cn).ownBlock = some k) w0 w1 (But.below D0.out.hs.below (Nat.le_refl _) hb (fun k hk => D0.out.hs.may k hk)) (Kd.R_mono (Kd.R_tight (by rfl) hN) (fun k hk => hk.symm)) hBx (fun k hk => (H.out.1.okp k (hN.1 k hk)).2.2) D0.out.hs.good
    obtain ⟨tc, htc⟩ : ∃ tc, (lost ns n0).2 = tc := ⟨_, rfl⟩
    rw [htc] at DT ⊢
    unfold dv at DT
    have DT := Aside0.mk DT
    obtain ⟨tn, htn⟩ : ∃ tn, (onN bx n0).length = tn := ⟨_, rfl⟩
    have TL := Aside0.mk htn
    rw [htn] at hRo hvo ⊢
    have X := Aside0.mk (And.intro hS (And.intro hb (And.intro hgr (And.intro hRo (And.intro hN (And.intro k3 (And.intro k4 hvo)))))))
    clear a1 a2 a3 a4 a5 a6 hS hb hN hBx hRo htn
    have q0 := (blk_cell k1 0).trans rfl
    have q1 := (blk_cell k1 1).trans rfl
    have q2 := (blk_cell k1 2).trans rfl
    have q3 := (blk_cell k1 3).trans rfl
    have q4 := (blk_cell k1 4).trans rfl
    have a4 := (blk_cell k2 1).trans rfl
    have a5 := (blk_cell k2 2).trans rfl
    have a6 := (blk_cell k2 3).trans rfl
    clear k1 k2 k3 k4
    dsimp only
    go_wp2_with fail
    refine DT.out.mono ?_
    rintro e w2 ⟨An2, nn2, cn2, Ab, lb, cb, Aw, ng, cw, rfl, hRn, hon, hRb, hob, hCw, hng, hbo⟩
    have hno : ∀ k, w.heap.size ≤ k → ¬ (Value.slice An nn cn).ownBlock = some k := fun k hk ho => by have := hlw k (.inr (.inl (X.out.2.2.2.2.1.1 k ho))); omega
    have k4 := hbo.heap X.out.2.2.2.2.2.2.1 (hno _ (by omega))
    have RN := Aside0.mk (And.intro hRn hon)
    have Z := Aside0.mk (And.intro hRb (And.intro hob (And.intro hCw (And.intro hng (And.intro hbo k4)))))
    have y0 := (blk_cell k4 0).trans rfl
    have y1 := (blk_cell k4 1).trans rfl
    have y2 := (blk_cell k4 2).trans rfl
    have y3 := (blk_cell k4 3).trans rfl
    have y4 := (blk_cell k4 4).trans rfl
    have g0 := blk_frozen k4 0
    have g1 := blk_frozen k4 1
    have g2 := blk_frozen k4 2
    have g3 := blk_frozen k4 3
    have g4 := blk_frozen k4 4
    clear q0 q1 q2 q3 q4 a4 a5 a6 hRb hob hCw hng hbo k4 hRn hon DT
    dsimp only
    go_wp2
    go_meet
    case rel =>
     have hq := H.out.2.2.2.1
     have e1 : acN u0 u1 ns ⟨xw, ⟨n0, ⟨n1, n2⟩⟩, o, s, m⟩ = less ns n0 := by simp [acN, hq]
     have e2 : acB u0 u1 ns bx last ⟨xw, ⟨n0, ⟨n1, n2⟩⟩, o, s, m⟩ = offN bx n0 := by simp [acB, hq]
     have e3 : acL u0 u1 ns bx last ⟨xw, ⟨n0, ⟨n1, n2⟩⟩, o, s, m⟩ = last := by simp [acL, hq]
     have hs1 := X.out.2.1.size
     have hs2 := Z.out.2.2.2.2.1.size
     have hgr := X.out.2.2.1
     have hob := Z.out.2.1
     have hvo := X.out.2.2.2.2.2.2.2
     have NK := X.out.2.2.2.2.1.1
     have hon := RN.out.2
     have hbw := H.out.1.hs.below.size
     have hl0 := H.out.1.hs.led.lt
     have hl1 := X.out.1.led.lt
     have hng : tn = ng := by rw [← Z.out.2.2.2.1]; exact TL.out.symm
     have htl : tn ≤ 1000000 := by rw [← TL.out]; have h1 : (onN bx n0).length ≤ bx.length := List.length_filter_le _ _; have := D0.out.hs.len; omega
     have hvk : ∀ k, v1.ownBlock = some k → ¬ (Value.slice An nn cn).ownBlock = some k := fun k hk he => by
      have hkl := hlw k (.inr (.inl (NK k he)))
      rcases hgr k hk with h5 | h5
      ·exact (H.out.1.okp k (NK k he)).1 (.inr h5)
      ·omega
     have D2 : DS w0 w2 p b g u0 u1 (less ns n0) v1 (offN bx n0) last (.slice An2 nn2 cn2) (.slice Ab lb cb) (fun k => (Value.slice An2 nn2 cn2).ownBlock = some k) := by
      refine ⟨⟨But.below X.out.1.below (Nat.le_refl _) Z.out.2.2.2.2.1 (fun k hk => Kd.R_base X.out.2.2.2.2.1 k hk), X.out.1.led.but Z.out.2.2.2.2.1 (fun e => (H.out.1.okp p (NK p e)).1 (.inl (.inl rfl))) (fun e => (H.out.1.okp b (NK b e)).2.1 rfl) (fun e => (H.out.1.okp g (NK g e)).1 (.inl (.inr rfl))) hvk, X.out.1.good, fun r hr => by cases hr⟩, RN.out.1, Z.out.1, fun k hk => ?_, fun k hk => ?_, fun k hk => Kd.R_lt RN.out.1 k hk⟩
      ·refine ⟨fun hm => ?_, ?_, row_apart RN.out.1 Z.out.1 k hk⟩
       ·rcases hon k hk with h4 | h4
        ·have hkl := hlw k (.inr (.inl (NK k h4)))
         rcases hm with hm | hm
         ·exact (H.out.1.okp k (NK k h4)).1 (.inl hm)
         ·exact hvk k hm h4
        ·rcases hm with (hm | hm) | hm
         ·omega
         ·omega
         ·have := hl1.2.2.2 k hm
          omega
       ·rcases hon k hk with h4 | h4
        ·exact (H.out.1.okp k (NK k h4)).2.1
        ·omega
      ·rcases hob k hk with h4 | h4
       ·obtain ⟨h1, h2⟩ := H.out.1.okb k h4
        have hkl := hlw k (.inr (.inr h4))
        refine ⟨fun hm => ?_, h2⟩
        rcases hm with hm | hm
        ·exact h1 (.inl hm)
        ·rcases hgr k hm with h5 | h5
         ·exact h1 (.inr h5)
         ·omega
       ·refine ⟨fun hm => ?_, by omega⟩
        rcases hm with (hm | hm) | hm
        ·omega
        ·omega
        ·have := hl1.2.2.2 k hm
         omega
     have hQ4 := but5T (But.refl (fun k => k = w.heap.size + 3) w2) (q := w.heap.size + 3) rfl (.int .i64 u0) (.int .i64 u1) (.slice An2 nn2 cn2) (.slice Ab lb cb) (.int .u32 last)
     have G2 := Kd.R_step X.out.2.2.2.1 (fun k hk hlt => Z.out.2.2.2.2.1.block k hlt (fun he => by have := hvo k hk; exact hno k (by omega) he))
     have G3 := Kd.R_step G2 (fun k hk hlt => hQ4.block k hlt (by have := hvo k hk; omega))
     refine ⟨v1, .slice An2 nn2 cn2, .slice Ab lb cb, fun k => (Value.slice An2 nn2 cn2).ownBlock = some k, tc, Ag, Aw, tn, cg, cw, onN bx n0, ⟨rfl, rfl, rfl, by rw [hng], ?_, ?_, ⟨TL.out, htl⟩, ?_, ?_, ?_, ?_, ?_⟩⟩
     ·have h9 := (Kd.R_reads' G3).2.2
      rw [TL.out] at h9
      exact h9
     ·rw [hng]
      exact Z.out.2.2.1 _ _ (fun k hk => by rw [hk]; omega) hQ4
     ·rw [e1, e2, e3]
      refine D2.put hQ4 (by omega) (fun hm => ?_) (by omega) (fun hk => ?_) (fun he => ?_)
      ·rcases hm with (hm | hm) | hm
       ·omega
       ·omega
       ·rcases hgr _ hm with h5 | h5
        ·have := hl0.2.2.2 _ h5
         omega
        ·omega
      ·rcases hon _ hk with h5 | h5
       ·exact hno _ (by omega) h5
       ·omega
      ·rcases hob _ he with h5 | h5
       ·have := hlw _ (.inr (.inr h5))
        omega
       ·omega
     ·rw [e3]
      exact set5 Z.out.2.2.2.2.2
     ·exact hQ4.heap (Z.out.2.2.2.2.1.heap X.out.2.2.2.2.2.1 (hno _ (by omega))) (by omega)
     ·exact but_drop (((But.of_below H.out.2.2.2.2.1).trans (X.out.2.1.mono fun k hk => .inl hk)).trans (Z.out.2.2.2.2.1.mono fun k hk => .inr (.inl (NK k hk)))) hQ4 (fun k hk => by omega)
     ·intro k hk
      rcases hk with (hk | hk) | hk | hk
      ·exact .inl (.inl (.inl hk))
      ·rcases hgr k hk with h5 | h5
       ·exact .inl (.inl (.inr h5))
       ·exact .inr (by omega)
      ·rcases hon k hk with h5 | h5
       ·exact .inl (.inr (.inl (NK k h5)))
       ·exact .inr (by omega)
      ·rcases hob k hk with h5 | h5
       ·exact .inl (.inr (.inr h5))
       ·exact .inr (by omega)
  ·as_aux_lemma =>
    have hla4 := H.out.2.2.1
    go_wp2_with fail
    refine (D0.out.hs.giveM o m s hla4).mono ?_
    rintro e w1 ⟨vo, v1, rfl, hS, hb, hgr, hvo⟩
    obtain ⟨hN, hBx⟩ := D0.out.rows hb
    have hlw := ML.out
    have hnm : ∀ k, w.heap.size ≤ k → ¬ May p g v k := fun k hk hm => by have := hlw k (.inl hm); omega
    have k1 := hb.heap H.out.2.2.2.2.2.1 (hnm _ (Nat.le_refl _))
    have k2 := hb.heap H.out.2.2.2.2.2.2.1 (hnm _ (by omega))
    have k3 := hb.heap H.out.2.2.2.2.2.2.2.1 (hnm _ (by omega))
    have k4 := hb.heap H.out.2.2.2.2.2.2.2.2.1 (hnm _ (by omega))
    have hs01 := hb.size
    have hRo := (hS.rows _ (List.mem_cons_self ..)).1
    obtain ⟨Ag, cg, e1⟩ := Kd.R_slice hRo
    dsimp only at e1
    subst e1
    have DT := dgive u0 u1 An A nn cn n c last o m s ns bx okn w0 w1 (But.below D0.out.hs.below (Nat.le_refl _) hb (fun k hk => D0.out.hs.may k hk)) hN hBx D0.out.hs.good hla4
    obtain ⟨tc, htc⟩ : ∃ tc, gcode u0 u1 ns bx o m = tc := ⟨_, rfl⟩
    rw [htc] at DT ⊢
    unfold dv at DT
    have DT := Aside0.mk DT
    obtain ⟨tn, htn⟩ : ∃ tn, (given u0 u1 ns bx last o s m).length = tn := ⟨_, rfl⟩
    have TL := Aside0.mk htn
    obtain ⟨l2, hl2⟩ : ∃ l2, last + ((given u0 u1 ns bx last o s m).length : Int) = l2 := ⟨_, rfl⟩
    rw [hl2] at hS
    replace DT := DT.out
    rw [hl2] at DT
    have DT := Aside0.mk DT
    have L2 := Aside0.mk hl2
    rw [htn] at hRo hvo ⊢
    clear hl2
    have X := Aside0.mk (And.intro hS (And.intro hb (And.intro hgr (And.intro hRo (And.intro hN (And.intro k3 (And.intro k4 hvo)))))))
    clear a1 a2 a3 a4 a5 a6 hS hb hN hBx hRo htn
    have q0 := (blk_cell k1 0).trans rfl
    have q1 := (blk_cell k1 1).trans rfl
    have q2 := (blk_cell k1 2).trans rfl
    have q3 := (blk_cell k1 3).trans rfl
    have q4 := (blk_cell k1 4).trans rfl
    have a4 := (blk_cell k2 4).trans rfl
    have a5 := (blk_cell k2 5).trans rfl
    have a6 := (blk_cell k2 6).trans rfl
    clear k1 k2 k3 k4
    dsimp only
    go_wp2_with fail
    refine DT.out.mono ?_
    rintro e w2 ⟨Ab, lb, cb, Aw, ng, cw, rfl, hRb, hob, hCw, hng, hb2⟩
    have k4 := blk_below X.out.2.2.2.2.2.2.1 hb2
    have Z := Aside0.mk (And.intro hRb (And.intro hob (And.intro hCw (And.intro hng (And.intro hb2 k4)))))
    have y0 := (blk_cell k4 0).trans rfl
    have y1 := (blk_cell k4 1).trans rfl
    have y2 := (blk_cell k4 2).trans rfl
    have y3 := (blk_cell k4 3).trans rfl
    have y4 := (blk_cell k4 4).trans rfl
    have g0 := blk_frozen k4 0
    have g1 := blk_frozen k4 1
    have g2 := blk_frozen k4 2
    have g3 := blk_frozen k4 3
    have g4 := blk_frozen k4 4
    clear q0 q1 q2 q3 q4 a4 a5 a6 hRb hob hCw hng hb2 k4 DT
    dsimp only
    go_wp2
    go_meet
    case rel =>
     have hq := H.out.2.2.2.1
     have e1 : acN u0 u1 ns ⟨xw, ⟨n0, ⟨n1, n2⟩⟩, o, s, m⟩ = ns := by simp [acN, hq]
     have e2 : acB u0 u1 ns bx last ⟨xw, ⟨n0, ⟨n1, n2⟩⟩, o, s, m⟩ = bx ++ given u0 u1 ns bx last o s m := by simp [acB, hq]
     have e3 : acL u0 u1 ns bx last ⟨xw, ⟨n0, ⟨n1, n2⟩⟩, o, s, m⟩ = l2 := by rw [← L2.out]; simp [acL, hq]
     have hs1 := X.out.2.1.size
     have hgr := X.out.2.2.1
     have hob := Z.out.2.1
     have hvo := X.out.2.2.2.2.2.2.2
     have hbw := H.out.1.hs.below.size
     have hl0 := H.out.1.hs.led.lt
     have hl1 := X.out.1.led.lt
     have hng : tn = ng := by rw [← Z.out.2.2.2.1]; exact TL.out.symm
     have htl : tn ≤ 1000000 := by rw [← TL.out]; have h1 := X.out.1.good.len; rw [List.length_append] at h1; omega
     have D2 : DS w0 w2 p b g u0 u1 ns v1 (bx ++ given u0 u1 ns bx last o s m) l2 (.slice An nn cn) (.slice Ab lb cb) okn := by
      refine ⟨(X.out.1.keep (fun r hr => by cases hr)).same Z.out.2.2.2.2.1, Kd.R_below X.out.2.2.2.2.1 Z.out.2.2.2.2.1, Z.out.1, fun k hk => ?_, fun k hk => ?_, fun k hk => ?_⟩
      ·obtain ⟨h1, h2, h3⟩ := H.out.1.okp k hk
       have hkl := hlw k (.inr (.inl hk))
       refine ⟨fun hm => ?_, h2, fun he => ?_⟩
       ·rcases hm with hm | hm
        ·exact h1 (.inl hm)
        ·rcases hgr k hm with h4 | h4
         ·exact h1 (.inr h4)
         ·omega
       ·rcases hob k he with h4 | h4
        ·exact h3 h4
        ·omega
      ·rcases hob k hk with h4 | h4
       ·obtain ⟨h1, h2⟩ := H.out.1.okb k h4
        have hkl := hlw k (.inr (.inr h4))
        refine ⟨fun hm => ?_, h2⟩
        rcases hm with hm | hm
        ·exact h1 (.inl hm)
        ·rcases hgr k hm with h5 | h5
         ·exact h1 (.inr h5)
         ·omega
       ·refine ⟨fun hm => ?_, by omega⟩
        rcases hm with (hm | hm) | hm
        ·omega
        ·omega
        ·have := hl1.2.2.2 k hm
         omega
      ·have := hlw k (.inr (.inl hk))
       have := Z.out.2.2.2.2.1.size
       omega
     have hQ4 := but5T (But.refl (fun k => k = w.heap.size + 3) w2) (q := w.heap.size + 3) rfl (.int .i64 u0) (.int .i64 u1) (.slice An nn cn) (.slice Ab lb cb) (.int .u32 l2)
     have G3 := Kd.R_step (Kd.R_below X.out.2.2.2.1 Z.out.2.2.2.2.1) (fun k hk hlt => hQ4.block k hlt (by have := hvo k hk; omega))
     refine ⟨v1, .slice An nn cn, .slice Ab lb cb, okn, tc, Ag, Aw, tn, cg, cw, given u0 u1 ns bx last o s m, ⟨rfl, rfl, rfl, by rw [hng], ?_, ?_, ⟨TL.out, htl⟩, ?_, ?_, ?_, ?_, ?_⟩⟩
     ·have h9 := (Kd.R_reads' G3).2.2
      rw [TL.out] at h9
      exact h9
     ·rw [hng]
      exact Z.out.2.2.1 _ _ (fun k hk => by rw [hk]; omega) hQ4
     ·rw [e1, e2, e3]
      refine D2.put hQ4 (by omega) (fun hm => ?_) (by omega) (fun hk => by have := hlw _ (.inr (.inl hk)); omega) (fun he => ?_)
      ·rcases hm with (hm | hm) | hm
       ·omega
       ·omega
       ·rcases hgr _ hm with h5 | h5
        ·have := hl0.2.2.2 _ h5
         omega
        ·omega
      ·rcases hob _ he with h5 | h5
       ·have := hlw _ (.inr (.inr h5))
        omega
       ·omega
     ·rw [e3]
      exact set5 Z.out.2.2.2.2.2
     ·exact hQ4.heap (blk_below X.out.2.2.2.2.2.1 Z.out.2.2.2.2.1) (by omega)
     ·exact but_drop (((But.of_below H.out.2.2.2.2.1).trans (X.out.2.1.mono fun k hk => .inl hk)).trans (But.of_below Z.out.2.2.2.2.1)) hQ4 (fun k hk => by omega)
     ·intro k hk
      rcases hk with (hk | hk) | hk | hk
      ·exact .inl (.inl (.inl hk))
      ·rcases hgr k hk with h5 | h5
       ·exact .inl (.inl (.inr h5))
       ·exact .inr (by omega)
      ·exact .inl (.inr (.inl hk))
      ·rcases hob k hk with h5 | h5
       ·exact .inl (.inr (.inr h5))
       ·exact .inr (by omega)
  ·as_aux_lemma =>
    have hla4 := H.out.2.2.1
    go_wp2_with fail
    refine (D0.out.hs.giveM o m s hla4).mono ?_
    rintro e w1 ⟨vo, v1, rfl, hS, hb, hgr, hvo⟩
    obtain ⟨hN, hBx⟩ := D0.out.rows hb
    have hlw := ML.out
    have hnm : ∀ k, w.heap.size ≤ k → ¬ May p g v k := fun k hk hm => by have := hlw k (.inl hm); omega
    have k1 := hb.heap H.out.2.2.2.2.2.1 (hnm _ (Nat.le_refl _))
    have k2 := hb.heap H.out.2.2.2.2.2.2.1 (hnm _ (by omega))
    have k3 := hb.heap H.out.2.2.2.2.2.2.2.1 (hnm _ (by omega))
    have k4 := hb.heap H.out.2.2.2.2.2.2.2.2.1 (hnm _ (by omega))
    have hs01 := hb.size
    have hRo := (hS.rows _ (List.mem_cons_self ..)).1
    obtain ⟨Ag, cg, e1⟩ := Kd.R_slice hRo
    dsimp only at e1
    subst e1
    have DT := dgive u0 u1 An A nn cn n c last o m s ns bx okn w0 w1 (But.below D0.out.hs.below (Nat.le_refl _) hb (fun k hk => D0.out.hs.may k hk)) hN hBx D0.out.hs.good hla4
    obtain ⟨tc, htc⟩ : ∃ tc, gcode u0 u1 ns bx o m = tc := ⟨_, rfl⟩
    rw [htc] at DT ⊢
    unfold dv at DT
    have DT := Aside0.mk DT
    obtain ⟨tn, htn⟩ : ∃ tn, (given u0 u1 ns bx last o s m).length = tn := ⟨_, rfl⟩
    have TL := Aside0.mk htn
    obtain ⟨l2, hl2⟩ : ∃ l2, last + ((given u0 u1 ns bx last o s m).length : Int) = l2 := ⟨_, rfl⟩
    rw [hl2] at hS
    replace DT := DT.out
    rw [hl2] at DT
    have DT := Aside0.mk DT
    have L2 := Aside0.mk hl2
    rw [htn] at hRo hvo ⊢
    clear hl2
    have X := Aside0.mk (And.intro hS (And.intro hb (And.intro hgr (And.intro hRo (And.intro hN (And.intro k3 (And.intro k4 hvo)))))))
    clear a1 a2 a3 a4 a5 a6 hS hb hN hBx hRo htn
    have q0 := (blk_cell k1 0).trans rfl
    have q1 := (blk_cell k1 1).trans rfl
    have q2 := (blk_cell k1 2).trans rfl
    have q3 := (blk_cell k1 3).trans rfl
    have q4 := (blk_cell k1 4).trans rfl
    have a4 := (blk_cell k2 4).trans rfl
    have a5 := (blk_cell k2 5).trans rfl
    have a6 := (blk_cell k2 6).trans rfl
    clear k1 k2 k3 k4
    dsimp only
    go_wp2_with fail
    refine DT.out.mono ?_
    rintro e w2 ⟨Ab, lb, cb, Aw, ng, cw, rfl, hRb, hob, hCw, hng, hb2⟩
    have k4 := blk_below X.out.2.2.2.2.2.2.1 hb2
    have Z := Aside0.mk (And.intro hRb (And.intro hob (And.intro hCw (And.intro hng (And.intro hb2 k4)))))
    have y0 := (blk_cell k4 0).trans rfl
    have y1 := (blk_cell k4 1).trans rfl
    have y2 := (blk_cell k4 2).trans rfl
    have y3 := (blk_cell k4 3).trans rfl
    have y4 := (blk_cell k4 4).trans rfl
    have g0 := blk_frozen k4 0
    have g1 := blk_frozen k4 1
    have g2 := blk_frozen k4 2
    have g3 := blk_frozen k4 3
    have g4 := blk_frozen k4 4
    clear q0 q1 q2 q3 q4 a4 a5 a6 hRb hob hCw hng hb2 k4 DT
    dsimp only
    go_wp2
    go_meet
    case rel =>
     have hq := H.out.2.2.2.1
     have e1 : acN u0 u1 ns ⟨xw, ⟨n0, ⟨n1, n2⟩⟩, o, s, m⟩ = ns := by simp [acN, hq]
     have e2 : acB u0 u1 ns bx last ⟨xw, ⟨n0, ⟨n1, n2⟩⟩, o, s, m⟩ = bx ++ given u0 u1 ns bx last o s m := by simp [acB, hq]
     have e3 : acL u0 u1 ns bx last ⟨xw, ⟨n0, ⟨n1, n2⟩⟩, o, s, m⟩ = l2 := by rw [← L2.out]; simp [acL, hq]
     have hs1 := X.out.2.1.size
     have hgr := X.out.2.2.1
     have hob := Z.out.2.1
     have hvo := X.out.2.2.2.2.2.2.2
     have hbw := H.out.1.hs.below.size
     have hl0 := H.out.1.hs.led.lt
     have hl1 := X.out.1.led.lt
     have hng : tn = ng := by rw [← Z.out.2.2.2.1]; exact TL.out.symm
     have htl : tn ≤ 1000000 := by rw [← TL.out]; have h1 := X.out.1.good.len; rw [List.length_append] at h1; omega
     have D2 : DS w0 w2 p b g u0 u1 ns v1 (bx ++ given u0 u1 ns bx last o s m) l2 (.slice An nn cn) (.slice Ab lb cb) okn := by
      refine ⟨(X.out.1.keep (fun r hr => by cases hr)).same Z.out.2.2.2.2.1, Kd.R_below X.out.2.2.2.2.1 Z.out.2.2.2.2.1, Z.out.1, fun k hk => ?_, fun k hk => ?_, fun k hk => ?_⟩
      ·obtain ⟨h1, h2, h3⟩ := H.out.1.okp k hk
       have hkl := hlw k (.inr (.inl hk))
       refine ⟨fun hm => ?_, h2, fun he => ?_⟩
       ·rcases hm with hm | hm
        ·exact h1 (.inl hm)
        ·rcases hgr k hm with h4 | h4
         ·exact h1 (.inr h4)
         ·omega
       ·rcases hob k he with h4 | h4
        ·exact h3 h4
        ·omega
      ·rcases hob k hk with h4 | h4
       ·obtain ⟨h1, h2⟩ := H.out.1.okb k h4
        have hkl := hlw k (.inr (.inr h4))
        refine ⟨fun hm => ?_, h2⟩
        rcases hm with hm | hm
        ·exact h1 (.inl hm)
        ·rcases hgr k hm with h5 | h5
         ·exact h1 (.inr h5)
         ·omega
       ·refine ⟨fun hm => ?_, by omega⟩
        rcases hm with (hm | hm) | hm
        ·omega
        ·omega
        ·have := hl1.2.2.2 k hm
         omega
      ·have := hlw k (.inr (.inl hk))
       have := Z.out.2.2.2.2.1.size
       omega
     have hQ4 := but5T (But.refl (fun k => k = w.heap.size + 3) w2) (q := w.heap.size + 3) rfl (.int .i64 u0) (.int .i64 u1) (.slice An nn cn) (.slice Ab lb cb) (.int .u32 l2)
     have G3 := Kd.R_step (Kd.R_below X.out.2.2.2.1 Z.out.2.2.2.2.1) (fun k hk hlt => hQ4.block k hlt (by have := hvo k hk; omega))
     refine ⟨v1, .slice An nn cn, .slice Ab lb cb, okn, tc, Ag, Aw, tn, cg, cw, given u0 u1 ns bx last o s m, ⟨rfl, rfl, rfl, by rw [hng], ?_, ?_, ⟨TL.out, htl⟩, ?_, ?_, ?_, ?_, ?_⟩⟩
     ·have h9 := (Kd.R_reads' G3).2.2
      rw [TL.out] at h9
      exact h9
     ·rw [hng]
      exact Z.out.2.2.1 _ _ (fun k hk => by rw [hk]; omega) hQ4
     ·rw [e1, e2, e3]
      refine D2.put hQ4 (by omega) (fun hm => ?_) (by omega) (fun hk => by have := hlw _ (.inr (.inl hk)); omega) (fun he => ?_)
      ·rcases hm with (hm | hm) | hm
       ·omega
       ·omega
       ·rcases hgr _ hm with h5 | h5
        ·have := hl0.2.2.2 _ h5
         omega
        ·omega
      ·rcases hob _ he with h5 | h5
       ·have := hlw _ (.inr (.inr h5))
        omega
       ·omega
     ·rw [e3]
      exact set5 Z.out.2.2.2.2.2
     ·exact hQ4.heap (blk_below X.out.2.2.2.2.2.1 Z.out.2.2.2.2.1) (by omega)
     ·exact but_drop (((But.of_below H.out.2.2.2.2.1).trans (X.out.2.1.mono fun k hk => .inl hk)).trans (But.of_below Z.out.2.2.2.2.1)) hQ4 (fun k hk => by omega)
     ·intro k hk
      rcases hk with (hk | hk) | hk | hk
      ·exact .inl (.inl (.inl hk))
      ·rcases hgr k hk with h5 | h5
       ·exact .inl (.inl (.inr h5))
       ·exact .inr (by omega)
      ·exact .inl (.inr (.inl hk))
      ·rcases hob k hk with h5 | h5
       ·exact .inl (.inr (.inr h5))
       ·exact .inr (by omega)
  ·as_aux_lemma =>
    go_wp2_with fail
    refine (D0.out.hs.takeB o m s).mono ?_
    rintro e w1 ⟨vo, v1, rfl, hS, hb, hgr, hvo⟩
    obtain ⟨hN, hBx⟩ := D0.out.rows hb
    have hlw := ML.out
    have hnm : ∀ k, w.heap.size ≤ k → ¬ May p g v k := fun k hk hm => by have := hlw k (.inl hm); omega
    have k1 := hb.heap H.out.2.2.2.2.2.1 (hnm _ (Nat.le_refl _))
    have k2 := hb.heap H.out.2.2.2.2.2.2.1 (hnm _ (by omega))
    have k3 := hb.heap H.out.2.2.2.2.2.2.2.1 (hnm _ (by omega))
    have k4 := hb.heap H.out.2.2.2.2.2.2.2.2.1 (hnm _ (by omega))
    have hs01 := hb.size
    have hRo := (hS.rows _ (List.mem_cons_self ..)).1
    obtain ⟨Ag, cg, e1⟩ := Kd.R_slice hRo
    dsimp only at e1
    subst e1
    have DT := dtake u0 u1 An A nn cn n c w0.heap.size last o m s bx w1 hBx (by have := D0.out.hs.below.size; omega) D0.out.hs.len D0.out.hs.good.ids
    obtain ⟨tc, htc⟩ : ∃ tc, tcode bx o s m = tc := ⟨_, rfl⟩
    rw [htc] at DT ⊢
    unfold dv at DT
    have DT := Aside0.mk DT
    obtain ⟨tn, htn⟩ : ∃ tn, (taken bx o s m).length = tn := ⟨_, rfl⟩
    have TL := Aside0.mk htn
    rw [htn] at hRo hvo ⊢
    have X := Aside0.mk (And.intro hS (And.intro hb (And.intro hgr (And.intro hRo (And.intro hN (And.intro k3 (And.intro k4 hvo)))))))
    clear a1 a2 a3 a4 a5 a6 hS hb hN hBx hRo htn
    have q0 := (blk_cell k1 0).trans rfl
    have q1 := (blk_cell k1 1).trans rfl
    have q2 := (blk_cell k1 2).trans rfl
    have q3 := (blk_cell k1 3).trans rfl
    have q4 := (blk_cell k1 4).trans rfl
    have a4 := (blk_cell k2 4).trans rfl
    have a5 := (blk_cell k2 5).trans rfl
    have a6 := (blk_cell k2 6).trans rfl
    clear k1 k2 k3 k4
    dsimp only
    go_wp2_with fail
    refine DT.out.mono ?_
    rintro e w2 ⟨Ab, lb, cb, Aw, ng, cw, rfl, hRb, hob, hCw, hng, hb2⟩
    have k4 := blk_below X.out.2.2.2.2.2.2.1 hb2
    have Z := Aside0.mk (And.intro hRb (And.intro hob (And.intro hCw (And.intro hng (And.intro hb2 k4)))))
    have y0 := (blk_cell k4 0).trans rfl
    have y1 := (blk_cell k4 1).trans rfl
    have y2 := (blk_cell k4 2).trans rfl
    have y3 := (blk_cell k4 3).trans rfl
    have y4 := (blk_cell k4 4).trans rfl
    have g0 := blk_frozen k4 0
    have g1 := blk_frozen k4 1
    have g2 := blk_frozen k4 2
    have g3 := blk_frozen k4 3
    have g4 := blk_frozen k4 4
    clear q0 q1 q2 q3 q4 a4 a5 a6 hRb hob hCw hng hb2 k4 DT
    dsimp only
    go_wp2
    go_meet
    case rel =>
     have hq := H.out.2.2.2.1
     have e1 : acN u0 u1 ns ⟨xw, ⟨n0, ⟨n1, n2⟩⟩, o, s, m⟩ = ns := by simp [acN, hq]
     have e2 : acB u0 u1 ns bx last ⟨xw, ⟨n0, ⟨n1, n2⟩⟩, o, s, m⟩ = leftN bx (taken bx o s m) := by simp [acB, hq]
     have e3 : acL u0 u1 ns bx last ⟨xw, ⟨n0, ⟨n1, n2⟩⟩, o, s, m⟩ = last := by simp [acL, hq]
     have hs1 := X.out.2.1.size
     have hgr := X.out.2.2.1
     have hob := Z.out.2.1
     have hvo := X.out.2.2.2.2.2.2.2
     have hbw := H.out.1.hs.below.size
     have hl0 := H.out.1.hs.led.lt
     have hl1 := X.out.1.led.lt
     have hng : tn = ng := by rw [← Z.out.2.2.2.1]; exact TL.out.symm
     have htl : tn ≤ 1000000 := by rw [← TL.out]; have h1 : (taken bx o s m).length ≤ bx.length := taken_le bx o s m; have := D0.out.hs.len; omega
     have D2 : DS w0 w2 p b g u0 u1 ns v1 (leftN bx (taken bx o s m)) last (.slice An nn cn) (.slice Ab lb cb) okn := by
      refine ⟨(X.out.1.keep (fun r hr => by cases hr)).same Z.out.2.2.2.2.1, Kd.R_below X.out.2.2.2.2.1 Z.out.2.2.2.2.1, Z.out.1, fun k hk => ?_, fun k hk => ?_, fun k hk => ?_⟩
      ·obtain ⟨h1, h2, h3⟩ := H.out.1.okp k hk
       have hkl := hlw k (.inr (.inl hk))
       refine ⟨fun hm => ?_, h2, fun he => ?_⟩
       ·rcases hm with hm | hm
        ·exact h1 (.inl hm)
        ·rcases hgr k hm with h4 | h4
         ·exact h1 (.inr h4)
         ·omega
       ·rcases hob k he with h4 | h4
        ·exact h3 h4
        ·omega
      ·rcases hob k hk with h4 | h4
       ·obtain ⟨h1, h2⟩ := H.out.1.okb k h4
        have hkl := hlw k (.inr (.inr h4))
        refine ⟨fun hm => ?_, h2⟩
        rcases hm with hm | hm
        ·exact h1 (.inl hm)
        ·rcases hgr k hm with h5 | h5
         ·exact h1 (.inr h5)
         ·omega
       ·refine ⟨fun hm => ?_, by omega⟩
        rcases hm with (hm | hm) | hm
        ·omega
        ·omega
        ·have := hl1.2.2.2 k hm
         omega
      ·have := hlw k (.inr (.inl hk))
       have := Z.out.2.2.2.2.1.size
       omega
     have hQ4 := but5T (But.refl (fun k => k = w.heap.size + 3) w2) (q := w.heap.size + 3) rfl (.int .i64 u0) (.int .i64 u1) (.slice An nn cn) (.slice Ab lb cb) (.int .u32 last)
     have G3 := Kd.R_step (Kd.R_below X.out.2.2.2.1 Z.out.2.2.2.2.1) (fun k hk hlt => hQ4.block k hlt (by have := hvo k hk; omega))
     refine ⟨v1, .slice An nn cn, .slice Ab lb cb, okn, tc, Ag, Aw, tn, cg, cw, taken bx o s m, ⟨rfl, rfl, rfl, by rw [hng], ?_, ?_, ⟨TL.out, htl⟩, ?_, ?_, ?_, ?_, ?_⟩⟩
     ·have h9 := (Kd.R_reads' G3).2.2
      rw [TL.out] at h9
      exact h9
     ·rw [hng]
      exact Z.out.2.2.1 _ _ (fun k hk => by rw [hk]; omega) hQ4
     ·rw [e1, e2, e3]
      refine D2.put hQ4 (by omega) (fun hm => ?_) (by omega) (fun hk => by have := hlw _ (.inr (.inl hk)); omega) (fun he => ?_)
      ·rcases hm with (hm | hm) | hm
       ·omega
       ·omega
       ·rcases hgr _ hm with h5 | h5
        ·have := hl0.2.2.2 _ h5
         omega
        ·omega
      ·rcases hob _ he with h5 | h5
       ·have := hlw _ (.inr (.inr h5))
        omega
       ·omega
     ·rw [e3]
      exact set5 Z.out.2.2.2.2.2
     ·exact hQ4.heap (blk_below X.out.2.2.2.2.2.1 Z.out.2.2.2.2.1) (by omega)
     ·exact but_drop (((But.of_below H.out.2.2.2.2.1).trans (X.out.2.1.mono fun k hk => .inl hk)).trans (But.of_below Z.out.2.2.2.2.1)) hQ4 (fun k hk => by omega)
     ·intro k hk
      rcases hk with (hk | hk) | hk | hk
      ·exact .inl (.inl (.inl hk))
      ·rcases hgr k hk with h5 | h5
       ·exact .inl (.inl (.inr h5))
       ·exact .inr (by omega)
      ·exact .inl (.inr (.inl hk))
      ·rcases hob k hk with h5 | h5
       ·exact .inl (.inr (.inr h5))
       ·exact .inr (by omega)
  ·as_aux_lemma =>
    go_wp2_with fail
    refine (D0.out.hs.takeB o m s).mono ?_
    rintro e w1 ⟨vo, v1, rfl, hS, hb, hgr, hvo⟩
    obtain ⟨hN, hBx⟩ := D0.out.rows hb
    have hlw := ML.out
    have hnm : ∀ k, w.heap.size ≤ k → ¬ May p g v k := fun k hk hm => by have := hlw k (.inl hm); omega
    have k1 := hb.heap H.out.2.2.2.2.2.1 (hnm _ (Nat.le_refl _))
    have k2 := hb.heap H.out.2.2.2.2.2.2.1 (hnm _ (by omega))
    have k3 := hb.heap H.out.2.2.2.2.2.2.2.1 (hnm _ (by omega))
    have k4 := hb.heap H.out.2.2.2.2.2.2.2.2.1 (hnm _ (by omega))
    have hs01 := hb.size
    have hRo := (hS.rows _ (List.mem_cons_self ..)).1
    obtain ⟨Ag, cg, e1⟩ := Kd.R_slice hRo
    dsimp only at e1
    subst e1
    have DT := dtake u0 u1 An A nn cn n c w0.heap.size last o m s bx w1 hBx (by have := D0.out.hs.below.size; omega) D0.out.hs.len D0.out.hs.good.ids
    obtain ⟨tc, htc⟩ : ∃ tc, tcode bx o s m = tc := ⟨_, rfl⟩
    rw [htc] at DT ⊢
    unfold dv at DT
    have DT := Aside0.mk DT
    obtain ⟨tn, htn⟩ : ∃ tn, (taken bx o s m).length = tn := ⟨_, rfl⟩
    have TL := Aside0.mk htn
    rw [htn] at hRo hvo ⊢
    have X := Aside0.mk (And.intro hS (And.intro hb (And.intro hgr (And.intro hRo (And.intro hN (And.intro k3 (And.intro k4 hvo)))))))
    clear a1 a2 a3 a4 a5 a6 hS hb hN hBx hRo htn
    have q0 := (blk_cell k1 0).trans rfl
    have q1 := (blk_cell k1 1).trans rfl
    have q2 := (blk_cell k1 2).trans rfl
    have q3 := (blk_cell k1 3).trans rfl
    have q4 := (blk_cell k1 4).trans rfl
    have a4 := (blk_cell k2 4).trans rfl
    have a5 := (blk_cell k2 5).trans rfl
    have a6 := (blk_cell k2 6).trans rfl
    clear k1 k2 k3 k4
    dsimp only
    go_wp2_with fail
    refine DT.out.mono ?_
    rintro e w2 ⟨Ab, lb, cb, Aw, ng, cw, rfl, hRb, hob, hCw, hng, hb2⟩
    have k4 := blk_below X.out.2.2.2.2.2.2.1 hb2
    have Z := Aside0.mk (And.intro hRb (And.intro hob (And.intro hCw (And.intro hng (And.intro hb2 k4)))))
    have y0 := (blk_cell k4 0).trans rfl
    have y1 := (blk_cell k4 1).trans rfl
    have y2 := (blk_cell k4 2).trans rfl
    have y3 := (blk_cell k4 3).trans rfl
    have y4 := (blk_cell k4 4).trans rfl
    have g0 := blk_frozen k4 0
    have g1 := blk_frozen k4 1
    have g2 := blk_frozen k4 2
    have g3 := blk_frozen k4 3
    have g4 := blk_frozen k4 4
    clear q0 q1 q2 q3 q4 a4 a5 a6 hRb hob hCw hng hb2 k4 DT
    dsimp only
    go_wp2
    go_meet
    case rel =>
     have hq := H.out.2.2.2.1
     have e1 : acN u0 u1 ns ⟨xw, ⟨n0, ⟨n1, n2⟩⟩, o, s, m⟩ = ns := by simp [acN, hq]
     have e2 : acB u0 u1 ns bx last ⟨xw, ⟨n0, ⟨n1, n2⟩⟩, o, s, m⟩ = leftN bx (taken bx o s m) := by simp [acB, hq]
     have e3 : acL u0 u1 ns bx last ⟨xw, ⟨n0, ⟨n1, n2⟩⟩, o, s, m⟩ = last := by simp [acL, hq]
     have hs1 := X.out.2.1.size
     have hgr := X.out.2.2.1
     have hob := Z.out.2.1
     have hvo := X.out.2.2.2.2.2.2.2
     have hbw := H.out.1.hs.below.size
     have hl0 := H.out.1.hs.led.lt
     have hl1 := X.out.1.led.lt
     have hng : tn = ng := by rw [← Z.out.2.2.2.1]; exact TL.out.symm
     have htl : tn ≤ 1000000 := by rw [← TL.out]; have h1 : (taken bx o s m).length ≤ bx.length := taken_le bx o s m; have := D0.out.hs.len; omega
     have D2 : DS w0 w2 p b g u0 u1 ns v1 (leftN bx (taken bx o s m)) last (.slice An nn cn) (.slice Ab lb cb) okn := by
      refine ⟨(X.out.1.keep (fun r hr => by cases hr)).same Z.out.2.2.2.2.1, Kd.R_below X.out.2.2.2.2.1 Z.out.2.2.2.2.1, Z.out.1, fun k hk => ?_, fun k hk => ?_, fun k hk => ?_⟩
      ·obtain ⟨h1, h2, h3⟩ := H.out.1.okp k hk
       have hkl := hlw k (.inr (.inl hk))
       refine ⟨fun hm => ?_, h2, fun he => ?_⟩
       ·rcases hm with hm | hm
        ·exact h1 (.inl hm)
        ·rcases hgr k hm with h4 | h4
         ·exact h1 (.inr h4)
         ·omega
       ·rcases hob k he with h4 | h4
        ·exact h3 h4
        ·omega
      ·rcases hob k hk with h4 | h4
       ·obtain ⟨h1, h2⟩ := H.out.1.okb k h4
        have hkl := hlw k (.inr (.inr h4))
        refine ⟨fun hm => ?_, h2⟩
        rcases hm with hm | hm
        ·exact h1 (.inl hm)
        ·rcases hgr k hm with h5 | h5
         ·exact h1 (.inr h5)
         ·omega
       ·refine ⟨fun hm => ?_, by omega⟩
        rcases hm with (hm | hm) | hm
        ·omega
        ·omega
        ·have := hl1.2.2.2 k hm
         omega
      ·have := hlw k (.inr (.inl hk))
       have := Z.out.2.2.2.2.1.size
       omega
     have hQ4 := but5T (But.refl (fun k => k = w.heap.size + 3) w2) (q := w.heap.size + 3) rfl (.int .i64 u0) (.int .i64 u1) (.slice An nn cn) (.slice Ab lb cb) (.int .u32 last)
     have G3 := Kd.R_step (Kd.R_below X.out.2.2.2.1 Z.out.2.2.2.2.1) (fun k hk hlt => hQ4.block k hlt (by have := hvo k hk; omega))
     refine ⟨v1, .slice An nn cn, .slice Ab lb cb, okn, tc, Ag, Aw, tn, cg, cw, taken bx o s m, ⟨rfl, rfl, rfl, by rw [hng], ?_, ?_, ⟨TL.out, htl⟩, ?_, ?_, ?_, ?_, ?_⟩⟩
     ·have h9 := (Kd.R_reads' G3).2.2
      rw [TL.out] at h9
      exact h9
     ·rw [hng]
      exact Z.out.2.2.1 _ _ (fun k hk => by rw [hk]; omega) hQ4
     ·rw [e1, e2, e3]
      refine D2.put hQ4 (by omega) (fun hm => ?_) (by omega) (fun hk => by have := hlw _ (.inr (.inl hk)); omega) (fun he => ?_)
      ·rcases hm with (hm | hm) | hm
       ·omega
       ·omega
       ·rcases hgr _ hm with h5 | h5
        ·have := hl0.2.2.2 _ h5
         omega
        ·omega
      ·rcases hob _ he with h5 | h5
       ·have := hlw _ (.inr (.inr h5))
        omega
       ·omega
     ·rw [e3]
      exact set5 Z.out.2.2.2.2.2
     ·exact hQ4.heap (blk_below X.out.2.2.2.2.2.1 Z.out.2.2.2.2.1) (by omega)
     ·exact but_drop (((But.of_below H.out.2.2.2.2.1).trans (X.out.2.1.mono fun k hk => .inl hk)).trans (But.of_below Z.out.2.2.2.2.1)) hQ4 (fun k hk => by omega)
     ·intro k hk
      rcases hk with (hk | hk) | hk | hk
      ·exact .inl (.inl (.inl hk))
      ·rcases hgr k hk with h5 | h5
       ·exact .inl (.inl (.inr h5))
       ·exact .inr (by omega)
      ·exact .inl (.inr (.inl hk))
      ·rcases hob k hk with h5 | h5
       ·exact .inl (.inr (.inr h5))
       ·exact .inr (by omega)
 case rest =>
  obtain ⟨v', vn', vb', okn', er, Ag, Aw, ng, cg, cw, ot, hD⟩ := hcut
  have e9 := hD.e9
  have e10 := hD.e10
  have e11 := hD.e11
  have e12 := hD.e12
  subst e9
  subst e10
  subst e11
  subst e12
  obtain ⟨An2, cn2, rfl⟩ := Kd.R_slice hD.ds.nrow
  obtain ⟨A2, c2, rfl⟩ := Kd.R_slice hD.ds.brow
  obtain ⟨nn2, hnn2⟩ : ∃ nn2, (acN u0 u1 ns ⟨xw, ⟨n0, ⟨n1, n2⟩⟩, o, s, m⟩).length = nn2 := ⟨_, rfl⟩
  obtain ⟨nb2, hnb2⟩ : ∃ nb2, (acB u0 u1 ns bx last ⟨xw, ⟨n0, ⟨n1, n2⟩⟩, o, s, m⟩).length = nb2 := ⟨_, rfl⟩
  obtain ⟨la, hlae⟩ : ∃ la, acL u0 u1 ns bx last ⟨xw, ⟨n0, ⟨n1, n2⟩⟩, o, s, m⟩ = la := ⟨_, rfl⟩
  have K4 := hD.q4
  have K3 := hD.q3
  rw [hnn2, hnb2, hlae] at K4
  have SM := fun w' (h : Below wc.heap.size wc w') => dsame ot Ag Aw ng cg cw w' (Kd.C_below hD.got h) (Kd.C_below hD.want h) hD.len.1 hD.len.2
  have SM := Aside0.mk SM
  have D := Aside0.mk hD
  have K := Aside0.mk (And.intro K4 K3)
  have N := Aside0.mk (And.intro hnn2 (And.intro hnb2 hlae))
  clear hD K4 K3 hnn2 hnb2 hlae
  go_upto_region 17 with (fail)
  refine XInv.region_tab [] [[], [], [], [1, 2], [3], [4], [4], [5, 6, 4, 4], [4, 7], [0, 7, 0], [8, 9, 0, 1, 2, 3, 4, 5, 6, 7, 8, 9]] (fun bq jq => match jq with
    | 0 => .agg #[.int .i64 u0, .int .i64 u1, .slice An2 nn2 cn2, .slice A2 nb2 c2, .int .u32 la]
    | 1 => .int .i64 er
    | 2 => .int .i64 er
    | 3 => .bool true
    | 4 => .bool true
    | 5 => .slice Ag ng cg
    | 6 => .slice Aw ng cw
    | 7 => .bool true
    | 8 => .bool true
    | 9 => undef
    | 10 => .bool true
    | _ => undef)
    (fun bq l w' => if l 9 = true then (∃ wz, Below wc.heap.size wc wz ∧ w' = (((((wz.setCell ⟨w.heap.size + 2, 0, none⟩ (.int .i64 u0)).setCell ⟨w.heap.size + 2, 1, none⟩ (.int .i64 u1)).setCell ⟨w.heap.size + 2, 2, none⟩ (.slice An2 nn2 cn2)).setCell ⟨w.heap.size + 2, 3, none⟩ (.slice A2 nb2 c2)).setCell ⟨w.heap.size + 2, 4, none⟩ (.int .u32 la))) else Below wc.heap.size wc w')
    (by kernel_rfl) rfl (by kernel_rfl) (by kernel_rfl) (by kernel_rfl) ⟨fun _ : Nat => (0 : Nat), (by rw [if_neg (by simp)]; exact below_drew (Below.refl _ _))⟩ ?_ ?_
  ·intro i1 hi1 hds oi hoi bq lb w' hW hlb hcl hneed hclo
   have hi1 : i1 < 11 := hi1
   have hcs : i1 = 0 ∨ i1 = 1 ∨ i1 = 2 ∨ i1 = 3 ∨ i1 = 4 ∨ i1 = 5 ∨ i1 = 6 ∨ i1 = 7 ∨ i1 = 8 ∨ i1 = 9 ∨ i1 = 10 := by omega
   clear hi1
   rcases hcs with rfl | rfl | rfl | rfl | rfl | rfl | rfl | rfl | rfl | rfl | rfl
   all_goals simp only [List.getElem?_toArray, List.getElem?_cons_succ, List.getElem?_cons_zero, Option.some.injEq] at hoi
   all_goals subst hoi
   ·refine XInv.yes_tab [] (by kernel_rfl) ?_
    have hs0 := hcl 9 (by decide) (by kernel_rfl)
    rw [if_neg (by rw [hs0]; decide)] at hW
    have ka := blk_below K.out.1 hW
    have q0 := (blk_cell ka 0).trans rfl
    have q1 := (blk_cell ka 1).trans rfl
    have q2 := (blk_cell ka 2).trans rfl
    have q3 := (blk_cell ka 3).trans rfl
    have q4 := (blk_cell ka 4).trans rfl
    have kb := blk_below K.out.2 hW
    have r0 := (blk_cell kb 0).trans rfl
    have r1 := (blk_cell kb 1).trans rfl
    have r2 := (blk_cell kb 2).trans rfl
    have r3 := (blk_cell kb 3).trans rfl
    have r4 := (blk_cell kb 4).trans rfl
    have g0 := blk_frozen kb 0
    have g1 := blk_frozen kb 1
    have g2 := blk_frozen kb 2
    have g3 := blk_frozen kb 3
    have g4 := blk_frozen kb 4
    clear hcl hneed hclo
    intro Q2 K2 hK2
    simp only [XInv.puts, XPrint.pw]
    go_simp
    exact hK2.out (.agg #[.int .i64 u0, .int .i64 u1, .slice An2 nn2 cn2, .slice A2 nb2 c2, .int .u32 la]) w' ⟨bq, rfl, (by intros; first | rfl | trivial), (by rw [if_neg (by simp [XInv.up, hs0])]; exact hW)⟩
   ·refine XInv.yes_tab [] (by kernel_rfl) ?_
    have hs0 := XInv.unreach hclo [7, 4, 3] 9 1 (by kernel_rfl) hlb
    rw [if_neg (by rw [hs0]; decide)] at hW
    clear hcl hneed hclo
    intro Q2 K2 hK2
    simp only [XInv.puts, XPrint.pw]
    go_simp
    exact hK2.out (.int .i64 er) w' ⟨bq, rfl, (by intros; first | rfl | trivial), (by rw [if_neg (by simp [XInv.up, hs0])]; exact hW)⟩
   ·refine XInv.yes_tab [] (by kernel_rfl) ?_
    have hs0 := XInv.unreach hclo [7, 4, 3] 9 2 (by kernel_rfl) hlb
    rw [if_neg (by rw [hs0]; decide)] at hW
    clear hcl hneed hclo
    intro Q2 K2 hK2
    simp only [XInv.puts, XPrint.pw]
    go_simp
    exact hK2.out (.int .i64 er) w' ⟨bq, rfl, (by intros; first | rfl | trivial), (by rw [if_neg (by simp [XInv.up, hs0])]; exact hW)⟩
   ·refine XInv.yes_tab [(102, 2), (101, 1)] (by kernel_rfl) ?_
    have hs0 := XInv.unreach hclo [7, 4] 9 3 (by kernel_rfl) hlb
    rw [if_neg (by rw [hs0]; decide)] at hW
    clear hcl hneed hclo
    intro Q2 K2 hK2
    simp only [XInv.puts, XPrint.pw]
    go_simp
    exact hK2.out (.bool true) w' ⟨bq, rfl, (by intros; first | rfl | trivial), (by rw [if_neg (by simp [XInv.up, hs0])]; exact hW)⟩
   ·refine XInv.yes_tab [(103, 3)] (by kernel_rfl) ?_
    have hs0 := XInv.unreach hclo [7] 9 4 (by kernel_rfl) hlb
    rw [if_neg (by rw [hs0]; decide)] at hW
    clear hcl hneed hclo
    intro Q2 K2 hK2
    simp only [XInv.puts, XPrint.pw]
    go_simp
    exact hK2.out (.bool true) w' ⟨bq, rfl, (by intros; first | rfl | trivial), (by rw [if_neg (by simp [XInv.up, hs0])]; exact hW)⟩
   ·refine XInv.yes_tab [(104, 4)] (by kernel_rfl) ?_
    have hs0 := XInv.unreach hclo [7] 9 5 (by kernel_rfl) hlb
    rw [if_neg (by rw [hs0]; decide)] at hW
    clear hcl hneed hclo
    intro Q2 K2 hK2
    simp only [XInv.puts, XPrint.pw]
    go_simp
    exact hK2.out (.slice Ag ng cg) w' ⟨bq, rfl, (by intros; first | rfl | trivial), (by rw [if_neg (by simp [XInv.up, hs0])]; exact hW)⟩
   ·refine XInv.yes_tab [(104, 4)] (by kernel_rfl) ?_
    have hs0 := XInv.unreach hclo [7] 9 6 (by kernel_rfl) hlb
    rw [if_neg (by rw [hs0]; decide)] at hW
    clear hcl hneed hclo
    intro Q2 K2 hK2
    simp only [XInv.puts, XPrint.pw]
    go_simp
    exact hK2.out (.slice Aw ng cw) w' ⟨bq, rfl, (by intros; first | rfl | trivial), (by rw [if_neg (by simp [XInv.up, hs0])]; exact hW)⟩
   ·refine XInv.yes_tab [(106, 6), (105, 5), (104, 4)] (by kernel_rfl) ?_
    have hs0 := hcl 9 (by decide) (by kernel_rfl)
    rw [if_neg (by rw [hs0]; decide)] at hW
    have ka := blk_below K.out.1 hW
    have q0 := (blk_cell ka 0).trans rfl
    have q1 := (blk_cell ka 1).trans rfl
    have q2 := (blk_cell ka 2).trans rfl
    have q3 := (blk_cell ka 3).trans rfl
    have q4 := (blk_cell ka 4).trans rfl
    have kb := blk_below K.out.2 hW
    have r0 := (blk_cell kb 0).trans rfl
    have r1 := (blk_cell kb 1).trans rfl
    have r2 := (blk_cell kb 2).trans rfl
    have r3 := (blk_cell kb 3).trans rfl
    have r4 := (blk_cell kb 4).trans rfl
    have g0 := blk_frozen kb 0
    have g1 := blk_frozen kb 1
    have g2 := blk_frozen kb 2
    have g3 := blk_frozen kb 3
    have g4 := blk_frozen kb 4
    clear hcl hneed
    intro Q2 K2 hK2
    simp only [XInv.puts, XPrint.pw]
    go_simp
    go_at_call 29
    (with_reducible refine (SM.out _ hW).mono ?_)
    rintro e wz ⟨rfl, hb⟩
    exact hK2.out (.bool true) wz ⟨bq, rfl, (by intros; first | rfl | trivial), (by rw [if_neg (by simp [XInv.up, hs0])]; exact below_step hW hb)⟩
   ·refine XInv.yes_tab [(107, 7), (104, 4)] (by kernel_rfl) ?_
    cases hs0 : lb 9
    case false =>
     rw [if_neg (by rw [hs0]; decide)] at hW
     clear hcl hneed hclo
     intro Q2 K2 hK2
     simp only [XInv.puts, XPrint.pw]
     go_simp
     exact hK2.out (.bool true) w' ⟨bq, rfl, (by intros; first | rfl | trivial), (by rw [if_neg (by simp [XInv.up, hs0])]; exact hW)⟩
    case true =>
     rw [if_pos hs0] at hW
     clear hcl hneed hclo
     intro Q2 K2 hK2
     simp only [XInv.puts, XPrint.pw]
     go_simp
     exact hK2.out (.bool true) w' ⟨bq, rfl, (by intros; first | rfl | trivial), (by rw [if_pos (by simp [XInv.up, hs0])]; exact hW)⟩
   ·refine XInv.yes_tab [(107, 7), (100, 0)] (by kernel_rfl) ?_
    have hs0 := hlb
    rw [if_neg (by rw [hs0]; decide)] at hW
    have ka := blk_below K.out.1 hW
    have q0 := (blk_cell ka 0).trans rfl
    have q1 := (blk_cell ka 1).trans rfl
    have q2 := (blk_cell ka 2).trans rfl
    have q3 := (blk_cell ka 3).trans rfl
    have q4 := (blk_cell ka 4).trans rfl
    have kb := blk_below K.out.2 hW
    have r0 := (blk_cell kb 0).trans rfl
    have r1 := (blk_cell kb 1).trans rfl
    have r2 := (blk_cell kb 2).trans rfl
    have r3 := (blk_cell kb 3).trans rfl
    have r4 := (blk_cell kb 4).trans rfl
    have g0 := blk_frozen kb 0
    have g1 := blk_frozen kb 1
    have g2 := blk_frozen kb 2
    have g3 := blk_frozen kb 3
    have g4 := blk_frozen kb 4
    clear hcl hneed
    intro Q2 K2 hK2
    simp only [XInv.puts, XPrint.pw]
    go_simp
    exact hK2.out undef _ ⟨bq, rfl, (by intros; first | rfl | trivial), (by rw [if_pos (by simp [XInv.up, hs0])]; exact ⟨w', hW, rfl⟩)⟩
   ·refine XInv.yes_tab [(108, 8), (107, 7), (106, 6), (105, 5), (104, 4), (103, 3), (102, 2), (101, 1), (100, 0)] (by kernel_rfl) ?_
    have hs0 := hneed 9 (by kernel_rfl)
    rw [if_pos hs0] at hW
    clear hcl hneed hclo
    intro Q2 K2 hK2
    simp only [XInv.puts, XPrint.pw] at hK2 ⊢
    go_simp
    exact hK2.out (.bool true) w' ⟨bq, rfl, (by intros; first | rfl | trivial), (by rw [if_pos (by simp [XInv.up, hs0])]; exact hW)⟩
  ·intro bq w' hW
   refine XInv.end_nil [(7, 10), (108, 8), (107, 7), (106, 6), (105, 5), (104, 4), (103, 3), (102, 2), (101, 1), (100, 0)] (by kernel_rfl) (by kernel_rfl) ?_
   simp only [XInv.puts, XPrint.pw]
   rw [if_pos (by kernel_rfl)] at hW
   obtain ⟨wz, hbz, rfl⟩ := hW
   have z0 := set5 (b0 := .int .i64 u0) (b1 := .int .i64 u1) (b2 := .slice An2 nn2 cn2) (b3 := .slice A2 nb2 c2) (b4 := .int .u32 la) (blk_below K.out.2 hbz)
   have y0 := (blk_cell z0 0).trans rfl
   have y1 := (blk_cell z0 1).trans rfl
   have y2 := (blk_cell z0 2).trans rfl
   have y3 := (blk_cell z0 3).trans rfl
   have y4 := (blk_cell z0 4).trans rfl
   have E := Aside0.mk hbz
   clear hbz
   go_wp2
   have hlw := ML.out
   have hbw := H.out.1.hs.below.size
   have hbl := H.out.1.hs.led.lt.2.1
   have hcs := D.out.but.size
   have hQ3 := but5T (But.refl (fun k => k = w.heap.size + 2) wz) (q := w.heap.size + 2) rfl (.int .i64 u0) (.int .i64 u1) (.slice An2 nn2 cn2) (.slice A2 nb2 c2) (.int .u32 la)
   refine bodyPost_ret (v := .tuple #[dv u0 u1 (.slice An2 nn2 cn2) (.slice A2 nb2 c2) la, .bool true]) (by simp [results, Tryz.results25, go_sem, dv, y0, y1, y2, y3, y4]) rfl ⟨v', .slice An2 nn2 cn2, .slice A2 nb2 c2, okn', by rw [N.out.2.2]; rfl, ?_, ?_, ?_⟩
   ·have D2 := D.out.ds
    rw [N.out.1, N.out.2.1] at D2
    have ho := D.out.own
    rw [N.out.2.1] at ho
    refine (D2.same E.out).put hQ3 (by omega) (fun hm => ?_) (by omega) (fun hk => ?_) (fun he => ?_)
    ·rcases ho _ (.inl hm) with h | h
     ·have := hlw _ h; omega
     ·omega
    ·rcases ho _ (.inr (.inl hk)) with h | h
     ·have := hlw _ h; omega
     ·omega
    ·rcases ho _ (.inr (.inr he)) with h | h
     ·have := hlw _ h; omega
     ·omega
   ·exact but_drop (D.out.but.trans (But.of_below E.out)) hQ3 (fun k hk => by omega)
   ·have ho := D.out.own
    rw [N.out.2.1] at ho
    exact fun k hk => (ho k hk).elim .inl (fun h => .inr (by omega))
theorem given_le {u0 u1 : Int} {ns : List Nd} {bx : List Bx} {last o m : Int} {s : Bool} (hb : (decide (200 < m) && decide (m ≤ 1048576)) = false) : last + ((given u0 u1 ns bx last o s m).length : Int) ≤ last + 200 := by
 rw [given_len]
 split
 ·rename_i hc
  unfold gcode at hc
  split at hc
  ·cases hc
  ·rename_i hm
   have := mayc_zero hm
   rcases Bool.and_eq_false_iff.1 hb with h1 | h1
   ·have := of_decide_eq_false h1
    omega
   ·have := of_decide_eq_false h1
    omega
 ·omega
theorem acL_le {u0 u1 : Int} {ns : List Nd} {bx : List Bx} {last : Int} {x : Ac} (hb : big x = false) : acL u0 u1 ns bx last x ≤ last + 200 := by
 unfold acL
 split
 ·exact given_le hb
 ·omega
theorem DS.new {w0 w1 w2 : World} {p b g : Nat} {u0 u1 : Int} {vn : Value} (h : HS w0 w1 p b g u0 u1 [] (.slice none 0 0) [] 0 []) (hR : RNd w2 w1.heap.size (fun _ => True) vn []) (hb : Below w1.heap.size w1 w2) : DS w0 w2 p b g u0 u1 [] (.slice none 0 0) [] 0 vn (.slice none 0 0) (fun k => w1.heap.size ≤ k ∧ k < w2.heap.size) := by
 have hl := h.led.lt
 refine ⟨h.same hb, Kd.R_mono (Kd.R_lower (Kd.R_bound hR) h.below.size) (fun k hk => ⟨hk.2.1, hk.2.2.1⟩), Kd.R_nil _ _ w2 w0.heap.size _, fun k hk => ⟨fun hm => ?_, by omega, by simp [Value.ownBlock]⟩, fun k hk => by simp [Value.ownBlock] at hk, fun k hk => hk.2⟩
 rcases hm with (hm | hm) | hm
 ·omega
 ·omega
 ·simp [Value.ownBlock] at hm
abbrev CB := (Nat × Nat) × (Option Addr × Nat) × Nat
structure CW (W0 : World) (u0 u1 : Int) (ns : List Nd) (bx : List Bx) (n : Nat) (bq : CB) (l : Nat → Bool) (w' : World) : Prop where
 below : Below W0.heap.size W0 w'
 tab : l 4 = true → TabAt w' W0.heap.size bq.1.1 bq.1.2 u0 u1 ns
 row : l 9 = true → RB w' W0.heap.size (.slice bq.2.1.1 n bq.2.1.2) bx
 own : l 4 = true → l 9 = true → ∀ k, (Value.slice bq.2.1.1 n bq.2.1.2).ownBlock = some k → k ≠ bq.1.1 ∧ k ≠ bq.1.2
 box : l 11 = true → w'.heap[bq.2.2]? = some (.cells #[.pointer (some ⟨bq.1.1, 0, none⟩), .slice bq.2.1.1 n bq.2.1.2, .int .u32 0] 107 (0, 0)) ∧ bq.2.2 ≠ bq.1.1 ∧ bq.2.2 ≠ bq.1.2 ∧ W0.heap.size ≤ bq.2.2 ∧ ∀ k, (Value.slice bq.2.1.1 n bq.2.1.2).ownBlock = some k → k ≠ bq.2.2
section
variable {W0 w' w1 : World} {u0 u1 : Int} {ns : List Nd} {bx : List Bx} {n : Nat} {bq : CB} {l : Nat → Bool}
theorem CW.s4 (h : CW W0 u0 u1 ns bx n bq l w') (h11 : l 11 = false) {b g : Nat} (hb : Below w'.heap.size w' w1) (hT : TabAt w1 w'.heap.size b g u0 u1 ns) : CW W0 u0 u1 ns bx n ((b, g), bq.2) (XInv.up l 4) w1 := by
 refine ⟨below_step h.below hb, fun _ => tab_low hT h.below.size, fun h9 => Kd.R_below (h.row (by simpa [XInv.up] using h9)) hb, fun _ h9 k hk => ?_, fun e => by simp [XInv.up, h11] at e⟩
 have h1 := Kd.R_lt (h.row (by simpa [XInv.up] using h9)) k hk
 have h2 := hT.base1
 have h3 := hT.base2
 exact ⟨by dsimp only; omega, by dsimp only; omega⟩
end
end Go.Proofs.YthibppfdonepoaaGreat.LedT
set_option linter.unusedVariables false
set_option linter.unusedSimpArgs false
namespace Go.Proofs.YthibppfdonepoaaGreat.LedT
open Go.RowKit Go.MapKept Go.Maps Go.ChangeMaps Go.Proofs.YthibppfdonepoaaGreat.XBut Go.Proofs.YthibppfdonepoaaGreat.XMap Go.Proofs.YthibppfdonepoaaGreat.NodeT Go.Proofs.YthibppfdonepoaaGreat.Srt Go.Proofs.YthibppfdonepoaaGreatW.PrintWords Go.Proofs.YthibppfdonepoaaGreatW.PrintLast
def cpRen : Go.Shelf.Ren := ⟨fun | 43 => 93 | n => n, fun | 22 => 43 | 23 => 35 | n => n, fun | n => n⟩
theorem cpLays : Go.Proofs.SlLaysE.n43 Tryz.prog cpRen := {
 mixed := by kernel_rfl
 f43 := ⟨"slices.Compact[[]uint32,uint32]", by decide, Tryz.func93.trans (congrArg some (by kernel_rfl))⟩
 t0 := Tryz.underlying0
 a0 := Tryz.isAgg0
 z0 := Tryz.sizeOf0
 v0 := Tryz.zeroValue0
 t3 := Tryz.underlying3
 a3 := Tryz.isAgg3
 z3 := Tryz.sizeOf3
 v3 := Tryz.zeroValue3
 t4 := Tryz.underlying4
 a4 := Tryz.isAgg4
 z4 := Tryz.sizeOf4
 v4 := Tryz.zeroValue4
 t22 := Tryz.underlying43
 a22 := Tryz.isAgg43
 z22 := Tryz.sizeOf43
 v22 := Tryz.zeroValue43
 a23 := Tryz.isAgg35
 z23 := Tryz.sizeOf35 }
abbrev U32 := Value.int .u32
def dd (xs : List Int) : List Int := Go.Lib.compactUpTo xs.toArray xs.length
theorem dd_len (xs : List Int) : (dd xs).length ≤ xs.length := by
 unfold dd Go.Lib.compactUpTo
 rw [List.length_map]
 exact Nat.le_trans (List.length_filter_le _ _) (by simp)
theorem compact (base g cap n : Nat) (xs : List Int) (w : World) (ho : w.ownsRow base 35 1 (.slice (some ⟨g, 0, none⟩) n cap) n (xs.map U32)) :
  Calls Tryz.prog 93 #[.slice (some ⟨g, 0, none⟩) n cap] w fun e w' => e = .returned (.slice (some ⟨g, 0, none⟩) (dd xs).length cap) ∧ w'.ownsRow base 35 1 (.slice (some ⟨g, 0, none⟩) (dd xs).length cap) (dd xs).length ((dd xs).map U32) ∧ But (fun k => k = g) w w' := by
 obtain ⟨g', cap', hv, hb, hg, hn, hm, hl, hH⟩ := Go.Lib.holds_of_ownsRow ho (by simp)
 injection hv with h1 h2 h3
 injection h1 with h1
 injection h1 with h1
 subst h1
 subst h3
 have hmax : maxLen ≤ 9223372036854775807 := by decide
 have hsz : xs.toArray.size = n := by simpa using hl
 have K := Go.Proofs.AnyE.slices_Compact (ρ := cpRen) cpLays U32 (fun _ => rfl) (Go.Proofs.EqlAt.intD _ _ .u32) (Go.Proofs.NeqAt.intD _ _ .u32) 0 Tryz.zeroValue35 g 0 cap xs.toArray w hH (by omega) (by omega)
 rw [hsz] at K
 refine Calls.mono K ?_
 rintro e w' ⟨rfl, q, rfl⟩
 have hd : dd xs = Go.Lib.compactUpTo xs.toArray n := by unfold dd; rw [hl]
 have hle := dd_len xs
 rw [hl] at hle
 refine ⟨by rw [hd], ?_, ?_⟩
 ·rw [← hd]
  have h := Go.Lib.ownsRow_putRow (q := q) (k := (dd xs).length) (ys := dd xs ++ List.replicate (n - (dd xs).length) 0) ho (by rw [List.length_append, List.length_replicate]; omega) hle
  rw [List.take_left] at h
  exact h
 ·exact ⟨rfl, rfl, rfl, by simp [Go.Sort.putRow, Go.Sort.mapBlock, Go.Sort.ahead], fun k hk hn => by simp [Go.Sort.putRow, Go.Sort.mapBlock, Go.Sort.ahead, Array.getElem?_modify, show g ≠ k from fun e => hn e.symm]⟩
theorem dd_facts (xs : List Int) (h : xs.Pairwise (fun a b : Int => a ≤ b)) : (dd xs).Pairwise (fun a b : Int => a < b) ∧ ∀ a, a ∈ dd xs ↔ a ∈ xs := by
 have key : ∀ m, m ≤ xs.length → (Go.Lib.compactUpTo xs.toArray m).Pairwise (fun a b : Int => a < b) ∧ (∀ a, a ∈ Go.Lib.compactUpTo xs.toArray m ↔ a ∈ xs.take m) := by
  intro m
  induction m with
  | zero => exact fun _ => ⟨by simp [Go.Lib.compactUpTo], fun a => by simp [Go.Lib.compactUpTo]⟩
  | succ m ih =>
   intro hm
   obtain ⟨h1, h2⟩ := ih (by omega)
   have hlt : m < xs.length := by omega
   have em : xs.toArray[m]! = xs[m] := by rw [getElem!_pos xs.toArray m (by simpa using hlt)]; simp
   have et : xs.take (m + 1) = xs.take m ++ [xs[m]] := by rw [List.take_add_one, List.getElem?_eq_getElem hlt]; rfl
   rw [Go.Lib.compactUpTo_succ, em, et]
   by_cases hk : Go.Lib.keeps xs.toArray m = true
   ·rw [if_pos hk]
    refine ⟨List.pairwise_append.2 ⟨h1, List.pairwise_singleton _ _, fun a ha b hb => ?_⟩, fun a => by rw [List.mem_append, List.mem_append, h2]⟩
    rw [List.mem_singleton.1 hb]
    obtain ⟨j, hj, rfl⟩ := List.getElem_of_mem ((h2 a).1 ha)
    rw [List.length_take] at hj
    rw [List.getElem_take]
    have hm0 : m ≠ 0 := by omega
    have hm1 : m - 1 < xs.length := by omega
    have e1 : xs.toArray[m - 1]! = xs[m - 1] := by rw [getElem!_pos xs.toArray (m - 1) (by simpa using hm1)]; simp
    simp only [Go.Lib.keeps, hm0, false_or, decide_eq_true_eq, em, e1] at hk
    have p1 := List.pairwise_iff_getElem.1 h (m - 1) m hm1 hlt (by omega)
    have p2 : xs[j] ≤ xs[m - 1] := by
     by_cases ej : j = m - 1
     ·simp [ej]
     ·exact List.pairwise_iff_getElem.1 h j (m - 1) (by omega) hm1 (by omega)
    have : xs[m - 1] ≠ xs[m] := fun e => hk e.symm
    omega
   ·rw [if_neg hk, List.append_nil]
    refine ⟨h1, fun a => ?_⟩
    rw [List.mem_append, h2, List.mem_singleton]
    refine ⟨.inl, fun ha => ha.elim id fun ha => ?_⟩
    have hm0 : m ≠ 0 := fun e => hk (by simp [Go.Lib.keeps, e])
    have hm1 : m - 1 < xs.length := by omega
    have e1 : xs.toArray[m - 1]! = xs[m - 1] := by rw [getElem!_pos xs.toArray (m - 1) (by simpa using hm1)]; simp
    have he : xs[m] = xs[m - 1] := by
     by_cases e : xs[m] = xs[m - 1]
     ·exact e
     ·exact absurd (by simp only [Go.Lib.keeps, hm0, false_or, decide_eq_true_eq, em, e1]; exact e) hk
    rw [ha, he]
    exact List.mem_iff_getElem.2 ⟨m - 1, by rw [List.length_take]; omega, by rw [List.getElem_take]⟩
 obtain ⟨h1, h2⟩ := key xs.length (Nat.le_refl _)
 refine ⟨h1, fun a => ?_⟩
 have := h2 a
 rwa [List.take_length] at this
theorem rising_ext : ∀ {a b : List Int}, a.Pairwise (fun x y : Int => x < y) → b.Pairwise (fun x y : Int => x < y) → (∀ x, x ∈ a ↔ x ∈ b) → a = b
 | [], [], _, _, _ => rfl
 | [], y :: b, _, _, h => absurd ((h y).2 (List.mem_cons_self ..)) (by simp)
 | x :: a, [], _, _, h => absurd ((h x).1 (List.mem_cons_self ..)) (by simp)
 | x :: a, y :: b, ha, hb, h => by
  obtain ⟨a1, a2⟩ := List.pairwise_cons.1 ha
  obtain ⟨b1, b2⟩ := List.pairwise_cons.1 hb
  have e : x = y := by
   rcases List.mem_cons.1 ((h x).1 (List.mem_cons_self ..)) with h1 | h1
   ·exact h1
   ·rcases List.mem_cons.1 ((h y).2 (List.mem_cons_self ..)) with h2 | h2
    ·exact h2.symm
    ·have := b1 x h1
     have := a1 y h2
     omega
  subst e
  congr 1
  refine rising_ext a2 b2 fun z => ?_
  refine ⟨fun hz => ?_, fun hz => ?_⟩
  ·rcases List.mem_cons.1 ((h z).1 (List.mem_cons_of_mem _ hz)) with h1 | h1
   ·have := a1 z hz
    omega
   ·exact h1
  ·rcases List.mem_cons.1 ((h z).2 (List.mem_cons_of_mem _ hz)) with h1 | h1
   ·have := b1 z hz
    omega
   ·exact h1
def insU : List Int → Int → List Int
 | [], x => [x]
 | y :: l, x => if x < y then x :: y :: l else if x = y then y :: l else y :: insU l x
theorem insU_mem {l : List Int} {x a : Int} : a ∈ insU l x ↔ a = x ∨ a ∈ l := by
 induction l with
 | nil => simp [insU]
 | cons y l ih =>
  rw [insU]
  split
  ·simp
  ·split
   ·rename_i h
    rw [List.mem_cons, h]
    exact ⟨.inr, fun h => h.elim .inl id⟩
   ·rw [List.mem_cons, ih, List.mem_cons]
    exact ⟨fun h => h.elim (fun h => .inr (.inl h)) (fun h => h.elim .inl (fun h => .inr (.inr h))), fun h => h.elim (fun h => .inr (.inl h)) (fun h => h.elim .inl (fun h => .inr (.inr h)))⟩
theorem insU_rising {l : List Int} (x : Int) (h : l.Pairwise (fun a b : Int => a < b)) : (insU l x).Pairwise (fun a b : Int => a < b) := by
 induction l with
 | nil => simp [insU]
 | cons y l ih =>
  obtain ⟨h1, h2⟩ := List.pairwise_cons.1 h
  rw [insU]
  split
  ·rename_i hx
   exact List.pairwise_cons.2 ⟨fun a ha => by rcases List.mem_cons.1 ha with e | e; omega; have := h1 a e; omega, h⟩
  ·split
   ·exact h
   ·rename_i hx hy
    exact List.pairwise_cons.2 ⟨fun a ha => by rcases insU_mem.1 ha with e | e; omega; exact h1 a e, ih h2⟩
def rawN (bx : List Bx) (s : Bool) : List Int := (bx.filter fun x => x.f3 == s).map (·.f2)
def ownersN (bx : List Bx) (s : Bool) : List Int := (rawN bx s).foldl insU []
theorem foldU {xs : List Int} : ∀ {l : List Int}, l.Pairwise (fun a b : Int => a < b) → (xs.foldl insU l).Pairwise (fun a b : Int => a < b) ∧ ∀ a, a ∈ xs.foldl insU l ↔ a ∈ l ∨ a ∈ xs := by
 induction xs with
 | nil => exact fun h => ⟨h, fun a => by simp⟩
 | cons x xs ih =>
  intro l h
  obtain ⟨h1, h2⟩ := ih (insU_rising x h)
  refine ⟨h1, fun a => ?_⟩
  rw [List.foldl_cons, h2, insU_mem, List.mem_cons]
  exact ⟨fun h => h.elim (fun h => h.elim (fun h => .inr (.inl h)) .inl) (fun h => .inr (.inr h)), fun h => h.elim (fun h => .inl (.inr h)) (fun h => h.elim (fun h => .inl (.inl h)) .inr)⟩
theorem owners_rising (bx : List Bx) (s : Bool) : (ownersN bx s).Pairwise (fun a b : Int => a < b) := (foldU List.Pairwise.nil).1
theorem owners_mem (bx : List Bx) (s : Bool) (a : Int) : a ∈ ownersN bx s ↔ a ∈ rawN bx s := by
 have := (foldU (xs := rawN bx s) (l := []) List.Pairwise.nil).2 a
 simpa [ownersN] using this
theorem dd_owners {bx : List Bx} {s : Bool} {ys : List Int} (hp : ys.Perm (rawN bx s)) (hs : ys.Pairwise (fun a b : Int => a ≤ b)) : dd ys = ownersN bx s :=
 rising_ext (dd_facts ys hs).1 (owners_rising bx s) fun a => by rw [(dd_facts ys hs).2, owners_mem, hp.mem_iff]
end Go.Proofs.YthibppfdonepoaaGreat.LedT
set_option linter.unusedVariables false
namespace Go.Proofs.YthibppfdonepoaaGreat.LedT
open Go.RowKit Go.MapKept Go.Maps Go.ChangeMaps Go.Proofs.YthibppfdonepoaaGreat.XBut Go.Proofs.YthibppfdonepoaaGreat.XMap Go.Proofs.YthibppfdonepoaaGreat.NodeT Go.Proofs.YthibppfdonepoaaGreatW.PrintWords Go.Proofs.YthibppfdonepoaaGreatW.PrintLast
theorem But.none_below {w w' : World} (h : But (fun _ => False) w w') : Below w.heap.size w w' := ⟨h.os, h.tape, h.output, h.size, fun k hk => h.block k hk id⟩
theorem compact_nil (w : World) : Calls Tryz.prog 93 #[.slice none 0 0] w fun e w' => e = .returned (.slice none 0 0) ∧ Below w.heap.size w w' := by
 go_enter Tryz.func93, Tryz.ntmps93
 go_wp2
 go_ret
 exact ⟨rfl, Below.refl _ _⟩
end Go.Proofs.YthibppfdonepoaaGreat.LedT
set_option linter.unusedVariables false
set_option linter.unusedSimpArgs false
namespace Go.Proofs.YthibppfdonepoaaGreat.LedT
open Go.RowKit Go.MapKept Go.Maps Go.ChangeMaps Go.Proofs.YthibppfdonepoaaGreat.XBut Go.Proofs.YthibppfdonepoaaGreat.XMap Go.Proofs.YthibppfdonepoaaGreat.NodeT Go.Proofs.YthibppfdonepoaaGreat.Srt Go.Proofs.YthibppfdonepoaaGreatW.PrintWords Go.Proofs.YthibppfdonepoaaGreatW.PrintLast
theorem infoU : (Tryz.prog.info? 35).map (fun i => (i.zero, i.size, i.bytes)) = some (some (.int .u32 0), 1, 4) := by kernel_rfl
abbrev RU (w : World) (N : Nat) (v : Value) (xs : List Int) : Prop := Kd.R (Kd.int .u32) 35 w N (fun _ => True) v xs
theorem own_of_row {w w' : World} {base g n cap c : Nat} {xs : List Value} {d : Array Int} (ho : w.ownsRow base 35 1 (.slice (some ⟨g, 0, none⟩) n cap) n xs) (hR : Row w' g 35 c d) (hn : d.size = n) (hc : c = cap) : w'.ownsRow base 35 1 (.slice (some ⟨g, 0, none⟩) n cap) n (d.toList.map U32) := by
 rcases ho.2 with ⟨h1, _⟩ | ⟨g', cap', cur, h1, h2, h3, h4, h5, h6, h7⟩
 ·cases h1
 ·injection h1 with e1 e2 e3
  injection e1 with e1
  injection e1 with e1
  subst e1
  subst e3
  subst hc
  obtain ⟨cs, c1, c2, c3, c4⟩ := hR
  refine ⟨by simp [hn], .inr ⟨g, c, cs, rfl, h2, c2, h4, h5, by omega, ?_⟩⟩
  refine List.ext_getElem? fun j => ?_
  by_cases hj : j < n
  ·rw [List.getElem?_take_of_lt (by omega), List.getElem?_map, Array.getElem?_toList, c4 j (by omega)]
   have hjd : j < d.size := by omega
   rw [getElem!_pos d j hjd, Array.getElem?_toList, Array.getElem?_eq_getElem hjd]
   rfl
  ·rw [List.getElem?_eq_none (by rw [List.length_take]; omega), List.getElem?_eq_none (by rw [List.length_map, Array.length_toList]; omega)]
theorem raw_step {bx : List Bx} {s : Bool} {k : Nat} (hk : k < bx.length) : rawN (bx.take (k + 1)) s = rawN (bx.take k) s ++ if (bx[k].f3 == s) = true then [bx[k].f2] else [] := by
 unfold rawN
 rw [List.take_add_one, List.getElem?_eq_getElem hk, List.filter_append, List.map_append]
 congr 1
 by_cases h : (bx[k].f3 == s) = true
 ·simp [Option.toList, List.filter_cons, h]
 ·simp only [Option.toList, List.filter_cons, h]
  simp
theorem raw_len (bx : List Bx) (s : Bool) : (rawN bx s).length ≤ bx.length := by
 unfold rawN
 rw [List.length_map]
 exact List.length_filter_le _ _
theorem sorted_le {n : Nat} {d : Array Int} (h : Sort.SortedIn Sort.ltInt 0 n d) (hn : d.size = n) : d.toList.Pairwise (fun a b : Int => a ≤ b) := by
 rw [List.pairwise_iff_getElem]
 intro i j hi hj hij
 have hi2 : i < d.size := by simpa using hi
 have hj2 : j < d.size := by simpa using hj
 have := h i j (Nat.zero_le _) hij (by omega)
 simp only [Sort.ltInt, decide_eq_false_iff_not] at this
 rw [getElem!_pos d j hj2, getElem!_pos d i hi2] at this
 simp only [Array.getElem_toList]
 omega
theorem lowners {base p b g : Nat} {u0 u1 : Int} {ns : List Nd} {v : Value} {bx : List Bx} {last : Int} (s : Bool) (w : World) (h : LedAt w base p b g u0 u1 ns v bx last) (hl : bx.length ≤ 1000000) :
  Calls Tryz.prog 42 #[.pointer (some ⟨p, 0, none⟩), .bool s] w fun e w' => ∃ v, e = .returned v ∧ RU w' w.heap.size v (ownersN bx s) ∧ Below w.heap.size w w' := by
 have hu113 := Tryz.underlying100
 have H := Aside0.mk (And.intro h hl)
 clear h hl
 go_enter Tryz.func42, Tryz.ntmps42
 go_wp2_with fail
 refine (LedT.boxes w H.out.1 H.out.2).mono ?_
 rintro e w1 ⟨vb, rfl, hRb, hb1⟩
 obtain ⟨Ab, cb, rfl⟩ := Kd.R_slice hRb
 obtain ⟨nb, hnb⟩ : ∃ nb, bx.length = nb := ⟨_, rfl⟩
 have CB := (Kd.R_reads' hRb).2.2
 have hbl := H.out.2
 rw [hnb] at CB hbl ⊢
 have X1 := Aside0.mk (And.intro CB (And.intro hb1 hnb))
 clear CB hb1 hRb hnb
 dsimp only
 go_wp2_with fail
 go_loopg [5, 11] nb (fun kk v5 v11 wr => ∃ k : Nat, kk = nb - k ∧ v11 = .int .i64 k ∧ k ≤ nb ∧ Below w1.heap.size w1 wr ∧ RU wr w1.heap.size v5 (rawN (bx.take k) s))
 case atStart => exact ⟨0, rfl, rfl, Nat.zero_le _, Below.refl _ _, by rw [List.take_zero]; exact Kd.R_nil _ _ _ _ _⟩
 obtain ⟨k, rfl, rfl, hk, hB, hR⟩ := hrel
 by_cases hlt : k < nb
 ·have hkb : k < bx.length := by rw [X1.out.2.2]; exact hlt
  obtain ⟨ab, rfl, d0, d1, d2, d3⟩ := box_at (Kd.C_below X1.out.1 hB) X1.out.2.2 k hlt hkb
  have hst := raw_step (s := s) hkb
  obtain ⟨x, hx⟩ : ∃ x, bx[k] = x := ⟨_, rfl⟩
  rw [hx] at d0 d1 d2 d3 hst
  obtain ⟨x0, x1, x2, x3⟩ := x
  dsimp only at d0 d1 d2 d3 hst
  have hlt' : (k : Int) < (nb : Int) := by omega
  have hrl := raw_len (bx.take k) s
  rw [List.length_take] at hrl
  have Y := Aside0.mk (And.intro hB (And.intro hR (And.intro hst hrl)))
  clear hB hR hst hx hrl
  go_upto_region 5 with (fail)
  obtain ⟨w2, hw2⟩ : ∃ w2, wr.alloc (.cells #[.int .u32 x0, .int .u32 x1, .int .u32 x2, .bool x3] 100) = w2 := ⟨_, rfl⟩
  have hb2 : Below wr.heap.size wr w2 := by rw [← hw2]; exact below_alloc (Below.refl _ _) _
  have k2 : w2.heap[wr.heap.size]? = some (.cells #[.int .u32 x0, .int .u32 x1, .int .u32 x2, .bool x3] 100 (0, 0)) := by rw [← hw2]; exact blk_new wr _
  rw [hw2]
  have q2 := (blk_cell k2 2).trans rfl
  have q3 := (blk_cell k2 3).trans rfl
  obtain ⟨bb, hbb⟩ : ∃ bb, (x3 == s) = bb := ⟨_, rfl⟩
  have hst := Y.out.2.2.1
  rw [hbb] at hst
  have Z := Aside0.mk (And.intro (below_step Y.out.1 hb2) (And.intro (Kd.R_below Y.out.2.1 hb2) hst))
  clear hb2 k2 hw2 hst d0 d1 d2 d3
  cases bb
  ·go_wp2
   go_roundg (nb - (k + 1))
   case measure => omega
   case rel => exact ⟨k + 1, rfl, by go_num, by omega, Z.out.1, by rw [Z.out.2.2, if_neg (by decide), List.append_nil]; exact Z.out.2.1⟩
  ·go_wp2_with (refine Kd.R_append (Kd.int .u32) (w0 := w1) w1.heap.size (by rfl) (.tmp 19) (.tmp 22) 43 35 (.int .u32 0) 4 rfl Tryz.underlying43 infoU rfl (by decide) (by omega) u5 (rawN (bx.take k) s) x2 [.int .u32 x2] (fun _ => True) (fun _ => False) rfl rfl rfl (fun _ h => h.elim) (fun _ _ => trivial) Z.out.2.1 Z.out.1 Z.out.1.size ?hl ?_)
   case hl => have := Y.out.2.2.2; omega
   intro v1 w3 hR3 hB3 hg3 hat3
   have hst := Z.out.2.2
   rw [if_pos trivial] at hst
   rw [← hst] at hR3
   have G := Aside0.mk (And.intro hR3 hB3)
   clear hR3 hB3 hg3 hat3 q2 q3 hst
   go_wp2
   go_roundg (nb - (k + 1))
   case measure => omega
   case rel => exact ⟨k + 1, rfl, by go_num, by omega, G.out.2, G.out.1⟩
 ·have hlt' : ¬ (k : Int) < (nb : Int) := by omega
  have htk : bx.take k = bx := List.take_of_length_le (by rw [X1.out.2.2]; omega)
  rw [htk] at hR
  have hrl := raw_len bx s
  rw [X1.out.2.2] at hrl
  have ho := Kd.own_of_R hR
  have Y := Aside0.mk (And.intro hB ho)
  clear hB hR htk
  rcases Keys.row_of ho with ⟨e1, e2⟩ | ⟨g1, cap, e1, hg, hRow⟩
  ·subst e1
   clear ho
   have he : ownersN bx s = [] := by unfold ownersN; rw [e2]; rfl
   have E := Aside0.mk he
   clear he e2 hrl
   go_wp2_with fail
   refine (sort_nil wr).mono ?_
   rintro e w3 ⟨rfl, hb3⟩
   have B3 := Aside0.mk (below_step Y.out.1 (But.none_below hb3))
   clear hb3
   dsimp only
   go_wp2_with fail
   refine (compact_nil w3).mono ?_
   rintro e w4 ⟨rfl, hb4⟩
   have B4 := Aside0.mk (below_step B3.out hb4)
   clear hb4
   dsimp only
   go_wp2
   go_ret
   exact ⟨_, rfl, by rw [E.out]; exact Kd.R_nil _ _ _ _ _, below_step X1.out.2.1 B4.out⟩
  ·obtain ⟨n, hn⟩ : ∃ n, (rawN bx s).length = n := ⟨_, rfl⟩
   rw [hn] at e1 ho hrl
   subst e1
   have X := Aside0.mk (And.intro hRow (And.intro ho (And.intro hg hn)))
   clear hRow ho hg hn
   go_wp2_with fail
   refine (sort g1 35 cap cap n (rawN bx s).toArray wr (by rw [List.size_toArray]; exact X.out.2.2.2) X.out.1 (by omega)).mono ?_
   rintro e w3 ⟨d', hp, hs, rfl, hR3, hb3⟩
   have hsz : d'.size = n := by rw [← Array.length_toList, hp.length_eq]; simpa using X.out.2.2.2
   have h3 := own_of_row X.out.2.1 hR3 hsz rfl
   have hp2 : d'.toList.Perm (rawN bx s) := by simpa using hp
   have hs2 := sorted_le hs (by rw [hsz]; simpa using X.out.2.2.2.symm)
   have hdd := dd_owners hp2 hs2
   have Z := Aside0.mk (And.intro (But.below Y.out.1 (Nat.le_refl _) hb3 (fun k hk => by rw [hk]; exact X.out.2.2.1)) (And.intro h3 hdd))
   clear hp hs hR3 hb3 hsz h3 hp2 hs2 hdd
   dsimp only
   go_wp2_with fail
   refine (compact w1.heap.size g1 cap n d'.toList w3 Z.out.2.1).mono ?_
   rintro e w4 ⟨rfl, ho4, hb4⟩
   rw [Z.out.2.2] at ho4 ⊢
   have W := Aside0.mk (And.intro (But.below Z.out.1 (Nat.le_refl _) hb4 (fun k hk => by rw [hk]; exact X.out.2.2.1)) ho4)
   clear hb4 ho4
   dsimp only
   go_wp2
   go_ret
   exact ⟨_, rfl, Kd.R_lower (Kd.R_of_own W.out.2 (fun _ _ => trivial)) X1.out.2.1.size, below_step X1.out.2.1 W.out.1⟩
end Go.Proofs.YthibppfdonepoaaGreat.LedT
