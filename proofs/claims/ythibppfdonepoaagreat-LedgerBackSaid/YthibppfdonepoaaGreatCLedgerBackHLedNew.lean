/- liverylaw23.does. ledger.Ledger: Copy. liverylaw23.LedgerBack: what is given and taken back; plain. liverylaw23: the acts' numbers; both ledgers at the beginning. -/
import Derived.Test.YthibppfdonepoaaGreatCLedgerBackHNodeX
import Derived.Test.YthibppfdonepoaaGreatCLedgerBackHLedGG
import Derived.Test.YthibppfdonepoaaGreatCLedgerBackHNodeW
import Derived.Test.YthibppfdonepoaaGreatCLedgerBackHLedP
import Derived.Test.YthibppfdonepoaaGreatCLedgerBackHSortC
import Derived.Test.YthibppfdonepoaaGreatCLedgerBackHLedJ
set_option linter.unusedVariables false
set_option linter.unusedSimpArgs false
namespace Go.Proofs.YthibppfdonepoaaGreat.LedT
open Go.RowKit Go.MapKept Go.Maps Go.ChangeMaps Go.Proofs.YthibppfdonepoaaGreat.XBut Go.Proofs.YthibppfdonepoaaGreat.XMap Go.Proofs.YthibppfdonepoaaGreat.NodeT Go.Proofs.YthibppfdonepoaaGreatW.PrintWords Go.Proofs.YthibppfdonepoaaGreatW.PrintLast
theorem wf8 {n : Int} (h : (Lit.int .u8 n).wf = true) : 0 ≤ n ∧ n ≤ 255 := by
 simp only [Lit.wf, IntKind.min, IntKind.max, IntKind.signed, IntKind.bits, Bool.and_eq_true] at h
 simp at h
 omega
theorem taken_le (bx : List Bx) (o : Int) (s : Bool) (m : Int) : (taken bx o s m).length ≤ bx.length := by
 unfold taken
 split
 ·unfold goneN
  rw [List.length_drop]
  have : (ownN bx o s).length ≤ bx.length := List.length_filter_le _ _
  omega
 ·exact Nat.zero_le _
def May2 (p g : Nat) (v vb : Value) (okn : Nat → Prop) (k : Nat) : Prop := May p g v k ∨ okn k ∨ vb.ownBlock = some k
structure Did (w0 w wx : World) (p b g q : Nat) (u0 u1 : Int) (ns : List Nd) (v : Value) (bx : List Bx) (last : Int) (vn vb : Value) (okn : Nat → Prop) (x : Ac) (v9 v10 v11 v12 : Value) (v' vn' vb' : Value) (okn' : Nat → Prop) (er : Int) (Ag Aw : Option Addr) (ng cg cw : Nat) (ot : List Bx) : Prop where
 e10 : v10 = .int .i64 er
 e12 : v12 = .int .i64 er
 e11 : v11 = .slice Ag ng cg
 e9 : v9 = .slice Aw ng cw
 got : Kd.C PLedLib.k100 wx Ag ng ot
 want : Kd.C PLedLib.k100 wx Aw ng ot
 len : ot.length = ng ∧ ng ≤ 1000000
 ds : DS w0 wx p b g u0 u1 (acN u0 u1 ns x) v' (acB u0 u1 ns bx last x) (acL u0 u1 ns bx last x) vn' vb' okn'
 q4 : wx.heap[q + 3]? = some (.cells #[.int .i64 u0, .int .i64 u1, vn', vb', .int .u32 (acL u0 u1 ns bx last x)] LT (0, 0))
 q3 : wx.heap[q + 2]? = some (.cells #[.int .i64 0, .int .i64 0, .slice none 0 0, .slice none 0 0, .int .u32 0] LT (0, 0))
 but : But (May2 p g v vb okn) w wx
 own : ∀ k, May2 p g v' vb' okn' k → May2 p g v vb okn k ∨ w.heap.size + 4 ≤ k
set_option maxHeartbeats 32000000 in
set_option maxRecDepth 100000 in
theorem does (p b g : Nat) (u0 u1 : Int) (ns : List Nd) (v : Value) (bx : List Bx) (last : Int) (An A : Option Addr) (nn cn n c : Nat) (okn : Nat → Prop) (xw n0 n1 n2 o m : Int) (s : Bool) (w0 w : World) (h : DS w0 w p b g u0 u1 ns v bx last (.slice An nn cn) (.slice A n c) okn) (h8 : (Lit.int .u8 xw).wf = true) (hn0 : (Lit.int .u32 n0).wf = true) (hla : last ≤ 4000000000) :
  Calls Tryz.prog 25 #[.pointer (some ⟨p, 0, none⟩), dv u0 u1 (.slice An nn cn) (.slice A n c) last, .agg #[.int .u8 xw, .int .u32 n0, .int .i64 n1, .int .i64 n2, .int .u32 o, .bool s, .int .i64 m]] w fun e w' => ∃ v' vn' vb' okn', e = .returned (.tuple #[dv u0 u1 vn' vb' (acL u0 u1 ns bx last ⟨xw, ⟨n0, ⟨n1, n2⟩⟩, o, s, m⟩), .bool true]) ∧ DS w0 w' p b g u0 u1 (acN u0 u1 ns ⟨xw, ⟨n0, ⟨n1, n2⟩⟩, o, s, m⟩) v' (acB u0 u1 ns bx last ⟨xw, ⟨n0, ⟨n1, n2⟩⟩, o, s, m⟩) (acL u0 u1 ns bx last ⟨xw, ⟨n0, ⟨n1, n2⟩⟩, o, s, m⟩) vn' vb' okn' ∧ But (May2 p g v (.slice A n c) okn) w w' ∧ (∀ k, May2 p g v' vb' okn' k → May2 p g v (.slice A n c) okn k ∨ w.heap.size ≤ k) := by
 have hu118 := Tryz.underlying37
 have hu107 := Tryz.underlying61
 have hu31 := Tryz.underlying33
 have hu39 := Tryz.underlying59
 obtain ⟨W1, hW1⟩ : ∃ W1, ((w.alloc (db u0 u1 (.slice An nn cn) (.slice A n c) last)).alloc (.cells #[.int .u8 xw, .int .u32 n0, .int .i64 n1, .int .i64 n2, .int .u32 o, .bool s, .int .i64 m] 61)).alloc (db 0 0 (.slice none 0 0) (.slice none 0 0) 0) = W1 := ⟨_, rfl⟩
 have hB1 : Below w.heap.size w W1 := by rw [← hW1]; exact below_alloc (below_alloc (below_alloc (Below.refl _ _) _) _) _
 have hs1 : W1.heap.size = w.heap.size + 3 := by rw [← hW1]; simp
 have k1 : W1.heap[w.heap.size]? = some (.cells #[.int .i64 u0, .int .i64 u1, .slice An nn cn, .slice A n c, .int .u32 last] LT (0, 0)) := by rw [← hW1]; exact blk_alloc (blk_alloc (blk_new w _) _) _
 have k2 : W1.heap[w.heap.size + 1]? = some (.cells #[.int .u8 xw, .int .u32 n0, .int .i64 n1, .int .i64 n2, .int .u32 o, .bool s, .int .i64 m] 61 (0, 0)) := by
  have := blk_alloc (blk_new (w.alloc (db u0 u1 (.slice An nn cn) (.slice A n c) last)) (.cells #[.int .u8 xw, .int .u32 n0, .int .i64 n1, .int .i64 n2, .int .u32 o, .bool s, .int .i64 m] 61)) (db 0 0 (.slice none 0 0) (.slice none 0 0) 0)
  rw [World.size_alloc] at this
  rw [← hW1]; exact this
 have k3 : W1.heap[w.heap.size + 2]? = some (.cells #[.int .i64 0, .int .i64 0, .slice none 0 0, .slice none 0 0, .int .u32 0] LT (0, 0)) := by
  have := blk_new ((w.alloc (db u0 u1 (.slice An nn cn) (.slice A n c) last)).alloc (.cells #[.int .u8 xw, .int .u32 n0, .int .i64 n1, .int .i64 n2, .int .u32 o, .bool s, .int .i64 m] 61)) (db 0 0 (.slice none 0 0) (.slice none 0 0) 0)
  rw [World.size_alloc, World.size_alloc] at this
  rw [← hW1]; exact this
 obtain ⟨W0, hW0⟩ : ∃ W0, W1.alloc (db u0 u1 (.slice An nn cn) (.slice A n c) last) = W0 := ⟨_, rfl⟩
 have hB0 : Below W1.heap.size W1 W0 := by rw [← hW0]; exact below_alloc (Below.refl _ _) _
 have k4 : W0.heap[w.heap.size + 3]? = some (.cells #[.int .i64 u0, .int .i64 u1, .slice An nn cn, .slice A n c, .int .u32 last] LT (0, 0)) := by
  have := blk_new W1 (db u0 u1 (.slice An nn cn) (.slice A n c) last)
  rw [hs1] at this
  rw [← hW0]; exact this
 have hx0 : 0 ≤ xw ∧ xw ≤ 255 := wf8 h8
 obtain ⟨r, hr⟩ : ∃ r, xw % 6 = r := ⟨_, rfl⟩
 have hr2 : xw.tmod 6 = r := by rw [Int.tmod_eq_emod_of_nonneg hx0.1]; exact hr
 have hr3 : 0 ≤ r ∧ r < 6 := by omega
 have hr4 : IntKind.u8.wrap r = r := by rw [IntKind.wrap_u8]; omega
 have hBw : Below w.heap.size w W0 := below_then hB1 hB1.size hB0
 have H := Aside0.mk (And.intro h (And.intro hn0 (And.intro hla (And.intro hr (And.intro hBw (And.intro (blk_below k1 hB0) (And.intro (blk_below k2 hB0) (And.intro (blk_below k3 hB0) (And.intro k4 (And.intro hW1 hW0))))))))))
 have q0 := (blk_cell k1 0).trans rfl
 have q1 := (blk_cell k1 1).trans rfl
 have q2 := (blk_cell k1 2).trans rfl
 have q3 := (blk_cell k1 3).trans rfl
 have q4 := (blk_cell k1 4).trans rfl
 unfold dv
 clear h h8 hn0 hla hr hB1 k1 k2 k3 hB0 k4 hW1 hW0 hx0 hBw
 go_enter Tryz.func25, Tryz.ntmps25
 go_upto_region 1 with (fail)
 rw [H.out.2.2.2.2.2.2.2.2.2.1]
 have hs1' : W1.heap.size = w.heap.size + 3 := hs1
 go_upto_region 4 with (fail)
 rw [H.out.2.2.2.2.2.2.2.2.2.2]
 have a0 := (blk_cell H.out.2.2.2.2.2.2.1 0).trans rfl
 clear q0 q1 q2 q3 q4
 go_upto_block 0 with (fail)
 have D0 := Aside0.mk (H.out.1.same H.out.2.2.2.2.1)
 have hsw := H.out.2.2.2.2.1.size
 have hW0s := blk_lt H.out.2.2.2.2.2.2.2.2.1
 have ML := Aside0.mk H.out.1.lt
 clear a0 hr2 hr4 hs1'
 go_cut [9, 10, 11, 12] from 14 to 108 (fun v9 v10 v11 v12 wx => ∃ v' vn' vb' okn' er Ag Aw ng cg cw ot, Did w0 w wx p b g w.heap.size u0 u1 ns v bx last (.slice An nn cn) (.slice A n c) okn ⟨xw, ⟨n0, ⟨n1, n2⟩⟩, o, s, m⟩ v9 v10 v11 v12 v' vn' vb' okn' er Ag Aw ng cg cw ot)
 case first =>
  have a1 := (blk_cell H.out.2.2.2.2.2.2.1 1).trans rfl
  have a2 := (blk_cell H.out.2.2.2.2.2.2.1 2).trans rfl
  have a3 := (blk_cell H.out.2.2.2.2.2.2.1 3).trans rfl
  have a4 := (blk_cell H.out.2.2.2.2.2.2.1 4).trans rfl
  have a5 := (blk_cell H.out.2.2.2.2.2.2.1 5).trans rfl
  have a6 := (blk_cell H.out.2.2.2.2.2.2.1 6).trans rfl
  rcases (by omega : r = 0 ∨ r = 1 ∨ r = 2 ∨ r = 3 ∨ r = 4 ∨ r = 5) with rfl | rfl | rfl | rfl | rfl | rfl
  ·as_aux_lemma =>
    go_wp2_with fail
    refine (D0.out.hs.joinB n0 n1 n2 H.out.2.1).mono ?_
    rintro e w1 ⟨rfl, hS, hb⟩
    obtain ⟨hN, hBx⟩ := D0.out.rows hb
    have hnm : ∀ k, w.heap.size ≤ k → ¬ May p g v k := fun k hk hm => by have := ML.out k (.inl hm); omega
    have k1 := hb.heap H.out.2.2.2.2.2.1 (hnm _ (Nat.le_refl _))
    have k2 := hb.heap H.out.2.2.2.2.2.2.1 (hnm _ (by omega))
    have k3 := hb.heap H.out.2.2.2.2.2.2.2.1 (hnm _ (by omega))
    have k4 := hb.heap H.out.2.2.2.2.2.2.2.2.1 (hnm _ (by omega))
    have hs01 := hb.size
    have RJ := rjoin u0 u1 n0 n1 n2 ns (.slice An nn cn) w0.heap.size okn w1 D0.out.hs.good.nodes.unit hN (by have := D0.out.hs.below.size; omega) D0.out.hs.good.nodes.len (wf32 H.out.2.1).1
    obtain ⟨cd, hcd⟩ : ∃ cd, code u0 u1 ns ⟨n0, ⟨n1, n2⟩⟩ = cd := ⟨_, rfl⟩
    rw [hcd] at RJ ⊢
    have RJ := Aside0.mk RJ
    have X := Aside0.mk (And.intro hS (And.intro hb (And.intro hBx (And.intro k1 (And.intro k2 (And.intro k3 (And.intro k4 hcd)))))))
    clear a1 a2 a3 a4 a5 a6 hS hb hN hBx hcd
    have q0 := (blk_cell k1 0).trans rfl
    have q1 := (blk_cell k1 1).trans rfl
    have q2 := (blk_cell k1 2).trans rfl
    have a1 := (blk_cell k2 1).trans rfl
    have a2 := (blk_cell k2 2).trans rfl
    have a3 := (blk_cell k2 3).trans rfl
    clear k1 k2 k3 k4
    dsimp only
    go_wp2_with fail
    refine RJ.out.mono ?_
    rintro e w2 ⟨v2, rfl, hR2, hb2⟩
    obtain ⟨A2, c2, rfl⟩ := Kd.R_slice hR2
    obtain ⟨n2', hn2'⟩ : ∃ n2', (joined cd ns ⟨n0, ⟨n1, n2⟩⟩).length = n2' := ⟨_, rfl⟩
    rw [hn2'] at hR2 ⊢
    have k4 := blk_below X.out.2.2.2.2.2.2.1 hb2
    have Z := Aside0.mk (And.intro hR2 (And.intro hb2 k4))
    have y0 := (blk_cell k4 0).trans rfl
    have y1 := (blk_cell k4 1).trans rfl
    have y2 := (blk_cell k4 2).trans rfl
    have g0 := blk_frozen k4 0
    have g1 := blk_frozen k4 1
    have g2 := blk_frozen k4 2
    clear q0 q1 q2 a1 a2 a3 hR2 hb2 k4 RJ hn2'
    dsimp only
    go_wp2
    go_meet
    case rel =>
     have e1 : acN u0 u1 ns ⟨xw, ⟨n0, ⟨n1, n2⟩⟩, o, s, m⟩ = nsJ u0 u1 ns ⟨n0, ⟨n1, n2⟩⟩ := if_pos H.out.2.2.2.1
     have e2 : acB u0 u1 ns bx last ⟨xw, ⟨n0, ⟨n1, n2⟩⟩, o, s, m⟩ = bx := if_pos H.out.2.2.2.1
     have e3 : acL u0 u1 ns bx last ⟨xw, ⟨n0, ⟨n1, n2⟩⟩, o, s, m⟩ = last := if_neg (by show ¬ (xw % 6 = 2 ∨ xw % 6 = 3); have := H.out.2.2.2.1; omega)
     have hR2 := Z.out.1
     rw [← X.out.2.2.2.2.2.2.2] at hR2
     have T2 : RNd w2 w0.heap.size (fun k => (Value.slice A2 n2' c2).ownBlock = some k) (.slice A2 n2' c2) (nsJ u0 u1 ns ⟨n0, ⟨n1, n2⟩⟩) := Kd.R_mono (Kd.R_tight (by rfl) hR2) (fun k hk => hk.symm)
     have hok : ∀ k, (Value.slice A2 n2' c2).ownBlock = some k → okn k ∨ w1.heap.size ≤ k := fun k hk => hR2.1 k hk
     have hlw := ML.out
     have hs1 := X.out.2.1.size
     have D2 : DS w0 w2 p b g u0 u1 (nsJ u0 u1 ns ⟨n0, ⟨n1, n2⟩⟩) v bx last (.slice A2 n2' c2) (.slice A n c) (fun k => (Value.slice A2 n2' c2).ownBlock = some k) := by
      refine ⟨X.out.1.same Z.out.2.1, T2, Kd.R_below X.out.2.2.1 Z.out.2.1, fun k hk => ?_, H.out.1.okb, fun k hk => Kd.R_lt T2 k hk⟩
      rcases hok k hk with h3 | h3
      ·exact H.out.1.okp k h3
      ·have hbl := H.out.1.hs.led.lt.2.1
       exact ⟨fun hm => by have := hlw k (.inl hm); omega, by omega, fun he => by have := hlw k (.inr (.inr he)); omega⟩
     have hQ4 : But (fun k => k = w.heap.size + 3) w2 (((w2.setCell ⟨w.heap.size + 3, 0, none⟩ (.int .i64 u0)).setCell ⟨w.heap.size + 3, 1, none⟩ (.int .i64 u1)).setCell ⟨w.heap.size + 3, 2, none⟩ (.slice A2 n2' c2)) := but3T (But.refl (fun k => k = w.heap.size + 3) w2) (q := w.heap.size + 3) rfl _ _ _
     have hbw := H.out.1.hs.below.size
     have hbl := H.out.1.hs.led.lt.2.1
     refine ⟨v, .slice A2 n2' c2, .slice A n c, fun k => (Value.slice A2 n2' c2).ownBlock = some k, cd, none, none, 0, 0, 0, [], ⟨rfl, rfl, rfl, rfl, nil_row _, nil_row _, ⟨rfl, by omega⟩, ?_, ?_, ?_, ?_, ?_⟩⟩
     ·rw [e1, e2, e3]
      refine D2.put hQ4 (by omega) (fun hm => by have := hlw _ (.inl hm); omega) (by omega) (fun hk => ?_) (fun he => by have := hlw _ (.inr (.inr he)); omega)
      rcases hok _ hk with h3 | h3
      ·have := hlw _ (.inr (.inl h3)); omega
      ·omega
     ·rw [e3]
      exact set3of5 Z.out.2.2
     ·exact hQ4.heap (blk_below X.out.2.2.2.2.2.1 Z.out.2.1) (by omega)
     ·exact but_drop (((But.of_below H.out.2.2.2.2.1).trans (X.out.2.1.mono fun k hk => .inl hk)).trans (But.of_below Z.out.2.1)) hQ4 (fun k hk => by omega)
     ·intro k hk
      rcases hk with hk | hk | hk
      ·exact .inl (.inl hk)
      ·rcases hok k hk with h3 | h3
       ·exact .inl (.inr (.inl h3))
       ·exact .inr (by omega)
      ·exact .inl (.inr (.inr hk))
  ·as_aux_lemma =>
    go_wp2_with fail
    refine (D0.out.hs.loseB n0 H.out.2.1).mono ?_
    rintro e w1 ⟨vo, v1, rfl, hS, hb, hgr, hvo⟩
    obtain ⟨hN, hBx⟩ := D0.out.rows hb
    have hlw := ML.out
    have hnm : ∀ k, w.heap.size ≤ k → ¬ May p g v k := fun k hk hm => by have := hlw k (.inl hm); omega
    have k1 := hb.heap H.out.2.2.2.2.2.1 (hnm _ (Nat.le_refl _))
    have k2 := hb.heap H.out.2.2.2.2.2.2.1 (hnm _ (by omega))
    have k3 := hb.heap H.out.2.2.2.2.2.2.2.1 (hnm _ (by omega))
    have k4 := hb.heap H.out.2.2.2.2.2.2.2.2.1 (hnm _ (by omega))
    have hs01 := hb.size
    have hRo := (hS.rows _ (List.mem_cons_self ..)).1
    obtain ⟨Ag, cg, e1⟩ := Kd.R_slice hRo
    dsimp only at e1
    subst e1
    have DT := dlose u0 u1 An A nn cn n c last n0 ns bx (fun k => (Value.slice An nn cn).ownBlock = some k) w0 w1 (But.below D0.out.hs.below (Nat.le_refl _) hb (fun k hk => D0.out.hs.may k hk)) (Kd.R_mono (Kd.R_tight (by rfl) hN) (fun k hk => hk.symm)) hBx (fun k hk => (H.out.1.okp k (hN.1 k hk)).2.2) D0.out.hs.good
    obtain ⟨tc, htc⟩ : ∃ tc, (lost ns n0).2 = tc := ⟨_, rfl⟩
    rw [htc] at DT ⊢
    unfold dv at DT
    have DT := Aside0.mk DT
    obtain ⟨tn, htn⟩ : ∃ tn, (onN bx n0).length = tn := ⟨_, rfl⟩
    have TL := Aside0.mk htn
    rw [htn] at hRo hvo ⊢
    have X := Aside0.mk (And.intro hS (And.intro hb (And.intro hgr (And.intro hRo (And.intro hN (And.intro k3 (And.intro k4 hvo)))))))
    clear a1 a2 a3 a4 a5 a6 hS hb hN hBx hRo htn
    have q0 := (blk_cell k1 0).trans rfl
    have q1 := (blk_cell k1 1).trans rfl
    have q2 := (blk_cell k1 2).trans rfl
    have q3 := (blk_cell k1 3).trans rfl
    have q4 := (blk_cell k1 4).trans rfl
    have a4 := (blk_cell k2 1).trans rfl
    have a5 := (blk_cell k2 2).trans rfl
    have a6 := (blk_cell k2 3).trans rfl
    clear k1 k2 k3 k4
    dsimp only
    go_wp2_with fail
    refine DT.out.mono ?_
    rintro e w2 ⟨An2, nn2, cn2, Ab, lb, cb, Aw, ng, cw, rfl, hRn, hon, hRb, hob, hCw, hng, hbo⟩
    have hno : ∀ k, w.heap.size ≤ k → ¬ (Value.slice An nn cn).ownBlock = some k := fun k hk ho => by have := hlw k (.inr (.inl (X.out.2.2.2.2.1.1 k ho))); omega
    have k4 := hbo.heap X.out.2.2.2.2.2.2.1 (hno _ (by omega))
    have RN := Aside0.mk (And.intro hRn hon)
    have Z := Aside0.mk (And.intro hRb (And.intro hob (And.intro hCw (And.intro hng (And.intro hbo k4)))))
    have y0 := (blk_cell k4 0).trans rfl
    have y1 := (blk_cell k4 1).trans rfl
    have y2 := (blk_cell k4 2).trans rfl
    have y3 := (blk_cell k4 3).trans rfl
    have y4 := (blk_cell k4 4).trans rfl
    have g0 := blk_frozen k4 0
    have g1 := blk_frozen k4 1
    have g2 := blk_frozen k4 2
    have g3 := blk_frozen k4 3
    have g4 := blk_frozen k4 4
    clear q0 q1 q2 q3 q4 a4 a5 a6 hRb hob hCw hng hbo k4 hRn hon DT
    dsimp only
    go_wp2
    go_meet
    case rel =>
     have hq := H.out.2.2.2.1
     have e1 : acN u0 u1 ns ⟨xw, ⟨n0, ⟨n1, n2⟩⟩, o, s, m⟩ = less ns n0 := by simp [acN, hq]
     have e2 : acB u0 u1 ns bx last ⟨xw, ⟨n0, ⟨n1, n2⟩⟩, o, s, m⟩ = offN bx n0 := by simp [acB, hq]
     have e3 : acL u0 u1 ns bx last ⟨xw, ⟨n0, ⟨n1, n2⟩⟩, o, s, m⟩ = last := by simp [acL, hq]
     have hs1 := X.out.2.1.size
     have hs2 := Z.out.2.2.2.2.1.size
     have hgr := X.out.2.2.1
     have hob := Z.out.2.1
     have hvo := X.out.2.2.2.2.2.2.2
     have NK := X.out.2.2.2.2.1.1
     have hon := RN.out.2
     have hbw := H.out.1.hs.below.size
     have hl0 := H.out.1.hs.led.lt
     have hl1 := X.out.1.led.lt
     have hng : tn = ng := by rw [← Z.out.2.2.2.1]; exact TL.out.symm
     have htl : tn ≤ 1000000 := by rw [← TL.out]; have h1 : (onN bx n0).length ≤ bx.length := List.length_filter_le _ _; have := D0.out.hs.len; omega
     have hvk : ∀ k, v1.ownBlock = some k → ¬ (Value.slice An nn cn).ownBlock = some k := fun k hk he => by
      have hkl := hlw k (.inr (.inl (NK k he)))
      rcases hgr k hk with h5 | h5
      ·exact (H.out.1.okp k (NK k he)).1 (.inr h5)
      ·omega
     have D2 : DS w0 w2 p b g u0 u1 (less ns n0) v1 (offN bx n0) last (.slice An2 nn2 cn2) (.slice Ab lb cb) (fun k => (Value.slice An2 nn2 cn2).ownBlock = some k) := by
      refine ⟨⟨But.below X.out.1.below (Nat.le_refl _) Z.out.2.2.2.2.1 (fun k hk => Kd.R_base X.out.2.2.2.2.1 k hk), X.out.1.led.but Z.out.2.2.2.2.1 (fun e => (H.out.1.okp p (NK p e)).1 (.inl (.inl rfl))) (fun e => (H.out.1.okp b (NK b e)).2.1 rfl) (fun e => (H.out.1.okp g (NK g e)).1 (.inl (.inr rfl))) hvk, X.out.1.good, fun r hr => by cases hr⟩, RN.out.1, Z.out.1, fun k hk => ?_, fun k hk => ?_, fun k hk => Kd.R_lt RN.out.1 k hk⟩
      ·refine ⟨fun hm => ?_, ?_, row_apart RN.out.1 Z.out.1 k hk⟩
       ·rcases hon k hk with h4 | h4
        ·have hkl := hlw k (.inr (.inl (NK k h4)))
         rcases hm with hm | hm
         ·exact (H.out.1.okp k (NK k h4)).1 (.inl hm)
         ·exact hvk k hm h4
        ·rcases hm with (hm | hm) | hm
         ·omega
         ·omega
         ·have := hl1.2.2.2 k hm
          omega
       ·rcases hon k hk with h4 | h4
        ·exact (H.out.1.okp k (NK k h4)).2.1
        ·omega
      ·rcases hob k hk with h4 | h4
       ·obtain ⟨h1, h2⟩ := H.out.1.okb k h4
        have hkl := hlw k (.inr (.inr h4))
        refine ⟨fun hm => ?_, h2⟩
        rcases hm with hm | hm
        ·exact h1 (.inl hm)
        ·rcases hgr k hm with h5 | h5
         ·exact h1 (.inr h5)
         ·omega
       ·refine ⟨fun hm => ?_, by omega⟩
        rcases hm with (hm | hm) | hm
        ·omega
        ·omega
        ·have := hl1.2.2.2 k hm
         omega
     have hQ4 := but5T (But.refl (fun k => k = w.heap.size + 3) w2) (q := w.heap.size + 3) rfl (.int .i64 u0) (.int .i64 u1) (.slice An2 nn2 cn2) (.slice Ab lb cb) (.int .u32 last)
     have G2 := Kd.R_step X.out.2.2.2.1 (fun k hk hlt => Z.out.2.2.2.2.1.block k hlt (fun he => by have := hvo k hk; exact hno k (by omega) he))
     have G3 := Kd.R_step G2 (fun k hk hlt => hQ4.block k hlt (by have := hvo k hk; omega))
     refine ⟨v1, .slice An2 nn2 cn2, .slice Ab lb cb, fun k => (Value.slice An2 nn2 cn2).ownBlock = some k, tc, Ag, Aw, tn, cg, cw, onN bx n0, ⟨rfl, rfl, rfl, by rw [hng], ?_, ?_, ⟨TL.out, htl⟩, ?_, ?_, ?_, ?_, ?_⟩⟩
     ·have h9 := (Kd.R_reads' G3).2.2
      rw [TL.out] at h9
      exact h9
     ·rw [hng]
      exact Z.out.2.2.1 _ _ (fun k hk => by rw [hk]; omega) hQ4
     ·rw [e1, e2, e3]
      refine D2.put hQ4 (by omega) (fun hm => ?_) (by omega) (fun hk => ?_) (fun he => ?_)
      ·rcases hm with (hm | hm) | hm
       ·omega
       ·omega
       ·rcases hgr _ hm with h5 | h5
        ·have := hl0.2.2.2 _ h5
         omega
        ·omega
      ·rcases hon _ hk with h5 | h5
       ·exact hno _ (by omega) h5
       ·omega
      ·rcases hob _ he with h5 | h5
       ·have := hlw _ (.inr (.inr h5))
        omega
       ·omega
     ·rw [e3]
      exact set5 Z.out.2.2.2.2.2
     ·exact hQ4.heap (Z.out.2.2.2.2.1.heap X.out.2.2.2.2.2.1 (hno _ (by omega))) (by omega)
     ·exact but_drop (((But.of_below H.out.2.2.2.2.1).trans (X.out.2.1.mono fun k hk => .inl hk)).trans (Z.out.2.2.2.2.1.mono fun k hk => .inr (.inl (NK k hk)))) hQ4 (fun k hk => by omega)
     ·intro k hk
      rcases hk with (hk | hk) | hk | hk
      ·exact .inl (.inl (.inl hk))
      ·rcases hgr k hk with h5 | h5
       ·exact .inl (.inl (.inr h5))
       ·exact .inr (by omega)
      ·rcases hon k hk with h5 | h5
       ·exact .inl (.inr (.inl (NK k h5)))
       ·exact .inr (by omega)
      ·rcases hob k hk with h5 | h5
       ·exact .inl (.inr (.inr h5))
       ·exact .inr (by omega)
  ·as_aux_lemma =>
    have hla4 := H.out.2.2.1
    go_wp2_with fail
    refine (D0.out.hs.giveM o m s hla4).mono ?_
    rintro e w1 ⟨vo, v1, rfl, hS, hb, hgr, hvo⟩
    obtain ⟨hN, hBx⟩ := D0.out.rows hb
    have hlw := ML.out
    have hnm : ∀ k, w.heap.size ≤ k → ¬ May p g v k := fun k hk hm => by have := hlw k (.inl hm); omega
    have k1 := hb.heap H.out.2.2.2.2.2.1 (hnm _ (Nat.le_refl _))
    have k2 := hb.heap H.out.2.2.2.2.2.2.1 (hnm _ (by omega))
    have k3 := hb.heap H.out.2.2.2.2.2.2.2.1 (hnm _ (by omega))
    have k4 := hb.heap H.out.2.2.2.2.2.2.2.2.1 (hnm _ (by omega))
    have hs01 := hb.size
    have hRo := (hS.rows _ (List.mem_cons_self ..)).1
    obtain ⟨Ag, cg, e1⟩ := Kd.R_slice hRo
    dsimp only at e1
    subst e1
    have DT := dgive u0 u1 An A nn cn n c last o m s ns bx okn w0 w1 (But.below D0.out.hs.below (Nat.le_refl _) hb (fun k hk => D0.out.hs.may k hk)) hN hBx D0.out.hs.good hla4
    obtain ⟨tc, htc⟩ : ∃ tc, gcode u0 u1 ns bx o m = tc := ⟨_, rfl⟩
    rw [htc] at DT ⊢
    unfold dv at DT
    have DT := Aside0.mk DT
    obtain ⟨tn, htn⟩ : ∃ tn, (given u0 u1 ns bx last o s m).length = tn := ⟨_, rfl⟩
    have TL := Aside0.mk htn
    obtain ⟨l2, hl2⟩ : ∃ l2, last + ((given u0 u1 ns bx last o s m).length : Int) = l2 := ⟨_, rfl⟩
    rw [hl2] at hS
    replace DT := DT.out
    rw [hl2] at DT
    have DT := Aside0.mk DT
    have L2 := Aside0.mk hl2
    rw [htn] at hRo hvo ⊢
    clear hl2
    have X := Aside0.mk (And.intro hS (And.intro hb (And.intro hgr (And.intro hRo (And.intro hN (And.intro k3 (And.intro k4 hvo)))))))
    clear a1 a2 a3 a4 a5 a6 hS hb hN hBx hRo htn
    have q0 := (blk_cell k1 0).trans rfl
    have q1 := (blk_cell k1 1).trans rfl
    have q2 := (blk_cell k1 2).trans rfl
    have q3 := (blk_cell k1 3).trans rfl
    have q4 := (blk_cell k1 4).trans rfl
    have a4 := (blk_cell k2 4).trans rfl
    have a5 := (blk_cell k2 5).trans rfl
    have a6 := (blk_cell k2 6).trans rfl
    clear k1 k2 k3 k4
    dsimp only
    go_wp2_with fail
    refine DT.out.mono ?_
    rintro e w2 ⟨Ab, lb, cb, Aw, ng, cw, rfl, hRb, hob, hCw, hng, hb2⟩
    have k4 := blk_below X.out.2.2.2.2.2.2.1 hb2
    have Z := Aside0.mk (And.intro hRb (And.intro hob (And.intro hCw (And.intro hng (And.intro hb2 k4)))))
    have y0 := (blk_cell k4 0).trans rfl
    have y1 := (blk_cell k4 1).trans rfl
    have y2 := (blk_cell k4 2).trans rfl
    have y3 := (blk_cell k4 3).trans rfl
    have y4 := (blk_cell k4 4).trans rfl
    have g0 := blk_frozen k4 0
    have g1 := blk_frozen k4 1
    have g2 := blk_frozen k4 2
    have g3 := blk_frozen k4 3
    have g4 := blk_frozen k4 4
    clear q0 q1 q2 q3 q4 a4 a5 a6 hRb hob hCw hng hb2 k4 DT
    dsimp only
    go_wp2
    go_meet
    case rel =>
     have hq := H.out.2.2.2.1
     have e1 : acN u0 u1 ns ⟨xw, ⟨n0, ⟨n1, n2⟩⟩, o, s, m⟩ = ns := by simp [acN, hq]
     have e2 : acB u0 u1 ns bx last ⟨xw, ⟨n0, ⟨n1, n2⟩⟩, o, s, m⟩ = bx ++ given u0 u1 ns bx last o s m := by simp [acB, hq]
     have e3 : acL u0 u1 ns bx last ⟨xw, ⟨n0, ⟨n1, n2⟩⟩, o, s, m⟩ = l2 := by rw [← L2.out]; simp [acL, hq]
     have hs1 := X.out.2.1.size
     have hgr := X.out.2.2.1
     have hob := Z.out.2.1
     have hvo := X.out.2.2.2.2.2.2.2
     have hbw := H.out.1.hs.below.size
     have hl0 := H.out.1.hs.led.lt
     have hl1 := X.out.1.led.lt
     have hng : tn = ng := by rw [← Z.out.2.2.2.1]; exact TL.out.symm
     have htl : tn ≤ 1000000 := by rw [← TL.out]; have h1 := X.out.1.good.len; rw [List.length_append] at h1; omega
     have D2 : DS w0 w2 p b g u0 u1 ns v1 (bx ++ given u0 u1 ns bx last o s m) l2 (.slice An nn cn) (.slice Ab lb cb) okn := by
      refine ⟨(X.out.1.keep (fun r hr => by cases hr)).same Z.out.2.2.2.2.1, Kd.R_below X.out.2.2.2.2.1 Z.out.2.2.2.2.1, Z.out.1, fun k hk => ?_, fun k hk => ?_, fun k hk => ?_⟩
      ·obtain ⟨h1, h2, h3⟩ := H.out.1.okp k hk
       have hkl := hlw k (.inr (.inl hk))
       refine ⟨fun hm => ?_, h2, fun he => ?_⟩
       ·rcases hm with hm | hm
        ·exact h1 (.inl hm)
        ·rcases hgr k hm with h4 | h4
         ·exact h1 (.inr h4)
         ·omega
       ·rcases hob k he with h4 | h4
        ·exact h3 h4
        ·omega
      ·rcases hob k hk with h4 | h4
       ·obtain ⟨h1, h2⟩ := H.out.1.okb k h4
        have hkl := hlw k (.inr (.inr h4))
        refine ⟨fun hm => ?_, h2⟩
        rcases hm with hm | hm
        ·exact h1 (.inl hm)
        ·rcases hgr k hm with h5 | h5
         ·exact h1 (.inr h5)
         ·omega
       ·refine ⟨fun hm => ?_, by omega⟩
        rcases hm with (hm | hm) | hm
        ·omega
        ·omega
        ·have := hl1.2.2.2 k hm
         omega
      ·have := hlw k (.inr (.inl hk))
       have := Z.out.2.2.2.2.1.size
       omega
     have hQ4 := but5T (But.refl (fun k => k = w.heap.size + 3) w2) (q := w.heap.size + 3) rfl (.int .i64 u0) (.int .i64 u1) (.slice An nn cn) (.slice Ab lb cb) (.int .u32 l2)
     have G3 := Kd.R_step (Kd.R_below X.out.2.2.2.1 Z.out.2.2.2.2.1) (fun k hk hlt => hQ4.block k hlt (by have := hvo k hk; omega))
     refine ⟨v1, .slice An nn cn, .slice Ab lb cb, okn, tc, Ag, Aw, tn, cg, cw, given u0 u1 ns bx last o s m, ⟨rfl, rfl, rfl, by rw [hng], ?_, ?_, ⟨TL.out, htl⟩, ?_, ?_, ?_, ?_, ?_⟩⟩
     ·have h9 := (Kd.R_reads' G3).2.2
      rw [TL.out] at h9
      exact h9
     ·rw [hng]
      exact Z.out.2.2.1 _ _ (fun k hk => by rw [hk]; omega) hQ4
     ·rw [e1, e2, e3]
      refine D2.put hQ4 (by omega) (fun hm => ?_) (by omega) (fun hk => by have := hlw _ (.inr (.inl hk)); omega) (fun he => ?_)
      ·rcases hm with (hm | hm) | hm
       ·omega
       ·omega
       ·rcases hgr _ hm with h5 | h5
        ·have := hl0.2.2.2 _ h5
         omega
        ·omega
      ·rcases hob _ he with h5 | h5
       ·have := hlw _ (.inr (.inr h5))
        omega
       ·omega
     ·rw [e3]
      exact set5 Z.out.2.2.2.2.2
     ·exact hQ4.heap (blk_below X.out.2.2.2.2.2.1 Z.out.2.2.2.2.1) (by omega)
     ·exact but_drop (((But.of_below H.out.2.2.2.2.1).trans (X.out.2.1.mono fun k hk => .inl hk)).trans (But.of_below Z.out.2.2.2.2.1)) hQ4 (fun k hk => by omega)
     ·intro k hk
      rcases hk with (hk | hk) | hk | hk
      ·exact .inl (.inl (.inl hk))
      ·rcases hgr k hk with h5 | h5
       ·exact .inl (.inl (.inr h5))
       ·exact .inr (by omega)
      ·exact .inl (.inr (.inl hk))
      ·rcases hob k hk with h5 | h5
       ·exact .inl (.inr (.inr h5))
       ·exact .inr (by omega)
  ·as_aux_lemma =>
    have hla4 := H.out.2.2.1
    go_wp2_with fail
    refine (D0.out.hs.giveM o m s hla4).mono ?_
    rintro e w1 ⟨vo, v1, rfl, hS, hb, hgr, hvo⟩
    obtain ⟨hN, hBx⟩ := D0.out.rows hb
    have hlw := ML.out
    have hnm : ∀ k, w.heap.size ≤ k → ¬ May p g v k := fun k hk hm => by have := hlw k (.inl hm); omega
    have k1 := hb.heap H.out.2.2.2.2.2.1 (hnm _ (Nat.le_refl _))
    have k2 := hb.heap H.out.2.2.2.2.2.2.1 (hnm _ (by omega))
    have k3 := hb.heap H.out.2.2.2.2.2.2.2.1 (hnm _ (by omega))
    have k4 := hb.heap H.out.2.2.2.2.2.2.2.2.1 (hnm _ (by omega))
    have hs01 := hb.size
    have hRo := (hS.rows _ (List.mem_cons_self ..)).1
    obtain ⟨Ag, cg, e1⟩ := Kd.R_slice hRo
    dsimp only at e1
    subst e1
    have DT := dgive u0 u1 An A nn cn n c last o m s ns bx okn w0 w1 (But.below D0.out.hs.below (Nat.le_refl _) hb (fun k hk => D0.out.hs.may k hk)) hN hBx D0.out.hs.good hla4
    obtain ⟨tc, htc⟩ : ∃ tc, gcode u0 u1 ns bx o m = tc := ⟨_, rfl⟩
    rw [htc] at DT ⊢
    unfold dv at DT
    have DT := Aside0.mk DT
    obtain ⟨tn, htn⟩ : ∃ tn, (given u0 u1 ns bx last o s m).length = tn := ⟨_, rfl⟩
    have TL := Aside0.mk htn
    obtain ⟨l2, hl2⟩ : ∃ l2, last + ((given u0 u1 ns bx last o s m).length : Int) = l2 := ⟨_, rfl⟩
    rw [hl2] at hS
    replace DT := DT.out
    rw [hl2] at DT
    have DT := Aside0.mk DT
    have L2 := Aside0.mk hl2
    rw [htn] at hRo hvo ⊢
    clear hl2
    have X := Aside0.mk (And.intro hS (And.intro hb (And.intro hgr (And.intro hRo (And.intro hN (And.intro k3 (And.intro k4 hvo)))))))
    clear a1 a2 a3 a4 a5 a6 hS hb hN hBx hRo htn
    have q0 := (blk_cell k1 0).trans rfl
    have q1 := (blk_cell k1 1).trans rfl
    have q2 := (blk_cell k1 2).trans rfl
    have q3 := (blk_cell k1 3).trans rfl
    have q4 := (blk_cell k1 4).trans rfl
    have a4 := (blk_cell k2 4).trans rfl
    have a5 := (blk_cell k2 5).trans rfl
    have a6 := (blk_cell k2 6).trans rfl
    clear k1 k2 k3 k4
    dsimp only
    go_wp2_with fail
    refine DT.out.mono ?_
    rintro e w2 ⟨Ab, lb, cb, Aw, ng, cw, rfl, hRb, hob, hCw, hng, hb2⟩
    have k4 := blk_below X.out.2.2.2.2.2.2.1 hb2
    have Z := Aside0.mk (And.intro hRb (And.intro hob (And.intro hCw (And.intro hng (And.intro hb2 k4)))))
    have y0 := (blk_cell k4 0).trans rfl
    have y1 := (blk_cell k4 1).trans rfl
    have y2 := (blk_cell k4 2).trans rfl
    have y3 := (blk_cell k4 3).trans rfl
    have y4 := (blk_cell k4 4).trans rfl
    have g0 := blk_frozen k4 0
    have g1 := blk_frozen k4 1
    have g2 := blk_frozen k4 2
    have g3 := blk_frozen k4 3
    have g4 := blk_frozen k4 4
    clear q0 q1 q2 q3 q4 a4 a5 a6 hRb hob hCw hng hb2 k4 DT
    dsimp only
    go_wp2
    go_meet
    case rel =>
     have hq := H.out.2.2.2.1
     have e1 : acN u0 u1 ns ⟨xw, ⟨n0, ⟨n1, n2⟩⟩, o, s, m⟩ = ns := by simp [acN, hq]
     have e2 : acB u0 u1 ns bx last ⟨xw, ⟨n0, ⟨n1, n2⟩⟩, o, s, m⟩ = bx ++ given u0 u1 ns bx last o s m := by simp [acB, hq]
     have e3 : acL u0 u1 ns bx last ⟨xw, ⟨n0, ⟨n1, n2⟩⟩, o, s, m⟩ = l2 := by rw [← L2.out]; simp [acL, hq]
     have hs1 := X.out.2.1.size
     have hgr := X.out.2.2.1
     have hob := Z.out.2.1
     have hvo := X.out.2.2.2.2.2.2.2
     have hbw := H.out.1.hs.below.size
     have hl0 := H.out.1.hs.led.lt
     have hl1 := X.out.1.led.lt
     have hng : tn = ng := by rw [← Z.out.2.2.2.1]; exact TL.out.symm
     have htl : tn ≤ 1000000 := by rw [← TL.out]; have h1 := X.out.1.good.len; rw [List.length_append] at h1; omega
     have D2 : DS w0 w2 p b g u0 u1 ns v1 (bx ++ given u0 u1 ns bx last o s m) l2 (.slice An nn cn) (.slice Ab lb cb) okn := by
      refine ⟨(X.out.1.keep (fun r hr => by cases hr)).same Z.out.2.2.2.2.1, Kd.R_below X.out.2.2.2.2.1 Z.out.2.2.2.2.1, Z.out.1, fun k hk => ?_, fun k hk => ?_, fun k hk => ?_⟩
      ·obtain ⟨h1, h2, h3⟩ := H.out.1.okp k hk
       have hkl := hlw k (.inr (.inl hk))
       refine ⟨fun hm => ?_, h2, fun he => ?_⟩
       ·rcases hm with hm | hm
        ·exact h1 (.inl hm)
        ·rcases hgr k hm with h4 | h4
         ·exact h1 (.inr h4)
         ·omega
       ·rcases hob k he with h4 | h4
        ·exact h3 h4
        ·omega
      ·rcases hob k hk with h4 | h4
       ·obtain ⟨h1, h2⟩ := H.out.1.okb k h4
        have hkl := hlw k (.inr (.inr h4))
        refine ⟨fun hm => ?_, h2⟩
        rcases hm with hm | hm
        ·exact h1 (.inl hm)
        ·rcases hgr k hm with h5 | h5
         ·exact h1 (.inr h5)
         ·omega
       ·refine ⟨fun hm => ?_, by omega⟩
        rcases hm with (hm | hm) | hm
        ·omega
        ·omega
        ·have := hl1.2.2.2 k hm
         omega
      ·have := hlw k (.inr (.inl hk))
       have := Z.out.2.2.2.2.1.size
       omega
     have hQ4 := but5T (But.refl (fun k => k = w.heap.size + 3) w2) (q := w.heap.size + 3) rfl (.int .i64 u0) (.int .i64 u1) (.slice An nn cn) (.slice Ab lb cb) (.int .u32 l2)
     have G3 := Kd.R_step (Kd.R_below X.out.2.2.2.1 Z.out.2.2.2.2.1) (fun k hk hlt => hQ4.block k hlt (by have := hvo k hk; omega))
     refine ⟨v1, .slice An nn cn, .slice Ab lb cb, okn, tc, Ag, Aw, tn, cg, cw, given u0 u1 ns bx last o s m, ⟨rfl, rfl, rfl, by rw [hng], ?_, ?_, ⟨TL.out, htl⟩, ?_, ?_, ?_, ?_, ?_⟩⟩
     ·have h9 := (Kd.R_reads' G3).2.2
      rw [TL.out] at h9
      exact h9
     ·rw [hng]
      exact Z.out.2.2.1 _ _ (fun k hk => by rw [hk]; omega) hQ4
     ·rw [e1, e2, e3]
      refine D2.put hQ4 (by omega) (fun hm => ?_) (by omega) (fun hk => by have := hlw _ (.inr (.inl hk)); omega) (fun he => ?_)
      ·rcases hm with (hm | hm) | hm
       ·omega
       ·omega
       ·rcases hgr _ hm with h5 | h5
        ·have := hl0.2.2.2 _ h5
         omega
        ·omega
      ·rcases hob _ he with h5 | h5
       ·have := hlw _ (.inr (.inr h5))
        omega
       ·omega
     ·rw [e3]
      exact set5 Z.out.2.2.2.2.2
     ·exact hQ4.heap (blk_below X.out.2.2.2.2.2.1 Z.out.2.2.2.2.1) (by omega)
     ·exact but_drop (((But.of_below H.out.2.2.2.2.1).trans (X.out.2.1.mono fun k hk => .inl hk)).trans (But.of_below Z.out.2.2.2.2.1)) hQ4 (fun k hk => by omega)
     ·intro k hk
      rcases hk with (hk | hk) | hk | hk
      ·exact .inl (.inl (.inl hk))
      ·rcases hgr k hk with h5 | h5
       ·exact .inl (.inl (.inr h5))
       ·exact .inr (by omega)
      ·exact .inl (.inr (.inl hk))
      ·rcases hob k hk with h5 | h5
       ·exact .inl (.inr (.inr h5))
       ·exact .inr (by omega)
  ·as_aux_lemma =>
    go_wp2_with fail
    refine (D0.out.hs.takeB o m s).mono ?_
    rintro e w1 ⟨vo, v1, rfl, hS, hb, hgr, hvo⟩
    obtain ⟨hN, hBx⟩ := D0.out.rows hb
    have hlw := ML.out
    have hnm : ∀ k, w.heap.size ≤ k → ¬ May p g v k := fun k hk hm => by have := hlw k (.inl hm); omega
    have k1 := hb.heap H.out.2.2.2.2.2.1 (hnm _ (Nat.le_refl _))
    have k2 := hb.heap H.out.2.2.2.2.2.2.1 (hnm _ (by omega))
    have k3 := hb.heap H.out.2.2.2.2.2.2.2.1 (hnm _ (by omega))
    have k4 := hb.heap H.out.2.2.2.2.2.2.2.2.1 (hnm _ (by omega))
    have hs01 := hb.size
    have hRo := (hS.rows _ (List.mem_cons_self ..)).1
    obtain ⟨Ag, cg, e1⟩ := Kd.R_slice hRo
    dsimp only at e1
    subst e1
    have DT := dtake u0 u1 An A nn cn n c w0.heap.size last o m s bx w1 hBx (by have := D0.out.hs.below.size; omega) D0.out.hs.len D0.out.hs.good.ids
    obtain ⟨tc, htc⟩ : ∃ tc, tcode bx o s m = tc := ⟨_, rfl⟩
    rw [htc] at DT ⊢
    unfold dv at DT
    have DT := Aside0.mk DT
    obtain ⟨tn, htn⟩ : ∃ tn, (taken bx o s m).length = tn := ⟨_, rfl⟩
    have TL := Aside0.mk htn
    rw [htn] at hRo hvo ⊢
    have X := Aside0.mk (And.intro hS (And.intro hb (And.intro hgr (And.intro hRo (And.intro hN (And.intro k3 (And.intro k4 hvo)))))))
    clear a1 a2 a3 a4 a5 a6 hS hb hN hBx hRo htn
    have q0 := (blk_cell k1 0).trans rfl
    have q1 := (blk_cell k1 1).trans rfl
    have q2 := (blk_cell k1 2).trans rfl
    have q3 := (blk_cell k1 3).trans rfl
    have q4 := (blk_cell k1 4).trans rfl
    have a4 := (blk_cell k2 4).trans rfl
    have a5 := (blk_cell k2 5).trans rfl
    have a6 := (blk_cell k2 6).trans rfl
    clear k1 k2 k3 k4
    dsimp only
    go_wp2_with fail
    refine DT.out.mono ?_
    rintro e w2 ⟨Ab, lb, cb, Aw, ng, cw, rfl, hRb, hob, hCw, hng, hb2⟩
    have k4 := blk_below X.out.2.2.2.2.2.2.1 hb2
    have Z := Aside0.mk (And.intro hRb (And.intro hob (And.intro hCw (And.intro hng (And.intro hb2 k4)))))
    have y0 := (blk_cell k4 0).trans rfl
    have y1 := (blk_cell k4 1).trans rfl
    have y2 := (blk_cell k4 2).trans rfl
    have y3 := (blk_cell k4 3).trans rfl
    have y4 := (blk_cell k4 4).trans rfl
    have g0 := blk_frozen k4 0
    have g1 := blk_frozen k4 1
    have g2 := blk_frozen k4 2
    have g3 := blk_frozen k4 3
    have g4 := blk_frozen k4 4
    clear q0 q1 q2 q3 q4 a4 a5 a6 hRb hob hCw hng hb2 k4 DT
    dsimp only
    go_wp2
    go_meet
    case rel =>
     have hq := H.out.2.2.2.1
     have e1 : acN u0 u1 ns ⟨xw, ⟨n0, ⟨n1, n2⟩⟩, o, s, m⟩ = ns := by simp [acN, hq]
     have e2 : acB u0 u1 ns bx last ⟨xw, ⟨n0, ⟨n1, n2⟩⟩, o, s, m⟩ = leftN bx (taken bx o s m) := by simp [acB, hq]
     have e3 : acL u0 u1 ns bx last ⟨xw, ⟨n0, ⟨n1, n2⟩⟩, o, s, m⟩ = last := by simp [acL, hq]
     have hs1 := X.out.2.1.size
     have hgr := X.out.2.2.1
     have hob := Z.out.2.1
     have hvo := X.out.2.2.2.2.2.2.2
     have hbw := H.out.1.hs.below.size
     have hl0 := H.out.1.hs.led.lt
     have hl1 := X.out.1.led.lt
     have hng : tn = ng := by rw [← Z.out.2.2.2.1]; exact TL.out.symm
     have htl : tn ≤ 1000000 := by rw [← TL.out]; have h1 : (taken bx o s m).length ≤ bx.length := taken_le bx o s m; have := D0.out.hs.len; omega
     have D2 : DS w0 w2 p b g u0 u1 ns v1 (leftN bx (taken bx o s m)) last (.slice An nn cn) (.slice Ab lb cb) okn := by
      refine ⟨(X.out.1.keep (fun r hr => by cases hr)).same Z.out.2.2.2.2.1, Kd.R_below X.out.2.2.2.2.1 Z.out.2.2.2.2.1, Z.out.1, fun k hk => ?_, fun k hk => ?_, fun k hk => ?_⟩
      ·obtain ⟨h1, h2, h3⟩ := H.out.1.okp k hk
       have hkl := hlw k (.inr (.inl hk))
       refine ⟨fun hm => ?_, h2, fun he => ?_⟩
       ·rcases hm with hm | hm
        ·exact h1 (.inl hm)
        ·rcases hgr k hm with h4 | h4
         ·exact h1 (.inr h4)
         ·omega
       ·rcases hob k he with h4 | h4
        ·exact h3 h4
        ·omega
      ·rcases hob k hk with h4 | h4
       ·obtain ⟨h1, h2⟩ := H.out.1.okb k h4
        have hkl := hlw k (.inr (.inr h4))
        refine ⟨fun hm => ?_, h2⟩
        rcases hm with hm | hm
        ·exact h1 (.inl hm)
        ·rcases hgr k hm with h5 | h5
         ·exact h1 (.inr h5)
         ·omega
       ·refine ⟨fun hm => ?_, by omega⟩
        rcases hm with (hm | hm) | hm
        ·omega
        ·omega
        ·have := hl1.2.2.2 k hm
         omega
      ·have := hlw k (.inr (.inl hk))
       have := Z.out.2.2.2.2.1.size
       omega
     have hQ4 := but5T (But.refl (fun k => k = w.heap.size + 3) w2) (q := w.heap.size + 3) rfl (.int .i64 u0) (.int .i64 u1) (.slice An nn cn) (.slice Ab lb cb) (.int .u32 last)
     have G3 := Kd.R_step (Kd.R_below X.out.2.2.2.1 Z.out.2.2.2.2.1) (fun k hk hlt => hQ4.block k hlt (by have := hvo k hk; omega))
     refine ⟨v1, .slice An nn cn, .slice Ab lb cb, okn, tc, Ag, Aw, tn, cg, cw, taken bx o s m, ⟨rfl, rfl, rfl, by rw [hng], ?_, ?_, ⟨TL.out, htl⟩, ?_, ?_, ?_, ?_, ?_⟩⟩
     ·have h9 := (Kd.R_reads' G3).2.2
      rw [TL.out] at h9
      exact h9
     ·rw [hng]
      exact Z.out.2.2.1 _ _ (fun k hk => by rw [hk]; omega) hQ4
     ·rw [e1, e2, e3]
      refine D2.put hQ4 (by omega) (fun hm => ?_) (by omega) (fun hk => by have := hlw _ (.inr (.inl hk)); omega) (fun he => ?_)
      ·rcases hm with (hm | hm) | hm
       ·omega
       ·omega
       ·rcases hgr _ hm with h5 | h5
        ·have := hl0.2.2.2 _ h5
         omega
        ·omega
      ·rcases hob _ he with h5 | h5
       ·have := hlw _ (.inr (.inr h5))
        omega
       ·omega
     ·rw [e3]
      exact set5 Z.out.2.2.2.2.2
     ·exact hQ4.heap (blk_below X.out.2.2.2.2.2.1 Z.out.2.2.2.2.1) (by omega)
     ·exact but_drop (((But.of_below H.out.2.2.2.2.1).trans (X.out.2.1.mono fun k hk => .inl hk)).trans (But.of_below Z.out.2.2.2.2.1)) hQ4 (fun k hk => by omega)
     ·intro k hk
      rcases hk with (hk | hk) | hk | hk
      ·exact .inl (.inl (.inl hk))
      ·rcases hgr k hk with h5 | h5
       ·exact .inl (.inl (.inr h5))
       ·exact .inr (by omega)
      ·exact .inl (.inr (.inl hk))
      ·rcases hob k hk with h5 | h5
       ·exact .inl (.inr (.inr h5))
       ·exact .inr (by omega)
  ·as_aux_lemma =>
    go_wp2_with fail
    refine (D0.out.hs.takeB o m s).mono ?_
    rintro e w1 ⟨vo, v1, rfl, hS, hb, hgr, hvo⟩
    obtain ⟨hN, hBx⟩ := D0.out.rows hb
    have hlw := ML.out
    have hnm : ∀ k, w.heap.size ≤ k → ¬ May p g v k := fun k hk hm => by have := hlw k (.inl hm); omega
    have k1 := hb.heap H.out.2.2.2.2.2.1 (hnm _ (Nat.le_refl _))
    have k2 := hb.heap H.out.2.2.2.2.2.2.1 (hnm _ (by omega))
    have k3 := hb.heap H.out.2.2.2.2.2.2.2.1 (hnm _ (by omega))
    have k4 := hb.heap H.out.2.2.2.2.2.2.2.2.1 (hnm _ (by omega))
    have hs01 := hb.size
    have hRo := (hS.rows _ (List.mem_cons_self ..)).1
    obtain ⟨Ag, cg, e1⟩ := Kd.R_slice hRo
    dsimp only at e1
    subst e1
    have DT := dtake u0 u1 An A nn cn n c w0.heap.size last o m s bx w1 hBx (by have := D0.out.hs.below.size; omega) D0.out.hs.len D0.out.hs.good.ids
    obtain ⟨tc, htc⟩ : ∃ tc, tcode bx o s m = tc := ⟨_, rfl⟩
    rw [htc] at DT ⊢
    unfold dv at DT
    have DT := Aside0.mk DT
    obtain ⟨tn, htn⟩ : ∃ tn, (taken bx o s m).length = tn := ⟨_, rfl⟩
    have TL := Aside0.mk htn
    rw [htn] at hRo hvo ⊢
    have X := Aside0.mk (And.intro hS (And.intro hb (And.intro hgr (And.intro hRo (And.intro hN (And.intro k3 (And.intro k4 hvo)))))))
    clear a1 a2 a3 a4 a5 a6 hS hb hN hBx hRo htn
    have q0 := (blk_cell k1 0).trans rfl
    have q1 := (blk_cell k1 1).trans rfl
    have q2 := (blk_cell k1 2).trans rfl
    have q3 := (blk_cell k1 3).trans rfl
    have q4 := (blk_cell k1 4).trans rfl
    have a4 := (blk_cell k2 4).trans rfl
    have a5 := (blk_cell k2 5).trans rfl
    have a6 := (blk_cell k2 6).trans rfl
    clear k1 k2 k3 k4
    dsimp only
    go_wp2_with fail
    refine DT.out.mono ?_
    rintro e w2 ⟨Ab, lb, cb, Aw, ng, cw, rfl, hRb, hob, hCw, hng, hb2⟩
    have k4 := blk_below X.out.2.2.2.2.2.2.1 hb2
    have Z := Aside0.mk (And.intro hRb (And.intro hob (And.intro hCw (And.intro hng (And.intro hb2 k4)))))
    have y0 := (blk_cell k4 0).trans rfl
    have y1 := (blk_cell k4 1).trans rfl
    have y2 := (blk_cell k4 2).trans rfl
    have y3 := (blk_cell k4 3).trans rfl
    have y4 := (blk_cell k4 4).trans rfl
    have g0 := blk_frozen k4 0
    have g1 := blk_frozen k4 1
    have g2 := blk_frozen k4 2
    have g3 := blk_frozen k4 3
    have g4 := blk_frozen k4 4
    clear q0 q1 q2 q3 q4 a4 a5 a6 hRb hob hCw hng hb2 k4 DT
    dsimp only
    go_wp2
    go_meet
    case rel =>
     have hq := H.out.2.2.2.1
     have e1 : acN u0 u1 ns ⟨xw, ⟨n0, ⟨n1, n2⟩⟩, o, s, m⟩ = ns := by simp [acN, hq]
     have e2 : acB u0 u1 ns bx last ⟨xw, ⟨n0, ⟨n1, n2⟩⟩, o, s, m⟩ = leftN bx (taken bx o s m) := by simp [acB, hq]
     have e3 : acL u0 u1 ns bx last ⟨xw, ⟨n0, ⟨n1, n2⟩⟩, o, s, m⟩ = last := by simp [acL, hq]
     have hs1 := X.out.2.1.size
     have hgr := X.out.2.2.1
     have hob := Z.out.2.1
     have hvo := X.out.2.2.2.2.2.2.2
     have hbw := H.out.1.hs.below.size
     have hl0 := H.out.1.hs.led.lt
     have hl1 := X.out.1.led.lt
     have hng : tn = ng := by rw [← Z.out.2.2.2.1]; exact TL.out.symm
     have htl : tn ≤ 1000000 := by rw [← TL.out]; have h1 : (taken bx o s m).length ≤ bx.length := taken_le bx o s m; have := D0.out.hs.len; omega
     have D2 : DS w0 w2 p b g u0 u1 ns v1 (leftN bx (taken bx o s m)) last (.slice An nn cn) (.slice Ab lb cb) okn := by
      refine ⟨(X.out.1.keep (fun r hr => by cases hr)).same Z.out.2.2.2.2.1, Kd.R_below X.out.2.2.2.2.1 Z.out.2.2.2.2.1, Z.out.1, fun k hk => ?_, fun k hk => ?_, fun k hk => ?_⟩
      ·obtain ⟨h1, h2, h3⟩ := H.out.1.okp k hk
       have hkl := hlw k (.inr (.inl hk))
       refine ⟨fun hm => ?_, h2, fun he => ?_⟩
       ·rcases hm with hm | hm
        ·exact h1 (.inl hm)
        ·rcases hgr k hm with h4 | h4
         ·exact h1 (.inr h4)
         ·omega
       ·rcases hob k he with h4 | h4
        ·exact h3 h4
        ·omega
      ·rcases hob k hk with h4 | h4
       ·obtain ⟨h1, h2⟩ := H.out.1.okb k h4
        have hkl := hlw k (.inr (.inr h4))
        refine ⟨fun hm => ?_, h2⟩
        rcases hm with hm | hm
        ·exact h1 (.inl hm)
        ·rcases hgr k hm with h5 | h5
         ·exact h1 (.inr h5)
         ·omega
       ·refine ⟨fun hm => ?_, by omega⟩
        rcases hm with (hm | hm) | hm
        ·omega
        ·omega
        ·have := hl1.2.2.2 k hm
         omega
      ·have := hlw k (.inr (.inl hk))
       have := Z.out.2.2.2.2.1.size
       omega
     have hQ4 := but5T (But.refl (fun k => k = w.heap.size + 3) w2) (q := w.heap.size + 3) rfl (.int .i64 u0) (.int .i64 u1) (.slice An nn cn) (.slice Ab lb cb) (.int .u32 last)
     have G3 := Kd.R_step (Kd.R_below X.out.2.2.2.1 Z.out.2.2.2.2.1) (fun k hk hlt => hQ4.block k hlt (by have := hvo k hk; omega))
     refine ⟨v1, .slice An nn cn, .slice Ab lb cb, okn, tc, Ag, Aw, tn, cg, cw, taken bx o s m, ⟨rfl, rfl, rfl, by rw [hng], ?_, ?_, ⟨TL.out, htl⟩, ?_, ?_, ?_, ?_, ?_⟩⟩
     ·have h9 := (Kd.R_reads' G3).2.2
      rw [TL.out] at h9
      exact h9
     ·rw [hng]
      exact Z.out.2.2.1 _ _ (fun k hk => by rw [hk]; omega) hQ4
     ·rw [e1, e2, e3]
      refine D2.put hQ4 (by omega) (fun hm => ?_) (by omega) (fun hk => by have := hlw _ (.inr (.inl hk)); omega) (fun he => ?_)
      ·rcases hm with (hm | hm) | hm
       ·omega
       ·omega
       ·rcases hgr _ hm with h5 | h5
        ·have := hl0.2.2.2 _ h5
         omega
        ·omega
      ·rcases hob _ he with h5 | h5
       ·have := hlw _ (.inr (.inr h5))
        omega
       ·omega
     ·rw [e3]
      exact set5 Z.out.2.2.2.2.2
     ·exact hQ4.heap (blk_below X.out.2.2.2.2.2.1 Z.out.2.2.2.2.1) (by omega)
     ·exact but_drop (((But.of_below H.out.2.2.2.2.1).trans (X.out.2.1.mono fun k hk => .inl hk)).trans (But.of_below Z.out.2.2.2.2.1)) hQ4 (fun k hk => by omega)
     ·intro k hk
      rcases hk with (hk | hk) | hk | hk
      ·exact .inl (.inl (.inl hk))
      ·rcases hgr k hk with h5 | h5
       ·exact .inl (.inl (.inr h5))
       ·exact .inr (by omega)
      ·exact .inl (.inr (.inl hk))
      ·rcases hob k hk with h5 | h5
       ·exact .inl (.inr (.inr h5))
       ·exact .inr (by omega)
 case rest =>
  obtain ⟨v', vn', vb', okn', er, Ag, Aw, ng, cg, cw, ot, hD⟩ := hcut
  have e9 := hD.e9
  have e10 := hD.e10
  have e11 := hD.e11
  have e12 := hD.e12
  subst e9
  subst e10
  subst e11
  subst e12
  obtain ⟨An2, cn2, rfl⟩ := Kd.R_slice hD.ds.nrow
  obtain ⟨A2, c2, rfl⟩ := Kd.R_slice hD.ds.brow
  obtain ⟨nn2, hnn2⟩ : ∃ nn2, (acN u0 u1 ns ⟨xw, ⟨n0, ⟨n1, n2⟩⟩, o, s, m⟩).length = nn2 := ⟨_, rfl⟩
  obtain ⟨nb2, hnb2⟩ : ∃ nb2, (acB u0 u1 ns bx last ⟨xw, ⟨n0, ⟨n1, n2⟩⟩, o, s, m⟩).length = nb2 := ⟨_, rfl⟩
  obtain ⟨la, hlae⟩ : ∃ la, acL u0 u1 ns bx last ⟨xw, ⟨n0, ⟨n1, n2⟩⟩, o, s, m⟩ = la := ⟨_, rfl⟩
  have K4 := hD.q4
  have K3 := hD.q3
  rw [hnn2, hnb2, hlae] at K4
  have SM := fun w' (h : Below wc.heap.size wc w') => dsame ot Ag Aw ng cg cw w' (Kd.C_below hD.got h) (Kd.C_below hD.want h) hD.len.1 hD.len.2
  have SM := Aside0.mk SM
  have D := Aside0.mk hD
  have K := Aside0.mk (And.intro K4 K3)
  have N := Aside0.mk (And.intro hnn2 (And.intro hnb2 hlae))
  clear hD K4 K3 hnn2 hnb2 hlae
  go_upto_region 17 with (fail)
  refine XInv.region_tab [] [[], [], [], [1, 2], [3], [4], [4], [5, 6, 4, 4], [4, 7], [0, 7, 0], [8, 9, 0, 1, 2, 3, 4, 5, 6, 7, 8, 9]] (fun bq jq => match jq with
    | 0 => .agg #[.int .i64 u0, .int .i64 u1, .slice An2 nn2 cn2, .slice A2 nb2 c2, .int .u32 la]
    | 1 => .int .i64 er
    | 2 => .int .i64 er
    | 3 => .bool true
    | 4 => .bool true
    | 5 => .slice Ag ng cg
    | 6 => .slice Aw ng cw
    | 7 => .bool true
    | 8 => .bool true
    | 9 => undef
    | 10 => .bool true
    | _ => undef)
    (fun bq l w' => if l 9 = true then (∃ wz, Below wc.heap.size wc wz ∧ w' = (((((wz.setCell ⟨w.heap.size + 2, 0, none⟩ (.int .i64 u0)).setCell ⟨w.heap.size + 2, 1, none⟩ (.int .i64 u1)).setCell ⟨w.heap.size + 2, 2, none⟩ (.slice An2 nn2 cn2)).setCell ⟨w.heap.size + 2, 3, none⟩ (.slice A2 nb2 c2)).setCell ⟨w.heap.size + 2, 4, none⟩ (.int .u32 la))) else Below wc.heap.size wc w')
    (by kernel_rfl) rfl (by kernel_rfl) (by kernel_rfl) (by kernel_rfl) ⟨fun _ : Nat => (0 : Nat), (by rw [if_neg (by simp)]; exact below_drew (Below.refl _ _))⟩ ?_ ?_
  ·intro i1 hi1 hds oi hoi bq lb w' hW hlb hcl hneed hclo
   have hi1 : i1 < 11 := hi1
   have hcs : i1 = 0 ∨ i1 = 1 ∨ i1 = 2 ∨ i1 = 3 ∨ i1 = 4 ∨ i1 = 5 ∨ i1 = 6 ∨ i1 = 7 ∨ i1 = 8 ∨ i1 = 9 ∨ i1 = 10 := by omega
   clear hi1
   rcases hcs with rfl | rfl | rfl | rfl | rfl | rfl | rfl | rfl | rfl | rfl | rfl
   all_goals simp only [List.getElem?_toArray, List.getElem?_cons_succ, List.getElem?_cons_zero, Option.some.injEq] at hoi
   all_goals subst hoi
   ·refine XInv.yes_tab [] (by kernel_rfl) ?_
    have hs0 := hcl 9 (by decide) (by kernel_rfl)
    rw [if_neg (by rw [hs0]; decide)] at hW
    have ka := blk_below K.out.1 hW
    have q0 := (blk_cell ka 0).trans rfl
    have q1 := (blk_cell ka 1).trans rfl
    have q2 := (blk_cell ka 2).trans rfl
    have q3 := (blk_cell ka 3).trans rfl
    have q4 := (blk_cell ka 4).trans rfl
    have kb := blk_below K.out.2 hW
    have r0 := (blk_cell kb 0).trans rfl
    have r1 := (blk_cell kb 1).trans rfl
    have r2 := (blk_cell kb 2).trans rfl
    have r3 := (blk_cell kb 3).trans rfl
    have r4 := (blk_cell kb 4).trans rfl
    have g0 := blk_frozen kb 0
    have g1 := blk_frozen kb 1
    have g2 := blk_frozen kb 2
    have g3 := blk_frozen kb 3
    have g4 := blk_frozen kb 4
    clear hcl hneed hclo
    intro Q2 K2 hK2
    simp only [XInv.puts, XPrint.pw]
    go_simp
    exact hK2.out (.agg #[.int .i64 u0, .int .i64 u1, .slice An2 nn2 cn2, .slice A2 nb2 c2, .int .u32 la]) w' ⟨bq, rfl, (by intros; first | rfl | trivial), (by rw [if_neg (by simp [XInv.up, hs0])]; exact hW)⟩
   ·refine XInv.yes_tab [] (by kernel_rfl) ?_
    have hs0 : lb 9 = false := (Bool.eq_false_or_eq_true (lb 9)).elim (fun h => absurd (XInv.reach hclo [7, 4, 3] 9 1 (by kernel_rfl) h) (by rw [hlb]; decide)) id
    rw [if_neg (by rw [hs0]; decide)] at hW
    have ka := blk_below K.out.1 hW
    have q0 := (blk_cell ka 0).trans rfl
    have q1 := (blk_cell ka 1).trans rfl
    have q2 := (blk_cell ka 2).trans rfl
    have q3 := (blk_cell ka 3).trans rfl
    have q4 := (blk_cell ka 4).trans rfl
    have kb := blk_below K.out.2 hW
    have r0 := (blk_cell kb 0).trans rfl
    have r1 := (blk_cell kb 1).trans rfl
    have r2 := (blk_cell kb 2).trans rfl
    have r3 := (blk_cell kb 3).trans rfl
    have r4 := (blk_cell kb 4).trans rfl
    have g0 := blk_frozen kb 0
    have g1 := blk_frozen kb 1
    have g2 := blk_frozen kb 2
    have g3 := blk_frozen kb 3
    have g4 := blk_frozen kb 4
    clear hcl hneed hclo
    intro Q2 K2 hK2
    simp only [XInv.puts, XPrint.pw]
    go_simp
    exact hK2.out (.int .i64 er) w' ⟨bq, rfl, (by intros; first | rfl | trivial), (by rw [if_neg (by simp [XInv.up, hs0])]; exact hW)⟩
   ·refine XInv.yes_tab [] (by kernel_rfl) ?_
    have hs0 : lb 9 = false := (Bool.eq_false_or_eq_true (lb 9)).elim (fun h => absurd (XInv.reach hclo [7, 4, 3] 9 2 (by kernel_rfl) h) (by rw [hlb]; decide)) id
    rw [if_neg (by rw [hs0]; decide)] at hW
    have ka := blk_below K.out.1 hW
    have q0 := (blk_cell ka 0).trans rfl
    have q1 := (blk_cell ka 1).trans rfl
    have q2 := (blk_cell ka 2).trans rfl
    have q3 := (blk_cell ka 3).trans rfl
    have q4 := (blk_cell ka 4).trans rfl
    have kb := blk_below K.out.2 hW
    have r0 := (blk_cell kb 0).trans rfl
    have r1 := (blk_cell kb 1).trans rfl
    have r2 := (blk_cell kb 2).trans rfl
    have r3 := (blk_cell kb 3).trans rfl
    have r4 := (blk_cell kb 4).trans rfl
    have g0 := blk_frozen kb 0
    have g1 := blk_frozen kb 1
    have g2 := blk_frozen kb 2
    have g3 := blk_frozen kb 3
    have g4 := blk_frozen kb 4
    clear hcl hneed hclo
    intro Q2 K2 hK2
    simp only [XInv.puts, XPrint.pw]
    go_simp
    exact hK2.out (.int .i64 er) w' ⟨bq, rfl, (by intros; first | rfl | trivial), (by rw [if_neg (by simp [XInv.up, hs0])]; exact hW)⟩
   ·refine XInv.yes_tab [(102, 2), (101, 1)] (by kernel_rfl) ?_
    have hs0 : lb 9 = false := (Bool.eq_false_or_eq_true (lb 9)).elim (fun h => absurd (XInv.reach hclo [7, 4] 9 3 (by kernel_rfl) h) (by rw [hlb]; decide)) id
    rw [if_neg (by rw [hs0]; decide)] at hW
    have ka := blk_below K.out.1 hW
    have q0 := (blk_cell ka 0).trans rfl
    have q1 := (blk_cell ka 1).trans rfl
    have q2 := (blk_cell ka 2).trans rfl
    have q3 := (blk_cell ka 3).trans rfl
    have q4 := (blk_cell ka 4).trans rfl
    have kb := blk_below K.out.2 hW
    have r0 := (blk_cell kb 0).trans rfl
    have r1 := (blk_cell kb 1).trans rfl
    have r2 := (blk_cell kb 2).trans rfl
    have r3 := (blk_cell kb 3).trans rfl
    have r4 := (blk_cell kb 4).trans rfl
    have g0 := blk_frozen kb 0
    have g1 := blk_frozen kb 1
    have g2 := blk_frozen kb 2
    have g3 := blk_frozen kb 3
    have g4 := blk_frozen kb 4
    clear hcl hneed hclo
    intro Q2 K2 hK2
    simp only [XInv.puts, XPrint.pw]
    go_simp
    exact hK2.out (.bool true) w' ⟨bq, rfl, (by intros; first | rfl | trivial), (by rw [if_neg (by simp [XInv.up, hs0])]; exact hW)⟩
   ·refine XInv.yes_tab [(103, 3)] (by kernel_rfl) ?_
    have hs0 : lb 9 = false := (Bool.eq_false_or_eq_true (lb 9)).elim (fun h => absurd (XInv.reach hclo [7] 9 4 (by kernel_rfl) h) (by rw [hlb]; decide)) id
    rw [if_neg (by rw [hs0]; decide)] at hW
    have ka := blk_below K.out.1 hW
    have q0 := (blk_cell ka 0).trans rfl
    have q1 := (blk_cell ka 1).trans rfl
    have q2 := (blk_cell ka 2).trans rfl
    have q3 := (blk_cell ka 3).trans rfl
    have q4 := (blk_cell ka 4).trans rfl
    have kb := blk_below K.out.2 hW
    have r0 := (blk_cell kb 0).trans rfl
    have r1 := (blk_cell kb 1).trans rfl
    have r2 := (blk_cell kb 2).trans rfl
    have r3 := (blk_cell kb 3).trans rfl
    have r4 := (blk_cell kb 4).trans rfl
    have g0 := blk_frozen kb 0
    have g1 := blk_frozen kb 1
    have g2 := blk_frozen kb 2
    have g3 := blk_frozen kb 3
    have g4 := blk_frozen kb 4
    clear hcl hneed hclo
    intro Q2 K2 hK2
    simp only [XInv.puts, XPrint.pw]
    go_simp
    exact hK2.out (.bool true) w' ⟨bq, rfl, (by intros; first | rfl | trivial), (by rw [if_neg (by simp [XInv.up, hs0])]; exact hW)⟩
   ·refine XInv.yes_tab [(104, 4)] (by kernel_rfl) ?_
    have hs0 : lb 9 = false := (Bool.eq_false_or_eq_true (lb 9)).elim (fun h => absurd (XInv.reach hclo [7] 9 5 (by kernel_rfl) h) (by rw [hlb]; decide)) id
    rw [if_neg (by rw [hs0]; decide)] at hW
    have ka := blk_below K.out.1 hW
    have q0 := (blk_cell ka 0).trans rfl
    have q1 := (blk_cell ka 1).trans rfl
    have q2 := (blk_cell ka 2).trans rfl
    have q3 := (blk_cell ka 3).trans rfl
    have q4 := (blk_cell ka 4).trans rfl
    have kb := blk_below K.out.2 hW
    have r0 := (blk_cell kb 0).trans rfl
    have r1 := (blk_cell kb 1).trans rfl
    have r2 := (blk_cell kb 2).trans rfl
    have r3 := (blk_cell kb 3).trans rfl
    have r4 := (blk_cell kb 4).trans rfl
    have g0 := blk_frozen kb 0
    have g1 := blk_frozen kb 1
    have g2 := blk_frozen kb 2
    have g3 := blk_frozen kb 3
    have g4 := blk_frozen kb 4
    clear hcl hneed hclo
    intro Q2 K2 hK2
    simp only [XInv.puts, XPrint.pw]
    go_simp
    exact hK2.out (.slice Ag ng cg) w' ⟨bq, rfl, (by intros; first | rfl | trivial), (by rw [if_neg (by simp [XInv.up, hs0])]; exact hW)⟩
   ·refine XInv.yes_tab [(104, 4)] (by kernel_rfl) ?_
    have hs0 : lb 9 = false := (Bool.eq_false_or_eq_true (lb 9)).elim (fun h => absurd (XInv.reach hclo [7] 9 6 (by kernel_rfl) h) (by rw [hlb]; decide)) id
    rw [if_neg (by rw [hs0]; decide)] at hW
    have ka := blk_below K.out.1 hW
    have q0 := (blk_cell ka 0).trans rfl
    have q1 := (blk_cell ka 1).trans rfl
    have q2 := (blk_cell ka 2).trans rfl
    have q3 := (blk_cell ka 3).trans rfl
    have q4 := (blk_cell ka 4).trans rfl
    have kb := blk_below K.out.2 hW
    have r0 := (blk_cell kb 0).trans rfl
    have r1 := (blk_cell kb 1).trans rfl
    have r2 := (blk_cell kb 2).trans rfl
    have r3 := (blk_cell kb 3).trans rfl
    have r4 := (blk_cell kb 4).trans rfl
    have g0 := blk_frozen kb 0
    have g1 := blk_frozen kb 1
    have g2 := blk_frozen kb 2
    have g3 := blk_frozen kb 3
    have g4 := blk_frozen kb 4
    clear hcl hneed hclo
    intro Q2 K2 hK2
    simp only [XInv.puts, XPrint.pw]
    go_simp
    exact hK2.out (.slice Aw ng cw) w' ⟨bq, rfl, (by intros; first | rfl | trivial), (by rw [if_neg (by simp [XInv.up, hs0])]; exact hW)⟩
   ·refine XInv.yes_tab [(106, 6), (105, 5), (104, 4)] (by kernel_rfl) ?_
    have hs0 := hcl 9 (by decide) (by kernel_rfl)
    rw [if_neg (by rw [hs0]; decide)] at hW
    have ka := blk_below K.out.1 hW
    have q0 := (blk_cell ka 0).trans rfl
    have q1 := (blk_cell ka 1).trans rfl
    have q2 := (blk_cell ka 2).trans rfl
    have q3 := (blk_cell ka 3).trans rfl
    have q4 := (blk_cell ka 4).trans rfl
    have kb := blk_below K.out.2 hW
    have r0 := (blk_cell kb 0).trans rfl
    have r1 := (blk_cell kb 1).trans rfl
    have r2 := (blk_cell kb 2).trans rfl
    have r3 := (blk_cell kb 3).trans rfl
    have r4 := (blk_cell kb 4).trans rfl
    have g0 := blk_frozen kb 0
    have g1 := blk_frozen kb 1
    have g2 := blk_frozen kb 2
    have g3 := blk_frozen kb 3
    have g4 := blk_frozen kb 4
    clear hcl hneed
    intro Q2 K2 hK2
    simp only [XInv.puts, XPrint.pw]
    go_simp
    go_at_call 29
    (with_reducible refine (SM.out _ hW).mono ?_)
    rintro e wz ⟨rfl, hb⟩
    exact hK2.out (.bool true) wz ⟨bq, rfl, (by intros; first | rfl | trivial), (by rw [if_neg (by simp [XInv.up, hs0])]; exact below_step hW hb)⟩
   ·refine XInv.yes_tab [(107, 7), (104, 4)] (by kernel_rfl) ?_
    cases hs0 : lb 9
    case false =>
     rw [if_neg (by rw [hs0]; decide)] at hW
     have ka := blk_below K.out.1 hW
     have q0 := (blk_cell ka 0).trans rfl
     have q1 := (blk_cell ka 1).trans rfl
     have q2 := (blk_cell ka 2).trans rfl
     have q3 := (blk_cell ka 3).trans rfl
     have q4 := (blk_cell ka 4).trans rfl
     have kb := blk_below K.out.2 hW
     have r0 := (blk_cell kb 0).trans rfl
     have r1 := (blk_cell kb 1).trans rfl
     have r2 := (blk_cell kb 2).trans rfl
     have r3 := (blk_cell kb 3).trans rfl
     have r4 := (blk_cell kb 4).trans rfl
     have g0 := blk_frozen kb 0
     have g1 := blk_frozen kb 1
     have g2 := blk_frozen kb 2
     have g3 := blk_frozen kb 3
     have g4 := blk_frozen kb 4
     clear hcl hneed hclo
     intro Q2 K2 hK2
     simp only [XInv.puts, XPrint.pw]
     go_simp
     exact hK2.out (.bool true) w' ⟨bq, rfl, (by intros; first | rfl | trivial), (by rw [if_neg (by simp [XInv.up, hs0])]; exact hW)⟩
    case true =>
     rw [if_pos hs0] at hW
     clear hcl hneed hclo
     intro Q2 K2 hK2
     simp only [XInv.puts, XPrint.pw]
     go_simp
     exact hK2.out (.bool true) w' ⟨bq, rfl, (by intros; first | rfl | trivial), (by rw [if_pos (by simp [XInv.up, hs0])]; exact hW)⟩
   ·refine XInv.yes_tab [(107, 7), (100, 0)] (by kernel_rfl) ?_
    have hs0 := hlb
    rw [if_neg (by rw [hs0]; decide)] at hW
    have ka := blk_below K.out.1 hW
    have q0 := (blk_cell ka 0).trans rfl
    have q1 := (blk_cell ka 1).trans rfl
    have q2 := (blk_cell ka 2).trans rfl
    have q3 := (blk_cell ka 3).trans rfl
    have q4 := (blk_cell ka 4).trans rfl
    have kb := blk_below K.out.2 hW
    have r0 := (blk_cell kb 0).trans rfl
    have r1 := (blk_cell kb 1).trans rfl
    have r2 := (blk_cell kb 2).trans rfl
    have r3 := (blk_cell kb 3).trans rfl
    have r4 := (blk_cell kb 4).trans rfl
    have g0 := blk_frozen kb 0
    have g1 := blk_frozen kb 1
    have g2 := blk_frozen kb 2
    have g3 := blk_frozen kb 3
    have g4 := blk_frozen kb 4
    clear hcl hneed
    intro Q2 K2 hK2
    simp only [XInv.puts, XPrint.pw]
    go_simp
    exact hK2.out undef _ ⟨bq, rfl, (by intros; first | rfl | trivial), (by rw [if_pos (by simp [XInv.up, hs0])]; exact ⟨w', hW, rfl⟩)⟩
   ·refine XInv.yes_tab [(108, 8), (107, 7), (106, 6), (105, 5), (104, 4), (103, 3), (102, 2), (101, 1), (100, 0)] (by kernel_rfl) ?_
    have hs0 := hneed 9 (by kernel_rfl)
    rw [if_pos hs0] at hW
    clear hcl hneed hclo
    intro Q2 K2 hK2
    simp only [XInv.puts, XPrint.pw] at hK2 ⊢
    go_simp
    exact hK2.out (.bool true) w' ⟨bq, rfl, (by intros; first | rfl | trivial), (by rw [if_pos (by simp [XInv.up, hs0])]; exact hW)⟩
  ·intro bq w' hW
   refine XInv.end_nil [(7, 10), (108, 8), (107, 7), (106, 6), (105, 5), (104, 4), (103, 3), (102, 2), (101, 1), (100, 0)] (by kernel_rfl) (by kernel_rfl) ?_
   simp only [XInv.puts, XPrint.pw]
   rw [if_pos (by kernel_rfl)] at hW
   obtain ⟨wz, hbz, rfl⟩ := hW
   have z0 := set5 (b0 := .int .i64 u0) (b1 := .int .i64 u1) (b2 := .slice An2 nn2 cn2) (b3 := .slice A2 nb2 c2) (b4 := .int .u32 la) (blk_below K.out.2 hbz)
   have y0 := (blk_cell z0 0).trans rfl
   have y1 := (blk_cell z0 1).trans rfl
   have y2 := (blk_cell z0 2).trans rfl
   have y3 := (blk_cell z0 3).trans rfl
   have y4 := (blk_cell z0 4).trans rfl
   have E := Aside0.mk hbz
   clear hbz
   go_wp2
   have hlw := ML.out
   have hbw := H.out.1.hs.below.size
   have hbl := H.out.1.hs.led.lt.2.1
   have hcs := D.out.but.size
   have hQ3 := but5T (But.refl (fun k => k = w.heap.size + 2) wz) (q := w.heap.size + 2) rfl (.int .i64 u0) (.int .i64 u1) (.slice An2 nn2 cn2) (.slice A2 nb2 c2) (.int .u32 la)
   refine bodyPost_ret (v := .tuple #[dv u0 u1 (.slice An2 nn2 cn2) (.slice A2 nb2 c2) la, .bool true]) (by simp [results, Tryz.results25, go_sem, dv, y0, y1, y2, y3, y4]) rfl ⟨v', .slice An2 nn2 cn2, .slice A2 nb2 c2, okn', by rw [N.out.2.2]; rfl, ?_, ?_, ?_⟩
   ·have D2 := D.out.ds
    rw [N.out.1, N.out.2.1] at D2
    have ho := D.out.own
    rw [N.out.2.1] at ho
    refine (D2.same E.out).put hQ3 (by omega) (fun hm => ?_) (by omega) (fun hk => ?_) (fun he => ?_)
    ·rcases ho _ (.inl hm) with h | h
     ·have := hlw _ h; omega
     ·omega
    ·rcases ho _ (.inr (.inl hk)) with h | h
     ·have := hlw _ h; omega
     ·omega
    ·rcases ho _ (.inr (.inr he)) with h | h
     ·have := hlw _ h; omega
     ·omega
   ·exact but_drop (D.out.but.trans (But.of_below E.out)) hQ3 (fun k hk => by omega)
   ·have ho := D.out.own
    rw [N.out.2.1] at ho
    exact fun k hk => (ho k hk).elim .inl (fun h => .inr (by omega))
end Go.Proofs.YthibppfdonepoaaGreat.LedT
set_option linter.unusedVariables false
set_option linter.unusedSimpArgs false
namespace Go.Proofs.YthibppfdonepoaaGreat.LedT
open Go.RowKit Go.MapKept Go.Maps Go.ChangeMaps Go.Proofs.YthibppfdonepoaaGreat.XBut Go.Proofs.YthibppfdonepoaaGreat.XMap Go.Proofs.YthibppfdonepoaaGreat.NodeT Go.Proofs.YthibppfdonepoaaGreatW.PrintWords Go.Proofs.YthibppfdonepoaaGreatW.PrintLast
set_option maxHeartbeats 4000000 in
set_option maxRecDepth 100000 in
theorem aload (p : Nat) (n : Int) (w : World) (hc : w.cell? ⟨p, 2, none⟩ = some (.int .u32 n)) : Calls Tryz.prog 66 #[.pointer (some ⟨p, 2, none⟩)] w fun e w' => e = .returned (.int .u32 n) ∧ w' = w := by
 go_enter Tryz.func66, Tryz.ntmps66
 go_wp2
 rw [run_call_load Tryz.func121 (by kernel_rfl) (by kernel_rfl) (by kernel_rfl) .u32 (by kernel_rfl) hc]
 go_wp2
 go_ret
 exact ⟨rfl, rfl⟩
set_option maxHeartbeats 4000000 in
set_option maxRecDepth 100000 in
theorem astore (p : Nat) (n : Int) (u : Value) (w : World) (hc : w.cell? ⟨p, 2, none⟩ = some u) (hz : w.frozen? ⟨p, 2, none⟩ = false) : Calls Tryz.prog 65 #[.pointer (some ⟨p, 2, none⟩), .int .u32 n] w fun e w' => e = .returned (.tuple #[]) ∧ w' = w.setCell ⟨p, 2, none⟩ (.int .u32 n) := by
 go_enter Tryz.func65, Tryz.ntmps65
 go_wp2
 rw [run_call_store Tryz.func120 (by kernel_rfl) (by kernel_rfl) (by kernel_rfl) (by kernel_rfl) hc hz]
 go_wp2
 go_end0
 exact ⟨rfl, rfl⟩
abbrev CB := (Nat × Nat) × (Option Addr × Nat) × Nat
structure CW (W0 : World) (u0 u1 : Int) (ns : List Nd) (bx : List Bx) (n : Nat) (bq : CB) (l : Nat → Bool) (w' : World) : Prop where
 below : Below W0.heap.size W0 w'
 tab : l 4 = true → TabAt w' W0.heap.size bq.1.1 bq.1.2 u0 u1 ns
 row : l 9 = true → RB w' W0.heap.size (.slice bq.2.1.1 n bq.2.1.2) bx
 own : l 4 = true → l 9 = true → ∀ k, (Value.slice bq.2.1.1 n bq.2.1.2).ownBlock = some k → k ≠ bq.1.1 ∧ k ≠ bq.1.2
 box : l 11 = true → w'.heap[bq.2.2]? = some (.cells #[.pointer (some ⟨bq.1.1, 0, none⟩), .slice bq.2.1.1 n bq.2.1.2, .int .u32 0] 107 (0, 0)) ∧ bq.2.2 ≠ bq.1.1 ∧ bq.2.2 ≠ bq.1.2 ∧ W0.heap.size ≤ bq.2.2 ∧ ∀ k, (Value.slice bq.2.1.1 n bq.2.1.2).ownBlock = some k → k ≠ bq.2.2
section
variable {W0 w' w1 : World} {u0 u1 : Int} {ns : List Nd} {bx : List Bx} {n : Nat} {bq : CB} {l : Nat → Bool}
theorem CW.up (h : CW W0 u0 u1 ns bx n bq l w') (j : Nat) (hj : j ≠ 4 ∧ j ≠ 9 ∧ j ≠ 11) : CW W0 u0 u1 ns bx n bq (XInv.up l j) w' := by
 have e : ∀ k, k ≠ j → XInv.up l j k = l k := fun k hk => by unfold XInv.up; rw [if_neg hk]
 refine ⟨h.below, fun h4 => h.tab ?_, fun h9 => h.row ?_, fun h4 h9 => h.own ?_ ?_, fun h11 => h.box ?_⟩
 ·rwa [e 4 (by omega)] at h4
 ·rwa [e 9 (by omega)] at h9
 ·rwa [e 4 (by omega)] at h4
 ·rwa [e 9 (by omega)] at h9
 ·rwa [e 11 (by omega)] at h11
theorem CW.s4 (h : CW W0 u0 u1 ns bx n bq l w') (h11 : l 11 = false) {b g : Nat} (hb : Below w'.heap.size w' w1) (hT : TabAt w1 w'.heap.size b g u0 u1 ns) : CW W0 u0 u1 ns bx n ((b, g), bq.2) (XInv.up l 4) w1 := by
 refine ⟨below_step h.below hb, fun _ => tab_low hT h.below.size, fun h9 => Kd.R_below (h.row (by simpa [XInv.up] using h9)) hb, fun _ h9 k hk => ?_, fun e => by simp [XInv.up, h11] at e⟩
 have h1 := Kd.R_lt (h.row (by simpa [XInv.up] using h9)) k hk
 have h2 := hT.base1
 have h3 := hT.base2
 exact ⟨by dsimp only; omega, by dsimp only; omega⟩
theorem CW.s9 (h : CW W0 u0 u1 ns bx n bq l w') (h11 : l 11 = false) {A : Option Addr} {c : Nat} (hb : Below w'.heap.size w' w1) (hR : RB w1 w'.heap.size (.slice A n c) bx) : CW W0 u0 u1 ns bx n (bq.1, (A, c), bq.2.2) (XInv.up l 9) w1 := by
 refine ⟨below_step h.below hb, fun h4 => (h.tab (by simpa [XInv.up] using h4)).below hb, fun _ => Kd.R_lower hR h.below.size, fun h4 _ k hk => ?_, fun e => by simp [XInv.up, h11] at e⟩
 have h1 := Kd.R_base hR k hk
 have h2 := (h.tab (by simpa [XInv.up] using h4)).lt
 exact ⟨by dsimp only; omega, by dsimp only; omega⟩
theorem CW.s11 (h : CW W0 u0 u1 ns bx n bq l w') (h4 : l 4 = true) (h9 : l 9 = true) (hw : w1 = w'.alloc (.cells #[.pointer (some ⟨bq.1.1, 0, none⟩), .slice bq.2.1.1 n bq.2.1.2, .int .u32 0] 107)) : CW W0 u0 u1 ns bx n (bq.1, bq.2.1, w'.heap.size) (XInv.up l 11) w1 := by
 have hb : Below w'.heap.size w' w1 := by rw [hw]; exact below_alloc (Below.refl _ _) _
 have h2 := (h.tab h4).lt
 refine ⟨below_step h.below hb, fun _ => (h.tab h4).below hb, fun _ => Kd.R_below (h.row h9) hb, fun _ _ => h.own h4 h9, fun _ => ⟨by rw [hw]; exact blk_new w' _, by dsimp only; omega, by dsimp only; omega, h.below.size, fun k hk => ?_⟩⟩
 have := Kd.R_lt (h.row h9) k hk
 dsimp only
 omega
end
theorem cs13 (P : Nat → Prop) (h0 : P 0) (h1 : P 1) (h2 : P 2) (h3 : P 3) (h4 : P 4) (h5 : P 5) (h6 : P 6) (h7 : P 7) (h8 : P 8) (h9 : P 9) (h10 : P 10) (h11 : P 11) (h12 : P 12) : ∀ i, i < 13 → P i := by
 intro i hi
 rcases (by omega : i = 0 ∨ i = 1 ∨ i = 2 ∨ i = 3 ∨ i = 4 ∨ i = 5 ∨ i = 6 ∨ i = 7 ∨ i = 8 ∨ i = 9 ∨ i = 10 ∨ i = 11 ∨ i = 12) with rfl | rfl | rfl | rfl | rfl | rfl | rfl | rfl | rfl | rfl | rfl | rfl | rfl
 all_goals assumption
set_option maxHeartbeats 8000000 in
set_option maxRecDepth 100000 in
theorem lcopy {base p b g : Nat} {u0 u1 : Int} {ns : List Nd} {v : Value} {bx : List Bx} {last : Int} (w : World) (h : LedAt w base p b g u0 u1 ns v bx last) (hl : bx.length ≤ 1000000) :
  Calls Tryz.prog 27 #[.pointer (some ⟨p, 0, none⟩)] w fun e w' => ∃ p' b' g' v', e = .returned (.pointer (some ⟨p', 0, none⟩)) ∧ Below w.heap.size w w' ∧ LedAt w' w.heap.size p' b' g' u0 u1 ns v' bx last := by
 obtain ⟨A, c, rfl⟩ := Kd.R_slice h.row
 have hlt := h.lt
 obtain ⟨c0, c1, c2⟩ := h.cells
 have CC := Aside0.mk (fun (w' : World) (hB : Below w.heap.size w w') => copy base b g u0 u1 ns w' (h.tab.below hB))
 have CL := Aside0.mk (fun (w' : World) (hB : Below w.heap.size w w') => clone bx A c w' (Kd.C_below (Kd.R_reads' h.row).2.2 hB) hl)
 obtain ⟨nn, hnn⟩ : ∃ nn, bx.length = nn := ⟨_, rfl⟩
 rw [hnn] at CL c1
 have H := Aside0.mk (And.intro h (And.intro hnn hlt))
 have P0 := Aside0.mk (And.intro c0 c1)
 clear h hl hlt hnn c1 c2
 go_enter Tryz.func27, Tryz.ntmps27
 go_wp2_with fail
 refine (none_at p _ _ c0).mono ?_
 rintro e wz ⟨rfl, hz⟩
 obtain rfl := hz.symm
 clear hz c0
 simp only [Option.isNone]
 go_upto_region 3 with (fail)
 refine XInv.region_tab [] [[], [0], [1], [2], [3], [], [5], [6], [7], [8, 4], [4, 9], [10], [11, 9, 0, 1, 2, 3, 4, 5, 6, 7, 8, 9, 10, 11]] (fun bq jq => match jq with
   | 0 => .pointer (some ⟨p, 0, none⟩)
   | 1 => .pointer (some ⟨p, 0, none⟩)
   | 2 => .pointer (some ⟨p, 0, none⟩)
   | 3 => .pointer (some ⟨b, 0, none⟩)
   | 4 => .pointer (some ⟨bq.1.1, 0, none⟩)
   | 5 => .pointer (some ⟨p, 0, none⟩)
   | 6 => .pointer (some ⟨p, 0, none⟩)
   | 7 => .pointer (some ⟨p, 1, none⟩)
   | 8 => .slice A nn c
   | 9 => .slice bq.2.1.1 nn bq.2.1.2
   | 10 => .agg #[.pointer (some ⟨bq.1.1, 0, none⟩), .slice bq.2.1.1 nn bq.2.1.2, .int .u32 0]
   | 11 => .pointer (some ⟨bq.2.2, 0, none⟩)
   | 12 => .pointer (some ⟨bq.2.2, 0, none⟩)
   | _ => undef)
   (fun bq l w' => CW w u0 u1 ns bx nn bq l w')
   (by kernel_rfl) rfl (by kernel_rfl) (by kernel_rfl) (by kernel_rfl) ⟨(((0, 0), (none, 0), 0) : CB), ⟨below_drew (Below.refl _ _), fun h => (by cases h), fun h => (by cases h), fun h => (by cases h), fun h => (by cases h)⟩⟩ ?_ ?_
 ·intro i1 hi1 hds oi hoi bq lb w' hW hlb hcl hneed hclo
  have hi1 : i1 < 13 := hi1
  have hcs : i1 = 0 ∨ i1 = 1 ∨ i1 = 2 ∨ i1 = 3 ∨ i1 = 4 ∨ i1 = 5 ∨ i1 = 6 ∨ i1 = 7 ∨ i1 = 8 ∨ i1 = 9 ∨ i1 = 10 ∨ i1 = 11 ∨ i1 = 12 := by omega
  clear hi1
  have c0 := pw_cell_below hW.below P0.out.1
  have c1 := pw_cell_below hW.below P0.out.2
  rcases hcs with rfl | rfl | rfl | rfl | rfl | rfl | rfl | rfl | rfl | rfl | rfl | rfl | rfl
  all_goals simp only [List.getElem?_toArray, List.getElem?_cons_succ, List.getElem?_cons_zero, Option.some.injEq] at hoi
  all_goals subst hoi
  ·refine XInv.yes_tab [] (by kernel_rfl) ?_
   intro Q2 K2 hK2
   simp only [XInv.puts, XPrint.pw]
   go_simp
   exact hK2.out (.pointer (some ⟨p, 0, none⟩)) w' ⟨bq, rfl, fun _ _ _ => rfl, hW.up 0 (by decide)⟩
  ·refine XInv.yes_tab [(6, 0)] (by kernel_rfl) ?_
   intro Q2 K2 hK2
   simp only [XInv.puts, XPrint.pw]
   go_simp
   exact hK2.out (.pointer (some ⟨p, 0, none⟩)) w' ⟨bq, rfl, fun _ _ _ => rfl, hW.up 1 (by decide)⟩
  ·refine XInv.yes_tab [(7, 1)] (by kernel_rfl) ?_
   intro Q2 K2 hK2
   simp only [XInv.puts, XPrint.pw]
   go_simp
   exact hK2.out (.pointer (some ⟨p, 0, none⟩)) w' ⟨bq, rfl, fun _ _ _ => rfl, hW.up 2 (by decide)⟩
  ·refine XInv.yes_tab [(8, 2)] (by kernel_rfl) ?_
   intro Q2 K2 hK2
   simp only [XInv.puts, XPrint.pw]
   go_simp
   exact hK2.out (.pointer (some ⟨b, 0, none⟩)) w' ⟨bq, rfl, fun _ _ _ => rfl, hW.up 3 (by decide)⟩
  ·refine XInv.yes_tab [(9, 3)] (by kernel_rfl) ?_
   have c0 := pw_cell_below hW.below P0.out.1
   have c1 := pw_cell_below hW.below P0.out.2
   have h11 : lb 11 = false := ((Bool.eq_false_or_eq_true (lb 11)).elim (fun hx => absurd (XInv.reach hclo [10] 11 4 (by kernel_rfl) hx) (by rw [hlb]; decide)) id)
   intro Q2 K2 hK2
   simp only [XInv.puts, XPrint.pw] at hK2 ⊢
   go_simp
   go_at_call 64
   (with_reducible refine (CC.out _ hW.below).mono ?_)
   rintro e wz ⟨b1, g1, rfl, hb, hT⟩
   exact hK2.out (.pointer (some ⟨b1, 0, none⟩)) wz ⟨((b1, g1), bq.2), rfl, (cs13 _ (fun _ => rfl) (fun _ => rfl) (fun _ => rfl) (fun _ => rfl) (fun hlj => absurd (hlb.symm.trans hlj) (by decide)) (fun _ => rfl) (fun _ => rfl) (fun _ => rfl) (fun _ => rfl) (fun hlj => absurd (hlb.symm.trans (XInv.reach hclo [] 9 4 (by kernel_rfl) hlj)) (by decide)) (fun hlj => absurd (hlb.symm.trans (XInv.reach hclo [] 10 4 (by kernel_rfl) hlj)) (by decide)) (fun hlj => absurd (hlb.symm.trans (XInv.reach hclo [10] 11 4 (by kernel_rfl) hlj)) (by decide)) (fun hlj => absurd (hlb.symm.trans (XInv.reach hclo [] 12 4 (by kernel_rfl) hlj)) (by decide))), hW.s4 h11 hb hT⟩
  ·refine XInv.yes_tab [] (by kernel_rfl) ?_
   intro Q2 K2 hK2
   simp only [XInv.puts, XPrint.pw]
   go_simp
   exact hK2.out (.pointer (some ⟨p, 0, none⟩)) w' ⟨bq, rfl, fun _ _ _ => rfl, hW.up 5 (by decide)⟩
  ·refine XInv.yes_tab [(11, 5)] (by kernel_rfl) ?_
   intro Q2 K2 hK2
   simp only [XInv.puts, XPrint.pw]
   go_simp
   exact hK2.out (.pointer (some ⟨p, 0, none⟩)) w' ⟨bq, rfl, fun _ _ _ => rfl, hW.up 6 (by decide)⟩
  ·refine XInv.yes_tab [(12, 6)] (by kernel_rfl) ?_
   intro Q2 K2 hK2
   simp only [XInv.puts, XPrint.pw]
   go_simp
   exact hK2.out (.pointer (some ⟨p, 1, none⟩)) w' ⟨bq, rfl, fun _ _ _ => rfl, hW.up 7 (by decide)⟩
  ·refine XInv.yes_tab [(13, 7)] (by kernel_rfl) ?_
   intro Q2 K2 hK2
   simp only [XInv.puts, XPrint.pw]
   go_simp
   exact hK2.out (.slice A nn c) w' ⟨bq, rfl, fun _ _ _ => rfl, hW.up 8 (by decide)⟩
  ·refine XInv.yes_tab [(14, 8), (10, 4)] (by kernel_rfl) ?_
   have c0 := pw_cell_below hW.below P0.out.1
   have c1 := pw_cell_below hW.below P0.out.2
   have h11 : lb 11 = false := ((Bool.eq_false_or_eq_true (lb 11)).elim (fun hx => absurd (XInv.reach hclo [10] 11 9 (by kernel_rfl) hx) (by rw [hlb]; decide)) id)
   intro Q2 K2 hK2
   simp only [XInv.puts, XPrint.pw] at hK2 ⊢
   go_simp
   go_at_call 44
   (with_reducible refine (CL.out _ hW.below).mono ?_)
   rintro e wz ⟨v1, rfl, hR, hb⟩
   obtain ⟨A1, c1, rfl⟩ := Kd.R_slice hR
   rw [H.out.2.1] at hR ⊢
   exact hK2.out (.slice A1 nn c1) wz ⟨(bq.1, (A1, c1), bq.2.2), rfl, (cs13 _ (fun _ => rfl) (fun _ => rfl) (fun _ => rfl) (fun _ => rfl) (fun _ => rfl) (fun _ => rfl) (fun _ => rfl) (fun _ => rfl) (fun _ => rfl) (fun hlj => absurd (hlb.symm.trans hlj) (by decide)) (fun hlj => absurd (hlb.symm.trans (XInv.reach hclo [] 10 9 (by kernel_rfl) hlj)) (by decide)) (fun hlj => absurd (hlb.symm.trans (XInv.reach hclo [10] 11 9 (by kernel_rfl) hlj)) (by decide)) (fun hlj => absurd (hlb.symm.trans (XInv.reach hclo [] 12 9 (by kernel_rfl) hlj)) (by decide))), hW.s9 h11 hb hR⟩
  ·refine XInv.yes_tab [(15, 9), (10, 4)] (by kernel_rfl) ?_
   intro Q2 K2 hK2
   simp only [XInv.puts, XPrint.pw]
   go_simp
   exact hK2.out (.agg #[.pointer (some ⟨bq.1.1, 0, none⟩), .slice bq.2.1.1 nn bq.2.1.2, .int .u32 0]) w' ⟨bq, rfl, fun _ _ _ => rfl, hW.up 10 (by decide)⟩
  ·refine XInv.yes_tab [(16, 10)] (by kernel_rfl) ?_
   have h4 : lb 4 = true := (XInv.reach hclo [] 10 4 (by kernel_rfl) (hneed 10 (by kernel_rfl)))
   have h9 : lb 9 = true := (XInv.reach hclo [] 10 9 (by kernel_rfl) (hneed 10 (by kernel_rfl)))
   intro Q2 K2 hK2
   simp only [XInv.puts, XPrint.pw] at hK2 ⊢
   go_simp
   exact hK2.out (.pointer (some ⟨w'.heap.size, 0, none⟩)) _ ⟨(bq.1, bq.2.1, w'.heap.size), rfl, (cs13 _ (fun _ => rfl) (fun _ => rfl) (fun _ => rfl) (fun _ => rfl) (fun _ => rfl) (fun _ => rfl) (fun _ => rfl) (fun _ => rfl) (fun _ => rfl) (fun _ => rfl) (fun _ => rfl) (fun hlj => absurd (hlb.symm.trans hlj) (by decide)) (fun hlj => absurd (hlb.symm.trans (XInv.reach hclo [] 12 11 (by kernel_rfl) hlj)) (by decide))), hW.s11 h4 h9 rfl⟩
  ·refine XInv.yes_tab [(17, 11), (16, 10), (15, 9), (14, 8), (13, 7), (12, 6), (11, 5), (10, 4), (9, 3), (8, 2), (7, 1), (6, 0)] (by kernel_rfl) ?_
   intro Q2 K2 hK2
   simp only [XInv.puts, XPrint.pw] at hK2 ⊢
   go_simp
   exact hK2.out (.pointer (some ⟨bq.2.2, 0, none⟩)) w' ⟨bq, rfl, fun _ _ _ => rfl, hW.up 12 (by decide)⟩
 ·intro bq w' hW
  refine XInv.end_nil [(3, 12), (17, 11), (16, 10), (15, 9), (14, 8), (13, 7), (12, 6), (11, 5), (10, 4), (9, 3), (8, 2), (7, 1), (6, 0)] (by kernel_rfl) (by kernel_rfl) ?_
  simp only [XInv.puts, XPrint.pw]
  have hT := hW.tab (by kernel_rfl)
  have hR := hW.row (by kernel_rfl)
  have ho := hW.own (by kernel_rfl) (by kernel_rfl)
  obtain ⟨hk, n1, n2, n3, ho2⟩ := hW.box (by kernel_rfl)
  have hB := hW.below
  obtain ⟨⟨b1, g1⟩, ⟨A1, k1⟩, p1⟩ := bq
  obtain ⟨w2, hw2⟩ : ∃ w2, w' = w2 := ⟨_, rfl⟩
  rw [hw2] at hT hR hB hk ⊢
  dsimp only at hT hR ho hk n1 n2 n3 ho2 ⊢
  have L2 : LedAt w2 w.heap.size p1 b1 g1 u0 u1 ns (.slice A1 nn k1) bx 0 := ⟨hT, hk, hR, fun k hk => ⟨(ho k hk).1, (ho k hk).2, ho2 k hk⟩, n1, n2, n3⟩
  have X := Aside0.mk (And.intro L2 hB)
  clear hW hT hR ho hk n1 n2 n3 ho2 hB L2 hw2
  have C2 := Aside0.mk (pw_cell_below X.out.2 H.out.1.cells.2.2)
  go_upto_region 4 with (fail)
  refine XInv.region_tab [] [[], [0], [1], [], [3], [4], [5], [2, 6, 6]] (fun bq jq => match jq with
    | 0 => .pointer (some ⟨p1, 0, none⟩)
    | 1 => .pointer (some ⟨p1, 0, none⟩)
    | 2 => .pointer (some ⟨p1, 2, none⟩)
    | 3 => .pointer (some ⟨p, 0, none⟩)
    | 4 => .pointer (some ⟨p, 0, none⟩)
    | 5 => .pointer (some ⟨p, 2, none⟩)
    | 6 => .int .u32 last
    | 7 => .tuple #[]
    | _ => undef)
    (fun bq l w' => if l 7 = true then (∃ wz, Below w2.heap.size w2 wz ∧ w' = wz.setCell ⟨p1, 2, none⟩ (.int .u32 last)) else Below w2.heap.size w2 w')
    (by kernel_rfl) rfl (by kernel_rfl) (by kernel_rfl) (by kernel_rfl) ⟨fun _ : Nat => (0 : Nat), (by rw [if_neg (by simp)]; exact below_drew (Below.refl _ _))⟩ ?_ ?_
  ·intro i1 hi1 hds oi hoi bq lb w' hW hlb hcl hneed hclo
   have hi1 : i1 < 8 := hi1
   have hcs : i1 = 0 ∨ i1 = 1 ∨ i1 = 2 ∨ i1 = 3 ∨ i1 = 4 ∨ i1 = 5 ∨ i1 = 6 ∨ i1 = 7 := by omega
   clear hi1
   rcases hcs with rfl | rfl | rfl | rfl | rfl | rfl | rfl | rfl
   all_goals simp only [List.getElem?_toArray, List.getElem?_cons_succ, List.getElem?_cons_zero, Option.some.injEq] at hoi
   all_goals subst hoi
   ·refine XInv.yes_tab [] (by kernel_rfl) ?_
    have hs0 : lb 7 = false := (Bool.eq_false_or_eq_true (lb 7)).elim (fun h => absurd (XInv.reach hclo [2, 1] 7 0 (by kernel_rfl) h) (by rw [hlb]; decide)) id
    rw [if_neg (by rw [hs0]; decide)] at hW
    have c2 := pw_cell_below hW C2.out
    have k1 := blk_below X.out.1.blk hW
    have d2 := (blk_cell k1 2).trans rfl
    have f2 := blk_frozen k1 2
    clear hcl hneed hclo
    intro Q2 K2 hK2
    simp only [XInv.puts, XPrint.pw]
    go_simp
    exact hK2.out (.pointer (some ⟨p1, 0, none⟩)) w' ⟨bq, rfl, fun _ _ _ => rfl, (by rw [if_neg (by simp [XInv.up, hs0])]; exact hW)⟩
   ·refine XInv.yes_tab [(18, 0)] (by kernel_rfl) ?_
    have hs0 : lb 7 = false := (Bool.eq_false_or_eq_true (lb 7)).elim (fun h => absurd (XInv.reach hclo [2] 7 1 (by kernel_rfl) h) (by rw [hlb]; decide)) id
    rw [if_neg (by rw [hs0]; decide)] at hW
    have c2 := pw_cell_below hW C2.out
    have k1 := blk_below X.out.1.blk hW
    have d2 := (blk_cell k1 2).trans rfl
    have f2 := blk_frozen k1 2
    clear hcl hneed hclo
    intro Q2 K2 hK2
    simp only [XInv.puts, XPrint.pw]
    go_simp
    exact hK2.out (.pointer (some ⟨p1, 0, none⟩)) w' ⟨bq, rfl, fun _ _ _ => rfl, (by rw [if_neg (by simp [XInv.up, hs0])]; exact hW)⟩
   ·refine XInv.yes_tab [(19, 1)] (by kernel_rfl) ?_
    have hs0 := hcl 7 (by decide) (by kernel_rfl)
    rw [if_neg (by rw [hs0]; decide)] at hW
    have c2 := pw_cell_below hW C2.out
    have k1 := blk_below X.out.1.blk hW
    have d2 := (blk_cell k1 2).trans rfl
    have f2 := blk_frozen k1 2
    clear hcl hneed hclo
    intro Q2 K2 hK2
    simp only [XInv.puts, XPrint.pw]
    go_simp
    exact hK2.out (.pointer (some ⟨p1, 2, none⟩)) w' ⟨bq, rfl, fun _ _ _ => rfl, (by rw [if_neg (by simp [XInv.up, hs0])]; exact hW)⟩
   ·refine XInv.yes_tab [] (by kernel_rfl) ?_
    have hs0 : lb 7 = false := (Bool.eq_false_or_eq_true (lb 7)).elim (fun h => absurd (XInv.reach hclo [6, 5, 4] 7 3 (by kernel_rfl) h) (by rw [hlb]; decide)) id
    rw [if_neg (by rw [hs0]; decide)] at hW
    have c2 := pw_cell_below hW C2.out
    have k1 := blk_below X.out.1.blk hW
    have d2 := (blk_cell k1 2).trans rfl
    have f2 := blk_frozen k1 2
    clear hcl hneed hclo
    intro Q2 K2 hK2
    simp only [XInv.puts, XPrint.pw]
    go_simp
    exact hK2.out (.pointer (some ⟨p, 0, none⟩)) w' ⟨bq, rfl, fun _ _ _ => rfl, (by rw [if_neg (by simp [XInv.up, hs0])]; exact hW)⟩
   ·refine XInv.yes_tab [(21, 3)] (by kernel_rfl) ?_
    have hs0 : lb 7 = false := (Bool.eq_false_or_eq_true (lb 7)).elim (fun h => absurd (XInv.reach hclo [6, 5] 7 4 (by kernel_rfl) h) (by rw [hlb]; decide)) id
    rw [if_neg (by rw [hs0]; decide)] at hW
    have c2 := pw_cell_below hW C2.out
    have k1 := blk_below X.out.1.blk hW
    have d2 := (blk_cell k1 2).trans rfl
    have f2 := blk_frozen k1 2
    clear hcl hneed hclo
    intro Q2 K2 hK2
    simp only [XInv.puts, XPrint.pw]
    go_simp
    exact hK2.out (.pointer (some ⟨p, 0, none⟩)) w' ⟨bq, rfl, fun _ _ _ => rfl, (by rw [if_neg (by simp [XInv.up, hs0])]; exact hW)⟩
   ·refine XInv.yes_tab [(22, 4)] (by kernel_rfl) ?_
    have hs0 : lb 7 = false := (Bool.eq_false_or_eq_true (lb 7)).elim (fun h => absurd (XInv.reach hclo [6] 7 5 (by kernel_rfl) h) (by rw [hlb]; decide)) id
    rw [if_neg (by rw [hs0]; decide)] at hW
    have c2 := pw_cell_below hW C2.out
    have k1 := blk_below X.out.1.blk hW
    have d2 := (blk_cell k1 2).trans rfl
    have f2 := blk_frozen k1 2
    clear hcl hneed hclo
    intro Q2 K2 hK2
    simp only [XInv.puts, XPrint.pw]
    go_simp
    exact hK2.out (.pointer (some ⟨p, 2, none⟩)) w' ⟨bq, rfl, fun _ _ _ => rfl, (by rw [if_neg (by simp [XInv.up, hs0])]; exact hW)⟩
   ·refine XInv.yes_tab [(23, 5)] (by kernel_rfl) ?_
    have hs0 := hcl 7 (by decide) (by kernel_rfl)
    rw [if_neg (by rw [hs0]; decide)] at hW
    have c2 := pw_cell_below hW C2.out
    have k1 := blk_below X.out.1.blk hW
    have d2 := (blk_cell k1 2).trans rfl
    have f2 := blk_frozen k1 2
    clear hcl hneed
    intro Q2 K2 hK2
    simp only [XInv.puts, XPrint.pw]
    go_simp
    go_at_call 66
    (with_reducible refine (aload p last _ c2).mono ?_)
    rintro e wz ⟨rfl, hz⟩
    rw [hz]
    exact hK2.out (.int .u32 last) w' ⟨bq, rfl, fun _ _ _ => rfl, (by rw [if_neg (by simp [XInv.up, hs0])]; exact hW)⟩
   ·refine XInv.yes_tab [(24, 6), (20, 2)] (by kernel_rfl) ?_
    have hs0 := hlb
    rw [if_neg (by rw [hs0]; decide)] at hW
    have c2 := pw_cell_below hW C2.out
    have k1 := blk_below X.out.1.blk hW
    have d2 := (blk_cell k1 2).trans rfl
    have f2 := blk_frozen k1 2
    clear hcl hneed
    intro Q2 K2 hK2
    simp only [XInv.puts, XPrint.pw]
    go_simp
    go_at_call 65
    (with_reducible refine (astore p1 last _ _ d2 f2).mono ?_)
    rintro e wz ⟨rfl, hz⟩
    rw [hz]
    exact hK2.out (.tuple #[]) _ ⟨bq, rfl, fun _ _ _ => rfl, (by rw [if_pos (by simp [XInv.up, hs0])]; exact ⟨w', hW, rfl⟩)⟩
  ·intro bq w' hW
   refine XInv.end_nil [(25, 7), (24, 6), (23, 5), (22, 4), (21, 3), (20, 2), (19, 1), (18, 0)] (by kernel_rfl) (by kernel_rfl) ?_
   simp only [XInv.puts, XPrint.pw]
   rw [if_pos (by kernel_rfl)] at hW
   obtain ⟨wz, hbz, rfl⟩ := hW
   have E := Aside0.mk hbz
   clear hbz
   go_wp2
   go_ret
   exact ⟨p1, b1, g1, _, rfl, But.below (below_then X.out.2 X.out.2.size E.out) (Nat.le_refl _) ((But.refl (fun k => k = p1) wz).setCell (b := p1) rfl 2 _) (fun k hk => by rw [hk]; exact X.out.1.ne.2.2), (X.out.1.below E.out).number last⟩
end Go.Proofs.YthibppfdonepoaaGreat.LedT
set_option linter.unusedVariables false
namespace Go.Proofs.YthibppfdonepoaaGreat.LedT
open Go.RowKit Go.MapKept Go.Maps Go.ChangeMaps Go.Proofs.YthibppfdonepoaaGreat.XBut Go.Proofs.YthibppfdonepoaaGreat.XMap Go.Proofs.YthibppfdonepoaaGreat.NodeT Go.Proofs.YthibppfdonepoaaGreatW.PrintWords Go.Proofs.YthibppfdonepoaaGreatW.PrintLast
theorem grow_own (u0 u1 : Int) (ns : List Nd) (bx : List Bx) (last o : Int) (s : Bool) (i : Nat) : ∀ y ∈ grow u0 u1 ns bx last o s i, y.f2 = o ∧ y.f3 = s := by
 induction i with
 | zero => exact fun y h => (List.not_mem_nil h).elim
 | succ i ih =>
  intro y hy
  rw [grow] at hy
  rcases List.mem_append.1 hy with h | h
  ·exact ih y h
  ·rw [List.mem_singleton.1 h]
   exact ⟨rfl, rfl⟩
theorem given_own (u0 u1 : Int) (ns : List Nd) (bx : List Bx) (last o : Int) (s : Bool) (n : Int) : ∀ y ∈ given u0 u1 ns bx last o s n, y.f2 = o ∧ y.f3 = s := by
 unfold given
 split
 ·exact grow_own u0 u1 ns bx last o s n.toNat
 ·exact fun y h => (List.not_mem_nil h).elim
theorem given_new {u0 u1 : Int} {ns : List Nd} {bx : List Bx} {last o : Int} {s : Bool} {n : Int} : ∀ y ∈ given u0 u1 ns bx last o s n, last < y.f0 := by
 unfold given
 split
 ·intro y hy
  obtain ⟨k, hk, rfl⟩ := List.getElem_of_mem hy
  rw [grow_ids]
  omega
 ·exact fun y h => (List.not_mem_nil h).elim
theorem gcode_zero {u0 u1 : Int} {ns : List Nd} {bx : List Bx} {o n : Int} (h : gcode u0 u1 ns bx o n = 0) : mayc o n = 0 ∧ (o ≠ 0 ∧ 0 ≤ n ∧ n ≤ 1048576) ∧ n ≤ freeN u0 u1 ns bx := by
 unfold gcode at h
 split at h
 ·cases h
 ·rename_i h1
  split at h
  ·cases h
  ·exact ⟨(mayc_cases o n).resolve_left h1, mayc_zero h1, by omega⟩
theorem taken_back {u0 u1 : Int} {ns : List Nd} {bx : List Bx} {last o : Int} {s : Bool} {n : Int} (hG : LG u0 u1 ns bx last) (h : gcode u0 u1 ns bx o n = 0) :
  tcode (bx ++ given u0 u1 ns bx last o s n) o s n = 0 ∧ taken (bx ++ given u0 u1 ns bx last o s n) o s n = given u0 u1 ns bx last o s n ∧ leftN (bx ++ given u0 u1 ns bx last o s n) (given u0 u1 ns bx last o s n) = bx ∧ ((given u0 u1 ns bx last o s n).length : Int) = n := by
 obtain ⟨hm, hn, _⟩ := gcode_zero h
 have hgl := given_len (u0 := u0) (u1 := u1) (ns := ns) (bx := bx) (last := last) (o := o) (s := s) (n := n)
 rw [if_pos h] at hgl
 have ho := given_own u0 u1 ns bx last o s n
 have hw := given_new (u0 := u0) (u1 := u1) (ns := ns) (bx := bx) (last := last) (o := o) (s := s) (n := n)
 obtain ⟨gv, hgv⟩ : ∃ gv, given u0 u1 ns bx last o s n = gv := ⟨_, rfl⟩
 rw [hgv] at hgl ho hw ⊢
 have e1 : ownN (bx ++ gv) o s = ownN bx o s ++ gv := by
  have hf : gv.filter (fun x => x.f2 == o && x.f3 == s) = gv := List.filter_eq_self.2 fun y hy => by rw [(ho y hy).1, (ho y hy).2]; simp
  unfold ownN
  rw [List.filter_append, hf]
 have e2 : (ownN (bx ++ gv) o s).length = (ownN bx o s).length + n.toNat := by rw [e1, List.length_append, hgl]
 have e3 : tcode (bx ++ gv) o s n = 0 := by
  unfold tcode
  rw [hm, if_neg (by decide), if_neg (by omega)]
 refine ⟨e3, ?_, ?_, by omega⟩
 ·unfold taken goneN
  rw [if_pos e3, e2, e1, Nat.add_sub_cancel, List.drop_left]
 ·have f1 : bx.filter (fun x => !decide (x ∈ gv)) = bx := List.filter_eq_self.2 fun y hy => by
   have : y ∉ gv := fun hg => by
    have h1 := hw y hg
    have h2 := (hG.num y hy).2
    omega
   simp [this]
  have f2 : gv.filter (fun x => !decide (x ∈ gv)) = [] := List.filter_eq_nil_iff.2 fun y hy => by simp [hy]
  unfold leftN
  rw [List.filter_append, f1, f2, List.append_nil]
theorem given_none {u0 u1 : Int} {ns : List Nd} {bx : List Bx} {last o : Int} {s : Bool} {n : Int} (h : gcode u0 u1 ns bx o n ≠ 0) : given u0 u1 ns bx last o s n = [] := by
 unfold given
 rw [if_neg h]
theorem free_given {u0 u1 : Int} {ns : List Nd} {bx gv : List Bx} : freeN u0 u1 ns (bx ++ gv) = freeN u0 u1 ns bx - (gv.length : Int) := by
 unfold freeN
 rw [List.length_append]
 omega
end Go.Proofs.YthibppfdonepoaaGreat.LedT
set_option linter.unusedVariables false
set_option linter.unusedSimpArgs false
namespace Go.Proofs.YthibppfdonepoaaGreat.LedT
open Go.RowKit Go.MapKept Go.Maps Go.ChangeMaps Go.Proofs.YthibppfdonepoaaGreat.XBut Go.Proofs.YthibppfdonepoaaGreat.XMap Go.Proofs.YthibppfdonepoaaGreat.NodeT Go.Proofs.YthibppfdonepoaaGreatW.PrintWords Go.Proofs.YthibppfdonepoaaGreatW.PrintLast
theorem given_le {u0 u1 : Int} {ns : List Nd} {bx : List Bx} {last o m : Int} {s : Bool} (hb : (decide (200 < m) && decide (m ≤ 1048576)) = false) : last + ((given u0 u1 ns bx last o s m).length : Int) ≤ last + 200 := by
 rw [given_len]
 split
 ·rename_i hc
  unfold gcode at hc
  split at hc
  ·cases hc
  ·rename_i hm
   have := mayc_zero hm
   rcases Bool.and_eq_false_iff.1 hb with h1 | h1
   ·have := of_decide_eq_false h1
    omega
   ·have := of_decide_eq_false h1
    omega
 ·omega
theorem acL_le {u0 u1 : Int} {ns : List Nd} {bx : List Bx} {last : Int} {x : Ac} (hb : big x = false) : acL u0 u1 ns bx last x ≤ last + 200 := by
 unfold acL
 split
 ·exact given_le hb
 ·omega
theorem DS.new {w0 w1 w2 : World} {p b g : Nat} {u0 u1 : Int} {vn : Value} (h : HS w0 w1 p b g u0 u1 [] (.slice none 0 0) [] 0 []) (hR : RNd w2 w1.heap.size (fun _ => True) vn []) (hb : Below w1.heap.size w1 w2) : DS w0 w2 p b g u0 u1 [] (.slice none 0 0) [] 0 vn (.slice none 0 0) (fun k => w1.heap.size ≤ k ∧ k < w2.heap.size) := by
 have hl := h.led.lt
 refine ⟨h.same hb, Kd.R_mono (Kd.R_lower (Kd.R_bound hR) h.below.size) (fun k hk => ⟨hk.2.1, hk.2.2.1⟩), Kd.R_nil _ _ w2 w0.heap.size _, fun k hk => ⟨fun hm => ?_, by omega, by simp [Value.ownBlock]⟩, fun k hk => by simp [Value.ownBlock] at hk, fun k hk => hk.2⟩
 rcases hm with (hm | hm) | hm
 ·omega
 ·omega
 ·simp [Value.ownBlock] at hm
end Go.Proofs.YthibppfdonepoaaGreat.LedT
