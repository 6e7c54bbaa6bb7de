/- liverylaw23.LedgerLost. -/
import Derived.Test.YthibppfdonepoaaCLedgerLostHNodeV
import Derived.Test.YthibppfdonepoaaCLedgerLostHLedNN
set_option linter.unusedVariables false
set_option linter.unusedSimpArgs false
namespace Go.Proofs.Ythibppfdonepoaa.LedT
open Go.RowKit Go.MapKept Go.Maps Go.ChangeMaps Go.Proofs.Ythibppfdonepoaa.XBut Go.Proofs.Ythibppfdonepoaa.XMap Go.Proofs.Ythibppfdonepoaa.NodeT Go.Proofs.YthibppfdonepoaaW.PrintWords Go.Proofs.YthibppfdonepoaaW.PrintLast
theorem given_le {u0 u1 : Int} {ns : List Nd} {bx : List Bx} {last o m : Int} {s : Bool} (hb : (decide (200 < m) && decide (m ≤ 1048576)) = false) : last + ((given u0 u1 ns bx last o s m).length : Int) ≤ last + 200 := by
 rw [given_len]
 split
 ·rename_i hc
  unfold gcode at hc
  split at hc
  ·cases hc
  ·rename_i hm
   have := mayc_zero hm
   rcases Bool.and_eq_false_iff.1 hb with h1 | h1
   ·have := of_decide_eq_false h1
    omega
   ·have := of_decide_eq_false h1
    omega
 ·omega
theorem acL_le {u0 u1 : Int} {ns : List Nd} {bx : List Bx} {last : Int} {x : Ac} (hb : big x = false) : acL u0 u1 ns bx last x ≤ last + 200 := by
 unfold acL
 split
 ·exact given_le hb
 ·omega
theorem cs11 (P : Nat → Prop) (h0 : P 0) (h1 : P 1) (h2 : P 2) (h3 : P 3) (h4 : P 4) (h5 : P 5) (h6 : P 6) (h7 : P 7) (h8 : P 8) (h9 : P 9) (h10 : P 10) : ∀ i, i < 11 → P i := by
 intro i hi
 rcases (by omega : i = 0 ∨ i = 1 ∨ i = 2 ∨ i = 3 ∨ i = 4 ∨ i = 5 ∨ i = 6 ∨ i = 7 ∨ i = 8 ∨ i = 9 ∨ i = 10) with rfl | rfl | rfl | rfl | rfl | rfl | rfl | rfl | rfl | rfl | rfl
 all_goals assumption
theorem cs10 (P : Nat → Prop) (h0 : P 0) (h1 : P 1) (h2 : P 2) (h3 : P 3) (h4 : P 4) (h5 : P 5) (h6 : P 6) (h7 : P 7) (h8 : P 8) (h9 : P 9) : ∀ i, i < 10 → P i := by
 intro i hi
 rcases (by omega : i = 0 ∨ i = 1 ∨ i = 2 ∨ i = 3 ∨ i = 4 ∨ i = 5 ∨ i = 6 ∨ i = 7 ∨ i = 8 ∨ i = 9) with rfl | rfl | rfl | rfl | rfl | rfl | rfl | rfl | rfl | rfl
 all_goals assumption
set_option maxHeartbeats 8000000 in
set_option maxRecDepth 100000 in
theorem ledgerLost_bad (u0 u1 i : Int) (A : Option Addr) (n c : Nat) (w : World) (hu : ¬ okV 1 ⟨u0, u1⟩) :
  Calls Try.prog 13 #[.agg #[.int .i64 u0, .int .i64 u1], .slice A n c, .int .u32 i] w fun e w' => e = .returned (.bool true) ∧ Below w.heap.size w w' := by
 have hu23 := Try.underlying23
 have H := Aside0.mk hu
 clear hu
 go_enter Try.func13, Try.ntmps13
 go_wp2_with fail
 refine (lnew_no u0 u1 _ H.out).mono ?_
 rintro e w1 ⟨rfl, hb1⟩
 have X := Aside0.mk (below_then (below_alloc (Below.refl w.heap.size w) _) (by simp) hb1)
 clear hb1
 dsimp only
 go_wp2_with fail
 refine (head w1).mono ?_
 rintro e w2 ⟨rfl, hb2⟩
 have Y := Aside0.mk hb2
 clear hb2
 dsimp only
 go_wp2
 go_ret
 exact ⟨rfl, below_step X.out Y.out⟩
set_option maxHeartbeats 8000000 in
set_option maxRecDepth 100000 in
theorem ledgerLost_great (u0 u1 i : Int) (A : Option Addr) (c : Nat) (l : List Ac) (w : World) (hA : AcRow w A l) (hl : l.length ≤ 9223372036854775807) (hu : okV 1 ⟨u0, u1⟩) (hg : gr l = true) :
  Calls Try.prog 13 #[.agg #[.int .i64 u0, .int .i64 u1], .slice A l.length c, .int .u32 i] w fun e w' => e = .returned (.bool true) ∧ Below w.heap.size w w' := by
 have hu23 := Try.underlying23
 have H := Aside0.mk (And.intro hA (And.intro hl (And.intro hu hg)))
 clear hA hl hu hg
 go_enter Try.func13, Try.ntmps13
 go_wp2_with fail
 refine (lnew_yes u0 u1 _ H.out.2.2.1).mono ?_
 rintro e w1 ⟨p, b, g, rfl, hb1, _⟩
 have X := Aside0.mk (below_then (below_alloc (Below.refl w.heap.size w) _) (by simp) hb1)
 clear hb1
 dsimp only
 go_wp2_with fail
 refine (great A c l w1 (H.out.1.below X.out) H.out.2.1).mono ?_
 rintro e w2 ⟨rfl, hb2⟩
 rw [H.out.2.2.2]
 have Y := Aside0.mk (below_step X.out hb2)
 clear hb2
 dsimp only
 go_wp2_with fail
 refine (head w2).mono ?_
 rintro e w3 ⟨rfl, hb3⟩
 have Z := Aside0.mk hb3
 clear hb3
 dsimp only
 go_wp2
 go_ret
 exact ⟨rfl, below_step Y.out Z.out⟩
theorem DS.new {w0 w1 w2 : World} {p b g : Nat} {u0 u1 : Int} {vn : Value} (h : HS w0 w1 p b g u0 u1 [] (.slice none 0 0) [] 0 []) (hR : RNd w2 w1.heap.size (fun _ => True) vn []) (hb : Below w1.heap.size w1 w2) : DS w0 w2 p b g u0 u1 [] (.slice none 0 0) [] 0 vn (.slice none 0 0) (fun k => w1.heap.size ≤ k ∧ k < w2.heap.size) := by
 have hl := h.led.lt
 refine ⟨h.same hb, Kd.R_mono (Kd.R_lower (Kd.R_bound hR) h.below.size) (fun k hk => ⟨hk.2.1, hk.2.2.1⟩), Kd.R_nil _ _ w2 w0.heap.size _, fun k hk => ⟨fun hm => ?_, by omega, by simp [Value.ownBlock]⟩, fun k hk => by simp [Value.ownBlock] at hk, fun k hk => hk.2⟩
 rcases hm with (hm | hm) | hm
 ·omega
 ·omega
 ·simp [Value.ownBlock] at hm
set_option maxHeartbeats 32000000 in
set_option maxRecDepth 100000 in
theorem ledgerLost (u0 u1 i : Int) (A : Option Addr) (c : Nat) (l : List Ac) (w : World) (hA : AcRow w A l) (hl : l.length ≤ 9223372036854775807) (hi : (Lit.int .u32 i).wf = true) (hu : okV 1 ⟨u0, u1⟩) (hg : gr l = false) :
  Calls Try.prog 13 #[.agg #[.int .i64 u0, .int .i64 u1], .slice A l.length c, .int .u32 i] w fun e w' => e = .returned (.bool true) ∧ Below w.heap.size w w' := by
 have hu23 := Try.underlying23
 have hu39 := Try.underlying39
 have hu107 := Try.underlying107
 have hu113 := Try.underlying113
 have hu118 := Try.underlying118
 have hsm := gr_small hg
 have hl80 : (l.length : Int) ≤ 80 := by omega
 obtain ⟨W0, hW0⟩ : ∃ W0, w.alloc (.cells #[.int .i64 u0, .int .i64 u1] 23) = W0 := ⟨_, rfl⟩
 have hB0 : Below w.heap.size w W0 := by rw [← hW0]; exact below_alloc (Below.refl _ _) _
 have kv : W0.heap[w.heap.size]? = some (.cells #[.int .i64 u0, .int .i64 u1] 23 (0, 0)) := by rw [← hW0]; exact blk_new w _
 have HA := Aside0.mk (And.intro hA (And.intro hl (And.intro hu (And.intro hg (And.intro hsm (And.intro hB0 (And.intro hW0 (And.intro kv hi))))))))
 clear hA hl hu hg hsm hB0 hW0 kv hi
 go_enter Try.func13, Try.ntmps13
 go_wp2_with fail
 rw [HA.out.2.2.2.2.2.2.1]
 refine (lnew_yes u0 u1 W0 HA.out.2.2.1).mono ?_
 rintro e w1 ⟨p, b, g, rfl, hb1, hL⟩
 have X1 := Aside0.mk (HS.new W0 w1 HA.out.2.2.1 hb1 hL)
 clear hb1 hL
 dsimp only
 go_wp2_with fail
 refine (great A c l w1 (HA.out.1.below (below_then HA.out.2.2.2.2.2.1 HA.out.2.2.2.2.2.1.size X1.out.below)) HA.out.2.1).mono ?_
 rintro e w2 ⟨rfl, hb⟩
 rw [HA.out.2.2.2.1]
 have X2 := Aside0.mk (X1.out.same hb)
 clear hb X1
 have kv := blk_below HA.out.2.2.2.2.2.2.2.1 X2.out.below
 have v0 := (blk_cell kv 0).trans rfl
 have v1 := (blk_cell kv 1).trans rfl
 clear kv
 dsimp only
 go_wp2_with fail
 refine (dnew u0 u1 w2 HA.out.2.2.1).mono ?_
 rintro e w3 ⟨vn, rfl, hR, hb⟩
 obtain ⟨An, cn, rfl⟩ := Kd.R_slice hR
 dsimp only [List.length_nil] at hR ⊢
 have X3 := Aside0.mk (And.intro (DS.new X2.out hR hb) (below_step X2.out.below hb))
 clear hR hb X2 v0 v1
 unfold dv
 go_upto_region 5 with (fail)
 obtain ⟨W4, hW4⟩ : ∃ W4, w3.alloc (.cells #[.int .i64 u0, .int .i64 u1, .slice An 0 cn, .slice none 0 0, .int .u32 0] LT) = W4 := ⟨_, rfl⟩
 have hB4 : Below w3.heap.size w3 W4 := by rw [← hW4]; exact below_alloc (Below.refl _ _) _
 have k4 : W4.heap[w3.heap.size]? = some (.cells #[.int .i64 u0, .int .i64 u1, .slice An 0 cn, .slice none 0 0, .int .u32 0] LT (0, 0)) := by rw [← hW4]; exact blk_new w3 _
 rw [hW4]
 have hQM : ¬ May2 p g (.slice none 0 0) (.slice none 0 0) (fun k => w2.heap.size ≤ k ∧ k < w3.heap.size) w3.heap.size ∧ w3.heap.size ≠ b ∧ W0.heap.size ≤ w3.heap.size := by
  have hl := X3.out.1.hs.led.lt
  have hz := X3.out.2.size
  refine ⟨fun hm => ?_, by omega, hz⟩
  rcases hm with ((hm | hm) | hm) | hm | hm
  ·omega
  ·omega
  ·simp [Value.ownBlock] at hm
  ·omega
  ·simp [Value.ownBlock] at hm
 obtain ⟨q, hq⟩ : ∃ q, w3.heap.size = q := ⟨_, rfl⟩
 have D4 := X3.out.1.same hB4
 rw [hq] at k4 hQM D4 ⊢
 have X4 := Aside0.mk (And.intro D4 (And.intro k4 hQM))
 clear hW4 hB4 k4 hQM D4 X3 hq
 go_wp2_with fail
 go_loopg [11] l.length (fun kk v11 wr => ∃ (j : Nat) (ns : List Nd) (v : Value) (bx : List Bx) (last : Int) (vn vb : Value) (okn : Nat → Prop), kk = l.length - j ∧ v11 = .int .i64 j ∧ j ≤ l.length ∧ last ≤ 200 * j ∧ DS W0 wr p b g u0 u1 ns v bx last vn vb okn ∧ wr.heap[q]? = some (.cells #[.int .i64 u0, .int .i64 u1, vn, vb, .int .u32 last] LT (0, 0)) ∧ ¬ May2 p g v vb okn q)
 case atStart => exact ⟨0, [], _, [], 0, _, _, _, rfl, rfl, Nat.zero_le _, by omega, X4.out.1, X4.out.2.1, X4.out.2.2.1⟩
 obtain ⟨j, ns, v, bx, last, vn, vb, okn, rfl, rfl, hj, hlast, hD, hk, hM⟩ := hrel
 have XQ := Aside0.mk X4.out.2.2.2
 clear X4
 obtain ⟨An, cn, rfl⟩ := Kd.R_slice hD.nrow
 obtain ⟨A2, c2, rfl⟩ := Kd.R_slice hD.brow
 by_cases hlt : j < l.length
 ·obtain ⟨ad, rfl, hAc⟩ := HA.out.1.at_ j hlt
  have hwf := HA.out.1.wf l[j] (List.getElem_mem hlt)
  have hbig := HA.out.2.2.2.2.1.2 l[j] (List.getElem_mem hlt)
  obtain ⟨x, hx⟩ : ∃ x, l[j] = x := ⟨_, rfl⟩
  rw [hx] at hAc hwf hbig
  have hbw := below_then HA.out.2.2.2.2.2.1 HA.out.2.2.2.2.2.1.size hD.hs.below
  have hAr := hAc.below hbw
  obtain ⟨xw, ⟨n0, n1, n2⟩, o, s, m⟩ := x
  have hla : last ≤ 4000000000 := by omega
  have hal := acL_le (u0 := u0) (u1 := u1) (ns := ns) (bx := bx) (last := last) hbig
  obtain ⟨nn, hnn⟩ : ∃ nn, ns.length = nn := ⟨_, rfl⟩
  obtain ⟨nb, hnb⟩ : ∃ nb, bx.length = nb := ⟨_, rfl⟩
  rw [hnn] at hD hk
  rw [hnb] at hD hk hM
  obtain ⟨la2, hla2⟩ : ∃ la2, acL u0 u1 ns bx last ⟨xw, ⟨n0, ⟨n1, n2⟩⟩, o, s, m⟩ = la2 := ⟨_, rfl⟩
  obtain ⟨ns2, hns2⟩ : ∃ ns2, acN u0 u1 ns ⟨xw, ⟨n0, ⟨n1, n2⟩⟩, o, s, m⟩ = ns2 := ⟨_, rfl⟩
  obtain ⟨bx2, hbx2⟩ : ∃ bx2, acB u0 u1 ns bx last ⟨xw, ⟨n0, ⟨n1, n2⟩⟩, o, s, m⟩ = bx2 := ⟨_, rfl⟩
  have DC := Aside0.mk (fun (w' : World) (hb : Below wr.heap.size wr w') => does p b g u0 u1 ns v bx last An A2 nn cn nb c2 okn xw n0 n1 n2 o m s W0 w' (hD.same hb) hwf.1 hwf.2.1 hla)
  rw [hla2, hns2, hbx2] at DC
  rw [hla2] at hal
  unfold dv at DC
  obtain ⟨nn2, hnn2⟩ : ∃ nn2, ns2.length = nn2 := ⟨_, rfl⟩
  obtain ⟨nb2, hnb2⟩ : ∃ nb2, bx2.length = nb2 := ⟨_, rfl⟩
  have NL := Aside0.mk (And.intro hnn2 hnb2)
  have hlt' : (j : Int) < (l.length : Int) := by omega
  have X := Aside0.mk (And.intro hk (And.intro hM (And.intro hAr (And.intro hlast (And.intro hal hD.hs.below.size)))))
  clear hk hM hAc hAr hlast hal hwf hbig hx hbw hD hla hla2 hns2 hbx2 hnn hnb hnn2 hnb2
  go_upto_region 8 with (fail)
  refine XInv.region_tab [] [[], [], [], [], [2, 3], [4], [0, 1, 5], [6], [7], [7], [8, 6, 0, 1, 2, 3, 4, 5, 6, 7, 8]] (fun bq jq => match jq with
    | 0 => .pointer (some ⟨p, 0, none⟩)
    | 1 => .agg #[.int .i64 u0, .int .i64 u1, .slice An nn cn, .slice A2 nb c2, .int .u32 last]
    | 2 => .slice (some ad) l.length c
    | 3 => .int .i64 j
    | 4 => .pointer (some (ad.add (j * 7)))
    | 5 => .agg #[.int .u8 xw, .int .u32 n0, .int .i64 n1, .int .i64 n2, .int .u32 o, .bool s, .int .i64 m]
    | 6 => .tuple #[.agg #[.int .i64 u0, .int .i64 u1, .slice bq.1.1 nn2 bq.1.2, .slice bq.2.1 nb2 bq.2.2, .int .u32 la2], .bool true]
    | 7 => .tuple #[.agg #[.int .i64 u0, .int .i64 u1, .slice bq.1.1 nn2 bq.1.2, .slice bq.2.1 nb2 bq.2.2, .int .u32 la2], .bool true]
    | 8 => .agg #[.int .i64 u0, .int .i64 u1, .slice bq.1.1 nn2 bq.1.2, .slice bq.2.1 nb2 bq.2.2, .int .u32 la2]
    | 9 => .bool true
    | 10 => undef
    | _ => undef)
    (fun bq l w' => if l 10 = true then (∃ wz v1 okn1, DS W0 wz p b g u0 u1 ns2 v1 bx2 la2 (.slice bq.1.1 nn2 bq.1.2) (.slice bq.2.1 nb2 bq.2.2) okn1 ∧ ¬ May2 p g v1 (.slice bq.2.1 nb2 bq.2.2) okn1 q ∧ wz.heap[q]? = some (.cells #[.int .i64 u0, .int .i64 u1, .slice An nn cn, .slice A2 nb c2, .int .u32 last] LT (0, 0)) ∧ w' = (((((wz.setCell ⟨q, 0, none⟩ (.int .i64 u0)).setCell ⟨q, 1, none⟩ (.int .i64 u1)).setCell ⟨q, 2, none⟩ (.slice bq.1.1 nn2 bq.1.2)).setCell ⟨q, 3, none⟩ (.slice bq.2.1 nb2 bq.2.2)).setCell ⟨q, 4, none⟩ (.int .u32 la2))) else if l 6 = true then (∃ v1 okn1, DS W0 w' p b g u0 u1 ns2 v1 bx2 la2 (.slice bq.1.1 nn2 bq.1.2) (.slice bq.2.1 nb2 bq.2.2) okn1 ∧ ¬ May2 p g v1 (.slice bq.2.1 nb2 bq.2.2) okn1 q ∧ w'.heap[q]? = some (.cells #[.int .i64 u0, .int .i64 u1, .slice An nn cn, .slice A2 nb c2, .int .u32 last] LT (0, 0))) else Below wr.heap.size wr w')
    (by kernel_rfl) rfl (by kernel_rfl) (by kernel_rfl) (by kernel_rfl) ⟨(((none, 0), (none, 0)) : (Option Addr × Nat) × (Option Addr × Nat)), (by rw [if_neg (by simp)]; rw [if_neg (by simp)]; exact below_drew (Below.refl _ _))⟩ ?_ ?_
  ·refine cs11 _ ?_ ?_ ?_ ?_ ?_ ?_ ?_ ?_ ?_ ?_ ?_
   all_goals intro hds oi hoi bq lb w' hW hlb hcl hneed hclo
   all_goals simp only [List.getElem?_toArray, List.getElem?_cons_succ, List.getElem?_cons_zero, Option.some.injEq] at hoi
   all_goals subst hoi
   ·refine XInv.yes_tab [] (by kernel_rfl) ?_
    have hs0 := hcl 6 (by decide) (by kernel_rfl)
    have hs1 := hcl 10 (by decide) (by kernel_rfl)
    rw [if_neg (by rw [hs1]; decide)] at hW
    rw [if_neg (by rw [hs0]; decide)] at hW
    have kq := blk_below X.out.1 hW
    have q0 := (blk_cell kq 0).trans rfl
    have q1 := (blk_cell kq 1).trans rfl
    have q2 := (blk_cell kq 2).trans rfl
    have q3 := (blk_cell kq 3).trans rfl
    have q4 := (blk_cell kq 4).trans rfl
    have hac := X.out.2.2.1.below hW
    obtain ⟨d0, d1, d2, d3, d4, d5, d6⟩ := hac
    dsimp only at d0 d1 d2 d3 d4 d5 d6
    clear hcl hneed hclo
    intro Q2 K2 hK2
    simp only [XInv.puts, XPrint.pw]
    go_simp
    exact hK2.out (.pointer (some ⟨p, 0, none⟩)) w' ⟨bq, rfl, fun _ _ _ => rfl, (by rw [if_neg (by simp [XInv.up, hs1])]; rw [if_neg (by simp [XInv.up, hs0])]; exact hW)⟩
   ·refine XInv.yes_tab [] (by kernel_rfl) ?_
    have hs0 := hcl 6 (by decide) (by kernel_rfl)
    have hs1 := hcl 10 (by decide) (by kernel_rfl)
    rw [if_neg (by rw [hs1]; decide)] at hW
    rw [if_neg (by rw [hs0]; decide)] at hW
    have kq := blk_below X.out.1 hW
    have q0 := (blk_cell kq 0).trans rfl
    have q1 := (blk_cell kq 1).trans rfl
    have q2 := (blk_cell kq 2).trans rfl
    have q3 := (blk_cell kq 3).trans rfl
    have q4 := (blk_cell kq 4).trans rfl
    have hac := X.out.2.2.1.below hW
    obtain ⟨d0, d1, d2, d3, d4, d5, d6⟩ := hac
    dsimp only at d0 d1 d2 d3 d4 d5 d6
    clear hcl hneed hclo
    intro Q2 K2 hK2
    simp only [XInv.puts, XPrint.pw]
    go_simp
    exact hK2.out (.agg #[.int .i64 u0, .int .i64 u1, .slice An nn cn, .slice A2 nb c2, .int .u32 last]) w' ⟨bq, rfl, fun _ _ _ => rfl, (by rw [if_neg (by simp [XInv.up, hs1])]; rw [if_neg (by simp [XInv.up, hs0])]; exact hW)⟩
   ·refine XInv.yes_tab [] (by kernel_rfl) ?_
    have hs0 : lb 6 = false := (Bool.eq_false_or_eq_true (lb 6)).elim (fun h => absurd (XInv.reach hclo [5, 4] 6 2 (by kernel_rfl) h) (by rw [hlb]; decide)) id
    have hs1 := hcl 10 (by decide) (by kernel_rfl)
    rw [if_neg (by rw [hs1]; decide)] at hW
    rw [if_neg (by rw [hs0]; decide)] at hW
    have kq := blk_below X.out.1 hW
    have q0 := (blk_cell kq 0).trans rfl
    have q1 := (blk_cell kq 1).trans rfl
    have q2 := (blk_cell kq 2).trans rfl
    have q3 := (blk_cell kq 3).trans rfl
    have q4 := (blk_cell kq 4).trans rfl
    have hac := X.out.2.2.1.below hW
    obtain ⟨d0, d1, d2, d3, d4, d5, d6⟩ := hac
    dsimp only at d0 d1 d2 d3 d4 d5 d6
    clear hcl hneed hclo
    intro Q2 K2 hK2
    simp only [XInv.puts, XPrint.pw]
    go_simp
    exact hK2.out (.slice (some ad) l.length c) w' ⟨bq, rfl, fun _ _ _ => rfl, (by rw [if_neg (by simp [XInv.up, hs1])]; rw [if_neg (by simp [XInv.up, hs0])]; exact hW)⟩
   ·refine XInv.yes_tab [] (by kernel_rfl) ?_
    have hs0 : lb 6 = false := (Bool.eq_false_or_eq_true (lb 6)).elim (fun h => absurd (XInv.reach hclo [5, 4] 6 3 (by kernel_rfl) h) (by rw [hlb]; decide)) id
    have hs1 := hcl 10 (by decide) (by kernel_rfl)
    rw [if_neg (by rw [hs1]; decide)] at hW
    rw [if_neg (by rw [hs0]; decide)] at hW
    have kq := blk_below X.out.1 hW
    have q0 := (blk_cell kq 0).trans rfl
    have q1 := (blk_cell kq 1).trans rfl
    have q2 := (blk_cell kq 2).trans rfl
    have q3 := (blk_cell kq 3).trans rfl
    have q4 := (blk_cell kq 4).trans rfl
    have hac := X.out.2.2.1.below hW
    obtain ⟨d0, d1, d2, d3, d4, d5, d6⟩ := hac
    dsimp only at d0 d1 d2 d3 d4 d5 d6
    clear hcl hneed hclo
    intro Q2 K2 hK2
    simp only [XInv.puts, XPrint.pw]
    go_simp
    exact hK2.out (.int .i64 j) w' ⟨bq, rfl, fun _ _ _ => rfl, (by rw [if_neg (by simp [XInv.up, hs1])]; rw [if_neg (by simp [XInv.up, hs0])]; exact hW)⟩
   ·refine XInv.yes_tab [(53, 3), (52, 2)] (by kernel_rfl) ?_
    have hs0 : lb 6 = false := (Bool.eq_false_or_eq_true (lb 6)).elim (fun h => absurd (XInv.reach hclo [5] 6 4 (by kernel_rfl) h) (by rw [hlb]; decide)) id
    have hs1 := hcl 10 (by decide) (by kernel_rfl)
    rw [if_neg (by rw [hs1]; decide)] at hW
    rw [if_neg (by rw [hs0]; decide)] at hW
    have kq := blk_below X.out.1 hW
    have q0 := (blk_cell kq 0).trans rfl
    have q1 := (blk_cell kq 1).trans rfl
    have q2 := (blk_cell kq 2).trans rfl
    have q3 := (blk_cell kq 3).trans rfl
    have q4 := (blk_cell kq 4).trans rfl
    have hac := X.out.2.2.1.below hW
    obtain ⟨d0, d1, d2, d3, d4, d5, d6⟩ := hac
    dsimp only at d0 d1 d2 d3 d4 d5 d6
    clear hcl hneed hclo
    intro Q2 K2 hK2
    simp only [XInv.puts, XPrint.pw]
    go_simp
    exact hK2.out (.pointer (some (ad.add (j * 7)))) w' ⟨bq, rfl, fun _ _ _ => rfl, (by rw [if_neg (by simp [XInv.up, hs1])]; rw [if_neg (by simp [XInv.up, hs0])]; exact hW)⟩
   ·refine XInv.yes_tab [(54, 4)] (by kernel_rfl) ?_
    have hs0 := hcl 6 (by decide) (by kernel_rfl)
    have hs1 := hcl 10 (by decide) (by kernel_rfl)
    rw [if_neg (by rw [hs1]; decide)] at hW
    rw [if_neg (by rw [hs0]; decide)] at hW
    have kq := blk_below X.out.1 hW
    have q0 := (blk_cell kq 0).trans rfl
    have q1 := (blk_cell kq 1).trans rfl
    have q2 := (blk_cell kq 2).trans rfl
    have q3 := (blk_cell kq 3).trans rfl
    have q4 := (blk_cell kq 4).trans rfl
    have hac := X.out.2.2.1.below hW
    obtain ⟨d0, d1, d2, d3, d4, d5, d6⟩ := hac
    dsimp only at d0 d1 d2 d3 d4 d5 d6
    clear hcl hneed hclo
    intro Q2 K2 hK2
    simp only [XInv.puts, XPrint.pw]
    go_simp
    exact hK2.out (.agg #[.int .u8 xw, .int .u32 n0, .int .i64 n1, .int .i64 n2, .int .u32 o, .bool s, .int .i64 m]) w' ⟨bq, rfl, fun _ _ _ => rfl, (by rw [if_neg (by simp [XInv.up, hs1])]; rw [if_neg (by simp [XInv.up, hs0])]; exact hW)⟩
   ·refine XInv.yes_tab [(55, 5), (51, 1), (50, 0)] (by kernel_rfl) ?_
    have hs0 := hlb
    have hs1 := hcl 10 (by decide) (by kernel_rfl)
    rw [if_neg (by rw [hs1]; decide)] at hW
    rw [if_neg (by rw [hs0]; decide)] at hW
    have kq := blk_below X.out.1 hW
    have q0 := (blk_cell kq 0).trans rfl
    have q1 := (blk_cell kq 1).trans rfl
    have q2 := (blk_cell kq 2).trans rfl
    have q3 := (blk_cell kq 3).trans rfl
    have q4 := (blk_cell kq 4).trans rfl
    have hac := X.out.2.2.1.below hW
    obtain ⟨d0, d1, d2, d3, d4, d5, d6⟩ := hac
    dsimp only at d0 d1 d2 d3 d4 d5 d6
    clear hcl hneed
    intro Q2 K2 hK2
    simp only [XInv.puts, XPrint.pw]
    go_simp
    go_at_call 60
    (with_reducible refine (DC.out _ hW).mono ?_)
    rintro e wz ⟨v1, vn1, vb1, okn1, rfl, hD1, hb1, ho1⟩
    obtain ⟨An1, cn1, rfl⟩ := Kd.R_slice hD1.nrow
    obtain ⟨Ab1, cb1, rfl⟩ := Kd.R_slice hD1.brow
    rw [NL.out.1] at hD1
    rw [NL.out.2] at hD1 ho1
    rw [NL.out.1, NL.out.2]
    exact hK2.out (.tuple #[.agg #[.int .i64 u0, .int .i64 u1, .slice An1 nn2 cn1, .slice Ab1 nb2 cb1, .int .u32 la2], .bool true]) wz ⟨((An1, cn1), (Ab1, cb1)), rfl, (cs11 _ (fun _ => rfl) (fun _ => rfl) (fun _ => rfl) (fun _ => rfl) (fun _ => rfl) (fun _ => rfl) (fun hlj => absurd (hlb.symm.trans hlj) (by decide)) (fun hlj => absurd (hlb.symm.trans (XInv.reach hclo [] 7 6 (by kernel_rfl) hlj)) (by decide)) (fun hlj => absurd (hlb.symm.trans (XInv.reach hclo [7] 8 6 (by kernel_rfl) hlj)) (by decide)) (fun hlj => absurd (hlb.symm.trans (XInv.reach hclo [7] 9 6 (by kernel_rfl) hlj)) (by decide)) (fun hlj => absurd (hlb.symm.trans (XInv.reach hclo [] 10 6 (by kernel_rfl) hlj)) (by decide))), (by rw [if_neg (by simp [XInv.up, hs1])]; rw [if_pos (by simp [XInv.up, hs0])]; exact ⟨v1, okn1, hD1, (fun hm => (ho1 q hm).elim X.out.2.1 (fun h => absurd (blk_lt kq) (by omega))), hb1.heap kq X.out.2.1⟩)⟩
   ·refine XInv.yes_tab [(56, 6)] (by kernel_rfl) ?_
    have hs0 := hneed 6 (by kernel_rfl)
    have hs1 := hcl 10 (by decide) (by kernel_rfl)
    rw [if_neg (by rw [hs1]; decide)] at hW
    rw [if_pos hs0] at hW
    obtain ⟨v1, okn1, hD1, hM1, hk1⟩ := id hW
    have y0 := (blk_cell hk1 0).trans rfl
    have y1 := (blk_cell hk1 1).trans rfl
    have y2 := (blk_cell hk1 2).trans rfl
    have y3 := (blk_cell hk1 3).trans rfl
    have y4 := (blk_cell hk1 4).trans rfl
    have g0 := blk_frozen hk1 0
    have g1 := blk_frozen hk1 1
    have g2 := blk_frozen hk1 2
    have g3 := blk_frozen hk1 3
    have g4 := blk_frozen hk1 4
    clear hcl hneed hclo
    intro Q2 K2 hK2
    simp only [XInv.puts, XPrint.pw]
    go_simp
    exact hK2.out (.tuple #[.agg #[.int .i64 u0, .int .i64 u1, .slice bq.1.1 nn2 bq.1.2, .slice bq.2.1 nb2 bq.2.2, .int .u32 la2], .bool true]) w' ⟨bq, rfl, fun _ _ _ => rfl, (by rw [if_neg (by simp [XInv.up, hs1])]; rw [if_pos (by simp [XInv.up, hs0])]; exact hW)⟩
   ·refine XInv.yes_tab [(49, 7)] (by kernel_rfl) ?_
    have hs0 := (XInv.reach hclo [] 7 6 (by kernel_rfl) (hneed 7 (by kernel_rfl)))
    have hs1 := hcl 10 (by decide) (by kernel_rfl)
    rw [if_neg (by rw [hs1]; decide)] at hW
    rw [if_pos hs0] at hW
    obtain ⟨v1, okn1, hD1, hM1, hk1⟩ := id hW
    have y0 := (blk_cell hk1 0).trans rfl
    have y1 := (blk_cell hk1 1).trans rfl
    have y2 := (blk_cell hk1 2).trans rfl
    have y3 := (blk_cell hk1 3).trans rfl
    have y4 := (blk_cell hk1 4).trans rfl
    have g0 := blk_frozen hk1 0
    have g1 := blk_frozen hk1 1
    have g2 := blk_frozen hk1 2
    have g3 := blk_frozen hk1 3
    have g4 := blk_frozen hk1 4
    clear hcl hneed hclo
    intro Q2 K2 hK2
    simp only [XInv.puts, XPrint.pw]
    go_simp
    exact hK2.out (.agg #[.int .i64 u0, .int .i64 u1, .slice bq.1.1 nn2 bq.1.2, .slice bq.2.1 nb2 bq.2.2, .int .u32 la2]) w' ⟨bq, rfl, fun _ _ _ => rfl, (by rw [if_neg (by simp [XInv.up, hs1])]; rw [if_pos (by simp [XInv.up, hs0])]; exact hW)⟩
   ·refine XInv.yes_tab [(49, 7)] (by kernel_rfl) ?_
    have hs0 := (XInv.reach hclo [] 7 6 (by kernel_rfl) (hneed 7 (by kernel_rfl)))
    cases hs1 : lb 10
    case false =>
     rw [if_neg (by rw [hs1]; decide)] at hW
     rw [if_pos hs0] at hW
     obtain ⟨v1, okn1, hD1, hM1, hk1⟩ := id hW
     have y0 := (blk_cell hk1 0).trans rfl
     have y1 := (blk_cell hk1 1).trans rfl
     have y2 := (blk_cell hk1 2).trans rfl
     have y3 := (blk_cell hk1 3).trans rfl
     have y4 := (blk_cell hk1 4).trans rfl
     have g0 := blk_frozen hk1 0
     have g1 := blk_frozen hk1 1
     have g2 := blk_frozen hk1 2
     have g3 := blk_frozen hk1 3
     have g4 := blk_frozen hk1 4
     clear hcl hneed hclo
     intro Q2 K2 hK2
     simp only [XInv.puts, XPrint.pw]
     go_simp
     exact hK2.out (.bool true) w' ⟨bq, rfl, fun _ _ _ => rfl, (by rw [if_neg (by simp [XInv.up, hs1])]; rw [if_pos (by simp [XInv.up, hs0])]; exact hW)⟩
    case true =>
     rw [if_pos hs1] at hW
     clear hcl hneed hclo
     intro Q2 K2 hK2
     simp only [XInv.puts, XPrint.pw]
     go_simp
     exact hK2.out (.bool true) w' ⟨bq, rfl, fun _ _ _ => rfl, (by rw [if_pos (by simp [XInv.up, hs1])]; exact hW)⟩
   ·refine XInv.yes_tab [(57, 8), (49, 7), (56, 6), (55, 5), (54, 4), (53, 3), (52, 2), (51, 1), (50, 0)] (by kernel_rfl) ?_
    have hs0 := hneed 6 (by kernel_rfl)
    have hs1 := hlb
    rw [if_neg (by rw [hs1]; decide)] at hW
    rw [if_pos hs0] at hW
    obtain ⟨v1, okn1, hD1, hM1, hk1⟩ := id hW
    have y0 := (blk_cell hk1 0).trans rfl
    have y1 := (blk_cell hk1 1).trans rfl
    have y2 := (blk_cell hk1 2).trans rfl
    have y3 := (blk_cell hk1 3).trans rfl
    have y4 := (blk_cell hk1 4).trans rfl
    have g0 := blk_frozen hk1 0
    have g1 := blk_frozen hk1 1
    have g2 := blk_frozen hk1 2
    have g3 := blk_frozen hk1 3
    have g4 := blk_frozen hk1 4
    clear hcl hneed
    intro Q2 K2 hK2
    simp only [XInv.puts, XPrint.pw] at hK2 ⊢
    go_simp
    exact hK2.out undef _ ⟨bq, rfl, fun _ _ _ => rfl, (by rw [if_pos (by simp [XInv.up, hs1])]; exact ⟨w', v1, okn1, hD1, hM1, hk1, rfl⟩)⟩
  ·intro bq w' hW
   refine XInv.end_nil [(58, 9), (57, 8), (49, 7), (56, 6), (55, 5), (54, 4), (53, 3), (52, 2), (51, 1), (50, 0)] (by kernel_rfl) (by kernel_rfl) ?_
   simp only [XInv.puts, XPrint.pw]
   rw [if_pos (by kernel_rfl)] at hW
   obtain ⟨wz, v1, okn1, hD1, hM1, hk1, rfl⟩ := hW
   have hQ := but5T (But.refl (fun k => k = q) wz) (q := q) rfl (.int .i64 u0) (.int .i64 u1) (.slice bq.1.1 nn2 bq.1.2) (.slice bq.2.1 nb2 bq.2.2) (.int .u32 la2)
   have hD2 := hD1.put hQ XQ.out.2 (fun hm => hM1 (.inl hm)) XQ.out.1 (fun hm => hM1 (.inr (.inl hm))) (fun hm => hM1 (.inr (.inr hm)))
   have hk2 := set5 (b0 := .int .i64 u0) (b1 := .int .i64 u1) (b2 := .slice bq.1.1 nn2 bq.1.2) (b3 := .slice bq.2.1 nb2 bq.2.2) (b4 := .int .u32 la2) hk1
   have E := Aside0.mk (And.intro hD2 (And.intro hk2 hM1))
   clear hQ hD2 hk2 hD1 hM1 hk1
   go_wp2
   go_roundg (l.length - (j + 1))
   case measure => omega
   case rel => exact ⟨j + 1, ns2, v1, bx2, la2, _, _, okn1, rfl, by go_num, by omega, by have := X.out.2.2.2.1; have := X.out.2.2.2.2.1; omega, E.out.1, E.out.2.1, E.out.2.2⟩
 ·have hlt' : ¬ (j : Int) < (l.length : Int) := by omega
  have X := Aside0.mk hD.hs
  clear hD hk hM hlast
  go_wp2_with fail
  refine (lnodes wr X.out.led).mono ?_
  rintro e w5 ⟨bt, gt, rfl, hb5, hT5⟩
  have T5 := Aside0.mk (And.intro hb5 hT5)
  have hnl := X.out.good.nodes.len
  clear hb5 hT5
  dsimp only
  go_wp2_with fail
  refine (nodes _ bt gt u0 u1 ns w5 T5.out.2 (by omega)).mono ?_
  rintro e w6 ⟨vr, rfl, hRn, hb6⟩
  obtain ⟨Ar, cr, rfl⟩ := Kd.R_slice hRn
  obtain ⟨nn, hnn⟩ : ∃ nn, ns.length = nn := ⟨_, rfl⟩
  have S6 := X.out.same (below_step T5.out.1 hb6)
  have CN := (Kd.R_reads' hRn).2.2
  rw [hnn] at CN hnl ⊢
  have W := Aside0.mk (And.intro S6 (And.intro CN hnn))
  clear hRn hb6 S6 CN hnn T5 X
  dsimp only
  rcases Nat.eq_zero_or_pos nn with h0 | h0
  ·subst h0
   go_wp2_with fail
   refine (W.out.1.loseB i HA.out.2.2.2.2.2.2.2.2).mono ?_
   rintro e w7 ⟨vo, v', rfl, hS7, hb7, _, _⟩
   have hL : (lost ns i).2 = 7 := by
    rw [List.length_eq_zero_iff.1 W.out.2.2]
    rfl
   rw [hL]
   have S7 := Aside0.mk hS7
   clear hS7 hb7 hL
   dsimp only
   go_wp2_with fail
   refine (head w7).mono ?_
   rintro e w8 ⟨rfl, hb8⟩
   have Y := Aside0.mk hb8
   clear hb8
   dsimp only
   go_wp2
   go_ret
   exact ⟨rfl, below_step (below_then HA.out.2.2.2.2.2.1 HA.out.2.2.2.2.2.1.size S7.out.below) Y.out⟩
  ·have t0 : ((nn : Int) == 0) = false := by simp; omega
   have hi0 := wf32 HA.out.2.2.2.2.2.2.2.2
   obtain ⟨r1, hr1⟩ : ∃ r1, i % 64 = r1 := ⟨_, rfl⟩
   have hr2 : i.tmod 64 = r1 := by rw [Int.tmod_eq_emod_of_nonneg hi0.1]; exact hr1
   have hr3 : 0 ≤ r1 ∧ r1 < 64 := by omega
   have hr4 : IntKind.u32.wrap r1 = r1 := by rw [IntKind.wrap_u32]; omega
   have hr5 : IntKind.i64.wrap r1 = r1 := by rw [IntKind.wrap_i64]; omega
   obtain ⟨k, hk⟩ : ∃ k : Nat, r1 % (nn : Int) = k := ⟨(r1 % (nn : Int)).toNat, (Int.toNat_of_nonneg (Int.emod_nonneg _ (by omega))).symm⟩
   have hk2 : r1.tmod (nn : Int) = k := by rw [Int.tmod_eq_emod_of_nonneg hr3.1]; exact hk
   have hk3 : (k : Int) < (nn : Int) := by rw [← hk]; exact Int.emod_lt_of_pos _ (by omega)
   have hk4 : IntKind.i64.wrap (k : Int) = k := by rw [IntKind.wrap_i64]; omega
   have hkn : k < ns.length := by rw [W.out.2.2]; omega
   obtain ⟨an, rfl, d0, d1, d2⟩ := PNodePlays.at_T39 W.out.2.1 (k : Int) (by omega) (by omega)
   have ek : (k : Int).toNat = k := by simp
   have er : PNodePlays.rd_T39 ns (k : Int) = ns[k] := by unfold PNodePlays.rd_T39; rw [ek, List.getD_eq_getElem?_getD, List.getElem?_eq_getElem hkn]; rfl
   rw [er, ek] at d0 d1 d2
   have hmem : ns[k] ∈ ns := List.getElem_mem hkn
   obtain ⟨y, hy⟩ : ∃ y, ns[k] = y := ⟨_, rfl⟩
   rw [hy] at d0 d1 d2 hmem
   obtain ⟨y0, y1, y2⟩ := y
   dsimp only at d0 d1 d2
   have M := Aside0.mk hmem
   clear h0 hi0 hr1 hk hmem hkn hy er ek
   go_upto_region 14 with (fail)
   obtain ⟨W7, hW7⟩ : ∃ W7, w6.alloc (.cells #[.int .u32 y0, .int .i64 y1, .int .i64 y2] 39) = W7 := ⟨_, rfl⟩
   have hB7 : Below w6.heap.size w6 W7 := by rw [← hW7]; exact below_alloc (Below.refl _ _) _
   have k7 : W7.heap[w6.heap.size]? = some (.cells #[.int .u32 y0, .int .i64 y1, .int .i64 y2] 39 (0, 0)) := by rw [← hW7]; exact blk_new w6 _
   rw [hW7]
   obtain ⟨N, hN⟩ : ∃ N, w6.heap.size = N := ⟨_, rfl⟩
   have hlw := W.out.1.led.lt
   rw [hN] at k7 hlw ⊢
   have X7 := Aside0.mk (And.intro (W.out.1.same hB7) (And.intro k7 hlw))
   clear hW7 hB7 k7 hlw hN d0 d1 d2 t0 hr2 hr3 hr4 hr5 hk2 hk3 hk4 hnl
   go_wp2_with fail
   refine X7.out.1.boxes.mono ?_
   rintro e w8 ⟨vw, rfl, hRw, hb8⟩
   obtain ⟨Aw, cw, rfl⟩ := Kd.R_slice hRw
   have X8 := X7.out.1.same hb8
   have hbl := X8.len
   obtain ⟨nb, hnb⟩ : ∃ nb, bx.length = nb := ⟨_, rfl⟩
   rw [hnb] at hRw hbl ⊢
   have X8 := Aside0.mk (And.intro X8 (And.intro hRw (And.intro (blk_below X7.out.2.1 hb8) hnb)))
   clear hRw hb8 hnb
   dsimp only
   go_wp2_with fail
   refine (lnodes w8 X8.out.1.led).mono ?_
   rintro e w9 ⟨bt2, gt2, rfl, hb9, hT9⟩
   have T9 := Aside0.mk (And.intro hb9 hT9)
   clear hb9 hT9
   dsimp only
   go_wp2_with fail
   obtain ⟨ku, hku⟩ := units_all HA.out.2.2.1 ns (fun x hx => (X8.out.1.good.nodes.all x hx).2.1)
   refine (total ku _ bt2 gt2 u0 u1 ns (uns u0 u1) (fun _ => 0) w9 T9.out.2 (by have := X8.out.1.good.nodes.len; omega) hku (fun x hx => uns_nonneg HA.out.2.2.1 (X8.out.1.good.nodes.all x hx).2.1)).mono ?_
   clear hku
   rintro e w10 ⟨rfl, hb10⟩
   obtain ⟨tt, htt⟩ : ∃ tt, sumU (uns u0 u1) ns = tt := ⟨_, rfl⟩
   rw [htt]
   have hG := X8.out.1.good
   have hwho := who_of hG.nodes.rising M.out
   have hall := hG.nodes.all _ M.out
   have hun := hG.nodes.units _ M.out
   obtain ⟨KU, hKU⟩ := units_at HA.out.2.2.1 hall.2.1
   obtain ⟨un, hunn⟩ : ∃ un, uns u0 u1 ⟨y0, ⟨y1, y2⟩⟩ = un := ⟨_, rfl⟩
   rw [hunn] at hun hKU
   have hwf : (Lit.int .u32 y0).wf = true := by have := hall.1; dsimp only at this; simp [Lit.wf, IntKind.min, IntKind.max, IntKind.signed, IntKind.bits]; omega
   have UC := Aside0.mk (fun (w' : World) (N bt gt : Nat) (hT : TabAt w' N bt gt u0 u1 ns) => units_yes KU N bt gt u0 u1 y0 ns _ un 0 w' hT hwf hwho (hKU KU (Nat.le_refl _)))
   have hb10' := below_step T9.out.1 hb10
   have X10 := Aside0.mk (And.intro (X8.out.1.same hb10') (And.intro (Kd.R_below X8.out.2.1 hb10') (blk_below X8.out.2.2.1 hb10')))
   have FX := Aside0.mk (And.intro hwho (And.intro hwf (And.intro hun (And.intro hunn htt))))
   clear hb10 hb10' hG hwho hall hun hKU hunn hwf htt T9
   dsimp only
   go_upto_region 15 with (fail)
   refine XInv.region_tab [] [[], [0], [], [2], [1, 3, 1], [4], [5], [5], [6, 4, 0, 1, 2, 3, 4, 5, 6], [7, 8, 0, 1, 2, 3, 4, 5, 6, 7, 8]] (fun bq jq => match jq with
     | 0 => .pointer (some ⟨p, 0, none⟩)
     | 1 => .pointer (some ⟨bq.1, 0, none⟩)
     | 2 => .pointer (some ⟨N, 0, none⟩)
     | 3 => .int .u32 y0
     | 4 => .tuple #[.int .i64 un, .int .i64 0]
     | 5 => .tuple #[.int .i64 un, .int .i64 0]
     | 6 => .int .i64 un
     | 7 => .int .i64 0
     | 8 => .int .i64 un
     | 9 => .int .i64 0
     | _ => undef)
     (fun bq l w' => if l 1 = true then (Below w10.heap.size w10 w' ∧ ∃ N1, TabAt w' N1 bq.1 bq.2 u0 u1 ns) else Below w10.heap.size w10 w')
     (by kernel_rfl) rfl (by kernel_rfl) (by kernel_rfl) (by kernel_rfl) ⟨((0, 0) : Nat × Nat), (by rw [if_neg (by simp)]; exact below_drew (Below.refl _ _))⟩ ?_ ?_
   ·refine cs10 _ ?_ ?_ ?_ ?_ ?_ ?_ ?_ ?_ ?_ ?_
    all_goals intro hds oi hoi bq lb w' hW hlb hcl hneed hclo
    all_goals simp only [List.getElem?_toArray, List.getElem?_cons_succ, List.getElem?_cons_zero, Option.some.injEq] at hoi
    all_goals subst hoi
    ·refine XInv.yes_tab [] (by kernel_rfl) ?_
     have hs0 := hcl 1 (by decide) (by kernel_rfl)
     rw [if_neg (by rw [hs0]; decide)] at hW
     have c0 := (blk_cell (blk_below X10.out.2.2 hW) 0).trans rfl
     clear hcl hneed hclo
     intro Q2 K2 hK2
     simp only [XInv.puts, XPrint.pw]
     go_simp
     exact hK2.out (.pointer (some ⟨p, 0, none⟩)) w' ⟨bq, rfl, fun _ _ _ => rfl, (by rw [if_neg (by simp [XInv.up, hs0])]; exact hW)⟩
    ·refine XInv.yes_tab [(91, 0)] (by kernel_rfl) ?_
     have hs0 := hlb
     rw [if_neg (by rw [hs0]; decide)] at hW
     have c0 := (blk_cell (blk_below X10.out.2.2 hW) 0).trans rfl
     clear hcl hneed
     intro Q2 K2 hK2
     simp only [XInv.puts, XPrint.pw]
     go_simp
     go_at_call 57
     (with_reducible refine (lnodes w' (X10.out.1.same hW).led).mono ?_)
     rintro e wz ⟨bz, gz, rfl, hb, hT⟩
     exact hK2.out (.pointer (some ⟨bz, 0, none⟩)) wz ⟨(bz, gz), rfl, (cs10 _ (fun _ => rfl) (fun hlj => absurd (hlb.symm.trans hlj) (by decide)) (fun _ => rfl) (fun _ => rfl) (fun _ => rfl) (fun _ => rfl) (fun _ => rfl) (fun _ => rfl) (fun _ => rfl) (fun _ => rfl)), (by rw [if_pos (by simp [XInv.up, hs0])]; exact ⟨below_step hW hb, 0, tab_low hT (Nat.zero_le _)⟩)⟩
    ·refine XInv.yes_tab [] (by kernel_rfl) ?_
     cases hs0 : lb 1
     case false =>
      rw [if_neg (by rw [hs0]; decide)] at hW
      have c0 := (blk_cell (blk_below X10.out.2.2 hW) 0).trans rfl
      clear hcl hneed hclo
      intro Q2 K2 hK2
      simp only [XInv.puts, XPrint.pw]
      go_simp
      exact hK2.out (.pointer (some ⟨N, 0, none⟩)) w' ⟨bq, rfl, fun _ _ _ => rfl, (by rw [if_neg (by simp [XInv.up, hs0])]; exact hW)⟩
     case true =>
      rw [if_pos hs0] at hW
      have c0 := (blk_cell (blk_below X10.out.2.2 hW.1) 0).trans rfl
      clear hcl hneed hclo
      intro Q2 K2 hK2
      simp only [XInv.puts, XPrint.pw]
      go_simp
      exact hK2.out (.pointer (some ⟨N, 0, none⟩)) w' ⟨bq, rfl, fun _ _ _ => rfl, (by rw [if_pos (by simp [XInv.up, hs0])]; exact hW)⟩
    ·refine XInv.yes_tab [(93, 2)] (by kernel_rfl) ?_
     cases hs0 : lb 1
     case false =>
      rw [if_neg (by rw [hs0]; decide)] at hW
      have c0 := (blk_cell (blk_below X10.out.2.2 hW) 0).trans rfl
      clear hcl hneed hclo
      intro Q2 K2 hK2
      simp only [XInv.puts, XPrint.pw]
      go_simp
      exact hK2.out (.int .u32 y0) w' ⟨bq, rfl, fun _ _ _ => rfl, (by rw [if_neg (by simp [XInv.up, hs0])]; exact hW)⟩
     case true =>
      rw [if_pos hs0] at hW
      have c0 := (blk_cell (blk_below X10.out.2.2 hW.1) 0).trans rfl
      clear hcl hneed hclo
      intro Q2 K2 hK2
      simp only [XInv.puts, XPrint.pw]
      go_simp
      exact hK2.out (.int .u32 y0) w' ⟨bq, rfl, fun _ _ _ => rfl, (by rw [if_pos (by simp [XInv.up, hs0])]; exact hW)⟩
    ·refine XInv.yes_tab [(94, 3), (92, 1)] (by kernel_rfl) ?_
     have hs0 := hneed 1 (by kernel_rfl)
     rw [if_pos hs0] at hW
     have c0 := (blk_cell (blk_below X10.out.2.2 hW.1) 0).trans rfl
     clear hcl hneed
     intro Q2 K2 hK2
     simp only [XInv.puts, XPrint.pw]
     obtain ⟨hBw, N1, hTw⟩ := id hW
     go_simp
     go_at_call 24
     (with_reducible refine (UC.out _ _ _ _ hTw).mono ?_)
     rintro e wz ⟨rfl, hb⟩
     exact hK2.out (.tuple #[.int .i64 un, .int .i64 0]) wz ⟨bq, rfl, fun _ _ _ => rfl, (by rw [if_pos (by simp [XInv.up, hs0])]; exact ⟨below_step hBw hb, N1, hTw.below hb⟩)⟩
    ·refine XInv.yes_tab [(95, 4)] (by kernel_rfl) ?_
     have hs0 := (XInv.reach hclo [] 4 1 (by kernel_rfl) (hneed 4 (by kernel_rfl)))
     rw [if_pos hs0] at hW
     have c0 := (blk_cell (blk_below X10.out.2.2 hW.1) 0).trans rfl
     clear hcl hneed hclo
     intro Q2 K2 hK2
     simp only [XInv.puts, XPrint.pw]
     go_simp
     exact hK2.out (.tuple #[.int .i64 un, .int .i64 0]) w' ⟨bq, rfl, fun _ _ _ => rfl, (by rw [if_pos (by simp [XInv.up, hs0])]; exact hW)⟩
    ·refine XInv.yes_tab [(90, 5)] (by kernel_rfl) ?_
     have hs0 := (XInv.reach hclo [4] 5 1 (by kernel_rfl) (hneed 5 (by kernel_rfl)))
     rw [if_pos hs0] at hW
     have c0 := (blk_cell (blk_below X10.out.2.2 hW.1) 0).trans rfl
     clear hcl hneed hclo
     intro Q2 K2 hK2
     simp only [XInv.puts, XPrint.pw]
     go_simp
     exact hK2.out (.int .i64 un) w' ⟨bq, rfl, fun _ _ _ => rfl, (by rw [if_pos (by simp [XInv.up, hs0])]; exact hW)⟩
    ·refine XInv.yes_tab [(90, 5)] (by kernel_rfl) ?_
     have hs0 := (XInv.reach hclo [4] 5 1 (by kernel_rfl) (hneed 5 (by kernel_rfl)))
     rw [if_pos hs0] at hW
     have c0 := (blk_cell (blk_below X10.out.2.2 hW.1) 0).trans rfl
     clear hcl hneed hclo
     intro Q2 K2 hK2
     simp only [XInv.puts, XPrint.pw]
     go_simp
     exact hK2.out (.int .i64 0) w' ⟨bq, rfl, fun _ _ _ => rfl, (by rw [if_pos (by simp [XInv.up, hs0])]; exact hW)⟩
    ·refine XInv.yes_tab [(96, 6), (90, 5), (95, 4), (94, 3), (93, 2), (92, 1), (91, 0)] (by kernel_rfl) ?_
     have hs0 := hneed 1 (by kernel_rfl)
     rw [if_pos hs0] at hW
     have c0 := (blk_cell (blk_below X10.out.2.2 hW.1) 0).trans rfl
     clear hcl hneed hclo
     intro Q2 K2 hK2
     simp only [XInv.puts, XPrint.pw] at hK2 ⊢
     go_simp
     exact hK2.out (.int .i64 un) w' ⟨bq, rfl, fun _ _ _ => rfl, (by rw [if_pos (by simp [XInv.up, hs0])]; exact hW)⟩
    ·refine XInv.yes_tab [(18, 8), (97, 7), (96, 6), (90, 5), (95, 4), (94, 3), (93, 2), (92, 1), (91, 0)] (by kernel_rfl) ?_
     have hs0 := hneed 1 (by kernel_rfl)
     rw [if_pos hs0] at hW
     have c0 := (blk_cell (blk_below X10.out.2.2 hW.1) 0).trans rfl
     clear hcl hneed hclo
     intro Q2 K2 hK2
     simp only [XInv.puts, XPrint.pw] at hK2 ⊢
     go_simp
     exact hK2.out (.int .i64 0) w' ⟨bq, rfl, fun _ _ _ => rfl, (by rw [if_pos (by simp [XInv.up, hs0])]; exact hW)⟩
   ·intro bq w' hW
    refine XInv.end_nil [(19, 9), (18, 8), (97, 7), (96, 6), (90, 5), (95, 4), (94, 3), (93, 2), (92, 1), (91, 0)] (by kernel_rfl) (by kernel_rfl) ?_
    simp only [XInv.puts, XPrint.pw]
    rw [if_pos (by kernel_rfl)] at hW
    obtain ⟨w11, hw11⟩ : ∃ w11, w' = w11 := ⟨_, rfl⟩
    rw [hw11] at hW ⊢
    have X11 := Aside0.mk (And.intro (X10.out.1.same hW.1) (And.intro (Kd.R_below X10.out.2.1 hW.1) (blk_below X10.out.2.2 hW.1)))
    clear hW hw11
    have c0 := (blk_cell X11.out.2.2 0).trans rfl
    go_wp2_with fail
    refine (X11.out.1.loseB y0 FX.out.2.1).mono ?_
    rintro e w12 ⟨vo, v3, rfl, hS12, hb12, ho12, hv12⟩
    have hL : (lost ns y0).2 = 0 := by unfold lost; rw [FX.out.1]
    rw [hL]
    have hRo := (hS12.rows _ (List.mem_cons_self ..)).1
    obtain ⟨Ao, co, e1⟩ := Kd.R_slice hRo
    dsimp only at e1
    subst e1
    obtain ⟨ns3, hns3⟩ : ∃ ns3, less ns y0 = ns3 := ⟨_, rfl⟩
    obtain ⟨bx3, hbx3⟩ : ∃ bx3, offN bx y0 = bx3 := ⟨_, rfl⟩
    obtain ⟨bo, hbo⟩ : ∃ bo, onN bx y0 = bo := ⟨_, rfl⟩
    obtain ⟨no, hno⟩ : ∃ no, bo.length = no := ⟨_, rfl⟩
    rw [hns3, hbx3, hbo, hno] at hS12
    rw [hbo, hno] at hRo
    rw [hbo, hno]
    dsimp only at hRo
    have hmw : ∀ k, May p g v k → k < N := fun k hk => by
     rcases hk with (hk | hk) | hk
     ·rw [hk]; exact X7.out.2.2.1
     ·rw [hk]; exact X7.out.2.2.2.2.1
     ·exact X7.out.2.2.2.2.2 k hk
    have hRw := Kd.R_step X11.out.2.1 (fun k hk hlt => hb12.block k hlt (fun hm => by have := hmw k hm; have := Kd.R_base X11.out.2.1 k hk; have := blk_lt X7.out.2.1; omega))
    have k12 := hb12.heap X11.out.2.2 (fun hm => by have := hmw _ hm; omega)
    have hN3 : ¬ May p g v3 N := fun hm => by
     have h7 := X7.out.2.2
     rcases hm with (hm | hm) | hm
     ·omega
     ·omega
     ·rcases ho12 _ hm with h | h
      ·have := h7.2.2.2 _ h
       omega
      ·have := blk_lt X11.out.2.2
       omega
    have HN3 := Aside0.mk hN3
    have X12 := Aside0.mk (And.intro (hS12.keep (rows' := []) (fun r hr => by cases hr)) (And.intro hRw (And.intro k12 (And.intro hRo (And.intro hns3 (And.intro hbx3 (And.intro hbo hno)))))))
    clear hN3 hS12 hb12 ho12 hv12 hL hRo hns3 hbx3 hbo hno hmw hRw k12 c0
    dsimp only
    go_wp2_with fail
    refine X12.out.1.boxes.mono ?_
    rintro e w13 ⟨vl, rfl, hRl, hb13⟩
    obtain ⟨Al, cl, rfl⟩ := Kd.R_slice hRl
    obtain ⟨nl, hnl⟩ : ∃ nl, bx3.length = nl := ⟨_, rfl⟩
    rw [hnl] at hRl ⊢
    have X13 := Aside0.mk (And.intro (X12.out.1.same hb13) (And.intro (Kd.R_below X12.out.2.1 hb13) (And.intro (blk_below X12.out.2.2.1 hb13) (And.intro (Kd.R_below X12.out.2.2.2.1 hb13) (And.intro hRl hnl)))))
    clear hRl hb13 hnl
    dsimp only
    go_upto_region 18 with (fail)
    have hs := less_sum (uns u0 u1) X11.out.1.good.nodes.rising FX.out.1
    rw [X12.out.2.2.2.2.1, FX.out.2.2.2.2, FX.out.2.2.2.1] at hs
    have hof := on_off bx y0
    rw [X12.out.2.2.2.2.2.1, X12.out.2.2.2.2.2.2.1, X12.out.2.2.2.2.2.2.2, X13.out.2.2.2.2.2, X8.out.2.2.2] at hof
    have hrm : roomN u0 u1 ns3 bx3 y0 = 0 := by rw [← X12.out.2.2.2.2.1]; exact room_none (who_lesseq ns y0)
    have htb : 0 ≤ sumU (uns u0 u1) ns3 ∧ sumU (uns u0 u1) ns3 ≤ 1073741824 * (ns3.length : Int) := sumU_le _ _ (fun x hx => uns_nonneg HA.out.2.2.1 (X13.out.1.good.nodes.all x hx).2.1)
    have hl3 := X13.out.1.good.nodes.len
    obtain ⟨t3, ht3⟩ : ∃ t3, sumU (uns u0 u1) ns3 = t3 := ⟨_, rfl⟩
    rw [ht3] at hs htb
    have hun := FX.out.2.2.1
    have hw1 : IntKind.i64.wrap (tt - un) = t3 := by rw [IntKind.wrap_i64]; omega
    have hw2 : IntKind.i64.wrap ((no : Int) + (nl : Int)) = (nb : Int) := by rw [IntKind.wrap_i64]; omega
    have e1 : (t3 != t3) = false := by simp
    have e2 : ((nb : Int) != (nb : Int)) = false := by simp
    have RM := Aside0.mk hrm
    have T3 := Aside0.mk ht3
    have OF := Aside0.mk hof
    clear hs hof hrm htb hl3 ht3 hun
    go_wp2_with fail
    refine (lnodes w13 X13.out.1.led).mono ?_
    rintro e w14 ⟨bt3, gt3, rfl, hb14, hT14⟩
    have T14 := Aside0.mk (And.intro hb14 hT14)
    clear hb14 hT14
    dsimp only
    go_wp2_with fail
    obtain ⟨kv, hkv⟩ := units_all HA.out.2.2.1 ns3 (fun x hx => (X13.out.1.good.nodes.all x hx).2.1)
    refine (total kv _ bt3 gt3 u0 u1 ns3 (uns u0 u1) (fun _ => 0) w14 T14.out.2 (by have := X13.out.1.good.nodes.len; omega) hkv (fun x hx => uns_nonneg HA.out.2.2.1 (X13.out.1.good.nodes.all x hx).2.1)).mono ?_
    clear hkv
    rintro e w15 ⟨rfl, hb15⟩
    rw [T3.out]
    have E15 := Aside0.mk (below_step T14.out.1 hb15)
    have c0 := (blk_cell (blk_below X13.out.2.2.1 (below_step T14.out.1 hb15)) 0).trans rfl
    clear hb15
    dsimp only
    go_wp2_with fail
    refine ((X13.out.1.same E15.out).room y0 FX.out.2.1).mono ?_
    rintro e w16 ⟨rfl, hb16⟩
    rw [RM.out]
    have hb16' := below_step E15.out hb16
    have C1 := Kd.C_below (Kd.R_reads' X13.out.2.1).2.2 hb16'
    have C2 := Kd.C_below (Kd.R_reads' X13.out.2.2.2.1).2.2 hb16'
    have C3 := Kd.C_below (Kd.R_reads' X13.out.2.2.2.2.1).2.2 hb16'
    rw [X8.out.2.2.2] at C1
    rw [X12.out.2.2.2.2.2.2.2] at C2
    rw [X13.out.2.2.2.2.2] at C3
    have X16 := Aside0.mk (And.intro (X13.out.1.same hb16') (And.intro C1 (And.intro C2 (And.intro C3 (blk_below X13.out.2.2.1 hb16')))))
    clear hb16 hb16' C1 C2 C3 c0 hw1 hw2 e1 e2 E15 T14
    dsimp only
    go_wp2_with fail
    go_loopg [23, 24, 25] nb (fun kk v23 v24 v25 wq => ∃ m : Nat, kk = nb - m ∧ v25 = .int .i64 m ∧ m ≤ nb ∧ v23 = .int .i64 ((onN (bx.take m) y0).length : Int) ∧ v24 = .int .i64 ((offN (bx.take m) y0).length : Int) ∧ Below w16.heap.size w16 wq)
    case atStart => exact ⟨0, rfl, rfl, Nat.zero_le _, rfl, rfl, Below.refl _ _⟩
    obtain ⟨m, rfl, rfl, hm, rfl, rfl, hB⟩ := hrel
    by_cases hltm : m < nb
    ·as_aux_lemma =>
      have hmb : m < bx.length := by rw [X8.out.2.2.2]; exact hltm
      obtain ⟨ab, rfl, d0, d1, d2, d3⟩ := box_at (Kd.C_below X16.out.2.1 hB) X8.out.2.2.2 m hltm hmb
      have hon := fun h => filter_get (p := fun x : Bx => x.f1 == y0) bx m hmb h
      have hoff := fun h => filter_get (p := fun x : Bx => !(x.f1 == y0)) bx m hmb h
      have hnon := fun h => filter_pass (p := fun x : Bx => x.f1 == y0) bx m hmb h
      have hnoff := fun h => filter_pass (p := fun x : Bx => !(x.f1 == y0)) bx m hmb h
      obtain ⟨z, hz⟩ : ∃ z, bx[m] = z := ⟨_, rfl⟩
      rw [hz] at d0 d1 d2 d3 hon hoff hnon hnoff
      obtain ⟨x0, x1, x2, x3⟩ := z
      dsimp only at d0 d1 d2 d3 hon hoff hnon hnoff
      obtain ⟨i1, hi1⟩ : ∃ i1, (onN (bx.take m) y0).length = i1 := ⟨_, rfl⟩
      obtain ⟨k1, hk1⟩ : ∃ k1, (offN (bx.take m) y0).length = k1 := ⟨_, rfl⟩
      have hi1m : i1 ≤ m := by rw [← hi1]; exact Nat.le_trans (List.length_filter_le _ _) (by rw [List.length_take]; omega)
      have hk1m : k1 ≤ m := by rw [← hk1]; exact Nat.le_trans (List.length_filter_le _ _) (by rw [List.length_take]; omega)
      rw [hi1, hk1]
      have hltm' : (m : Int) < (nb : Int) := by omega
      obtain ⟨bb, hbb⟩ : ∃ bb, (x1 == y0) = bb := ⟨_, rfl⟩
      have Y := Aside0.mk (And.intro hB (And.intro d0 (And.intro d1 (And.intro d2 (And.intro d3 (And.intro (blk_below X16.out.2.2.2.2 hB) hz))))))
      have Z := Aside0.mk (And.intro hon (And.intro hoff (And.intro hnon (And.intro hnoff (And.intro hi1 hk1)))))
      clear hB d0 d1 d2 d3 hz hon hoff hnon hnoff hi1 hk1
      go_upto_region 24 with (fail)
      refine XInv.region_tab [] [[], [], [0, 1], [2], [3], [], [5], [4, 6]] (fun bq jq => match jq with
        | 0 => .slice (some ab) nb cw
        | 1 => .int .i64 m
        | 2 => .pointer (some (ab.add (m * 4)))
        | 3 => .pointer (some ⟨(ab.add (m * 4)).block, (ab.add (m * 4)).off + 1, none⟩)
        | 4 => .int .u32 x1
        | 5 => .pointer (some ⟨N, 0, none⟩)
        | 6 => .int .u32 y0
        | 7 => .bool bb
        | _ => undef)
        (fun bq l w' => Below wr.heap.size wr w')
        (by kernel_rfl) rfl (by kernel_rfl) (by kernel_rfl) (by kernel_rfl) ⟨fun _ : Nat => (0 : Nat), below_drew (Below.refl _ _)⟩ ?_ ?_
      ·intro i1 hi1 hds oi hoi bq lb w' hW hlb hcl hneed hclo
       have hi1 : i1 < 8 := hi1
       have hcs : i1 = 0 ∨ i1 = 1 ∨ i1 = 2 ∨ i1 = 3 ∨ i1 = 4 ∨ i1 = 5 ∨ i1 = 6 ∨ i1 = 7 := by omega
       clear hi1 hcl hneed hclo
       have e0 := pw_cell_below hW Y.out.2.1
       have e1 := pw_cell_below hW Y.out.2.2.1
       have e2 := pw_cell_below hW Y.out.2.2.2.1
       have e3 := pw_cell_below hW Y.out.2.2.2.2.1
       have c0 := (blk_cell (blk_below Y.out.2.2.2.2.2.1 hW) 0).trans rfl
       rcases hcs with rfl | rfl | rfl | rfl | rfl | rfl | rfl | rfl
       all_goals simp only [List.getElem?_toArray, List.getElem?_cons_succ, List.getElem?_cons_zero, Option.some.injEq] at hoi
       all_goals subst hoi
       ·refine XInv.yes_tab [] (by kernel_rfl) ?_
        intro Q2 K2 hK2
        simp only [XInv.puts, XPrint.pw]
        go_simp
        exact hK2.out (.slice (some ab) nb cw) w' ⟨bq, rfl, fun _ _ _ => rfl, hW⟩
       ·refine XInv.yes_tab [] (by kernel_rfl) ?_
        intro Q2 K2 hK2
        simp only [XInv.puts, XPrint.pw]
        go_simp
        exact hK2.out (.int .i64 m) w' ⟨bq, rfl, fun _ _ _ => rfl, hW⟩
       ·refine XInv.yes_tab [(146, 1), (145, 0)] (by kernel_rfl) ?_
        intro Q2 K2 hK2
        simp only [XInv.puts, XPrint.pw]
        go_simp
        exact hK2.out (.pointer (some (ab.add (m * 4)))) w' ⟨bq, rfl, fun _ _ _ => rfl, hW⟩
       ·refine XInv.yes_tab [(147, 2)] (by kernel_rfl) ?_
        intro Q2 K2 hK2
        simp only [XInv.puts, XPrint.pw]
        go_simp
        exact hK2.out (.pointer (some ⟨(ab.add (m * 4)).block, (ab.add (m * 4)).off + 1, none⟩)) w' ⟨bq, rfl, fun _ _ _ => rfl, hW⟩
       ·refine XInv.yes_tab [(148, 3)] (by kernel_rfl) ?_
        intro Q2 K2 hK2
        simp only [XInv.puts, XPrint.pw]
        go_simp
        exact hK2.out (.int .u32 x1) w' ⟨bq, rfl, fun _ _ _ => rfl, hW⟩
       ·refine XInv.yes_tab [] (by kernel_rfl) ?_
        intro Q2 K2 hK2
        simp only [XInv.puts, XPrint.pw]
        go_simp
        exact hK2.out (.pointer (some ⟨N, 0, none⟩)) w' ⟨bq, rfl, fun _ _ _ => rfl, hW⟩
       ·refine XInv.yes_tab [(150, 5)] (by kernel_rfl) ?_
        intro Q2 K2 hK2
        simp only [XInv.puts, XPrint.pw]
        go_simp
        exact hK2.out (.int .u32 y0) w' ⟨bq, rfl, fun _ _ _ => rfl, hW⟩
       ·refine XInv.yes_tab [(151, 6), (149, 4)] (by kernel_rfl) ?_
        intro Q2 K2 hK2
        simp only [XInv.puts, XPrint.pw]
        go_simp
        exact hK2.out (.bool bb) w' ⟨bq, rfl, fun _ _ _ => rfl, hW⟩
      ·intro bq w' hW
       refine XInv.end_nil [(152, 7), (151, 6), (150, 5), (149, 4), (148, 3), (147, 2), (146, 1), (145, 0)] (by kernel_rfl) (by kernel_rfl) ?_
       simp only [XInv.puts, XPrint.pw]
       have G := Aside0.mk (below_step Y.out.1 hW)
       clear hW
       cases bb
       ·as_aux_lemma =>
         have HQ := Aside0.mk hbb
         clear hbb
         have hg := (Z.out.2.1 (by rw [HQ.out]; rfl)).1
         change (offN bx y0)[(offN (bx.take m) y0).length]? = _ at hg
         rw [Z.out.2.2.2.2.2, X12.out.2.2.2.2.2.1] at hg
         obtain ⟨hkl, hxx⟩ := List.getElem?_eq_some_iff.1 hg
         have hkn : k1 < nl := by rw [← X13.out.2.2.2.2.2]; exact hkl
         obtain ⟨al, rfl, f0, f1, f2, f3⟩ := box_at (Kd.C_below X16.out.2.2.2.1 G.out) X13.out.2.2.2.2.2 k1 hkn hkl
         rw [hxx] at f0 f1 f2 f3
         dsimp only at f0 f1 f2 f3
         have HF : Aside0 ((offN (bx.take (m + 1)) y0).length = k1 + 1) := ⟨by have h := (Z.out.2.1 (by rw [HQ.out]; rfl)).2; rw [← Z.out.2.2.2.2.2]; exact h⟩
         have HO : Aside0 ((onN (bx.take (m + 1)) y0).length = i1) := ⟨by have h := Z.out.2.2.1 HQ.out; rw [← Z.out.2.2.2.2.1]; exact h⟩
         have e113 := PLedLib.eqA113
         have t0 : (x0 == x0) = true := by simp
         have t1 : (x1 == x1) = true := by simp
         have t2 : (x2 == x2) = true := by simp
         have t3 : (x3 == x3) = true := by simp
         have t4 : decide ((nl : Int) ≤ (k1 : Int)) = false := decide_eq_false (by omega)
         have t5 : decide (nl ≤ k1) = false := decide_eq_false (by omega)
         have t6 : ¬ nl ≤ k1 := by omega
         have t7 : ¬ (nl : Int) ≤ (k1 : Int) := by omega
         have hkn' : (k1 : Int) < (nl : Int) := by omega
         have hB1 := Below.refl wr.heap.size wr
         have V := Aside0.mk (And.intro f0 (And.intro f1 (And.intro f2 f3)))
         have YB := Aside0.mk (Kd.C_below X16.out.2.1 G.out)
         obtain ⟨ab2, hab2, g0, g1, g2, g3⟩ := box_at YB.out X8.out.2.2.2 m hltm (by rw [X8.out.2.2.2]; exact hltm)
         obtain rfl := Option.some.inj hab2
         rw [Y.out.2.2.2.2.2.2] at g0 g1 g2 g3
         dsimp only at g0 g1 g2 g3
         have U := Aside0.mk (And.intro g0 (And.intro g1 (And.intro g2 g3)))
         obtain ⟨wv, hwv⟩ : ∃ wv, w' = wv := ⟨_, rfl⟩
         rw [hwv] at V U G ⊢
         clear hg hkl hxx f0 f1 f2 f3 hB1 g0 g1 g2 g3 hab2 hwv
         go_upto_region 28 with (fail)
         refine XInv.region_tab [] [[], [], [1], [0, 2], [3], [4], [4], [5, 6, 4], [7, 4], [4], [4], [9, 10, 4], [11, 4], [8, 12, 4], [4, 13]] (fun bq jq => match jq with
           | 0 => .int .i64 k1
           | 1 => .slice (some al) nl cl
           | 2 => .int .i64 nl
           | 3 => .bool false
           | 4 => .bool false
           | 5 => .slice (some al) nl cl
           | 6 => .int .i64 k1
           | 7 => .pointer (some (al.add (k1 * 4)))
           | 8 => .agg #[.int .u32 x0, .int .u32 x1, .int .u32 x2, .bool x3]
           | 9 => .slice (some ab) nb cw
           | 10 => .int .i64 m
           | 11 => .pointer (some (ab.add (m * 4)))
           | 12 => .agg #[.int .u32 x0, .int .u32 x1, .int .u32 x2, .bool x3]
           | 13 => .bool false
           | 14 => .bool false
           | _ => undef)
           (fun bq l w' => Below wv.heap.size wv w')
           (by kernel_rfl) rfl (by kernel_rfl) (by kernel_rfl) (by kernel_rfl) ⟨fun _ : Nat => (0 : Nat), below_drew (Below.refl _ _)⟩ ?_ ?_
         ·intro i1 hi1 hds oi hoi bq lb w' hW hlb hcl hneed hclo
          have hi1 : i1 < 15 := hi1
          have hcs : i1 = 0 ∨ i1 = 1 ∨ i1 = 2 ∨ i1 = 3 ∨ i1 = 4 ∨ i1 = 5 ∨ i1 = 6 ∨ i1 = 7 ∨ i1 = 8 ∨ i1 = 9 ∨ i1 = 10 ∨ i1 = 11 ∨ i1 = 12 ∨ i1 = 13 ∨ i1 = 14 := by omega
          clear hi1 hcl hneed hclo
          have f0 := pw_cell_below hW V.out.1
          have f1 := pw_cell_below hW V.out.2.1
          have f2 := pw_cell_below hW V.out.2.2.1
          have f3 := pw_cell_below hW V.out.2.2.2
          have g0 := pw_cell_below hW U.out.1
          have g1 := pw_cell_below hW U.out.2.1
          have g2 := pw_cell_below hW U.out.2.2.1
          have g3 := pw_cell_below hW U.out.2.2.2
          rcases hcs with rfl | rfl | rfl | rfl | rfl | rfl | rfl | rfl | rfl | rfl | rfl | rfl | rfl | rfl | rfl
          all_goals simp only [List.getElem?_toArray, List.getElem?_cons_succ, List.getElem?_cons_zero, Option.some.injEq] at hoi
          all_goals subst hoi
          ·refine XInv.yes_tab [] (by kernel_rfl) ?_
           intro Q2 K2 hK2
           simp only [XInv.puts, XPrint.pw]
           go_simp
           exact hK2.out (.int .i64 k1) w' ⟨bq, rfl, fun _ _ _ => rfl, hW⟩
          ·refine XInv.yes_tab [] (by kernel_rfl) ?_
           intro Q2 K2 hK2
           simp only [XInv.puts, XPrint.pw]
           go_simp
           exact hK2.out (.slice (some al) nl cl) w' ⟨bq, rfl, fun _ _ _ => rfl, hW⟩
          ·refine XInv.yes_tab [(171, 1)] (by kernel_rfl) ?_
           intro Q2 K2 hK2
           simp only [XInv.puts, XPrint.pw]
           go_simp
           exact hK2.out (.int .i64 nl) w' ⟨bq, rfl, fun _ _ _ => rfl, hW⟩
          ·refine XInv.yes_tab [(172, 2), (170, 0)] (by kernel_rfl) ?_
           intro Q2 K2 hK2
           simp only [XInv.puts, XPrint.pw]
           go_simp
           exact hK2.out (.bool false) w' ⟨bq, rfl, fun _ _ _ => rfl, hW⟩
          ·refine XInv.yes_tab [(173, 3)] (by kernel_rfl) ?_
           intro Q2 K2 hK2
           simp only [XInv.puts, XPrint.pw]
           go_simp
           exact hK2.out (.bool false) w' ⟨bq, rfl, fun _ _ _ => rfl, hW⟩
          ·refine XInv.yes_tab [(174, 4)] (by kernel_rfl) ?_
           intro Q2 K2 hK2
           simp only [XInv.puts, XPrint.pw]
           go_simp
           exact hK2.out (.slice (some al) nl cl) w' ⟨bq, rfl, fun _ _ _ => rfl, hW⟩
          ·refine XInv.yes_tab [(174, 4)] (by kernel_rfl) ?_
           intro Q2 K2 hK2
           simp only [XInv.puts, XPrint.pw]
           go_simp
           exact hK2.out (.int .i64 k1) w' ⟨bq, rfl, fun _ _ _ => rfl, hW⟩
          ·refine XInv.yes_tab [(176, 6), (175, 5), (174, 4)] (by kernel_rfl) ?_
           intro Q2 K2 hK2
           simp only [XInv.puts, XPrint.pw]
           go_simp
           exact hK2.out (.pointer (some (al.add (k1 * 4)))) w' ⟨bq, rfl, fun _ _ _ => rfl, hW⟩
          ·refine XInv.yes_tab [(177, 7), (174, 4)] (by kernel_rfl) ?_
           intro Q2 K2 hK2
           simp only [XInv.puts, XPrint.pw]
           go_simp
           exact hK2.out (.agg #[.int .u32 x0, .int .u32 x1, .int .u32 x2, .bool x3]) w' ⟨bq, rfl, fun _ _ _ => rfl, hW⟩
          ·refine XInv.yes_tab [(174, 4)] (by kernel_rfl) ?_
           intro Q2 K2 hK2
           simp only [XInv.puts, XPrint.pw]
           go_simp
           exact hK2.out (.slice (some ab) nb cw) w' ⟨bq, rfl, fun _ _ _ => rfl, hW⟩
          ·refine XInv.yes_tab [(174, 4)] (by kernel_rfl) ?_
           intro Q2 K2 hK2
           simp only [XInv.puts, XPrint.pw]
           go_simp
           exact hK2.out (.int .i64 m) w' ⟨bq, rfl, fun _ _ _ => rfl, hW⟩
          ·refine XInv.yes_tab [(180, 10), (179, 9), (174, 4)] (by kernel_rfl) ?_
           intro Q2 K2 hK2
           simp only [XInv.puts, XPrint.pw]
           go_simp
           exact hK2.out (.pointer (some (ab.add (m * 4)))) w' ⟨bq, rfl, fun _ _ _ => rfl, hW⟩
          ·refine XInv.yes_tab [(181, 11), (174, 4)] (by kernel_rfl) ?_
           intro Q2 K2 hK2
           simp only [XInv.puts, XPrint.pw]
           go_simp
           exact hK2.out (.agg #[.int .u32 x0, .int .u32 x1, .int .u32 x2, .bool x3]) w' ⟨bq, rfl, fun _ _ _ => rfl, hW⟩
          ·refine XInv.yes_tab [(182, 12), (178, 8), (174, 4)] (by kernel_rfl) ?_
           intro Q2 K2 hK2
           simp only [XInv.puts, XPrint.pw]
           go_simp
           exact hK2.out (.bool false) w' ⟨bq, rfl, fun _ _ _ => rfl, hW⟩
          ·refine XInv.yes_tab [(183, 13), (174, 4)] (by kernel_rfl) ?_
           intro Q2 K2 hK2
           simp only [XInv.puts, XPrint.pw]
           go_simp
           exact hK2.out (.bool false) w' ⟨bq, rfl, fun _ _ _ => rfl, hW⟩
         ·intro bq w' hW
          refine XInv.end_nil [(184, 14), (183, 13), (182, 12), (181, 11), (180, 10), (179, 9), (178, 8), (177, 7), (176, 6), (175, 5), (174, 4), (173, 3), (172, 2), (171, 1), (170, 0)] (by kernel_rfl) (by kernel_rfl) ?_
          simp only [XInv.puts, XPrint.pw]
          have GG := Aside0.mk (below_step G.out hW)
          clear hW
          go_wp2
          go_roundg (nb - (m + 1))
          case measure => omega
          case rel => exact ⟨m + 1, rfl, by go_num, by omega, by rw [HO.out], by rw [HF.out]; go_num, GG.out⟩
       ·as_aux_lemma =>
         have HQ := Aside0.mk hbb
         clear hbb
         have hg := (Z.out.1 HQ.out).1
         change (onN bx y0)[(onN (bx.take m) y0).length]? = _ at hg
         rw [Z.out.2.2.2.2.1, X12.out.2.2.2.2.2.2.1] at hg
         obtain ⟨hkl, hxx⟩ := List.getElem?_eq_some_iff.1 hg
         have hkn : i1 < no := by rw [← X12.out.2.2.2.2.2.2.2]; exact hkl
         obtain ⟨ao, rfl, f0, f1, f2, f3⟩ := box_at (Kd.C_below X16.out.2.2.1 G.out) X12.out.2.2.2.2.2.2.2 i1 hkn hkl
         rw [hxx] at f0 f1 f2 f3
         dsimp only at f0 f1 f2 f3
         have HF : Aside0 ((onN (bx.take (m + 1)) y0).length = i1 + 1) := ⟨by have h := (Z.out.1 HQ.out).2; rw [← Z.out.2.2.2.2.1]; exact h⟩
         have HO : Aside0 ((offN (bx.take (m + 1)) y0).length = k1) := ⟨by have h := Z.out.2.2.2.1 (by rw [HQ.out]; rfl); rw [← Z.out.2.2.2.2.2]; exact h⟩
         have e113 := PLedLib.eqA113
         have t0 : (x0 == x0) = true := by simp
         have t1 : (x1 == x1) = true := by simp
         have t2 : (x2 == x2) = true := by simp
         have t3 : (x3 == x3) = true := by simp
         have t4 : decide ((no : Int) ≤ (i1 : Int)) = false := decide_eq_false (by omega)
         have t5 : decide (no ≤ i1) = false := decide_eq_false (by omega)
         have t6 : ¬ no ≤ i1 := by omega
         have t7 : ¬ (no : Int) ≤ (i1 : Int) := by omega
         have hkn' : (i1 : Int) < (no : Int) := by omega
         have hB1 := Below.refl wr.heap.size wr
         have V := Aside0.mk (And.intro f0 (And.intro f1 (And.intro f2 f3)))
         have YB := Aside0.mk (Kd.C_below X16.out.2.1 G.out)
         obtain ⟨ab2, hab2, g0, g1, g2, g3⟩ := box_at YB.out X8.out.2.2.2 m hltm (by rw [X8.out.2.2.2]; exact hltm)
         obtain rfl := Option.some.inj hab2
         rw [Y.out.2.2.2.2.2.2] at g0 g1 g2 g3
         dsimp only at g0 g1 g2 g3
         have U := Aside0.mk (And.intro g0 (And.intro g1 (And.intro g2 g3)))
         obtain ⟨wv, hwv⟩ : ∃ wv, w' = wv := ⟨_, rfl⟩
         rw [hwv] at V U G ⊢
         clear hg hkl hxx f0 f1 f2 f3 hB1 g0 g1 g2 g3 hab2 hwv
         go_upto_region 25 with (fail)
         refine XInv.region_tab [] [[], [], [1], [0, 2], [3], [4], [4], [5, 6, 4], [7, 4], [4], [4], [9, 10, 4], [11, 4], [8, 12, 4], [4, 13]] (fun bq jq => match jq with
           | 0 => .int .i64 i1
           | 1 => .slice (some ao) no co
           | 2 => .int .i64 no
           | 3 => .bool false
           | 4 => .bool false
           | 5 => .slice (some ao) no co
           | 6 => .int .i64 i1
           | 7 => .pointer (some (ao.add (i1 * 4)))
           | 8 => .agg #[.int .u32 x0, .int .u32 x1, .int .u32 x2, .bool x3]
           | 9 => .slice (some ab) nb cw
           | 10 => .int .i64 m
           | 11 => .pointer (some (ab.add (m * 4)))
           | 12 => .agg #[.int .u32 x0, .int .u32 x1, .int .u32 x2, .bool x3]
           | 13 => .bool false
           | 14 => .bool false
           | _ => undef)
           (fun bq l w' => Below wv.heap.size wv w')
           (by kernel_rfl) rfl (by kernel_rfl) (by kernel_rfl) (by kernel_rfl) ⟨fun _ : Nat => (0 : Nat), below_drew (Below.refl _ _)⟩ ?_ ?_
         ·intro i1 hi1 hds oi hoi bq lb w' hW hlb hcl hneed hclo
          have hi1 : i1 < 15 := hi1
          have hcs : i1 = 0 ∨ i1 = 1 ∨ i1 = 2 ∨ i1 = 3 ∨ i1 = 4 ∨ i1 = 5 ∨ i1 = 6 ∨ i1 = 7 ∨ i1 = 8 ∨ i1 = 9 ∨ i1 = 10 ∨ i1 = 11 ∨ i1 = 12 ∨ i1 = 13 ∨ i1 = 14 := by omega
          clear hi1 hcl hneed hclo
          have f0 := pw_cell_below hW V.out.1
          have f1 := pw_cell_below hW V.out.2.1
          have f2 := pw_cell_below hW V.out.2.2.1
          have f3 := pw_cell_below hW V.out.2.2.2
          have g0 := pw_cell_below hW U.out.1
          have g1 := pw_cell_below hW U.out.2.1
          have g2 := pw_cell_below hW U.out.2.2.1
          have g3 := pw_cell_below hW U.out.2.2.2
          rcases hcs with rfl | rfl | rfl | rfl | rfl | rfl | rfl | rfl | rfl | rfl | rfl | rfl | rfl | rfl | rfl
          all_goals simp only [List.getElem?_toArray, List.getElem?_cons_succ, List.getElem?_cons_zero, Option.some.injEq] at hoi
          all_goals subst hoi
          ·refine XInv.yes_tab [] (by kernel_rfl) ?_
           intro Q2 K2 hK2
           simp only [XInv.puts, XPrint.pw]
           go_simp
           exact hK2.out (.int .i64 i1) w' ⟨bq, rfl, fun _ _ _ => rfl, hW⟩
          ·refine XInv.yes_tab [] (by kernel_rfl) ?_
           intro Q2 K2 hK2
           simp only [XInv.puts, XPrint.pw]
           go_simp
           exact hK2.out (.slice (some ao) no co) w' ⟨bq, rfl, fun _ _ _ => rfl, hW⟩
          ·refine XInv.yes_tab [(154, 1)] (by kernel_rfl) ?_
           intro Q2 K2 hK2
           simp only [XInv.puts, XPrint.pw]
           go_simp
           exact hK2.out (.int .i64 no) w' ⟨bq, rfl, fun _ _ _ => rfl, hW⟩
          ·refine XInv.yes_tab [(155, 2), (153, 0)] (by kernel_rfl) ?_
           intro Q2 K2 hK2
           simp only [XInv.puts, XPrint.pw]
           go_simp
           exact hK2.out (.bool false) w' ⟨bq, rfl, fun _ _ _ => rfl, hW⟩
          ·refine XInv.yes_tab [(156, 3)] (by kernel_rfl) ?_
           intro Q2 K2 hK2
           simp only [XInv.puts, XPrint.pw]
           go_simp
           exact hK2.out (.bool false) w' ⟨bq, rfl, fun _ _ _ => rfl, hW⟩
          ·refine XInv.yes_tab [(157, 4)] (by kernel_rfl) ?_
           intro Q2 K2 hK2
           simp only [XInv.puts, XPrint.pw]
           go_simp
           exact hK2.out (.slice (some ao) no co) w' ⟨bq, rfl, fun _ _ _ => rfl, hW⟩
          ·refine XInv.yes_tab [(157, 4)] (by kernel_rfl) ?_
           intro Q2 K2 hK2
           simp only [XInv.puts, XPrint.pw]
           go_simp
           exact hK2.out (.int .i64 i1) w' ⟨bq, rfl, fun _ _ _ => rfl, hW⟩
          ·refine XInv.yes_tab [(159, 6), (158, 5), (157, 4)] (by kernel_rfl) ?_
           intro Q2 K2 hK2
           simp only [XInv.puts, XPrint.pw]
           go_simp
           exact hK2.out (.pointer (some (ao.add (i1 * 4)))) w' ⟨bq, rfl, fun _ _ _ => rfl, hW⟩
          ·refine XInv.yes_tab [(160, 7), (157, 4)] (by kernel_rfl) ?_
           intro Q2 K2 hK2
           simp only [XInv.puts, XPrint.pw]
           go_simp
           exact hK2.out (.agg #[.int .u32 x0, .int .u32 x1, .int .u32 x2, .bool x3]) w' ⟨bq, rfl, fun _ _ _ => rfl, hW⟩
          ·refine XInv.yes_tab [(157, 4)] (by kernel_rfl) ?_
           intro Q2 K2 hK2
           simp only [XInv.puts, XPrint.pw]
           go_simp
           exact hK2.out (.slice (some ab) nb cw) w' ⟨bq, rfl, fun _ _ _ => rfl, hW⟩
          ·refine XInv.yes_tab [(157, 4)] (by kernel_rfl) ?_
           intro Q2 K2 hK2
           simp only [XInv.puts, XPrint.pw]
           go_simp
           exact hK2.out (.int .i64 m) w' ⟨bq, rfl, fun _ _ _ => rfl, hW⟩
          ·refine XInv.yes_tab [(163, 10), (162, 9), (157, 4)] (by kernel_rfl) ?_
           intro Q2 K2 hK2
           simp only [XInv.puts, XPrint.pw]
           go_simp
           exact hK2.out (.pointer (some (ab.add (m * 4)))) w' ⟨bq, rfl, fun _ _ _ => rfl, hW⟩
          ·refine XInv.yes_tab [(164, 11), (157, 4)] (by kernel_rfl) ?_
           intro Q2 K2 hK2
           simp only [XInv.puts, XPrint.pw]
           go_simp
           exact hK2.out (.agg #[.int .u32 x0, .int .u32 x1, .int .u32 x2, .bool x3]) w' ⟨bq, rfl, fun _ _ _ => rfl, hW⟩
          ·refine XInv.yes_tab [(165, 12), (161, 8), (157, 4)] (by kernel_rfl) ?_
           intro Q2 K2 hK2
           simp only [XInv.puts, XPrint.pw]
           go_simp
           exact hK2.out (.bool false) w' ⟨bq, rfl, fun _ _ _ => rfl, hW⟩
          ·refine XInv.yes_tab [(166, 13), (157, 4)] (by kernel_rfl) ?_
           intro Q2 K2 hK2
           simp only [XInv.puts, XPrint.pw]
           go_simp
           exact hK2.out (.bool false) w' ⟨bq, rfl, fun _ _ _ => rfl, hW⟩
         ·intro bq w' hW
          refine XInv.end_nil [(167, 14), (166, 13), (165, 12), (164, 11), (163, 10), (162, 9), (161, 8), (160, 7), (159, 6), (158, 5), (157, 4), (156, 3), (155, 2), (154, 1), (153, 0)] (by kernel_rfl) (by kernel_rfl) ?_
          simp only [XInv.puts, XPrint.pw]
          have GG := Aside0.mk (below_step G.out hW)
          clear hW
          go_wp2
          go_roundg (nb - (m + 1))
          case measure => omega
          case rel => exact ⟨m + 1, rfl, by go_num, by omega, by rw [HF.out]; go_num, by rw [HO.out], GG.out⟩
    ·as_aux_lemma =>
      have hltm' : ¬ (m : Int) < (nb : Int) := by omega
      have kN := blk_below X16.out.2.2.2.2 hB
      have c0 := (blk_cell kN 0).trans rfl
      have c1 := (blk_cell kN 1).trans rfl
      have c2 := (blk_cell kN 2).trans rfl
      have KN := Aside0.mk kN
      have SB := Aside0.mk (X16.out.1.same hB)
      clear hB kN
      go_wp2_with fail
      refine (SB.out.joinB y0 y1 y2 FX.out.2.1).mono ?_
      rintro e w17 ⟨rfl, hS17, hb17⟩
      have hca : code u0 u1 ns3 ⟨y0, ⟨y1, y2⟩⟩ = 0 := by rw [← X12.out.2.2.2.2.1]; exact code_again X11.out.1.good.nodes M.out
      have hra : roomN u0 u1 (nsJ u0 u1 ns3 ⟨y0, ⟨y1, y2⟩⟩) bx3 y0 = un := by
       have h := room_again (bx := bx) X11.out.1.good.nodes M.out
       rw [FX.out.2.2.2.1, X12.out.2.2.2.2.1, X12.out.2.2.2.2.2.1] at h
       exact h
      rw [hca]
      have RA := Aside0.mk hra
      have c0 := (blk_cell (hb17.heap KN.out HN3.out) 0).trans rfl
      have S17 := Aside0.mk hS17
      clear c1 c2 hca hra hS17 hb17
      dsimp only
      go_wp2_with fail
      refine (S17.out.room y0 FX.out.2.1).mono ?_
      rintro e w18 ⟨rfl, hb18⟩
      rw [RA.out]
      have S18 := Aside0.mk (S17.out.same hb18)
      have tu : (un == un) = true := by simp
      clear hb18 c0
      dsimp only
      go_wp2_with fail
      refine (head w18).mono ?_
      rintro e w19 ⟨rfl, hb19⟩
      have Z := Aside0.mk hb19
      clear hb19
      dsimp only
      go_wp2
      go_ret
      exact ⟨rfl, below_step (below_then HA.out.2.2.2.2.2.1 HA.out.2.2.2.2.2.1.size S18.out.below) Z.out⟩
end Go.Proofs.Ythibppfdonepoaa.LedT
