/- liverylaw23.LedgerPlays. -/
import Derived.Test.YthibppfdonepoaaGreatCLedgerPlaysHLedPW
set_option maxHeartbeats 32000000
set_option maxRecDepth 100000
set_option linter.unusedVariables false
set_option linter.unusedSimpArgs false
namespace Go.Proofs.YthibppfdonepoaaGreat.LedT
open Go.RowKit Go.MapKept Go.Maps Go.ChangeMaps Go.Proofs.YthibppfdonepoaaGreat.XBut Go.Proofs.YthibppfdonepoaaGreat.XMap Go.Proofs.YthibppfdonepoaaGreat.NodeT Go.Proofs.YthibppfdonepoaaGreatW.PrintWords Go.Proofs.YthibppfdonepoaaGreatW.PrintLast
theorem cs13b (P : Nat → Prop) (h0 : P 0) (h1 : P 1) (h2 : P 2) (h3 : P 3) (h4 : P 4) (h5 : P 5) (h6 : P 6) (h7 : P 7) (h8 : P 8) (h9 : P 9) (h10 : P 10) (h11 : P 11) (h12 : P 12) : ∀ i, i < 13 → P i := by
 intro i hi
 rcases (by omega : i = 0 ∨ i = 1 ∨ i = 2 ∨ i = 3 ∨ i = 4 ∨ i = 5 ∨ i = 6 ∨ i = 7 ∨ i = 8 ∨ i = 9 ∨ i = 10 ∨ i = 11 ∨ i = 12) with rfl | rfl | rfl | rfl | rfl | rfl | rfl | rfl | rfl | rfl | rfl | rfl | rfl
 all_goals assumption
theorem ledgerPlays_great (u0 u1 : Int) (A : Option Addr) (c : Nat) (l : List Ac) (w : World) (hA : AcRow w A l) (hl : l.length ≤ 9223372036854775807) (hu : True) (hg : gr l = true) :
  Calls Tryz.prog 6 #[.agg #[.int .i64 u0, .int .i64 u1], .slice A l.length c] w fun e w' => e = .returned (.bool true) ∧ Below w.heap.size w w' := by
 have hu23 := Tryz.underlying23
 have hu118 := Tryz.underlying37
 obtain ⟨W0, hW0⟩ : ∃ W0, w.alloc (.cells #[.int .i64 u0, .int .i64 u1] 23) = W0 := ⟨_, rfl⟩
 have hB0 : Below w.heap.size w W0 := by rw [← hW0]; exact below_alloc (Below.refl _ _) _
 have kv : W0.heap[w.heap.size]? = some (.cells #[.int .i64 u0, .int .i64 u1] 23 (0, 0)) := by rw [← hW0]; exact blk_new w _
 have HA := Aside0.mk (And.intro hA (And.intro hl (And.intro hu (And.intro hg (And.intro hB0 (And.intro hW0 kv))))))
 clear hA hl hu hg hB0 hW0 kv
 go_enter Tryz.func6, Tryz.ntmps6
 go_wp2_with fail
 rw [HA.out.2.2.2.2.2.1]
 refine (great A c l W0 (HA.out.1.below HA.out.2.2.2.2.1) HA.out.2.1).mono ?_
 rintro e w1 ⟨rfl, hb⟩
 rw [HA.out.2.2.2.1]
 have B1 := Aside0.mk hb
 have kv := blk_below HA.out.2.2.2.2.2.2 hb
 have v0 := (blk_cell kv 0).trans rfl
 have v1 := (blk_cell kv 1).trans rfl
 clear hb kv
 dsimp only
 go_wp2_with fail
 refine (head w1).mono ?_
 rintro e wz ⟨rfl, hbz⟩
 have Z := Aside0.mk hbz
 clear hbz
 dsimp only
 go_wp2
 go_ret
 exact ⟨rfl, below_step (below_then HA.out.2.2.2.2.1 HA.out.2.2.2.2.1.size B1.out) Z.out⟩
theorem ledgerPlays_bad (u0 u1 : Int) (A : Option Addr) (c : Nat) (l : List Ac) (w : World) (hA : AcRow w A l) (hl : l.length ≤ 9223372036854775807) (hu : ¬ okV 1 ⟨u0, u1⟩) (hg : gr l = false) :
  Calls Tryz.prog 6 #[.agg #[.int .i64 u0, .int .i64 u1], .slice A l.length c] w fun e w' => e = .returned (.bool true) ∧ Below w.heap.size w w' := by
 have hu23 := Tryz.underlying23
 have hu118 := Tryz.underlying37
 obtain ⟨W0, hW0⟩ : ∃ W0, w.alloc (.cells #[.int .i64 u0, .int .i64 u1] 23) = W0 := ⟨_, rfl⟩
 have hB0 : Below w.heap.size w W0 := by rw [← hW0]; exact below_alloc (Below.refl _ _) _
 have kv : W0.heap[w.heap.size]? = some (.cells #[.int .i64 u0, .int .i64 u1] 23 (0, 0)) := by rw [← hW0]; exact blk_new w _
 have HA := Aside0.mk (And.intro hA (And.intro hl (And.intro hu (And.intro hg (And.intro hB0 (And.intro hW0 kv))))))
 clear hA hl hu hg hB0 hW0 kv
 go_enter Tryz.func6, Tryz.ntmps6
 go_wp2_with fail
 rw [HA.out.2.2.2.2.2.1]
 refine (great A c l W0 (HA.out.1.below HA.out.2.2.2.2.1) HA.out.2.1).mono ?_
 rintro e w1 ⟨rfl, hb⟩
 rw [HA.out.2.2.2.1]
 have B1 := Aside0.mk hb
 have kv := blk_below HA.out.2.2.2.2.2.2 hb
 have v0 := (blk_cell kv 0).trans rfl
 have v1 := (blk_cell kv 1).trans rfl
 clear hb kv
 dsimp only
 go_wp2_with fail
 refine (lnew_no u0 u1 w1 HA.out.2.2.1).mono ?_
 rintro e w2 ⟨rfl, hb2⟩
 have B2 := Aside0.mk (below_step B1.out hb2)
 have v0 := pw_cell_below hb2 v0
 have v1 := pw_cell_below hb2 v1
 clear hb2
 dsimp only
 go_wp2_with fail
 refine (dnew_no u0 u1 w2 HA.out.2.2.1).mono ?_
 rintro e w3 ⟨vn, rfl, hR, hb3⟩
 obtain ⟨An, cn, rfl⟩ := Kd.R_slice hR
 dsimp only [List.length_nil]
 have B3 := Aside0.mk (below_step B2.out hb3)
 clear hR hb3 v0 v1
 unfold dv
 go_upto_region 5 with (fail)
 obtain ⟨w4, hw4⟩ : ∃ w4, w3.alloc (.cells #[.int .i64 0, .int .i64 0, .slice An 0 cn, .slice none 0 0, .int .u32 0] LT) = w4 := ⟨_, rfl⟩
 have B4 := Aside0.mk (below_step B3.out (show Below w3.heap.size w3 w4 by rw [← hw4]; exact below_alloc (Below.refl _ _) _))
 rw [hw4]
 clear hw4
 go_wp2_with fail
 refine (head w4).mono ?_
 rintro e wz ⟨rfl, hbz⟩
 have Z := Aside0.mk hbz
 clear hbz
 dsimp only
 go_wp2
 go_ret
 exact ⟨rfl, below_step (below_then HA.out.2.2.2.2.1 HA.out.2.2.2.2.1.size B4.out) Z.out⟩
theorem ledgerPlays (u0 u1 : Int) (A : Option Addr) (c : Nat) (l : List Ac) (w : World) (hA : AcRow w A l) (hl : l.length ≤ 9223372036854775807) (hu : okV 1 ⟨u0, u1⟩) (hg : gr l = false) :
  Calls Tryz.prog 6 #[.agg #[.int .i64 u0, .int .i64 u1], .slice A l.length c] w fun e w' => e = .returned (.bool true) ∧ Below w.heap.size w w' := by
 have hu23 := Tryz.underlying23
 have hu118 := Tryz.underlying37
 obtain ⟨W0, hW0⟩ : ∃ W0, w.alloc (.cells #[.int .i64 u0, .int .i64 u1] 23) = W0 := ⟨_, rfl⟩
 have hB0 : Below w.heap.size w W0 := by rw [← hW0]; exact below_alloc (Below.refl _ _) _
 have kv : W0.heap[w.heap.size]? = some (.cells #[.int .i64 u0, .int .i64 u1] 23 (0, 0)) := by rw [← hW0]; exact blk_new w _
 have HA := Aside0.mk (And.intro hA (And.intro hl (And.intro hu (And.intro hg (And.intro hB0 (And.intro hW0 kv))))))
 clear hA hl hu hg hB0 hW0 kv
 go_enter Tryz.func6, Tryz.ntmps6
 go_wp2_with fail
 rw [HA.out.2.2.2.2.2.1]
 refine (great A c l W0 (HA.out.1.below HA.out.2.2.2.2.1) HA.out.2.1).mono ?_
 rintro e w1 ⟨rfl, hb⟩
 rw [HA.out.2.2.2.1]
 have B1 := Aside0.mk hb
 have kv := blk_below HA.out.2.2.2.2.2.2 hb
 have v0 := (blk_cell kv 0).trans rfl
 have v1 := (blk_cell kv 1).trans rfl
 clear hb kv
 dsimp only
 go_wp2_with fail
 have hsm := gr_small HA.out.2.2.2.1
 have hl80 : (l.length : Int) ≤ 80 := by omega
 have SM := Aside0.mk hsm
 clear hsm
 refine (lnew_yes u0 u1 w1 HA.out.2.2.1).mono ?_
 rintro e w2 ⟨p, b, g, rfl, hb2, hL⟩
 have X2 := Aside0.mk (HS.new w1 w2 HA.out.2.2.1 hb2 hL)
 have v0 := pw_cell_below hb2 v0
 have v1 := pw_cell_below hb2 v1
 clear hb2 hL
 dsimp only
 go_wp2_with fail
 refine (dnew u0 u1 w2 HA.out.2.2.1).mono ?_
 rintro e w3 ⟨vn, rfl, hR, hb⟩
 obtain ⟨An, cn, rfl⟩ := Kd.R_slice hR
 dsimp only [List.length_nil] at hR ⊢
 have X3 := Aside0.mk (And.intro (DS.new X2.out hR hb) (below_step X2.out.below hb))
 clear hR hb X2 v0 v1
 unfold dv
 go_upto_region 5 with (fail)
 obtain ⟨W4, hW4⟩ : ∃ W4, w3.alloc (.cells #[.int .i64 u0, .int .i64 u1, .slice An 0 cn, .slice none 0 0, .int .u32 0] LT) = W4 := ⟨_, rfl⟩
 have hB4 : Below w3.heap.size w3 W4 := by rw [← hW4]; exact below_alloc (Below.refl _ _) _
 have k4 : W4.heap[w3.heap.size]? = some (.cells #[.int .i64 u0, .int .i64 u1, .slice An 0 cn, .slice none 0 0, .int .u32 0] LT (0, 0)) := by rw [← hW4]; exact blk_new w3 _
 rw [hW4]
 have hQM : ¬ May2 p g (.slice none 0 0) (.slice none 0 0) (fun k => w2.heap.size ≤ k ∧ k < w3.heap.size) w3.heap.size ∧ w3.heap.size ≠ b ∧ w1.heap.size ≤ w3.heap.size := by
  have hl := X3.out.1.hs.led.lt
  have hz := X3.out.2.size
  refine ⟨fun hm => ?_, by omega, hz⟩
  rcases hm with ((hm | hm) | hm) | hm | hm
  ·omega
  ·omega
  ·simp [Value.ownBlock] at hm
  ·omega
  ·simp [Value.ownBlock] at hm
 obtain ⟨q, hq⟩ : ∃ q, w3.heap.size = q := ⟨_, rfl⟩
 have D4 := X3.out.1.same hB4
 rw [hq] at k4 hQM D4 ⊢
 have X4 := Aside0.mk (And.intro D4 (And.intro k4 hQM))
 clear hW4 hB4 k4 hQM D4 X3 hq
 go_wp2_with fail
 go_loopg [9, 10, 11] l.length (fun kk v9 v10 v11 wr => ∃ (j : Nat) (ns : List Nd) (v : Value) (bx : List Bx) (last : Int) (vn vb : Value) (okn : Nat → Prop), kk = l.length - j ∧ v9 = .int .i64 j ∧ j ≤ l.length ∧ last ≤ 200 * j ∧ DS w1 wr p b g u0 u1 ns v bx last vn vb okn ∧ wr.heap[q]? = some (.cells #[.int .i64 u0, .int .i64 u1, vn, vb, .int .u32 last] LT (0, 0)) ∧ ¬ May2 p g v vb okn q)
 case atStart => exact ⟨0, [], _, [], 0, _, _, _, rfl, rfl, Nat.zero_le _, by omega, X4.out.1, X4.out.2.1, X4.out.2.2.1⟩
 obtain ⟨j, ns, v, bx, last, vn, vb, okn, rfl, rfl, hj, hlast, hD, hk, hM⟩ := hrel
 have XQ := Aside0.mk X4.out.2.2.2
 clear X4
 obtain ⟨An, cn, rfl⟩ := Kd.R_slice hD.nrow
 obtain ⟨A2, c2, rfl⟩ := Kd.R_slice hD.brow
 by_cases hlt : j < l.length
 ·as_aux_lemma =>
  obtain ⟨ad, rfl, hAc⟩ := HA.out.1.at_ j hlt
  have hwf := HA.out.1.wf l[j] (List.getElem_mem hlt)
  have hbig := SM.out.2 l[j] (List.getElem_mem hlt)
  obtain ⟨x, hx⟩ : ∃ x, l[j] = x := ⟨_, rfl⟩
  rw [hx] at hAc hwf hbig
  have hbw := below_then HA.out.2.2.2.2.1 HA.out.2.2.2.2.1.size (below_then B1.out B1.out.size hD.hs.below)
  have hAr := hAc.below hbw
  obtain ⟨xw, ⟨n0, n1, n2⟩, o, s, m⟩ := x
  have hla : last ≤ 4000000000 := by omega
  have hal := acL_le (u0 := u0) (u1 := u1) (ns := ns) (bx := bx) (last := last) hbig
  obtain ⟨nn, hnn⟩ : ∃ nn, ns.length = nn := ⟨_, rfl⟩
  obtain ⟨nb, hnb⟩ : ∃ nb, bx.length = nb := ⟨_, rfl⟩
  rw [hnn] at hD hk
  rw [hnb] at hD hk hM
  obtain ⟨la2, hla2⟩ : ∃ la2, acL u0 u1 ns bx last ⟨xw, ⟨n0, ⟨n1, n2⟩⟩, o, s, m⟩ = la2 := ⟨_, rfl⟩
  obtain ⟨ns2, hns2⟩ : ∃ ns2, acN u0 u1 ns ⟨xw, ⟨n0, ⟨n1, n2⟩⟩, o, s, m⟩ = ns2 := ⟨_, rfl⟩
  obtain ⟨bx2, hbx2⟩ : ∃ bx2, acB u0 u1 ns bx last ⟨xw, ⟨n0, ⟨n1, n2⟩⟩, o, s, m⟩ = bx2 := ⟨_, rfl⟩
  have DC := Aside0.mk (fun (w' : World) (hb : Below wr.heap.size wr w') => does p b g u0 u1 ns v bx last An A2 nn cn nb c2 okn xw n0 n1 n2 o m s w1 w' (hD.same hb) hwf.1 hwf.2.1 hla)
  rw [hla2, hns2, hbx2] at DC
  rw [hla2] at hal
  unfold dv at DC
  obtain ⟨nn2, hnn2⟩ : ∃ nn2, ns2.length = nn2 := ⟨_, rfl⟩
  obtain ⟨nb2, hnb2⟩ : ∃ nb2, bx2.length = nb2 := ⟨_, rfl⟩
  have NL := Aside0.mk (And.intro hnn2 hnb2)
  have hlt' : (j : Int) < (l.length : Int) := by omega
  have ML := Aside0.mk (And.intro hD.lt (And.intro hD.hs.below.size hD.hs.led.lt.2.1))
  have X := Aside0.mk (And.intro hk (And.intro hM (And.intro hAr (And.intro hlast hal))))
  clear hk hM hAc hAr hlast hal hwf hbig hx hbw hD hla hla2 hns2 hbx2 hnn hnb hnn2 hnb2
  go_upto_region 12 with (fail)
  refine XInv.region_tab [] [[], [], [], [], [2, 3], [4], [0, 1, 5], [6], [7], [7], [], [10, 8, 6, 0, 1, 2, 3, 4, 5, 6, 7, 8, 10], [9, 11, 0, 1, 2, 3, 4, 5, 6, 7, 8, 9, 10, 11]] (fun bq jq => match jq with
    | 0 => .pointer (some ⟨p, 0, none⟩)
    | 1 => .agg #[.int .i64 u0, .int .i64 u1, .slice An nn cn, .slice A2 nb c2, .int .u32 last]
    | 2 => .slice (some ad) l.length c
    | 3 => .int .i64 j
    | 4 => .pointer (some (ad.add (j * 7)))
    | 5 => .agg #[.int .u8 xw, .int .u32 n0, .int .i64 n1, .int .i64 n2, .int .u32 o, .bool s, .int .i64 m]
    | 6 => .tuple #[.agg #[.int .i64 u0, .int .i64 u1, .slice bq.1.1.1 nn2 bq.1.1.2, .slice bq.1.2.1 nb2 bq.1.2.2, .int .u32 la2], .bool true]
    | 7 => .tuple #[.agg #[.int .i64 u0, .int .i64 u1, .slice bq.1.1.1 nn2 bq.1.1.2, .slice bq.1.2.1 nb2 bq.1.2.2, .int .u32 la2], .bool true]
    | 8 => .agg #[.int .i64 u0, .int .i64 u1, .slice bq.1.1.1 nn2 bq.1.1.2, .slice bq.1.2.1 nb2 bq.1.2.2, .int .u32 la2]
    | 9 => .bool true
    | 10 => .pointer (some ⟨bq.2, 0, none⟩)
    | 11 => undef
    | 12 => .bool true
    | _ => undef)
    (fun bq l w' => PW w1 wr p b g q u0 u1 ns2 bx2 la2 nn2 nb2 (.cells #[.int .i64 u0, .int .i64 u1, .slice An nn cn, .slice A2 nb c2, .int .u32 last] LT (0, 0)) bq l w')
    (by kernel_rfl) rfl (by kernel_rfl) (by kernel_rfl) (by kernel_rfl) ⟨((((none, 0), (none, 0)), 0) : PB), ⟨fun _ => below_drew (Below.refl _ _), Nat.le_refl _, fun h => (by cases h), fun h => (by cases h), fun h => (by cases h)⟩⟩ ?_ ?_
  ·intro i1 hi1 hds oi hoi bq lb w' hW hlb hcl hneed hclo
   have hi1 : i1 < 13 := hi1
   have hcs : i1 = 0 ∨ i1 = 1 ∨ i1 = 2 ∨ i1 = 3 ∨ i1 = 4 ∨ i1 = 5 ∨ i1 = 6 ∨ i1 = 7 ∨ i1 = 8 ∨ i1 = 9 ∨ i1 = 10 ∨ i1 = 11 ∨ i1 = 12 := by omega
   clear hi1
   rcases hcs with rfl | rfl | rfl | rfl | rfl | rfl | rfl | rfl | rfl | rfl | rfl | rfl | rfl
   all_goals simp only [List.getElem?_toArray, List.getElem?_cons_succ, List.getElem?_cons_zero, Option.some.injEq] at hoi
   all_goals subst hoi
   ·refine XInv.yes_tab [] (by kernel_rfl) ?_
    intro Q2 K2 hK2
    simp only [XInv.puts, XPrint.pw]
    go_simp
    exact hK2.out (.pointer (some ⟨p, 0, none⟩)) w' ⟨bq, rfl, fun _ _ _ => rfl, hW.up 0 (by decide)⟩
   ·refine XInv.yes_tab [] (by kernel_rfl) ?_
    have h6 : lb 6 = false := (Bool.eq_false_or_eq_true (lb 6)).elim (fun hx => absurd (XInv.reach hclo [] 6 1 (by kernel_rfl) hx) (by rw [hlb]; decide)) id
    have hb := hW.before h6
    have kq := blk_below X.out.1 hb
    have q0 := (blk_cell kq 0).trans rfl
    have q1 := (blk_cell kq 1).trans rfl
    have q2 := (blk_cell kq 2).trans rfl
    have q3 := (blk_cell kq 3).trans rfl
    have q4 := (blk_cell kq 4).trans rfl
    have hac := X.out.2.2.1.below hb
    obtain ⟨d0, d1, d2, d3, d4, d5, d6⟩ := hac
    dsimp only at d0 d1 d2 d3 d4 d5 d6
    intro Q2 K2 hK2
    simp only [XInv.puts, XPrint.pw]
    go_simp
    exact hK2.out (.agg #[.int .i64 u0, .int .i64 u1, .slice An nn cn, .slice A2 nb c2, .int .u32 last]) w' ⟨bq, rfl, (by intros; first | rfl | trivial), hW.up 1 (by decide)⟩
   ·refine XInv.yes_tab [] (by kernel_rfl) ?_
    intro Q2 K2 hK2
    simp only [XInv.puts, XPrint.pw]
    go_simp
    exact hK2.out (.slice (some ad) l.length c) w' ⟨bq, rfl, fun _ _ _ => rfl, hW.up 2 (by decide)⟩
   ·refine XInv.yes_tab [] (by kernel_rfl) ?_
    intro Q2 K2 hK2
    simp only [XInv.puts, XPrint.pw]
    go_simp
    exact hK2.out (.int .i64 j) w' ⟨bq, rfl, fun _ _ _ => rfl, hW.up 3 (by decide)⟩
   ·refine XInv.yes_tab [(45, 3), (44, 2)] (by kernel_rfl) ?_
    intro Q2 K2 hK2
    simp only [XInv.puts, XPrint.pw]
    go_simp
    exact hK2.out (.pointer (some (ad.add (j * 7)))) w' ⟨bq, rfl, fun _ _ _ => rfl, hW.up 4 (by decide)⟩
   ·refine XInv.yes_tab [(46, 4)] (by kernel_rfl) ?_
    have h6 : lb 6 = false := (Bool.eq_false_or_eq_true (lb 6)).elim (fun hx => absurd (XInv.reach hclo [] 6 5 (by kernel_rfl) hx) (by rw [hlb]; decide)) id
    have hb := hW.before h6
    have kq := blk_below X.out.1 hb
    have q0 := (blk_cell kq 0).trans rfl
    have q1 := (blk_cell kq 1).trans rfl
    have q2 := (blk_cell kq 2).trans rfl
    have q3 := (blk_cell kq 3).trans rfl
    have q4 := (blk_cell kq 4).trans rfl
    have hac := X.out.2.2.1.below hb
    obtain ⟨d0, d1, d2, d3, d4, d5, d6⟩ := hac
    dsimp only at d0 d1 d2 d3 d4 d5 d6
    intro Q2 K2 hK2
    simp only [XInv.puts, XPrint.pw] at hK2 ⊢
    go_simp
    exact hK2.out (.agg #[.int .u8 xw, .int .u32 n0, .int .i64 n1, .int .i64 n2, .int .u32 o, .bool s, .int .i64 m]) w' ⟨bq, rfl, (by intros; first | rfl | trivial), hW.up 5 (by decide)⟩
   ·refine XInv.yes_tab [(47, 5), (43, 1), (42, 0)] (by kernel_rfl) ?_
    have h11 : lb 11 = false := (Bool.eq_false_or_eq_true (lb 11)).elim (fun hx => absurd (XInv.reach hclo [] 11 6 (by kernel_rfl) hx) (by rw [hlb]; decide)) id
    have hb := hW.before hlb
    intro Q2 K2 hK2
    simp only [XInv.puts, XPrint.pw] at hK2 ⊢
    go_simp
    go_at_call 25
    (with_reducible refine (DC.out _ hb).mono ?_)
    rintro e wz ⟨v1, vn1, vb1, okn1, rfl, hD1, hb1, ho1⟩
    obtain ⟨An1, cn1, rfl⟩ := Kd.R_slice hD1.nrow
    obtain ⟨Ab1, cb1, rfl⟩ := Kd.R_slice hD1.brow
    rw [NL.out.1] at hD1
    rw [NL.out.2] at hD1 ho1
    rw [NL.out.1, NL.out.2]
    exact hK2.out (.tuple #[.agg #[.int .i64 u0, .int .i64 u1, .slice An1 nn2 cn1, .slice Ab1 nb2 cb1, .int .u32 la2], .bool true]) wz ⟨(((An1, cn1), (Ab1, cb1)), bq.2), rfl, (cs13b _ (fun _ => rfl) (fun _ => rfl) (fun _ => rfl) (fun _ => rfl) (fun _ => rfl) (fun _ => rfl) (fun hlj => absurd (hlb.symm.trans hlj) (by decide)) (fun hlj => absurd (hlb.symm.trans (XInv.reach hclo [] 7 6 (by kernel_rfl) hlj)) (by decide)) (fun hlj => absurd (hlb.symm.trans (XInv.reach hclo [7] 8 6 (by kernel_rfl) hlj)) (by decide)) (fun hlj => absurd (hlb.symm.trans (XInv.reach hclo [7] 9 6 (by kernel_rfl) hlj)) (by decide)) (fun _ => rfl) (fun hlj => absurd (hlb.symm.trans (XInv.reach hclo [] 11 6 (by kernel_rfl) hlj)) (by decide)) (fun hlj => absurd (hlb.symm.trans (XInv.reach hclo [] 12 6 (by kernel_rfl) hlj)) (by decide))), hW.s6 hlb h11 ML.out.1 hb1 hD1 ho1 X.out.2.1 X.out.1⟩
   ·refine XInv.yes_tab [(48, 6)] (by kernel_rfl) ?_
    intro Q2 K2 hK2
    simp only [XInv.puts, XPrint.pw]
    go_simp
    exact hK2.out (.tuple #[.agg #[.int .i64 u0, .int .i64 u1, .slice bq.1.1.1 nn2 bq.1.1.2, .slice bq.1.2.1 nb2 bq.1.2.2, .int .u32 la2], .bool true]) w' ⟨bq, rfl, fun _ _ _ => rfl, hW.up 7 (by decide)⟩
   ·refine XInv.yes_tab [(41, 7)] (by kernel_rfl) ?_
    intro Q2 K2 hK2
    simp only [XInv.puts, XPrint.pw]
    go_simp
    exact hK2.out (.agg #[.int .i64 u0, .int .i64 u1, .slice bq.1.1.1 nn2 bq.1.1.2, .slice bq.1.2.1 nb2 bq.1.2.2, .int .u32 la2]) w' ⟨bq, rfl, fun _ _ _ => rfl, hW.up 8 (by decide)⟩
   ·refine XInv.yes_tab [(41, 7)] (by kernel_rfl) ?_
    intro Q2 K2 hK2
    simp only [XInv.puts, XPrint.pw]
    go_simp
    exact hK2.out (.bool true) w' ⟨bq, rfl, fun _ _ _ => rfl, hW.up 9 (by decide)⟩
   ·refine XInv.yes_tab [] (by kernel_rfl) ?_
    have h11 : lb 11 = false := (Bool.eq_false_or_eq_true (lb 11)).elim (fun hx => absurd (XInv.reach hclo [] 11 10 (by kernel_rfl) hx) (by rw [hlb]; decide)) id
    intro Q2 K2 hK2
    simp only [XInv.puts, XPrint.pw]
    go_simp
    exact hK2.out (.pointer (some ⟨w'.heap.size, 0, none⟩)) _ ⟨(bq.1, w'.heap.size), rfl, (cs13b _ (fun _ => rfl) (fun _ => rfl) (fun _ => rfl) (fun _ => rfl) (fun _ => rfl) (fun _ => rfl) (fun _ => rfl) (fun _ => rfl) (fun _ => rfl) (fun _ => rfl) (fun hlj => absurd (hlb.symm.trans hlj) (by decide)) (fun hlj => absurd (hlb.symm.trans (XInv.reach hclo [] 11 10 (by kernel_rfl) hlj)) (by decide)) (fun hlj => absurd (hlb.symm.trans (XInv.reach hclo [] 12 10 (by kernel_rfl) hlj)) (by decide))), hW.s10 h11 _ _ _ _ _ rfl⟩
   ·refine XInv.yes_tab [(10, 10), (49, 8), (41, 7), (48, 6), (47, 5), (46, 4), (45, 3), (44, 2), (43, 1), (42, 0)] (by kernel_rfl) ?_
    have h6 := hneed 6 (by kernel_rfl)
    have h10 := hneed 10 (by kernel_rfl)
    obtain ⟨r1, a0, a1, a2, a3, a4, r2⟩ := hW.blk h10 hlb
    have y0 := (blk_cell r2 0).trans rfl
    have y1 := (blk_cell r2 1).trans rfl
    have y2 := (blk_cell r2 2).trans rfl
    have y3 := (blk_cell r2 3).trans rfl
    have y4 := (blk_cell r2 4).trans rfl
    have g0 := blk_frozen r2 0
    have g1 := blk_frozen r2 1
    have g2 := blk_frozen r2 2
    have g3 := blk_frozen r2 3
    have g4 := blk_frozen r2 4
    intro Q2 K2 hK2
    simp only [XInv.puts, XPrint.pw] at hK2 ⊢
    go_simp
    exact hK2.out undef _ ⟨bq, rfl, (by intros; first | rfl | trivial), hW.s11 h6 h10 hlb ML.out.2.1 ML.out.2.2 (blk_lt X.out.1) rfl⟩
   ·refine XInv.yes_tab [(10, 10), (50, 9), (49, 8), (41, 7), (48, 6), (47, 5), (46, 4), (45, 3), (44, 2), (43, 1), (42, 0)] (by kernel_rfl) ?_
    intro Q2 K2 hK2
    simp only [XInv.puts, XPrint.pw] at hK2 ⊢
    go_simp
    exact hK2.out (.bool true) w' ⟨bq, rfl, fun _ _ _ => rfl, hW.up 12 (by decide)⟩
  ·intro bq w' hW
   refine XInv.end_nil [(11, 12), (10, 10), (50, 9), (49, 8), (41, 7), (48, 6), (47, 5), (46, 4), (45, 3), (44, 2), (43, 1), (42, 0)] (by kernel_rfl) (by kernel_rfl) ?_
   simp only [XInv.puts, XPrint.pw]
   obtain ⟨v3, okn3, hD3, hM3, hk3, hm3⟩ := hW.behind (by kernel_rfl)
   obtain ⟨r1, r2⟩ := hW.done (by kernel_rfl)
   have hm3 := hm3 (by kernel_rfl)
   obtain ⟨⟨⟨a1, e1⟩, ⟨a2, e2⟩⟩, r⟩ := bq
   dsimp only at hD3 hM3 hk3 hm3 r1 r2 ⊢
   obtain ⟨w5, hw5⟩ : ∃ w5, w' = w5 := ⟨_, rfl⟩
   rw [hw5] at hD3 hk3 r2 ⊢
   have y0 := (blk_cell r2 0).trans rfl
   have y1 := (blk_cell r2 1).trans rfl
   have y2 := (blk_cell r2 2).trans rfl
   have y3 := (blk_cell r2 3).trans rfl
   have y4 := (blk_cell r2 4).trans rfl
   have Y := Aside0.mk (And.intro hD3 (And.intro hM3 (And.intro hk3 r2)))
   have SC := same p b g u0 u1 ns2 v3 bx2 la2 a1 a2 nn2 e1 nb2 e2 okn3 w1 w5 hD3
   unfold dv at SC
   have SC := Aside0.mk SC
   clear hW hD3 hM3 hk3 hm3 r1 r2 hw5
   go_wp2_with fail
   refine SC.out.mono ?_
   rintro e w6 ⟨rfl, hb6⟩
   have kq := blk_below Y.out.2.2.1 hb6
   have kr := blk_below Y.out.2.2.2 hb6
   have y0 := (blk_cell kr 0).trans rfl
   have y1 := (blk_cell kr 1).trans rfl
   have y2 := (blk_cell kr 2).trans rfl
   have y3 := (blk_cell kr 3).trans rfl
   have y4 := (blk_cell kr 4).trans rfl
   have q0 := (blk_cell kq 0).trans rfl
   have q1 := (blk_cell kq 1).trans rfl
   have q2 := (blk_cell kq 2).trans rfl
   have q3 := (blk_cell kq 3).trans rfl
   have q4 := (blk_cell kq 4).trans rfl
   have g0 := blk_frozen kq 0
   have g1 := blk_frozen kq 1
   have g2 := blk_frozen kq 2
   have g3 := blk_frozen kq 3
   have g4 := blk_frozen kq 4
   have U := Aside0.mk (And.intro (Y.out.1.same hb6) kq)
   clear hb6 kq kr
   dsimp only
   go_wp2
   have hQ := but5T (But.refl (fun k => k = q) w6) (q := q) rfl (.int .i64 u0) (.int .i64 u1) (.slice a1 nn2 e1) (.slice a2 nb2 e2) (.int .u32 la2)
   have hM3 := Y.out.2.1
   have hD2 := U.out.1.put hQ XQ.out.2 (fun hm => hM3 (.inl hm)) XQ.out.1 (fun hm => hM3 (.inr (.inl hm))) (fun hm => hM3 (.inr (.inr hm)))
   have hk2 := set5 (b0 := .int .i64 u0) (b1 := .int .i64 u1) (b2 := .slice a1 nn2 e1) (b3 := .slice a2 nb2 e2) (b4 := .int .u32 la2) U.out.2
   have E := Aside0.mk (And.intro hD2 (And.intro hk2 hM3))
   clear hQ hM3 hD2 hk2
   go_roundg (l.length - (j + 1))
   case measure => omega
   case rel => exact ⟨j + 1, ns2, v3, bx2, la2, _, _, okn3, rfl, by go_num, by omega, by have := X.out.2.2.2.1; have := X.out.2.2.2.2; omega, E.out.1, E.out.2.1, E.out.2.2⟩
 ·have hlt' : ¬ (j : Int) < (l.length : Int) := by omega
  have X := Aside0.mk hD.hs
  clear hD hk hM hlast
  go_wp2_with fail
  refine (head wr).mono ?_
  rintro e wz ⟨rfl, hbz⟩
  have Z := Aside0.mk hbz
  clear hbz
  dsimp only
  go_wp2
  go_ret
  exact ⟨rfl, below_step (below_then HA.out.2.2.2.2.1 HA.out.2.2.2.2.1.size (below_then B1.out B1.out.size X.out.below)) Z.out⟩
end Go.Proofs.YthibppfdonepoaaGreat.LedT
