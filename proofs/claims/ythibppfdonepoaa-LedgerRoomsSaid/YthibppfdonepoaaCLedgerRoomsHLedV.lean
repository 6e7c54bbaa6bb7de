/- liverylaw23.LedgerRooms. -/
import Derived.Test.YthibppfdonepoaaCLedgerRoomsHLedQ
import Derived.Test.YthibppfdonepoaaCLedgerRoomsHLedW
set_option linter.unusedVariables false
set_option linter.unusedSimpArgs false
namespace Go.Proofs.Ythibppfdonepoaa.LedT
open Go.RowKit Go.MapKept Go.Maps Go.ChangeMaps Go.Proofs.Ythibppfdonepoaa.XBut Go.Proofs.Ythibppfdonepoaa.XMap Go.Proofs.Ythibppfdonepoaa.NodeT Go.Proofs.YthibppfdonepoaaW.PrintWords Go.Proofs.YthibppfdonepoaaW.PrintLast
theorem wf8 {n : Int} (h : (Lit.int .u8 n).wf = true) : 0 ≤ n ∧ n ≤ 255 := by
  simp only [Lit.wf, IntKind.min, IntKind.max, IntKind.signed, IntKind.bits, Bool.and_eq_true] at h
  simp at h
  omega
theorem given_ids (u0 u1 : Int) (ns : List Nd) (bx : List Bx) (last o : Int) (s : Bool) (n : Int) (i : Nat) (hi : i < (given u0 u1 ns bx last o s n).length) : (given u0 u1 ns bx last o s n)[i].f0 = last + i + 1 := by
  unfold given at hi ⊢
  split at hi
  · rename_i h
    simp only [if_pos h]
    exact grow_ids ..
  · cases hi
theorem gcode_cases (u0 u1 : Int) (ns : List Nd) (bx : List Bx) (o m : Int) : gcode u0 u1 ns bx o m = 2 ∧ (o = 0 ∨ m < 0 ∨ 1048576 < m) ∨ gcode u0 u1 ns bx o m = 6 ∧ (o ≠ 0 ∧ 0 ≤ m ∧ m ≤ 1048576) ∧ freeN u0 u1 ns bx < m ∨ gcode u0 u1 ns bx o m = 0 ∧ (o ≠ 0 ∧ 0 ≤ m ∧ m ≤ 1048576) ∧ m ≤ freeN u0 u1 ns bx := by
  unfold gcode
  by_cases h : mayc o m = 2
  · rw [if_pos h]
    unfold mayc at h
    split at h
    · rename_i h2
      exact .inl ⟨rfl, h2⟩
    · cases h
  · rw [if_neg h]
    have h2 := mayc_zero h
    by_cases h3 : freeN u0 u1 ns bx < m
    · rw [if_pos h3]
      exact .inr (.inl ⟨rfl, h2, h3⟩)
    · rw [if_neg h3]
      exact .inr (.inr ⟨rfl, h2, by omega⟩)
theorem given_le {u0 u1 : Int} {ns : List Nd} {bx : List Bx} {last o m : Int} {s : Bool} (hb : (decide (200 < m) && decide (m ≤ 1048576)) = false) : last + ((given u0 u1 ns bx last o s m).length : Int) ≤ last + 200 := by
  rw [given_len]
  split
  · rename_i hc
    unfold gcode at hc
    split at hc
    · cases hc
    · rename_i hm
      have := mayc_zero hm
      rcases Bool.and_eq_false_iff.1 hb with h1 | h1
      · have := of_decide_eq_false h1
        omega
      · have := of_decide_eq_false h1
        omega
  · omega
theorem cs33 (P : Nat → Prop) (h0 : P 0) (h1 : P 1) (h2 : P 2) (h3 : P 3) (h4 : P 4) (h5 : P 5) (h6 : P 6) (h7 : P 7) (h8 : P 8) (h9 : P 9) (h10 : P 10) (h11 : P 11) (h12 : P 12) (h13 : P 13) (h14 : P 14) (h15 : P 15) (h16 : P 16) (h17 : P 17) (h18 : P 18) (h19 : P 19) (h20 : P 20) (h21 : P 21) (h22 : P 22) (h23 : P 23) (h24 : P 24) (h25 : P 25) (h26 : P 26) (h27 : P 27) (h28 : P 28) (h29 : P 29) (h30 : P 30) (h31 : P 31) (h32 : P 32) : ∀ i, i < 33 → P i := by
  intro i hi
  rcases (by omega : i = 0 ∨ i = 1 ∨ i = 2 ∨ i = 3 ∨ i = 4 ∨ i = 5 ∨ i = 6 ∨ i = 7 ∨ i = 8 ∨ i = 9 ∨ i = 10 ∨ i = 11 ∨ i = 12 ∨ i = 13 ∨ i = 14 ∨ i = 15 ∨ i = 16 ∨ i = 17 ∨ i = 18 ∨ i = 19 ∨ i = 20 ∨ i = 21 ∨ i = 22 ∨ i = 23 ∨ i = 24 ∨ i = 25 ∨ i = 26 ∨ i = 27 ∨ i = 28 ∨ i = 29 ∨ i = 30 ∨ i = 31 ∨ i = 32) with rfl | rfl | rfl | rfl | rfl | rfl | rfl | rfl | rfl | rfl | rfl | rfl | rfl | rfl | rfl | rfl | rfl | rfl | rfl | rfl | rfl | rfl | rfl | rfl | rfl | rfl | rfl | rfl | rfl | rfl | rfl | rfl | rfl
  all_goals assumption
theorem cs13 (P : Nat → Prop) (h0 : P 0) (h1 : P 1) (h2 : P 2) (h3 : P 3) (h4 : P 4) (h5 : P 5) (h6 : P 6) (h7 : P 7) (h8 : P 8) (h9 : P 9) (h10 : P 10) (h11 : P 11) (h12 : P 12) : ∀ i, i < 13 → P i := by
  intro i hi
  rcases (by omega : i = 0 ∨ i = 1 ∨ i = 2 ∨ i = 3 ∨ i = 4 ∨ i = 5 ∨ i = 6 ∨ i = 7 ∨ i = 8 ∨ i = 9 ∨ i = 10 ∨ i = 11 ∨ i = 12) with rfl | rfl | rfl | rfl | rfl | rfl | rfl | rfl | rfl | rfl | rfl | rfl | rfl
  all_goals assumption
theorem cs11 (P : Nat → Prop) (h0 : P 0) (h1 : P 1) (h2 : P 2) (h3 : P 3) (h4 : P 4) (h5 : P 5) (h6 : P 6) (h7 : P 7) (h8 : P 8) (h9 : P 9) (h10 : P 10) : ∀ i, i < 11 → P i := by
  intro i hi
  rcases (by omega : i = 0 ∨ i = 1 ∨ i = 2 ∨ i = 3 ∨ i = 4 ∨ i = 5 ∨ i = 6 ∨ i = 7 ∨ i = 8 ∨ i = 9 ∨ i = 10) with rfl | rfl | rfl | rfl | rfl | rfl | rfl | rfl | rfl | rfl | rfl
  all_goals assumption
theorem sumU_split (U : Nd → Int) (a c : List Nd) : sumU U (a ++ c) = sumU U a + sumU U c := by
  unfold sumU
  rw [List.map_append, List.sum_append]
theorem part_le (U : Nd → Int) (ns : List Nd) (k : Nat) (h0 : ∀ x, 0 ≤ U x) : 0 ≤ sumU U (ns.take k) ∧ sumU U (ns.take k) ≤ sumU U ns := by
  have h2 := sumU_split U (ns.take k) (ns.drop k)
  rw [List.take_append_drop] at h2
  have h3 : 0 ≤ sumU U (ns.drop k) := sumU_nonneg fun x _ => h0 x
  have h4 : 0 ≤ sumU U (ns.take k) := sumU_nonneg fun x _ => h0 x
  omega
theorem room_sum {u0 u1 : Int} {ns : List Nd} {bx : List Bx} {last : Int} (h : LG u0 u1 ns bx last) (k : Nat) : 0 ≤ sumU (fun x => roomN u0 u1 ns bx x.f0) (ns.take k) ∧ sumU (fun x => roomN u0 u1 ns bx x.f0) (ns.take k) ≤ 131072 :=
  ⟨(part_le _ ns k fun x => h.room _).1, Int.le_trans (part_le _ ns k fun x => h.room _).2 (Int.le_trans (Int.le_of_eq h.free) h.len.2.2)⟩
theorem on_sum {u0 u1 : Int} {ns : List Nd} {bx : List Bx} {last : Int} (h : LG u0 u1 ns bx last) (k : Nat) : 0 ≤ sumU (fun x => ((onN bx x.f0).length : Int)) (ns.take k) ∧ sumU (fun x => ((onN bx x.f0).length : Int)) (ns.take k) ≤ 131072 :=
  ⟨(part_le _ ns k fun x => Int.natCast_nonneg _).1, Int.le_trans (part_le _ ns k fun x => Int.natCast_nonneg _).2 (Int.le_trans (Int.le_of_eq (sum_on h.nodes.rising bx h.on)) (by have := h.len; omega))⟩
theorem HS.giveB {w0 w : World} {p b g : Nat} {u0 u1 : Int} {ns : List Nd} {v : Value} {bx : List Bx} {last : Int} {rows : List (Value × List Bx)} (h : HS w0 w p b g u0 u1 ns v bx last rows) (o n : Int) (s : Bool) (hla : last ≤ 4000000000) :
    Calls Try.prog 54 #[.pointer (some ⟨p, 0, none⟩), .int .u32 o, .bool s, .int .i64 n] w fun e w' => ∃ vo v', e = .returned (.tuple #[vo, .int .i64 (gcode u0 u1 ns bx o n)]) ∧ HS w0 w' p b g u0 u1 ns v' (bx ++ given u0 u1 ns bx last o s n) (last + (given u0 u1 ns bx last o s n).length) ((vo, given u0 u1 ns bx last o s n) :: rows) ∧ But (fun k => (k = p ∨ k = g) ∨ v.ownBlock = some k) w w' := by
  refine (lgive o n s w h.led h.good hla).mono ?_
  rintro e w' ⟨vo, v', rfl, hL, hR, hd, hb, ho⟩
  have hb2 := hb.mono (T' := fun k => (k = p ∨ k = g) ∨ v.ownBlock = some k) fun k hk => hk.elim (fun e => .inl (.inl e)) .inr
  exact ⟨vo, v', rfl, (h.next (h.good.give o s n) hL hb2 ho).add hR (h.up (Nat.le_refl _)) hd, hb2⟩
set_option maxHeartbeats 32000000 in
set_option maxRecDepth 100000 in
theorem ledgerRooms (u0 u1 : Int) (A : Option Addr) (c : Nat) (l : List Ac) (w : World) (hA : AcRow w A l) (hl : l.length ≤ 9223372036854775807) (hu : okV 1 ⟨u0, u1⟩) (hg : gr l = false) :
    Calls Try.prog 12 #[.agg #[.int .i64 u0, .int .i64 u1], .slice A l.length c] w fun e w' => e = .returned (.bool true) ∧ Below w.heap.size w w' := by
  have hu23 := Try.underlying23
  have hu39 := Try.underlying39
  have hu107 := Try.underlying107
  have hu113 := Try.underlying113
  have hsm := gr_small hg
  have hl80 : (l.length : Int) ≤ 80 := by omega
  obtain ⟨W0, hW0⟩ : ∃ W0, w.alloc (.cells #[.int .i64 u0, .int .i64 u1] 23) = W0 := ⟨_, rfl⟩
  have hB0 : Below w.heap.size w W0 := by rw [← hW0]; exact below_alloc (Below.refl _ _) _
  have HA := Aside0.mk (And.intro hA (And.intro hl (And.intro hu (And.intro hg (And.intro hsm (And.intro hB0 hW0))))))
  clear hA hl hu hg hsm hB0 hW0
  go_enter Try.func12, Try.ntmps12
  go_wp2_with fail
  rw [HA.out.2.2.2.2.2.2]
  refine (lnew_yes u0 u1 W0 HA.out.2.2.1).mono ?_
  rintro e w1 ⟨p, b, g, rfl, hb1, hL⟩
  have X1 := Aside0.mk (HS.new W0 w1 HA.out.2.2.1 hb1 hL)
  clear hb1 hL
  dsimp only
  go_wp2_with fail
  refine (great A c l w1 (HA.out.1.below (below_then HA.out.2.2.2.2.2.1 HA.out.2.2.2.2.2.1.size X1.out.below)) HA.out.2.1).mono ?_
  rintro e w2 ⟨rfl, hb⟩
  rw [HA.out.2.2.2.1]
  have X2 := Aside0.mk (X1.out.same hb)
  clear hb X1
  dsimp only
  go_wp2_with fail
  go_loopg [7, 8] l.length (fun kk v7 v8 wr => ∃ (j : Nat) (ns : List Nd) (v : Value) (bx : List Bx) (last : Int), kk = l.length - j ∧ v8 = .int .i64 j ∧ j ≤ l.length ∧ v7 = .int .u32 last ∧ last ≤ 200 * j ∧ HS W0 wr p b g u0 u1 ns v bx last [])
  case atStart => exact ⟨0, [], _, [], 0, rfl, rfl, Nat.zero_le _, rfl, by omega, X2.out⟩
  obtain ⟨j, ns, v, bx, last, rfl, rfl, hj, rfl, hlast, hS⟩ := hrel
  by_cases hlt : j < l.length
  · obtain ⟨ad, rfl, hAc⟩ := HA.out.1.at_ j hlt
    have hwf := HA.out.1.wf l[j] (List.getElem_mem hlt)
    have hbig := HA.out.2.2.2.2.1.2 l[j] (List.getElem_mem hlt)
    obtain ⟨x, hx⟩ : ∃ x, l[j] = x := ⟨_, rfl⟩
    rw [hx] at hAc hwf hbig
    have hbw := below_then HA.out.2.2.2.2.2.1 HA.out.2.2.2.2.2.1.size hS.below
    have hAr := hAc.below hbw
    have hGo := hS.good
    obtain ⟨xw, ⟨n0, n1, n2⟩, o, s, m⟩ := x
    have hlt' : (j : Int) < (l.length : Int) := by omega
    have X := Aside0.mk (And.intro hS (And.intro hlast (And.intro hwf hbig)))
    have AC := Aside0.mk hAr
    clear hS hlast hwf hbig hAc hbw hAr hx hGo X2
    go_wp2_with fail
    refine X.out.1.free.mono ?_
    rintro e w3 ⟨rfl, hb⟩
    obtain ⟨fr, hfr⟩ : ∃ fr, freeN u0 u1 ns bx = fr := ⟨_, rfl⟩
    rw [hfr]
    have Y := Aside0.mk (And.intro (X.out.1.same hb) (And.intro hb hfr))
    have hac := AC.out.below hb
    obtain ⟨c0, c1, c2, c3, c4, c5, c6⟩ := hac
    dsimp only at c0 c1 c2 c3 c4 c5 c6
    clear hb hfr
    dsimp only
    have hx0 : 0 ≤ xw ∧ xw ≤ 255 := wf8 X.out.2.2.1.1
    obtain ⟨r, hr⟩ : ∃ r, xw % 6 = r := ⟨_, rfl⟩
    have hr2 : xw.tmod 6 = r := by rw [Int.tmod_eq_emod_of_nonneg hx0.1]; exact hr
    have hr3 : 0 ≤ r ∧ r < 6 := by omega
    have hr4 : IntKind.u8.wrap r = r := by rw [IntKind.wrap_u8]; omega
    go_upto_block 2 with (fail)
    obtain ⟨W4, hW4⟩ : ∃ W4, w3.alloc (.cells #[.int .u8 xw, .int .u32 n0, .int .i64 n1, .int .i64 n2, .int .u32 o, .bool s, .int .i64 m] 107) = W4 := ⟨_, rfl⟩
    have hB4 : Below w3.heap.size w3 W4 := by rw [← hW4]; exact below_alloc (Below.refl _ _) _
    have k4 : W4.heap[w3.heap.size]? = some (.cells #[.int .u8 xw, .int .u32 n0, .int .i64 n1, .int .i64 n2, .int .u32 o, .bool s, .int .i64 m] 107 (0, 0)) := by rw [← hW4]; exact blk_new w3 _
    rw [hW4]
    have Z := Aside0.mk (And.intro (Y.out.1.same hB4) k4)
    have hlast := X.out.2.1
    clear hB4 k4 hW4 c0 c1 c2 c3 c4 c5 c6 hr hr2 hr4 hx0
    go_cut [7] from 36 to 261 (fun v7 wx => ∃ (ns' : List Nd) (v' : Value) (bx' : List Bx) (last' : Int), v7 = .int .u32 last' ∧ last' ≤ last + 200 ∧ HS W0 wx p b g u0 u1 ns' v' bx' last' [])
    case first =>
      have q1 := (blk_cell Z.out.2 1).trans rfl
      have q2 := (blk_cell Z.out.2 2).trans rfl
      have q3 := (blk_cell Z.out.2 3).trans rfl
      have q4 := (blk_cell Z.out.2 4).trans rfl
      have q5 := (blk_cell Z.out.2 5).trans rfl
      have q6 := (blk_cell Z.out.2 6).trans rfl
      rcases (by omega : r = 0 ∨ r = 1 ∨ r = 2 ∨ r = 3 ∨ r = 4 ∨ r = 5) with rfl | rfl | rfl | rfl | rfl | rfl
      · as_aux_lemma =>
        go_wp2_with fail
        refine (Z.out.1.join n0 n1 n2 X.out.2.2.1.2.1).mono ?_
        rintro e w5 ⟨rfl, hS5⟩
        have V := Aside0.mk hS5
        clear hS5 q1 q2 q3 q4 q5 q6
        dsimp only
        go_wp2
        go_meet
        case rel => exact ⟨_, _, _, _, rfl, by omega, V.out⟩
      · as_aux_lemma =>
        go_wp2_with fail
        refine (Z.out.1.lose n0 X.out.2.2.1.2.1).mono ?_
        rintro e w5 ⟨vo, v5, rfl, hS5⟩
        have V := Aside0.mk hS5
        clear hS5 q1 q2 q3 q4 q5 q6
        dsimp only
        go_wp2
        go_meet
        case rel => exact ⟨_, _, _, _, rfl, by omega, V.out.keep (fun r hr => by cases hr)⟩
      · as_aux_lemma =>
        go_wp2_with fail
        have hla4 : last ≤ 4000000000 := by omega
        refine (Z.out.1.giveB o m s hla4).mono ?_
        rintro e w5 ⟨vo, v5, rfl, hS5, hb5⟩
        obtain ⟨Ag, cg, e1⟩ := Kd.R_slice (hS5.rows _ (List.mem_cons_self ..)).1
        dsimp only at e1
        subst e1
        have hR5 := (hS5.rows _ (List.mem_cons_self ..)).1
        have hids : ∀ (i : Nat) (hi : i < (given u0 u1 ns bx last o s m).length), (given u0 u1 ns bx last o s m)[i].f0 = last + i + 1 := fun i hi => given_ids _ _ _ _ _ _ _ _ i hi
        have hcs := gcode_cases u0 u1 ns bx o m
        have hgl := given_len (u0 := u0) (u1 := u1) (ns := ns) (bx := bx) (last := last) (o := o) (s := s) (n := m)
        have hll2 := given_le (u0 := u0) (u1 := u1) (ns := ns) (bx := bx) (last := last) (o := o) (s := s) X.out.2.2.2
        have hlow := Z.out.1.good.low
        rw [Y.out.2.2] at hcs
        have K5 := hb5.heap Z.out.2 (by
          have h1 := Y.out.1.led.lt
          rintro ((h | h) | h)
          · omega
          · omega
          · have := h1.2.2.2 _ h
            omega)
        obtain ⟨gc, hgc⟩ : ∃ gc, gcode u0 u1 ns bx o m = gc := ⟨_, rfl⟩
        obtain ⟨gl, hgv⟩ : ∃ gl, given u0 u1 ns bx last o s m = gl := ⟨_, rfl⟩
        rw [hgc] at hcs hgl ⊢
        rw [hgv] at hgl hids hS5 hR5 hll2 ⊢
        obtain ⟨gn, hgn⟩ : ∃ gn, gl.length = gn := ⟨_, rfl⟩
        have V := Aside0.mk (And.intro hS5 (And.intro hR5 (And.intro hids (And.intro hgn (And.intro hlow hll2)))))
        rw [hgn] at hgl ⊢
        replace hgl := Aside0.mk hgl
        clear hS5 hR5 hids hgc hgv hll2 hlow hgn hb5 q1 q2 q3 q4 q5 q6
        have q2 := (blk_cell K5 4).trans rfl
        have q4 := (blk_cell K5 6).trans rfl
        clear K5
        dsimp only
        go_upto_region 19 with (fail)
        go_cut [118] from 86 to 117 (fun v118 wx => v118 = .bool false ∧ wx = w5)
        case first =>
          rcases hcs with ⟨h1, h2⟩ | ⟨h1, h2, h3⟩ | ⟨h1, h2, h3⟩
          · subst h1
            clear hgl
            by_cases ho : o = 0
            · have to1 : (o != 0) = false := by simp [ho]
              clear ho h2
              go_wp2
              go_meet
              case rel => exact ⟨rfl, rfl⟩
            · have to1 : (o != 0) = true := by simp [ho]
              by_cases hm0 : 0 ≤ m
              · have tm1 : decide ((0 : Int) ≤ m) = true := decide_eq_true hm0
                have tm2 : decide (m ≤ (1048576 : Int)) = false := decide_eq_false (by omega)
                clear ho h2
                go_wp2
                go_meet
                case rel => exact ⟨rfl, rfl⟩
              · have tm1 : decide ((0 : Int) ≤ m) = false := decide_eq_false hm0
                clear ho h2
                go_wp2
                go_meet
                case rel => exact ⟨rfl, rfl⟩
          · subst h1
            have to1 : (o != 0) = true := by simp [h2.1]
            have tm1 : decide ((0 : Int) ≤ m) = true := decide_eq_true h2.2.1
            have tm2 : decide (m ≤ (1048576 : Int)) = true := decide_eq_true h2.2.2
            have tm3 : decide (m ≤ fr) = false := decide_eq_false (by omega)
            clear h2 h3 hgl
            go_wp2
            go_meet
            case rel => exact ⟨rfl, rfl⟩
          · subst h1
            have to1 : (o != 0) = true := by simp [h2.1]
            have tm1 : decide ((0 : Int) ≤ m) = true := decide_eq_true h2.2.1
            have tm2 : decide (m ≤ (1048576 : Int)) = true := decide_eq_true h2.2.2
            have tm3 : decide (m ≤ fr) = true := decide_eq_true h3
            have tg : ((gn : Int) != m) = false := by
              have hg := hgl.out
              rw [if_pos rfl] at hg
              have : (gn : Int) = m := by omega
              simp [this]
            clear h2 h3 hgl
            go_wp2
            go_meet
            case rel => exact ⟨rfl, rfl⟩
        case rest =>
          obtain ⟨rfl, hwc⟩ := hcut
          obtain rfl := hwc.symm
          have hgn2 : gn ≤ 200 := by have := V.out.2.2.2.2.2; have := V.out.2.2.2.1; omega
          clear hwc hcs hgl q2 q4
          go_wp2_with fail
          go_loopg [7, 13] gn (fun kk v7 v13 wq => ∃ i : Nat, kk = gn - i ∧ v13 = .int .i64 i ∧ i ≤ gn ∧ v7 = .int .u32 (last + i) ∧ Below w5.heap.size w5 wq)
          case atStart => exact ⟨0, rfl, rfl, Nat.zero_le _, by simp, Below.refl _ _⟩
          obtain ⟨i, rfl, rfl, hi, rfl, hBi⟩ := hrel
          by_cases hlti : i < gn
          · have hCg := Kd.C_below (Kd.R_reads' V.out.2.1).2.2 hBi
            rw [V.out.2.2.2.1] at hCg
            obtain ⟨ag, rfl, d0, _⟩ := PLedLib.at_T113 hCg (i : Int) (by omega) (by omega)
            have ei : (i : Int).toNat = i := by simp
            have hig : i < gl.length := by rw [V.out.2.2.2.1]; exact hlti
            have er : PLedLib.rd_T113 gl (i : Int) = gl[i] := by unfold PLedLib.rd_T113; rw [ei, List.getD_eq_getElem?_getD, List.getElem?_eq_getElem hig]; rfl
            obtain ⟨z, hz⟩ : ∃ z, last + (i : Int) + 1 = z := ⟨_, rfl⟩
            rw [er, ei, V.out.2.2.1 i hig, hz] at d0
            have hlow := V.out.2.2.2.2.1
            have hw1 : IntKind.u32.wrap (last + (i : Int) + 1) = z := by rw [IntKind.wrap_u32]; omega
            have hlti' : (i : Int) < (gn : Int) := by omega
            have U := Aside0.mk (And.intro hBi hz)
            clear hBi hCg hz ei er hlow
            go_wp2
            clear hw1 d0
            go_roundg (gn - (i + 1))
            case measure => omega
            case rel => exact ⟨i + 1, rfl, by go_num, by omega, by rw [← U.out.2]; congr 1; omega, U.out.1⟩
          · have hlti' : ¬ (i : Int) < (gn : Int) := by omega
            have ein : i = gn := by omega
            have U := Aside0.mk (And.intro hBi ein)
            clear hBi ein
            go_wp2
            go_meet
            case rel => exact ⟨_, _, _, _, by rw [V.out.2.2.2.1, U.out.2], V.out.2.2.2.2.2, (V.out.1.same U.out.1).keep (fun r hr => by cases hr)⟩
      · as_aux_lemma =>
        go_wp2_with fail
        have hla4 : last ≤ 4000000000 := by omega
        refine (Z.out.1.giveB o m s hla4).mono ?_
        rintro e w5 ⟨vo, v5, rfl, hS5, hb5⟩
        obtain ⟨Ag, cg, e1⟩ := Kd.R_slice (hS5.rows _ (List.mem_cons_self ..)).1
        dsimp only at e1
        subst e1
        have hR5 := (hS5.rows _ (List.mem_cons_self ..)).1
        have hids : ∀ (i : Nat) (hi : i < (given u0 u1 ns bx last o s m).length), (given u0 u1 ns bx last o s m)[i].f0 = last + i + 1 := fun i hi => given_ids _ _ _ _ _ _ _ _ i hi
        have hcs := gcode_cases u0 u1 ns bx o m
        have hgl := given_len (u0 := u0) (u1 := u1) (ns := ns) (bx := bx) (last := last) (o := o) (s := s) (n := m)
        have hll2 := given_le (u0 := u0) (u1 := u1) (ns := ns) (bx := bx) (last := last) (o := o) (s := s) X.out.2.2.2
        have hlow := Z.out.1.good.low
        rw [Y.out.2.2] at hcs
        have K5 := hb5.heap Z.out.2 (by
          have h1 := Y.out.1.led.lt
          rintro ((h | h) | h)
          · omega
          · omega
          · have := h1.2.2.2 _ h
            omega)
        obtain ⟨gc, hgc⟩ : ∃ gc, gcode u0 u1 ns bx o m = gc := ⟨_, rfl⟩
        obtain ⟨gl, hgv⟩ : ∃ gl, given u0 u1 ns bx last o s m = gl := ⟨_, rfl⟩
        rw [hgc] at hcs hgl ⊢
        rw [hgv] at hgl hids hS5 hR5 hll2 ⊢
        obtain ⟨gn, hgn⟩ : ∃ gn, gl.length = gn := ⟨_, rfl⟩
        have V := Aside0.mk (And.intro hS5 (And.intro hR5 (And.intro hids (And.intro hgn (And.intro hlow hll2)))))
        rw [hgn] at hgl ⊢
        replace hgl := Aside0.mk hgl
        clear hS5 hR5 hids hgc hgv hll2 hlow hgn hb5 q1 q2 q3 q4 q5 q6
        have q2 := (blk_cell K5 4).trans rfl
        have q4 := (blk_cell K5 6).trans rfl
        clear K5
        dsimp only
        go_upto_region 19 with (fail)
        go_cut [118] from 86 to 117 (fun v118 wx => v118 = .bool false ∧ wx = w5)
        case first =>
          rcases hcs with ⟨h1, h2⟩ | ⟨h1, h2, h3⟩ | ⟨h1, h2, h3⟩
          · subst h1
            clear hgl
            by_cases ho : o = 0
            · have to1 : (o != 0) = false := by simp [ho]
              clear ho h2
              go_wp2
              go_meet
              case rel => exact ⟨rfl, rfl⟩
            · have to1 : (o != 0) = true := by simp [ho]
              by_cases hm0 : 0 ≤ m
              · have tm1 : decide ((0 : Int) ≤ m) = true := decide_eq_true hm0
                have tm2 : decide (m ≤ (1048576 : Int)) = false := decide_eq_false (by omega)
                clear ho h2
                go_wp2
                go_meet
                case rel => exact ⟨rfl, rfl⟩
              · have tm1 : decide ((0 : Int) ≤ m) = false := decide_eq_false hm0
                clear ho h2
                go_wp2
                go_meet
                case rel => exact ⟨rfl, rfl⟩
          · subst h1
            have to1 : (o != 0) = true := by simp [h2.1]
            have tm1 : decide ((0 : Int) ≤ m) = true := decide_eq_true h2.2.1
            have tm2 : decide (m ≤ (1048576 : Int)) = true := decide_eq_true h2.2.2
            have tm3 : decide (m ≤ fr) = false := decide_eq_false (by omega)
            clear h2 h3 hgl
            go_wp2
            go_meet
            case rel => exact ⟨rfl, rfl⟩
          · subst h1
            have to1 : (o != 0) = true := by simp [h2.1]
            have tm1 : decide ((0 : Int) ≤ m) = true := decide_eq_true h2.2.1
            have tm2 : decide (m ≤ (1048576 : Int)) = true := decide_eq_true h2.2.2
            have tm3 : decide (m ≤ fr) = true := decide_eq_true h3
            have tg : ((gn : Int) != m) = false := by
              have hg := hgl.out
              rw [if_pos rfl] at hg
              have : (gn : Int) = m := by omega
              simp [this]
            clear h2 h3 hgl
            go_wp2
            go_meet
            case rel => exact ⟨rfl, rfl⟩
        case rest =>
          obtain ⟨rfl, hwc⟩ := hcut
          obtain rfl := hwc.symm
          have hgn2 : gn ≤ 200 := by have := V.out.2.2.2.2.2; have := V.out.2.2.2.1; omega
          clear hwc hcs hgl q2 q4
          go_wp2_with fail
          go_loopg [7, 13] gn (fun kk v7 v13 wq => ∃ i : Nat, kk = gn - i ∧ v13 = .int .i64 i ∧ i ≤ gn ∧ v7 = .int .u32 (last + i) ∧ Below w5.heap.size w5 wq)
          case atStart => exact ⟨0, rfl, rfl, Nat.zero_le _, by simp, Below.refl _ _⟩
          obtain ⟨i, rfl, rfl, hi, rfl, hBi⟩ := hrel
          by_cases hlti : i < gn
          · have hCg := Kd.C_below (Kd.R_reads' V.out.2.1).2.2 hBi
            rw [V.out.2.2.2.1] at hCg
            obtain ⟨ag, rfl, d0, _⟩ := PLedLib.at_T113 hCg (i : Int) (by omega) (by omega)
            have ei : (i : Int).toNat = i := by simp
            have hig : i < gl.length := by rw [V.out.2.2.2.1]; exact hlti
            have er : PLedLib.rd_T113 gl (i : Int) = gl[i] := by unfold PLedLib.rd_T113; rw [ei, List.getD_eq_getElem?_getD, List.getElem?_eq_getElem hig]; rfl
            obtain ⟨z, hz⟩ : ∃ z, last + (i : Int) + 1 = z := ⟨_, rfl⟩
            rw [er, ei, V.out.2.2.1 i hig, hz] at d0
            have hlow := V.out.2.2.2.2.1
            have hw1 : IntKind.u32.wrap (last + (i : Int) + 1) = z := by rw [IntKind.wrap_u32]; omega
            have hlti' : (i : Int) < (gn : Int) := by omega
            have U := Aside0.mk (And.intro hBi hz)
            clear hBi hCg hz ei er hlow
            go_wp2
            clear hw1 d0
            go_roundg (gn - (i + 1))
            case measure => omega
            case rel => exact ⟨i + 1, rfl, by go_num, by omega, by rw [← U.out.2]; congr 1; omega, U.out.1⟩
          · have hlti' : ¬ (i : Int) < (gn : Int) := by omega
            have ein : i = gn := by omega
            have U := Aside0.mk (And.intro hBi ein)
            clear hBi ein
            go_wp2
            go_meet
            case rel => exact ⟨_, _, _, _, by rw [V.out.2.2.2.1, U.out.2], V.out.2.2.2.2.2, (V.out.1.same U.out.1).keep (fun r hr => by cases hr)⟩
      · as_aux_lemma =>
        go_wp2_with fail
        refine (Z.out.1.take o m s).mono ?_
        rintro e w5 ⟨vo, v5, rfl, hS5⟩
        have V := Aside0.mk hS5
        clear hS5 q1 q2 q3 q4 q5 q6
        dsimp only
        go_wp2
        go_meet
        case rel => exact ⟨_, _, _, _, rfl, by omega, V.out.keep (fun r hr => by cases hr)⟩
      · as_aux_lemma =>
        go_wp2_with fail
        refine (Z.out.1.take o m s).mono ?_
        rintro e w5 ⟨vo, v5, rfl, hS5⟩
        have V := Aside0.mk hS5
        clear hS5 q1 q2 q3 q4 q5 q6
        dsimp only
        go_wp2
        go_meet
        case rel => exact ⟨_, _, _, _, rfl, by omega, V.out.keep (fun r hr => by cases hr)⟩
    case rest =>
      obtain ⟨ns2, v2, bx2, last2, rfl, hla2, hS2⟩ := hcut
      have X := Aside0.mk (And.intro hS2 hla2)
      clear hS2 hla2 Y AC
      go_wp2_with fail
      refine X.out.1.boxes.mono ?_
      rintro e w5 ⟨vb, rfl, hRb, hb5⟩
      obtain ⟨Ab, cb, rfl⟩ := Kd.R_slice hRb
      have X5 := X.out.1.same hb5
      have hbl := X5.len
      obtain ⟨nb, hnb⟩ : ∃ nb, bx2.length = nb := ⟨_, rfl⟩
      rw [hnb] at hRb hbl ⊢
      have R5 := Aside0.mk (And.intro hRb (And.intro hnb X5))
      clear hRb hb5 X5 hnb
      dsimp only
      go_wp2_with fail
      refine (lnodes w5 R5.out.2.2.led).mono ?_
      rintro e w6 ⟨bt, gt, rfl, hb6, hT6⟩
      have T6 := Aside0.mk (And.intro hb6 hT6)
      have hnl := R5.out.2.2.good.nodes.len
      clear hb6 hT6
      dsimp only
      go_wp2_with fail
      refine (nodes _ bt gt u0 u1 ns2 w6 T6.out.2 (by omega)).mono ?_
      rintro e w7 ⟨vn, rfl, hRn, hb7⟩
      obtain ⟨An, cn, rfl⟩ := Kd.R_slice hRn
      obtain ⟨nn, hnn⟩ : ∃ nn, ns2.length = nn := ⟨_, rfl⟩
      have S7 := R5.out.2.2.same (below_step T6.out.1 hb7)
      have CB := Kd.C_below (Kd.R_reads' R5.out.1).2.2 (below_step T6.out.1 hb7)
      have CN := (Kd.R_reads' hRn).2.2
      rw [R5.out.2.1] at CB
      rw [hnn] at CN hnl ⊢
      have W := Aside0.mk (And.intro S7 (And.intro CB (And.intro CN hnn)))
      clear hRn hb7 S7 CB CN hnn
      dsimp only
      go_wp2_with fail
      go_loopg [16, 17, 18] nn (fun kk v16 v17 v18 wq => ∃ k : Nat, kk = nn - k ∧ v18 = .int .i64 k ∧ k ≤ nn ∧ v16 = .int .i64 (sumU (fun x => roomN u0 u1 ns2 bx2 x.f0) (ns2.take k)) ∧ v17 = .int .i64 (sumU (fun x => ((onN bx2 x.f0).length : Int)) (ns2.take k)) ∧ Below w7.heap.size w7 wq)
      case atStart => exact ⟨0, rfl, rfl, Nat.zero_le _, rfl, rfl, Below.refl _ _⟩
      obtain ⟨k, rfl, rfl, hk, rfl, rfl, hBk⟩ := hrel
      by_cases hltk : k < nn
      · have hkn : k < ns2.length := by rw [W.out.2.2.2]; exact hltk
        obtain ⟨an, rfl, d0, _⟩ := PNodePlays.at_T39 (Kd.C_below W.out.2.2.1 hBk) (k : Int) (by omega) (by omega)
        have ek : (k : Int).toNat = k := by simp
        have er : PNodePlays.rd_T39 ns2 (k : Int) = ns2[k] := by unfold PNodePlays.rd_T39; rw [ek, List.getD_eq_getElem?_getD, List.getElem?_eq_getElem hkn]; rfl
        rw [er, ek] at d0
        have hst1 := sumU_step (fun x => roomN u0 u1 ns2 bx2 x.f0) ns2 k hkn
        have hst2 := sumU_step (fun x => ((onN bx2 x.f0).length : Int)) ns2 k hkn
        have hG := W.out.1.good
        have hmem : ns2[k] ∈ ns2 := List.getElem_mem hkn
        have hall := hG.nodes.all _ hmem
        have hwho := who_of hG.nodes.rising hmem
        have hrm := room_some (u0 := u0) (u1 := u1) (bx := bx2) hwho
        have hrn := hG.room ns2[k].f0
        have hun := hG.nodes.units _ hmem
        have hub1 := room_sum hG k
        have hub2 := on_sum hG k
        have hol : (onN bx2 ns2[k].f0).length ≤ bx2.length := List.length_filter_le _ _
        obtain ⟨KU, hKU⟩ := units_at hG.nodes.unit hall.2.1
        obtain ⟨y, hy⟩ : ∃ y, ns2[k] = y := ⟨_, rfl⟩
        rw [hy] at d0 hst1 hst2 hall hwho hrm hrn hun hol hKU
        have hwf : (Lit.int .u32 y.f0).wf = true := by simp [Lit.wf, IntKind.min, IntKind.max, IntKind.signed, IntKind.bits]; omega
        obtain ⟨S1, hS1⟩ : ∃ S1, sumU (fun x => roomN u0 u1 ns2 bx2 x.f0) (ns2.take k) = S1 := ⟨_, rfl⟩
        obtain ⟨S2, hS2⟩ : ∃ S2, sumU (fun x => ((onN bx2 x.f0).length : Int)) (ns2.take k) = S2 := ⟨_, rfl⟩
        obtain ⟨rm, hrmm⟩ : ∃ rm, roomN u0 u1 ns2 bx2 y.f0 = rm := ⟨_, rfl⟩
        obtain ⟨on, hon⟩ : ∃ on, (onN bx2 y.f0).length = on := ⟨_, rfl⟩
        obtain ⟨un, hunn⟩ : ∃ un, uns u0 u1 y = un := ⟨_, rfl⟩
        try dsimp only at hst1 hst2
        rw [hS1] at hub1 hst1 ⊢
        rw [hS2] at hub2 hst2 ⊢
        rw [hrmm] at hst1 hrm hrn
        rw [hon] at hst2 hrm hol
        rw [hunn] at hrm hun hKU
        rw [R5.out.2.1] at hol
        have hltk' : (k : Int) < (nn : Int) := by omega
        have hw1 : IntKind.i64.wrap (rm + (on : Int)) = un := by rw [IntKind.wrap_i64]; omega
        obtain ⟨T1, hT1⟩ : ∃ T1, S1 + rm = T1 := ⟨_, rfl⟩
        obtain ⟨T2, hT2⟩ : ∃ T2, S2 + (on : Int) = T2 := ⟨_, rfl⟩
        have hw2 : IntKind.i64.wrap (S1 + rm) = T1 := by rw [IntKind.wrap_i64]; omega
        have hw3 : IntKind.i64.wrap (S2 + (on : Int)) = T2 := by rw [IntKind.wrap_i64]; omega
        have t0 : decide (rm < 0) = false := decide_eq_false (by omega)
        rw [hT1] at hst1
        rw [hT2] at hst2
        have UC := Aside0.mk (fun (w' : World) (bt gt N : Nat) (hT : TabAt w' N bt gt u0 u1 ns2) => units_yes KU N bt gt u0 u1 y.f0 ns2 y un 0 w' hT hwf hwho (hKU KU (Nat.le_refl _)))
        have RC := Aside0.mk (fun (w' : World) (hS : HS W0 w' p b g u0 u1 ns2 v2 bx2 last2 []) => hS.room y.f0 hwf)
        rw [hrmm] at RC
        have Q := Aside0.mk (And.intro hBk (And.intro hst1 (And.intro hst2 (And.intro hun (And.intro hw1 (And.intro hw2 hw3))))))
        obtain ⟨yi, hid⟩ : ∃ yi, y.f0 = yi := ⟨_, rfl⟩
        rw [hid] at d0 RC UC
        have ID := Aside0.mk hid
        have D0 := Aside0.mk d0
        have N0 : Aside0 (∀ w', Below w7.heap.size w7 w' → w'.cell? (an.add (k * 3)) = some (.int .u32 yi)) := ⟨fun w' hb => by
          obtain ⟨an2, he, f0, _⟩ := PNodePlays.at_T39 (Kd.C_below W.out.2.2.1 hb) (k : Int) (by omega) (by omega)
          obtain rfl := Option.some.inj he
          rw [er, ek, hy, hid] at f0
          exact f0⟩
        have ID0 : Aside0 ((onN bx2 yi).length = on) := ⟨by rw [← hid]; exact hon⟩
        clear hBk hst1 hst2 hG hmem hall hwho hrm hrn hun hub1 hub2 hol hKU hy hwf hS1 hS2 hrmm hon hunn hw1 hw2 hw3 hT1 hT2 hid er ek d0
        go_upto_region 32 with (fail)
        refine XInv.region_tab [] [[], [0], [], [], [2, 3], [4], [5], [1, 6, 1], [7], [8], [8], [9, 7, 0, 1, 2, 3, 4, 5, 6, 7, 8, 9], [10, 11, 0, 1, 2, 3, 4, 5, 6, 7, 8, 9, 10, 11]] (fun bq jq => match jq with
            | 0 => .pointer (some ⟨p, 0, none⟩)
            | 1 => .pointer (some ⟨bq.1, 0, none⟩)
            | 2 => .slice (some an) nn cn
            | 3 => .int .i64 k
            | 4 => .pointer (some (an.add (k * 3)))
            | 5 => .pointer (some (an.add (k * 3)))
            | 6 => .int .u32 yi
            | 7 => .tuple #[.int .i64 un, .int .i64 0]
            | 8 => .tuple #[.int .i64 un, .int .i64 0]
            | 9 => .int .i64 un
            | 10 => .int .i64 0
            | 11 => .int .i64 un
            | 12 => .int .i64 0
            | _ => undef)
            (fun bq l w' => if l 1 = true then (Below wr.heap.size wr w' ∧ ∃ N, TabAt w' N bq.1 bq.2 u0 u1 ns2) else Below wr.heap.size wr w')
            (by kernel_rfl) rfl (by kernel_rfl) (by kernel_rfl) (by kernel_rfl) ⟨((0, 0) : Nat × Nat), (by rw [if_neg (by simp)]; exact below_drew (Below.refl _ _))⟩ ?_ ?_
        · refine cs13 _ ?_ ?_ ?_ ?_ ?_ ?_ ?_ ?_ ?_ ?_ ?_ ?_ ?_
          all_goals intro hds oi hoi bq lb w' hW hlb hcl hneed hclo
          all_goals simp only [List.getElem?_toArray, List.getElem?_cons_succ, List.getElem?_cons_zero, Option.some.injEq] at hoi
          all_goals subst hoi
          · refine XInv.yes_tab [] (by kernel_rfl) ?_
            have hs0 := hcl 1 (by decide) (by kernel_rfl)
            rw [if_neg (by rw [hs0]; decide)] at hW
            have d0 := pw_cell_below hW D0.out
            clear hcl hneed hclo
            intro Q2 K2 hK2
            simp only [XInv.puts, XPrint.pw]
            go_simp
            exact hK2.out (.pointer (some ⟨p, 0, none⟩)) w' ⟨bq, rfl, (by intros; first | rfl | trivial), (by rw [if_neg (by simp [XInv.up, hs0])]; exact hW)⟩
          · refine XInv.yes_tab [(147, 0)] (by kernel_rfl) ?_
            have hs0 := hlb
            rw [if_neg (by rw [hs0]; decide)] at hW
            have d0 := pw_cell_below hW D0.out
            clear hcl hneed hclo
            intro Q2 K2 hK2
            simp only [XInv.puts, XPrint.pw]
            go_simp
            go_at_call 57
            (with_reducible refine (lnodes w' ((W.out.1.same Q.out.1).same hW).led).mono ?_)
            rintro e wz ⟨bz, gz, rfl, hb, hT⟩
            exact hK2.out (.pointer (some ⟨bz, 0, none⟩)) wz ⟨(bz, gz), rfl, (cs13 _ (fun _ => rfl) (fun hlj => absurd (hlb.symm.trans hlj) (by decide)) (fun _ => rfl) (fun _ => rfl) (fun _ => rfl) (fun _ => rfl) (fun _ => rfl) (fun _ => rfl) (fun _ => rfl) (fun _ => rfl) (fun _ => rfl) (fun _ => rfl) (fun _ => rfl)), (by rw [if_pos (by simp [XInv.up, hs0])]; exact ⟨below_step hW hb, 0, tab_low hT (Nat.zero_le _)⟩)⟩
          · refine XInv.yes_tab [] (by kernel_rfl) ?_
            cases hs0 : lb 1
            case false =>
              rw [if_neg (by rw [hs0]; decide)] at hW
              have d0 := pw_cell_below hW D0.out
              clear hcl hneed hclo
              intro Q2 K2 hK2
              simp only [XInv.puts, XPrint.pw]
              go_simp
              exact hK2.out (.slice (some an) nn cn) w' ⟨bq, rfl, (by intros; first | rfl | trivial), (by rw [if_neg (by simp [XInv.up, hs0])]; exact hW)⟩
            case true =>
              rw [if_pos hs0] at hW
              have d0 := pw_cell_below hW.1 D0.out
              clear hcl hneed hclo
              intro Q2 K2 hK2
              simp only [XInv.puts, XPrint.pw]
              go_simp
              exact hK2.out (.slice (some an) nn cn) w' ⟨bq, rfl, (by intros; first | rfl | trivial), (by rw [if_pos (by simp [XInv.up, hs0])]; exact hW)⟩
          · refine XInv.yes_tab [] (by kernel_rfl) ?_
            cases hs0 : lb 1
            case false =>
              rw [if_neg (by rw [hs0]; decide)] at hW
              have d0 := pw_cell_below hW D0.out
              clear hcl hneed hclo
              intro Q2 K2 hK2
              simp only [XInv.puts, XPrint.pw]
              go_simp
              exact hK2.out (.int .i64 k) w' ⟨bq, rfl, (by intros; first | rfl | trivial), (by rw [if_neg (by simp [XInv.up, hs0])]; exact hW)⟩
            case true =>
              rw [if_pos hs0] at hW
              have d0 := pw_cell_below hW.1 D0.out
              clear hcl hneed hclo
              intro Q2 K2 hK2
              simp only [XInv.puts, XPrint.pw]
              go_simp
              exact hK2.out (.int .i64 k) w' ⟨bq, rfl, (by intros; first | rfl | trivial), (by rw [if_pos (by simp [XInv.up, hs0])]; exact hW)⟩
          · refine XInv.yes_tab [(150, 3), (149, 2)] (by kernel_rfl) ?_
            cases hs0 : lb 1
            case false =>
              rw [if_neg (by rw [hs0]; decide)] at hW
              have d0 := pw_cell_below hW D0.out
              clear hcl hneed hclo
              intro Q2 K2 hK2
              simp only [XInv.puts, XPrint.pw]
              go_simp
              exact hK2.out (.pointer (some (an.add (k * 3)))) w' ⟨bq, rfl, (by intros; first | rfl | trivial), (by rw [if_neg (by simp [XInv.up, hs0])]; exact hW)⟩
            case true =>
              rw [if_pos hs0] at hW
              have d0 := pw_cell_below hW.1 D0.out
              clear hcl hneed hclo
              intro Q2 K2 hK2
              simp only [XInv.puts, XPrint.pw]
              go_simp
              exact hK2.out (.pointer (some (an.add (k * 3)))) w' ⟨bq, rfl, (by intros; first | rfl | trivial), (by rw [if_pos (by simp [XInv.up, hs0])]; exact hW)⟩
          · refine XInv.yes_tab [(151, 4)] (by kernel_rfl) ?_
            cases hs0 : lb 1
            case false =>
              rw [if_neg (by rw [hs0]; decide)] at hW
              have d0 := pw_cell_below hW D0.out
              clear hcl hneed hclo
              intro Q2 K2 hK2
              simp only [XInv.puts, XPrint.pw]
              go_simp
              exact hK2.out (.pointer (some (an.add (k * 3)))) w' ⟨bq, rfl, (by intros; first | rfl | trivial), (by rw [if_neg (by simp [XInv.up, hs0])]; exact hW)⟩
            case true =>
              rw [if_pos hs0] at hW
              have d0 := pw_cell_below hW.1 D0.out
              clear hcl hneed hclo
              intro Q2 K2 hK2
              simp only [XInv.puts, XPrint.pw]
              go_simp
              exact hK2.out (.pointer (some (an.add (k * 3)))) w' ⟨bq, rfl, (by intros; first | rfl | trivial), (by rw [if_pos (by simp [XInv.up, hs0])]; exact hW)⟩
          · refine XInv.yes_tab [(152, 5)] (by kernel_rfl) ?_
            cases hs0 : lb 1
            case false =>
              rw [if_neg (by rw [hs0]; decide)] at hW
              have d0 := pw_cell_below hW D0.out
              clear hcl hneed hclo
              intro Q2 K2 hK2
              simp only [XInv.puts, XPrint.pw]
              go_simp
              exact hK2.out (.int .u32 yi) w' ⟨bq, rfl, (by intros; first | rfl | trivial), (by rw [if_neg (by simp [XInv.up, hs0])]; exact hW)⟩
            case true =>
              rw [if_pos hs0] at hW
              have d0 := pw_cell_below hW.1 D0.out
              clear hcl hneed hclo
              intro Q2 K2 hK2
              simp only [XInv.puts, XPrint.pw]
              go_simp
              exact hK2.out (.int .u32 yi) w' ⟨bq, rfl, (by intros; first | rfl | trivial), (by rw [if_pos (by simp [XInv.up, hs0])]; exact hW)⟩
          · refine XInv.yes_tab [(153, 6), (148, 1)] (by kernel_rfl) ?_
            have hs0 := hneed 1 (by kernel_rfl)
            rw [if_pos hs0] at hW
            have d0 := pw_cell_below hW.1 D0.out
            clear hcl hneed hclo
            intro Q2 K2 hK2
            simp only [XInv.puts, XPrint.pw]
            obtain ⟨hBw, N, hTw⟩ := id hW
            go_simp
            go_at_call 24
            (with_reducible refine (UC.out _ _ _ _ hTw).mono ?_)
            rintro e wz ⟨rfl, hb⟩
            exact hK2.out (.tuple #[.int .i64 un, .int .i64 0]) wz ⟨bq, rfl, (by intros; first | rfl | trivial), (by rw [if_pos (by simp [XInv.up, hs0])]; exact ⟨below_step hBw hb, N, hTw.below hb⟩)⟩
          · refine XInv.yes_tab [(154, 7)] (by kernel_rfl) ?_
            have hs0 := (hclo 7 1 (by decide) (hneed 7 (by kernel_rfl)) (by kernel_rfl))
            rw [if_pos hs0] at hW
            have d0 := pw_cell_below hW.1 D0.out
            clear hcl hneed hclo
            intro Q2 K2 hK2
            simp only [XInv.puts, XPrint.pw]
            go_simp
            exact hK2.out (.tuple #[.int .i64 un, .int .i64 0]) w' ⟨bq, rfl, (by intros; first | rfl | trivial), (by rw [if_pos (by simp [XInv.up, hs0])]; exact hW)⟩
          · refine XInv.yes_tab [(146, 8)] (by kernel_rfl) ?_
            have hs0 := (hclo 7 1 (by decide) (hclo 8 7 (by decide) (hneed 8 (by kernel_rfl)) (by kernel_rfl)) (by kernel_rfl))
            rw [if_pos hs0] at hW
            have d0 := pw_cell_below hW.1 D0.out
            clear hcl hneed hclo
            intro Q2 K2 hK2
            simp only [XInv.puts, XPrint.pw]
            go_simp
            exact hK2.out (.int .i64 un) w' ⟨bq, rfl, (by intros; first | rfl | trivial), (by rw [if_pos (by simp [XInv.up, hs0])]; exact hW)⟩
          · refine XInv.yes_tab [(146, 8)] (by kernel_rfl) ?_
            have hs0 := (hclo 7 1 (by decide) (hclo 8 7 (by decide) (hneed 8 (by kernel_rfl)) (by kernel_rfl)) (by kernel_rfl))
            rw [if_pos hs0] at hW
            have d0 := pw_cell_below hW.1 D0.out
            clear hcl hneed hclo
            intro Q2 K2 hK2
            simp only [XInv.puts, XPrint.pw]
            go_simp
            exact hK2.out (.int .i64 0) w' ⟨bq, rfl, (by intros; first | rfl | trivial), (by rw [if_pos (by simp [XInv.up, hs0])]; exact hW)⟩
          · refine XInv.yes_tab [(155, 9), (146, 8), (154, 7), (153, 6), (152, 5), (151, 4), (150, 3), (149, 2), (148, 1), (147, 0)] (by kernel_rfl) ?_
            have hs0 := hneed 1 (by kernel_rfl)
            rw [if_pos hs0] at hW
            have d0 := pw_cell_below hW.1 D0.out
            clear hcl hneed hclo
            intro Q2 K2 hK2
            simp only [XInv.puts, XPrint.pw] at hK2 ⊢
            go_simp
            exact hK2.out (.int .i64 un) w' ⟨bq, rfl, (by intros; first | rfl | trivial), (by rw [if_pos (by simp [XInv.up, hs0])]; exact hW)⟩
          · refine XInv.yes_tab [(19, 11), (156, 10), (155, 9), (146, 8), (154, 7), (153, 6), (152, 5), (151, 4), (150, 3), (149, 2), (148, 1), (147, 0)] (by kernel_rfl) ?_
            have hs0 := hneed 1 (by kernel_rfl)
            rw [if_pos hs0] at hW
            have d0 := pw_cell_below hW.1 D0.out
            clear hcl hneed hclo
            intro Q2 K2 hK2
            simp only [XInv.puts, XPrint.pw] at hK2 ⊢
            go_simp
            exact hK2.out (.int .i64 0) w' ⟨bq, rfl, (by intros; first | rfl | trivial), (by rw [if_pos (by simp [XInv.up, hs0])]; exact hW)⟩
        · intro bq w' hW
          refine XInv.end_nil [(20, 12), (19, 11), (156, 10), (155, 9), (146, 8), (154, 7), (153, 6), (152, 5), (151, 4), (150, 3), (149, 2), (148, 1), (147, 0)] (by kernel_rfl) (by kernel_rfl) ?_
          simp only [XInv.puts, XPrint.pw]
          rw [if_pos (by kernel_rfl)] at hW
          have E := Aside0.mk (below_step Q.out.1 hW.1)
          obtain ⟨w8, hw8⟩ : ∃ w8, w' = w8 := ⟨_, rfl⟩
          rw [hw8] at E ⊢
          clear hW hw8
          go_wp2_with fail
          go_loopg [21, 22] nb (fun kk v21 v22 wq => ∃ i : Nat, kk = nb - i ∧ v22 = .int .i64 i ∧ i ≤ nb ∧ v21 = .int .i64 ((onN (bx2.take i) yi).length : Int) ∧ Below w7.heap.size w7 wq)
          case atStart => exact ⟨0, rfl, rfl, Nat.zero_le _, rfl, E.out⟩
          obtain ⟨i, rfl, rfl, hi, rfl, hBi⟩ := hrel
          by_cases hlti : i < nb
          · as_aux_lemma =>
              have hib : i < bx2.length := by rw [R5.out.2.1]; exact hlti
              obtain ⟨ab, rfl, e0, e1, _, _⟩ := PLedLib.at_T113 (Kd.C_below W.out.2.1 hBi) (i : Int) (by omega) (by omega)
              have ei : (i : Int).toNat = i := by simp
              have erb : PLedLib.rd_T113 bx2 (i : Int) = bx2[i] := by unfold PLedLib.rd_T113; rw [ei, List.getD_eq_getElem?_getD, List.getElem?_eq_getElem hib]; rfl
              rw [erb, ei] at e1
              have htk : (onN (bx2.take (i + 1)) yi).length = (onN (bx2.take i) yi).length + (if bx2[i].f1 = yi then 1 else 0) := by
                rw [List.take_add_one, List.getElem?_eq_getElem hib, onN_append, List.length_append]
                congr 1
                have := onN_one bx2[i] yi
                split at this <;> rename_i h <;> simp only [h, if_true, if_false] <;> simp only [Option.toList] <;> omega
              have hcl : (onN (bx2.take i) yi).length ≤ i := Nat.le_trans (List.length_filter_le _ _) (by rw [List.length_take]; omega)
              obtain ⟨z1, hz1⟩ : ∃ z1, bx2[i].f1 = z1 := ⟨_, rfl⟩
              obtain ⟨cc, hcc⟩ : ∃ cc, (onN (bx2.take i) yi).length = cc := ⟨_, rfl⟩
              rw [hz1] at e1 htk
              rw [hcc] at htk hcl ⊢
              obtain ⟨q, hq⟩ : ∃ q, (z1 == yi) = q := ⟨_, rfl⟩
              have hlti' : (i : Int) < (nb : Int) := by omega
              have d0 := (show ∀ w', Below wr.heap.size wr w' → w'.cell? (an.add (k * 3)) = some (.int .u32 yi) from fun w' hb => N0.out w' (below_step hBi hb))
              have U := Aside0.mk (And.intro hBi (And.intro htk (And.intro d0 e1)))
              clear hBi htk d0 hz1 hcc erb ei e0 e1
              go_upto_region 37 with (fail)
              refine XInv.region_tab [] [[], [], [0, 1], [2], [3], [], [], [5, 6], [7], [8], [4, 9]] (fun bq jq => match jq with
                  | 0 => .slice (some ab) nb cb
                  | 1 => .int .i64 i
                  | 2 => .pointer (some (ab.add (i * 4)))
                  | 3 => .pointer (some ⟨(ab.add (i * 4)).block, (ab.add (i * 4)).off + 1, none⟩)
                  | 4 => .int .u32 z1
                  | 5 => .slice (some an) nn cn
                  | 6 => .int .i64 k
                  | 7 => .pointer (some (an.add (k * 3)))
                  | 8 => .pointer (some (an.add (k * 3)))
                  | 9 => .int .u32 yi
                  | 10 => .bool q
                  | _ => undef)
                  (fun bq l w' => Below wr.heap.size wr w')
                  (by kernel_rfl) rfl (by kernel_rfl) (by kernel_rfl) (by kernel_rfl) ⟨fun _ : Nat => (0 : Nat), below_drew (Below.refl _ _)⟩ ?_ ?_
              · refine cs11 _ ?_ ?_ ?_ ?_ ?_ ?_ ?_ ?_ ?_ ?_ ?_
                all_goals intro hds oi hoi bq lb w' hW hlb hcl hneed hclo
                all_goals clear hcl hneed hclo
                all_goals simp only [List.getElem?_toArray, List.getElem?_cons_succ, List.getElem?_cons_zero, Option.some.injEq] at hoi
                all_goals subst hoi
                · refine XInv.yes_tab [] (by kernel_rfl) ?_
                  have d0 := U.out.2.2.1 w' hW
                  have e1 := pw_cell_below hW U.out.2.2.2
                  intro Q2 K2 hK2
                  simp only [XInv.puts, XPrint.pw]
                  go_simp
                  exact hK2.out (.slice (some ab) nb cb) w' ⟨bq, rfl, (by intros; first | rfl | trivial), hW⟩
                · refine XInv.yes_tab [] (by kernel_rfl) ?_
                  have d0 := U.out.2.2.1 w' hW
                  have e1 := pw_cell_below hW U.out.2.2.2
                  intro Q2 K2 hK2
                  simp only [XInv.puts, XPrint.pw]
                  go_simp
                  exact hK2.out (.int .i64 i) w' ⟨bq, rfl, (by intros; first | rfl | trivial), hW⟩
                · refine XInv.yes_tab [(164, 1), (163, 0)] (by kernel_rfl) ?_
                  have d0 := U.out.2.2.1 w' hW
                  have e1 := pw_cell_below hW U.out.2.2.2
                  intro Q2 K2 hK2
                  simp only [XInv.puts, XPrint.pw]
                  go_simp
                  exact hK2.out (.pointer (some (ab.add (i * 4)))) w' ⟨bq, rfl, (by intros; first | rfl | trivial), hW⟩
                · refine XInv.yes_tab [(165, 2)] (by kernel_rfl) ?_
                  have d0 := U.out.2.2.1 w' hW
                  have e1 := pw_cell_below hW U.out.2.2.2
                  intro Q2 K2 hK2
                  simp only [XInv.puts, XPrint.pw]
                  go_simp
                  exact hK2.out (.pointer (some ⟨(ab.add (i * 4)).block, (ab.add (i * 4)).off + 1, none⟩)) w' ⟨bq, rfl, (by intros; first | rfl | trivial), hW⟩
                · refine XInv.yes_tab [(166, 3)] (by kernel_rfl) ?_
                  have d0 := U.out.2.2.1 w' hW
                  have e1 := pw_cell_below hW U.out.2.2.2
                  intro Q2 K2 hK2
                  simp only [XInv.puts, XPrint.pw]
                  go_simp
                  exact hK2.out (.int .u32 z1) w' ⟨bq, rfl, (by intros; first | rfl | trivial), hW⟩
                · refine XInv.yes_tab [] (by kernel_rfl) ?_
                  have d0 := U.out.2.2.1 w' hW
                  have e1 := pw_cell_below hW U.out.2.2.2
                  intro Q2 K2 hK2
                  simp only [XInv.puts, XPrint.pw]
                  go_simp
                  exact hK2.out (.slice (some an) nn cn) w' ⟨bq, rfl, (by intros; first | rfl | trivial), hW⟩
                · refine XInv.yes_tab [] (by kernel_rfl) ?_
                  have d0 := U.out.2.2.1 w' hW
                  have e1 := pw_cell_below hW U.out.2.2.2
                  intro Q2 K2 hK2
                  simp only [XInv.puts, XPrint.pw]
                  go_simp
                  exact hK2.out (.int .i64 k) w' ⟨bq, rfl, (by intros; first | rfl | trivial), hW⟩
                · refine XInv.yes_tab [(169, 6), (168, 5)] (by kernel_rfl) ?_
                  have d0 := U.out.2.2.1 w' hW
                  have e1 := pw_cell_below hW U.out.2.2.2
                  intro Q2 K2 hK2
                  simp only [XInv.puts, XPrint.pw]
                  go_simp
                  exact hK2.out (.pointer (some (an.add (k * 3)))) w' ⟨bq, rfl, (by intros; first | rfl | trivial), hW⟩
                · refine XInv.yes_tab [(170, 7)] (by kernel_rfl) ?_
                  have d0 := U.out.2.2.1 w' hW
                  have e1 := pw_cell_below hW U.out.2.2.2
                  intro Q2 K2 hK2
                  simp only [XInv.puts, XPrint.pw]
                  go_simp
                  exact hK2.out (.pointer (some (an.add (k * 3)))) w' ⟨bq, rfl, (by intros; first | rfl | trivial), hW⟩
                · refine XInv.yes_tab [(171, 8)] (by kernel_rfl) ?_
                  have d0 := U.out.2.2.1 w' hW
                  have e1 := pw_cell_below hW U.out.2.2.2
                  intro Q2 K2 hK2
                  simp only [XInv.puts, XPrint.pw]
                  go_simp
                  exact hK2.out (.int .u32 yi) w' ⟨bq, rfl, (by intros; first | rfl | trivial), hW⟩
                · refine XInv.yes_tab [(172, 9), (167, 4)] (by kernel_rfl) ?_
                  have d0 := U.out.2.2.1 w' hW
                  have e1 := pw_cell_below hW U.out.2.2.2
                  intro Q2 K2 hK2
                  simp only [XInv.puts, XPrint.pw]
                  go_simp
                  exact hK2.out (.bool q) w' ⟨bq, rfl, (by intros; first | rfl | trivial), hW⟩
              · intro bq w' hW
                refine XInv.end_nil [(173, 10), (172, 9), (171, 8), (170, 7), (169, 6), (168, 5), (167, 4), (166, 3), (165, 2), (164, 1), (163, 0)] (by kernel_rfl) (by kernel_rfl) ?_
                simp only [XInv.puts, XPrint.pw]
                have G := Aside0.mk hW
                clear hW
                cases q
                · have hne : ¬ z1 = yi := by simpa using hq
                  have hz := U.out.2.1
                  rw [if_neg hne] at hz
                  have HZ := Aside0.mk hz
                  clear hz hne hq
                  go_wp2
                  go_roundg (nb - (i + 1))
                  case measure => omega
                  case rel => exact ⟨i + 1, rfl, by go_num, by omega, by rw [HZ.out]; rfl, below_step U.out.1 G.out⟩
                · have hne : z1 = yi := by simpa using hq
                  have hz := U.out.2.1
                  rw [if_pos hne] at hz
                  have HZ := Aside0.mk hz
                  clear hz hne hq
                  go_wp2
                  go_roundg (nb - (i + 1))
                  case measure => omega
                  case rel => exact ⟨i + 1, rfl, by go_num, by omega, by rw [HZ.out]; go_num, below_step U.out.1 G.out⟩
          · as_aux_lemma =>
              have hlti' : ¬ (i : Int) < (nb : Int) := by omega
              have htk : bx2.take i = bx2 := List.take_of_length_le (by rw [R5.out.2.1]; omega)
              rw [htk, ID0.out]
              have U := Aside0.mk hBi
              have d0 := N0.out wr hBi
              obtain ⟨hw1, hw2, hw3⟩ := Q.out.2.2.2.2
              clear hBi htk
              go_wp2_with fail
              refine (RC.out _ (W.out.1.same U.out)).mono ?_
              rintro e w9 ⟨rfl, hb9⟩
              have d0 := pw_cell_below hb9 d0
              replace U := Aside0.mk (below_step U.out hb9)
              clear hb9
              dsimp only
              go_wp2_with fail
              refine (RC.out _ (W.out.1.same U.out)).mono ?_
              rintro e w10 ⟨rfl, hb9⟩
              have d0 := pw_cell_below hb9 d0
              replace U := Aside0.mk (below_step U.out hb9)
              clear hb9
              dsimp only
              go_wp2_with fail
              refine (RC.out _ (W.out.1.same U.out)).mono ?_
              rintro e w11 ⟨rfl, hb9⟩
              replace U := Aside0.mk (below_step U.out hb9)
              clear hb9 d0
              dsimp only
              go_wp2
              clear hw1 hw2 hw3
              go_roundg (nn - (k + 1))
              case measure => omega
              case rel => exact ⟨k + 1, rfl, by go_num, by omega, by rw [Q.out.2.1], by rw [Q.out.2.2.1], U.out⟩
      · as_aux_lemma =>
          have hltk' : ¬ (k : Int) < (nn : Int) := by omega
          have htk : ns2.take k = ns2 := List.take_of_length_le (by rw [W.out.2.2.2]; omega)
          rw [htk]
          have e1 : sumU (fun x => roomN u0 u1 ns2 bx2 x.f0) ns2 = freeN u0 u1 ns2 bx2 := W.out.1.good.free
          have e2 : sumU (fun x => ((onN bx2 x.f0).length : Int)) ns2 = bx2.length := sum_on W.out.1.good.nodes.rising bx2 W.out.1.good.on
          rw [R5.out.2.1] at e2
          rw [e1, e2]
          have S8 := W.out.1.same hBk
          have FC := S8.free
          obtain ⟨fr2, hfr2⟩ : ∃ fr2, freeN u0 u1 ns2 bx2 = fr2 := ⟨_, rfl⟩
          rw [hfr2] at FC ⊢
          have FC := Aside0.mk FC
          have U := Aside0.mk hBk
          clear hBk htk e1 e2 S8 hfr2
          go_wp2_with fail
          refine FC.out.mono ?_
          rintro e w9 ⟨rfl, hb9⟩
          replace U := Aside0.mk (below_step U.out hb9)
          clear hb9
          dsimp only
          go_wp2_with fail
          go_loopg [23] nb (fun kk v23 wq => ∃ i : Nat, kk = nb - i ∧ v23 = .int .i64 i ∧ i ≤ nb ∧ Below w7.heap.size w7 wq)
          case atStart => exact ⟨0, rfl, rfl, Nat.zero_le _, U.out⟩
          obtain ⟨i, rfl, rfl, hi, hBi⟩ := hrel
          by_cases hlti : i < nb
          · as_aux_lemma =>
              have hib : i < bx2.length := by rw [R5.out.2.1]; exact hlti
              obtain ⟨ab, rfl, e0, _, e2, _⟩ := PLedLib.at_T113 (Kd.C_below W.out.2.1 hBi) (i : Int) (by omega) (by omega)
              have ei : (i : Int).toNat = i := by simp
              have erb : PLedLib.rd_T113 bx2 (i : Int) = bx2[i] := by unfold PLedLib.rd_T113; rw [ei, List.getD_eq_getElem?_getD, List.getElem?_eq_getElem hib]; rfl
              rw [erb, ei] at e0 e2
              have hm := List.getElem_mem hib
              have h1 := W.out.1.good.num _ hm
              have h2 := W.out.1.good.owner _ hm
              have hprev : ∀ j1, j1 + 1 = i → ∃ y0, wr.cell? (ab.add (j1 * 4)) = some (.int .u32 y0) ∧ y0 < bx2[i].f0 := fun j1 hj1 => by
                have hjb : j1 < bx2.length := by omega
                obtain ⟨ab2, he, f0, _⟩ := PLedLib.at_T113 (Kd.C_below W.out.2.1 hBi) (j1 : Int) (by omega) (by omega)
                obtain rfl := Option.some.inj he
                have ej : (j1 : Int).toNat = j1 := by simp
                have erj : PLedLib.rd_T113 bx2 (j1 : Int) = bx2[j1] := by unfold PLedLib.rd_T113; rw [ej, List.getD_eq_getElem?_getD, List.getElem?_eq_getElem hjb]; rfl
                rw [erj, ej] at f0
                exact ⟨_, f0, List.pairwise_iff_getElem.1 W.out.1.good.ids j1 i hjb hib (by omega)⟩
              obtain ⟨z0, hz0⟩ : ∃ z0, bx2[i].f0 = z0 := ⟨_, rfl⟩
              obtain ⟨z2, hz2⟩ : ∃ z2, bx2[i].f2 = z2 := ⟨_, rfl⟩
              rw [hz0] at e0 h1 hprev
              rw [hz2] at e2 h2
              have t1 : decide (last2 < z0) = false := decide_eq_false (by omega)
              have t2 : (z2 == 0) = false := by simp [h2]
              have hlti' : (i : Int) < (nb : Int) := by omega
              have V := Aside0.mk (And.intro hBi (And.intro e0 e2))
              clear hBi hz0 hz2 erb ei hm h1 h2 e0 e2
              rcases Nat.eq_zero_or_pos i with h0 | h0
              · have t3 : decide ((0 : Int) < (i : Int)) = false := decide_eq_false (by omega)
                have t4 : decide (0 < i) = false := decide_eq_false (by omega)
                have t5 : ¬ (0 : Int) < (i : Int) := by omega
                have hi0 := Aside0.mk h0
                clear h0 hprev
                go_upto_region 48 with (fail)
                refine XInv.region_tab [] [[], [], [0, 1], [2], [3], [], [4, 5], [6], [7], [7], [8, 9, 7], [10, 7], [11, 7], [12, 7], [7, 13], [14, 7], [15], [16, 15], [17, 15, 15], [18], [18], [20, 18], [19, 21, 18], [22, 18], [23, 18], [18], [18], [25, 26, 18], [27, 18], [28, 18], [24, 29, 18], [18, 30, 15], [15, 31]] (fun bq jq => match jq with
                    | 0 => .slice (some ab) nb cb
                    | 1 => .int .i64 i
                    | 2 => .pointer (some (ab.add (i * 4)))
                    | 3 => .pointer (some (ab.add (i * 4)))
                    | 4 => .int .u32 z0
                    | 5 => .int .u32 last2
                    | 6 => .bool false
                    | 7 => .bool false
                    | 8 => .slice (some ab) nb cb
                    | 9 => .int .i64 i
                    | 10 => .pointer (some (ab.add (i * 4)))
                    | 11 => .pointer (some ⟨(ab.add (i * 4)).block, (ab.add (i * 4)).off + 2, none⟩)
                    | 12 => .int .u32 z2
                    | 13 => .bool false
                    | 14 => .bool false
                    | 15 => .bool false
                    | 16 => .int .i64 i
                    | 17 => .bool false
                    | 18 => .bool false
                    | 19 => undef
                    | 20 => undef
                    | 21 => undef
                    | 22 => undef
                    | 23 => undef
                    | 24 => undef
                    | 25 => undef
                    | 26 => undef
                    | 27 => undef
                    | 28 => undef
                    | 29 => undef
                    | 30 => undef
                    | 31 => .bool false
                    | 32 => .bool false
                    | _ => undef)
                    (fun bq l w' => Below wr.heap.size wr w')
                    (by kernel_rfl) rfl (by kernel_rfl) (by kernel_rfl) (by kernel_rfl) ⟨fun _ : Nat => (0 : Nat), below_drew (Below.refl _ _)⟩ ?_ ?_
                · refine cs33 _ ?_ ?_ ?_ ?_ ?_ ?_ ?_ ?_ ?_ ?_ ?_ ?_ ?_ ?_ ?_ ?_ ?_ ?_ ?_ ?_ ?_ ?_ ?_ ?_ ?_ ?_ ?_ ?_ ?_ ?_ ?_ ?_ ?_
                  all_goals intro hds oi hoi bq lb w' hW hlb hcl hneed hclo
                  all_goals clear hcl hneed hclo
                  all_goals simp only [List.getElem?_toArray, List.getElem?_cons_succ, List.getElem?_cons_zero, Option.some.injEq] at hoi
                  all_goals subst hoi
                  · refine XInv.yes_tab [] (by kernel_rfl) ?_
                    have e0 := pw_cell_below hW V.out.2.1
                    have e2 := pw_cell_below hW V.out.2.2
                    intro Q2 K2 hK2
                    simp only [XInv.puts, XPrint.pw]
                    go_simp
                    exact hK2.out (.slice (some ab) nb cb) w' ⟨bq, rfl, (by intros; first | rfl | trivial), hW⟩
                  · refine XInv.yes_tab [] (by kernel_rfl) ?_
                    have e0 := pw_cell_below hW V.out.2.1
                    have e2 := pw_cell_below hW V.out.2.2
                    intro Q2 K2 hK2
                    simp only [XInv.puts, XPrint.pw]
                    go_simp
                    exact hK2.out (.int .i64 i) w' ⟨bq, rfl, (by intros; first | rfl | trivial), hW⟩
                  · refine XInv.yes_tab [(230, 1), (229, 0)] (by kernel_rfl) ?_
                    have e0 := pw_cell_below hW V.out.2.1
                    have e2 := pw_cell_below hW V.out.2.2
                    intro Q2 K2 hK2
                    simp only [XInv.puts, XPrint.pw]
                    go_simp
                    exact hK2.out (.pointer (some (ab.add (i * 4)))) w' ⟨bq, rfl, (by intros; first | rfl | trivial), hW⟩
                  · refine XInv.yes_tab [(231, 2)] (by kernel_rfl) ?_
                    have e0 := pw_cell_below hW V.out.2.1
                    have e2 := pw_cell_below hW V.out.2.2
                    intro Q2 K2 hK2
                    simp only [XInv.puts, XPrint.pw]
                    go_simp
                    exact hK2.out (.pointer (some (ab.add (i * 4)))) w' ⟨bq, rfl, (by intros; first | rfl | trivial), hW⟩
                  · refine XInv.yes_tab [(232, 3)] (by kernel_rfl) ?_
                    have e0 := pw_cell_below hW V.out.2.1
                    have e2 := pw_cell_below hW V.out.2.2
                    intro Q2 K2 hK2
                    simp only [XInv.puts, XPrint.pw]
                    go_simp
                    exact hK2.out (.int .u32 z0) w' ⟨bq, rfl, (by intros; first | rfl | trivial), hW⟩
                  · refine XInv.yes_tab [] (by kernel_rfl) ?_
                    have e0 := pw_cell_below hW V.out.2.1
                    have e2 := pw_cell_below hW V.out.2.2
                    intro Q2 K2 hK2
                    simp only [XInv.puts, XPrint.pw]
                    go_simp
                    exact hK2.out (.int .u32 last2) w' ⟨bq, rfl, (by intros; first | rfl | trivial), hW⟩
                  · refine XInv.yes_tab [(234, 5), (233, 4)] (by kernel_rfl) ?_
                    have e0 := pw_cell_below hW V.out.2.1
                    have e2 := pw_cell_below hW V.out.2.2
                    intro Q2 K2 hK2
                    simp only [XInv.puts, XPrint.pw]
                    go_simp
                    exact hK2.out (.bool false) w' ⟨bq, rfl, (by intros; first | rfl | trivial), hW⟩
                  · refine XInv.yes_tab [(235, 6)] (by kernel_rfl) ?_
                    have e0 := pw_cell_below hW V.out.2.1
                    have e2 := pw_cell_below hW V.out.2.2
                    intro Q2 K2 hK2
                    simp only [XInv.puts, XPrint.pw]
                    go_simp
                    exact hK2.out (.bool false) w' ⟨bq, rfl, (by intros; first | rfl | trivial), hW⟩
                  · refine XInv.yes_tab [(236, 7)] (by kernel_rfl) ?_
                    have e0 := pw_cell_below hW V.out.2.1
                    have e2 := pw_cell_below hW V.out.2.2
                    intro Q2 K2 hK2
                    simp only [XInv.puts, XPrint.pw]
                    go_simp
                    exact hK2.out (.slice (some ab) nb cb) w' ⟨bq, rfl, (by intros; first | rfl | trivial), hW⟩
                  · refine XInv.yes_tab [(236, 7)] (by kernel_rfl) ?_
                    have e0 := pw_cell_below hW V.out.2.1
                    have e2 := pw_cell_below hW V.out.2.2
                    intro Q2 K2 hK2
                    simp only [XInv.puts, XPrint.pw]
                    go_simp
                    exact hK2.out (.int .i64 i) w' ⟨bq, rfl, (by intros; first | rfl | trivial), hW⟩
                  · refine XInv.yes_tab [(238, 9), (237, 8), (236, 7)] (by kernel_rfl) ?_
                    have e0 := pw_cell_below hW V.out.2.1
                    have e2 := pw_cell_below hW V.out.2.2
                    intro Q2 K2 hK2
                    simp only [XInv.puts, XPrint.pw]
                    go_simp
                    exact hK2.out (.pointer (some (ab.add (i * 4)))) w' ⟨bq, rfl, (by intros; first | rfl | trivial), hW⟩
                  · refine XInv.yes_tab [(239, 10), (236, 7)] (by kernel_rfl) ?_
                    have e0 := pw_cell_below hW V.out.2.1
                    have e2 := pw_cell_below hW V.out.2.2
                    intro Q2 K2 hK2
                    simp only [XInv.puts, XPrint.pw]
                    go_simp
                    exact hK2.out (.pointer (some ⟨(ab.add (i * 4)).block, (ab.add (i * 4)).off + 2, none⟩)) w' ⟨bq, rfl, (by intros; first | rfl | trivial), hW⟩
                  · refine XInv.yes_tab [(240, 11), (236, 7)] (by kernel_rfl) ?_
                    have e0 := pw_cell_below hW V.out.2.1
                    have e2 := pw_cell_below hW V.out.2.2
                    intro Q2 K2 hK2
                    simp only [XInv.puts, XPrint.pw]
                    go_simp
                    exact hK2.out (.int .u32 z2) w' ⟨bq, rfl, (by intros; first | rfl | trivial), hW⟩
                  · refine XInv.yes_tab [(241, 12), (236, 7)] (by kernel_rfl) ?_
                    have e0 := pw_cell_below hW V.out.2.1
                    have e2 := pw_cell_below hW V.out.2.2
                    intro Q2 K2 hK2
                    simp only [XInv.puts, XPrint.pw]
                    go_simp
                    exact hK2.out (.bool false) w' ⟨bq, rfl, (by intros; first | rfl | trivial), hW⟩
                  · refine XInv.yes_tab [(242, 13), (236, 7)] (by kernel_rfl) ?_
                    have e0 := pw_cell_below hW V.out.2.1
                    have e2 := pw_cell_below hW V.out.2.2
                    intro Q2 K2 hK2
                    simp only [XInv.puts, XPrint.pw]
                    go_simp
                    exact hK2.out (.bool false) w' ⟨bq, rfl, (by intros; first | rfl | trivial), hW⟩
                  · refine XInv.yes_tab [(243, 14), (236, 7)] (by kernel_rfl) ?_
                    have e0 := pw_cell_below hW V.out.2.1
                    have e2 := pw_cell_below hW V.out.2.2
                    intro Q2 K2 hK2
                    simp only [XInv.puts, XPrint.pw]
                    go_simp
                    exact hK2.out (.bool false) w' ⟨bq, rfl, (by intros; first | rfl | trivial), hW⟩
                  · refine XInv.yes_tab [(244, 15)] (by kernel_rfl) ?_
                    have e0 := pw_cell_below hW V.out.2.1
                    have e2 := pw_cell_below hW V.out.2.2
                    intro Q2 K2 hK2
                    simp only [XInv.puts, XPrint.pw]
                    go_simp
                    exact hK2.out (.int .i64 i) w' ⟨bq, rfl, (by intros; first | rfl | trivial), hW⟩
                  · refine XInv.yes_tab [(245, 16), (244, 15)] (by kernel_rfl) ?_
                    have e0 := pw_cell_below hW V.out.2.1
                    have e2 := pw_cell_below hW V.out.2.2
                    intro Q2 K2 hK2
                    simp only [XInv.puts, XPrint.pw]
                    go_simp
                    exact hK2.out (.bool false) w' ⟨bq, rfl, (by intros; first | rfl | trivial), hW⟩
                  · refine XInv.yes_tab [(246, 17), (244, 15)] (by kernel_rfl) ?_
                    have e0 := pw_cell_below hW V.out.2.1
                    have e2 := pw_cell_below hW V.out.2.2
                    intro Q2 K2 hK2
                    simp only [XInv.puts, XPrint.pw]
                    go_simp
                    exact hK2.out (.bool false) w' ⟨bq, rfl, (by intros; first | rfl | trivial), hW⟩
                  · refine XInv.yes_tab [(247, 18)] (by kernel_rfl) ?_
                    have e0 := pw_cell_below hW V.out.2.1
                    have e2 := pw_cell_below hW V.out.2.2
                    intro Q2 K2 hK2
                    simp only [XInv.puts, XPrint.pw]
                    refine XInv.no_want (by kernel_rfl) ?_
                    exact hK2.out undef w' ⟨bq, rfl, (by intros; first | rfl | trivial), hW⟩
                  · refine XInv.yes_tab [(247, 18)] (by kernel_rfl) ?_
                    have e0 := pw_cell_below hW V.out.2.1
                    have e2 := pw_cell_below hW V.out.2.2
                    intro Q2 K2 hK2
                    simp only [XInv.puts, XPrint.pw]
                    refine XInv.no_want (by kernel_rfl) ?_
                    exact hK2.out undef w' ⟨bq, rfl, (by intros; first | rfl | trivial), hW⟩
                  · refine XInv.yes_tab [(249, 20), (247, 18)] (by kernel_rfl) ?_
                    have e0 := pw_cell_below hW V.out.2.1
                    have e2 := pw_cell_below hW V.out.2.2
                    intro Q2 K2 hK2
                    simp only [XInv.puts, XPrint.pw]
                    refine XInv.no_want (by kernel_rfl) ?_
                    exact hK2.out undef w' ⟨bq, rfl, (by intros; first | rfl | trivial), hW⟩
                  · refine XInv.yes_tab [(250, 21), (248, 19), (247, 18)] (by kernel_rfl) ?_
                    have e0 := pw_cell_below hW V.out.2.1
                    have e2 := pw_cell_below hW V.out.2.2
                    intro Q2 K2 hK2
                    simp only [XInv.puts, XPrint.pw]
                    refine XInv.no_want (by kernel_rfl) ?_
                    exact hK2.out undef w' ⟨bq, rfl, (by intros; first | rfl | trivial), hW⟩
                  · refine XInv.yes_tab [(251, 22), (247, 18)] (by kernel_rfl) ?_
                    have e0 := pw_cell_below hW V.out.2.1
                    have e2 := pw_cell_below hW V.out.2.2
                    intro Q2 K2 hK2
                    simp only [XInv.puts, XPrint.pw]
                    refine XInv.no_want (by kernel_rfl) ?_
                    exact hK2.out undef w' ⟨bq, rfl, (by intros; first | rfl | trivial), hW⟩
                  · refine XInv.yes_tab [(252, 23), (247, 18)] (by kernel_rfl) ?_
                    have e0 := pw_cell_below hW V.out.2.1
                    have e2 := pw_cell_below hW V.out.2.2
                    intro Q2 K2 hK2
                    simp only [XInv.puts, XPrint.pw]
                    refine XInv.no_want (by kernel_rfl) ?_
                    exact hK2.out undef w' ⟨bq, rfl, (by intros; first | rfl | trivial), hW⟩
                  · refine XInv.yes_tab [(247, 18)] (by kernel_rfl) ?_
                    have e0 := pw_cell_below hW V.out.2.1
                    have e2 := pw_cell_below hW V.out.2.2
                    intro Q2 K2 hK2
                    simp only [XInv.puts, XPrint.pw]
                    refine XInv.no_want (by kernel_rfl) ?_
                    exact hK2.out undef w' ⟨bq, rfl, (by intros; first | rfl | trivial), hW⟩
                  · refine XInv.yes_tab [(247, 18)] (by kernel_rfl) ?_
                    have e0 := pw_cell_below hW V.out.2.1
                    have e2 := pw_cell_below hW V.out.2.2
                    intro Q2 K2 hK2
                    simp only [XInv.puts, XPrint.pw]
                    refine XInv.no_want (by kernel_rfl) ?_
                    exact hK2.out undef w' ⟨bq, rfl, (by intros; first | rfl | trivial), hW⟩
                  · refine XInv.yes_tab [(255, 26), (254, 25), (247, 18)] (by kernel_rfl) ?_
                    have e0 := pw_cell_below hW V.out.2.1
                    have e2 := pw_cell_below hW V.out.2.2
                    intro Q2 K2 hK2
                    simp only [XInv.puts, XPrint.pw]
                    refine XInv.no_want (by kernel_rfl) ?_
                    exact hK2.out undef w' ⟨bq, rfl, (by intros; first | rfl | trivial), hW⟩
                  · refine XInv.yes_tab [(256, 27), (247, 18)] (by kernel_rfl) ?_
                    have e0 := pw_cell_below hW V.out.2.1
                    have e2 := pw_cell_below hW V.out.2.2
                    intro Q2 K2 hK2
                    simp only [XInv.puts, XPrint.pw]
                    refine XInv.no_want (by kernel_rfl) ?_
                    exact hK2.out undef w' ⟨bq, rfl, (by intros; first | rfl | trivial), hW⟩
                  · refine XInv.yes_tab [(257, 28), (247, 18)] (by kernel_rfl) ?_
                    have e0 := pw_cell_below hW V.out.2.1
                    have e2 := pw_cell_below hW V.out.2.2
                    intro Q2 K2 hK2
                    simp only [XInv.puts, XPrint.pw]
                    refine XInv.no_want (by kernel_rfl) ?_
                    exact hK2.out undef w' ⟨bq, rfl, (by intros; first | rfl | trivial), hW⟩
                  · refine XInv.yes_tab [(258, 29), (253, 24), (247, 18)] (by kernel_rfl) ?_
                    have e0 := pw_cell_below hW V.out.2.1
                    have e2 := pw_cell_below hW V.out.2.2
                    intro Q2 K2 hK2
                    simp only [XInv.puts, XPrint.pw]
                    refine XInv.no_want (by kernel_rfl) ?_
                    exact hK2.out undef w' ⟨bq, rfl, (by intros; first | rfl | trivial), hW⟩
                  · refine XInv.yes_tab [(259, 30), (247, 18), (244, 15)] (by kernel_rfl) ?_
                    have e0 := pw_cell_below hW V.out.2.1
                    have e2 := pw_cell_below hW V.out.2.2
                    intro Q2 K2 hK2
                    simp only [XInv.puts, XPrint.pw]
                    go_simp
                    exact hK2.out (.bool false) w' ⟨bq, rfl, (by intros; first | rfl | trivial), hW⟩
                  · refine XInv.yes_tab [(260, 31), (244, 15)] (by kernel_rfl) ?_
                    have e0 := pw_cell_below hW V.out.2.1
                    have e2 := pw_cell_below hW V.out.2.2
                    intro Q2 K2 hK2
                    simp only [XInv.puts, XPrint.pw]
                    go_simp
                    exact hK2.out (.bool false) w' ⟨bq, rfl, (by intros; first | rfl | trivial), hW⟩
                · intro bq w' hW
                  refine XInv.end_nil [(261, 32), (260, 31), (259, 30), (258, 29), (257, 28), (256, 27), (255, 26), (254, 25), (253, 24), (252, 23), (251, 22), (250, 21), (249, 20), (248, 19), (247, 18), (246, 17), (245, 16), (244, 15), (243, 14), (242, 13), (241, 12), (240, 11), (239, 10), (238, 9), (237, 8), (236, 7), (235, 6), (234, 5), (233, 4), (232, 3), (231, 2), (230, 1), (229, 0)] (by kernel_rfl) (by kernel_rfl) ?_
                  simp only [XInv.puts, XPrint.pw]
                  have G := Aside0.mk hW
                  clear hW
                  go_wp2
                  go_roundg (nb - (i + 1))
                  case measure => omega
                  case rel => exact ⟨i + 1, rfl, by go_num, by omega, below_step V.out.1 G.out⟩
              · obtain ⟨j1, hj1⟩ : ∃ j1, j1 + 1 = i := ⟨i - 1, by omega⟩
                obtain ⟨y0, f0, hy0⟩ := hprev j1 hj1
                have t3 : decide ((0 : Int) < (i : Int)) = true := decide_eq_true (by omega)
                have t4 : decide (0 < i) = true := decide_eq_true (by omega)
                have t5 : (0 : Int) < (i : Int) := by omega
                have t6 : decide (z0 ≤ y0) = false := decide_eq_false (by omega)
                have hw9 : IntKind.i64.wrap ((i : Int) - 1) = (j1 : Int) := by rw [IntKind.wrap_i64]; omega
                have hb1 : (0 : Int) ≤ (j1 : Int) := by omega
                have hb2 : (j1 : Int) < (nb : Int) := by omega
                have P0 := Aside0.mk f0
                have J1 := Aside0.mk hj1
                clear h0 hprev f0 hy0 hj1
                go_upto_region 48 with (fail)
                refine XInv.region_tab [] [[], [], [0, 1], [2], [3], [], [4, 5], [6], [7], [7], [8, 9, 7], [10, 7], [11, 7], [12, 7], [7, 13], [14, 7], [15], [16, 15], [17, 15, 15], [18], [18], [20, 18], [19, 21, 18], [22, 18], [23, 18], [18], [18], [25, 26, 18], [27, 18], [28, 18], [24, 29, 18], [18, 30, 15], [15, 31]] (fun bq jq => match jq with
                    | 0 => .slice (some ab) nb cb
                    | 1 => .int .i64 i
                    | 2 => .pointer (some (ab.add (i * 4)))
                    | 3 => .pointer (some (ab.add (i * 4)))
                    | 4 => .int .u32 z0
                    | 5 => .int .u32 last2
                    | 6 => .bool false
                    | 7 => .bool false
                    | 8 => .slice (some ab) nb cb
                    | 9 => .int .i64 i
                    | 10 => .pointer (some (ab.add (i * 4)))
                    | 11 => .pointer (some ⟨(ab.add (i * 4)).block, (ab.add (i * 4)).off + 2, none⟩)
                    | 12 => .int .u32 z2
                    | 13 => .bool false
                    | 14 => .bool false
                    | 15 => .bool false
                    | 16 => .int .i64 i
                    | 17 => .bool true
                    | 18 => .bool true
                    | 19 => .slice (some ab) nb cb
                    | 20 => .int .i64 i
                    | 21 => .int .i64 j1
                    | 22 => .pointer (some (ab.add (j1 * 4)))
                    | 23 => .pointer (some (ab.add (j1 * 4)))
                    | 24 => .int .u32 y0
                    | 25 => .slice (some ab) nb cb
                    | 26 => .int .i64 i
                    | 27 => .pointer (some (ab.add (i * 4)))
                    | 28 => .pointer (some (ab.add (i * 4)))
                    | 29 => .int .u32 z0
                    | 30 => .bool false
                    | 31 => .bool false
                    | 32 => .bool false
                    | _ => undef)
                    (fun bq l w' => Below wr.heap.size wr w')
                    (by kernel_rfl) rfl (by kernel_rfl) (by kernel_rfl) (by kernel_rfl) ⟨fun _ : Nat => (0 : Nat), below_drew (Below.refl _ _)⟩ ?_ ?_
                · refine cs33 _ ?_ ?_ ?_ ?_ ?_ ?_ ?_ ?_ ?_ ?_ ?_ ?_ ?_ ?_ ?_ ?_ ?_ ?_ ?_ ?_ ?_ ?_ ?_ ?_ ?_ ?_ ?_ ?_ ?_ ?_ ?_ ?_ ?_
                  all_goals intro hds oi hoi bq lb w' hW hlb hcl hneed hclo
                  all_goals clear hcl hneed hclo
                  all_goals simp only [List.getElem?_toArray, List.getElem?_cons_succ, List.getElem?_cons_zero, Option.some.injEq] at hoi
                  all_goals subst hoi
                  · refine XInv.yes_tab [] (by kernel_rfl) ?_
                    have e0 := pw_cell_below hW V.out.2.1
                    have e2 := pw_cell_below hW V.out.2.2
                    have f0 := pw_cell_below hW P0.out
                    intro Q2 K2 hK2
                    simp only [XInv.puts, XPrint.pw]
                    go_simp
                    exact hK2.out (.slice (some ab) nb cb) w' ⟨bq, rfl, (by intros; first | rfl | trivial), hW⟩
                  · refine XInv.yes_tab [] (by kernel_rfl) ?_
                    have e0 := pw_cell_below hW V.out.2.1
                    have e2 := pw_cell_below hW V.out.2.2
                    have f0 := pw_cell_below hW P0.out
                    intro Q2 K2 hK2
                    simp only [XInv.puts, XPrint.pw]
                    go_simp
                    exact hK2.out (.int .i64 i) w' ⟨bq, rfl, (by intros; first | rfl | trivial), hW⟩
                  · refine XInv.yes_tab [(230, 1), (229, 0)] (by kernel_rfl) ?_
                    have e0 := pw_cell_below hW V.out.2.1
                    have e2 := pw_cell_below hW V.out.2.2
                    have f0 := pw_cell_below hW P0.out
                    intro Q2 K2 hK2
                    simp only [XInv.puts, XPrint.pw]
                    go_simp
                    exact hK2.out (.pointer (some (ab.add (i * 4)))) w' ⟨bq, rfl, (by intros; first | rfl | trivial), hW⟩
                  · refine XInv.yes_tab [(231, 2)] (by kernel_rfl) ?_
                    have e0 := pw_cell_below hW V.out.2.1
                    have e2 := pw_cell_below hW V.out.2.2
                    have f0 := pw_cell_below hW P0.out
                    intro Q2 K2 hK2
                    simp only [XInv.puts, XPrint.pw]
                    go_simp
                    exact hK2.out (.pointer (some (ab.add (i * 4)))) w' ⟨bq, rfl, (by intros; first | rfl | trivial), hW⟩
                  · refine XInv.yes_tab [(232, 3)] (by kernel_rfl) ?_
                    have e0 := pw_cell_below hW V.out.2.1
                    have e2 := pw_cell_below hW V.out.2.2
                    have f0 := pw_cell_below hW P0.out
                    intro Q2 K2 hK2
                    simp only [XInv.puts, XPrint.pw]
                    go_simp
                    exact hK2.out (.int .u32 z0) w' ⟨bq, rfl, (by intros; first | rfl | trivial), hW⟩
                  · refine XInv.yes_tab [] (by kernel_rfl) ?_
                    have e0 := pw_cell_below hW V.out.2.1
                    have e2 := pw_cell_below hW V.out.2.2
                    have f0 := pw_cell_below hW P0.out
                    intro Q2 K2 hK2
                    simp only [XInv.puts, XPrint.pw]
                    go_simp
                    exact hK2.out (.int .u32 last2) w' ⟨bq, rfl, (by intros; first | rfl | trivial), hW⟩
                  · refine XInv.yes_tab [(234, 5), (233, 4)] (by kernel_rfl) ?_
                    have e0 := pw_cell_below hW V.out.2.1
                    have e2 := pw_cell_below hW V.out.2.2
                    have f0 := pw_cell_below hW P0.out
                    intro Q2 K2 hK2
                    simp only [XInv.puts, XPrint.pw]
                    go_simp
                    exact hK2.out (.bool false) w' ⟨bq, rfl, (by intros; first | rfl | trivial), hW⟩
                  · refine XInv.yes_tab [(235, 6)] (by kernel_rfl) ?_
                    have e0 := pw_cell_below hW V.out.2.1
                    have e2 := pw_cell_below hW V.out.2.2
                    have f0 := pw_cell_below hW P0.out
                    intro Q2 K2 hK2
                    simp only [XInv.puts, XPrint.pw]
                    go_simp
                    exact hK2.out (.bool false) w' ⟨bq, rfl, (by intros; first | rfl | trivial), hW⟩
                  · refine XInv.yes_tab [(236, 7)] (by kernel_rfl) ?_
                    have e0 := pw_cell_below hW V.out.2.1
                    have e2 := pw_cell_below hW V.out.2.2
                    have f0 := pw_cell_below hW P0.out
                    intro Q2 K2 hK2
                    simp only [XInv.puts, XPrint.pw]
                    go_simp
                    exact hK2.out (.slice (some ab) nb cb) w' ⟨bq, rfl, (by intros; first | rfl | trivial), hW⟩
                  · refine XInv.yes_tab [(236, 7)] (by kernel_rfl) ?_
                    have e0 := pw_cell_below hW V.out.2.1
                    have e2 := pw_cell_below hW V.out.2.2
                    have f0 := pw_cell_below hW P0.out
                    intro Q2 K2 hK2
                    simp only [XInv.puts, XPrint.pw]
                    go_simp
                    exact hK2.out (.int .i64 i) w' ⟨bq, rfl, (by intros; first | rfl | trivial), hW⟩
                  · refine XInv.yes_tab [(238, 9), (237, 8), (236, 7)] (by kernel_rfl) ?_
                    have e0 := pw_cell_below hW V.out.2.1
                    have e2 := pw_cell_below hW V.out.2.2
                    have f0 := pw_cell_below hW P0.out
                    intro Q2 K2 hK2
                    simp only [XInv.puts, XPrint.pw]
                    go_simp
                    exact hK2.out (.pointer (some (ab.add (i * 4)))) w' ⟨bq, rfl, (by intros; first | rfl | trivial), hW⟩
                  · refine XInv.yes_tab [(239, 10), (236, 7)] (by kernel_rfl) ?_
                    have e0 := pw_cell_below hW V.out.2.1
                    have e2 := pw_cell_below hW V.out.2.2
                    have f0 := pw_cell_below hW P0.out
                    intro Q2 K2 hK2
                    simp only [XInv.puts, XPrint.pw]
                    go_simp
                    exact hK2.out (.pointer (some ⟨(ab.add (i * 4)).block, (ab.add (i * 4)).off + 2, none⟩)) w' ⟨bq, rfl, (by intros; first | rfl | trivial), hW⟩
                  · refine XInv.yes_tab [(240, 11), (236, 7)] (by kernel_rfl) ?_
                    have e0 := pw_cell_below hW V.out.2.1
                    have e2 := pw_cell_below hW V.out.2.2
                    have f0 := pw_cell_below hW P0.out
                    intro Q2 K2 hK2
                    simp only [XInv.puts, XPrint.pw]
                    go_simp
                    exact hK2.out (.int .u32 z2) w' ⟨bq, rfl, (by intros; first | rfl | trivial), hW⟩
                  · refine XInv.yes_tab [(241, 12), (236, 7)] (by kernel_rfl) ?_
                    have e0 := pw_cell_below hW V.out.2.1
                    have e2 := pw_cell_below hW V.out.2.2
                    have f0 := pw_cell_below hW P0.out
                    intro Q2 K2 hK2
                    simp only [XInv.puts, XPrint.pw]
                    go_simp
                    exact hK2.out (.bool false) w' ⟨bq, rfl, (by intros; first | rfl | trivial), hW⟩
                  · refine XInv.yes_tab [(242, 13), (236, 7)] (by kernel_rfl) ?_
                    have e0 := pw_cell_below hW V.out.2.1
                    have e2 := pw_cell_below hW V.out.2.2
                    have f0 := pw_cell_below hW P0.out
                    intro Q2 K2 hK2
                    simp only [XInv.puts, XPrint.pw]
                    go_simp
                    exact hK2.out (.bool false) w' ⟨bq, rfl, (by intros; first | rfl | trivial), hW⟩
                  · refine XInv.yes_tab [(243, 14), (236, 7)] (by kernel_rfl) ?_
                    have e0 := pw_cell_below hW V.out.2.1
                    have e2 := pw_cell_below hW V.out.2.2
                    have f0 := pw_cell_below hW P0.out
                    intro Q2 K2 hK2
                    simp only [XInv.puts, XPrint.pw]
                    go_simp
                    exact hK2.out (.bool false) w' ⟨bq, rfl, (by intros; first | rfl | trivial), hW⟩
                  · refine XInv.yes_tab [(244, 15)] (by kernel_rfl) ?_
                    have e0 := pw_cell_below hW V.out.2.1
                    have e2 := pw_cell_below hW V.out.2.2
                    have f0 := pw_cell_below hW P0.out
                    intro Q2 K2 hK2
                    simp only [XInv.puts, XPrint.pw]
                    go_simp
                    exact hK2.out (.int .i64 i) w' ⟨bq, rfl, (by intros; first | rfl | trivial), hW⟩
                  · refine XInv.yes_tab [(245, 16), (244, 15)] (by kernel_rfl) ?_
                    have e0 := pw_cell_below hW V.out.2.1
                    have e2 := pw_cell_below hW V.out.2.2
                    have f0 := pw_cell_below hW P0.out
                    intro Q2 K2 hK2
                    simp only [XInv.puts, XPrint.pw]
                    go_simp
                    exact hK2.out (.bool true) w' ⟨bq, rfl, (by intros; first | rfl | trivial), hW⟩
                  · refine XInv.yes_tab [(246, 17), (244, 15)] (by kernel_rfl) ?_
                    have e0 := pw_cell_below hW V.out.2.1
                    have e2 := pw_cell_below hW V.out.2.2
                    have f0 := pw_cell_below hW P0.out
                    intro Q2 K2 hK2
                    simp only [XInv.puts, XPrint.pw]
                    go_simp
                    exact hK2.out (.bool true) w' ⟨bq, rfl, (by intros; first | rfl | trivial), hW⟩
                  · refine XInv.yes_tab [(247, 18)] (by kernel_rfl) ?_
                    have e0 := pw_cell_below hW V.out.2.1
                    have e2 := pw_cell_below hW V.out.2.2
                    have f0 := pw_cell_below hW P0.out
                    intro Q2 K2 hK2
                    simp only [XInv.puts, XPrint.pw]
                    go_simp
                    exact hK2.out (.slice (some ab) nb cb) w' ⟨bq, rfl, (by intros; first | rfl | trivial), hW⟩
                  · refine XInv.yes_tab [(247, 18)] (by kernel_rfl) ?_
                    have e0 := pw_cell_below hW V.out.2.1
                    have e2 := pw_cell_below hW V.out.2.2
                    have f0 := pw_cell_below hW P0.out
                    intro Q2 K2 hK2
                    simp only [XInv.puts, XPrint.pw]
                    go_simp
                    exact hK2.out (.int .i64 i) w' ⟨bq, rfl, (by intros; first | rfl | trivial), hW⟩
                  · refine XInv.yes_tab [(249, 20), (247, 18)] (by kernel_rfl) ?_
                    have e0 := pw_cell_below hW V.out.2.1
                    have e2 := pw_cell_below hW V.out.2.2
                    have f0 := pw_cell_below hW P0.out
                    intro Q2 K2 hK2
                    simp only [XInv.puts, XPrint.pw]
                    go_simp
                    exact hK2.out (.int .i64 j1) w' ⟨bq, rfl, (by intros; first | rfl | trivial), hW⟩
                  · refine XInv.yes_tab [(250, 21), (248, 19), (247, 18)] (by kernel_rfl) ?_
                    have e0 := pw_cell_below hW V.out.2.1
                    have e2 := pw_cell_below hW V.out.2.2
                    have f0 := pw_cell_below hW P0.out
                    intro Q2 K2 hK2
                    simp only [XInv.puts, XPrint.pw]
                    go_simp
                    exact hK2.out (.pointer (some (ab.add (j1 * 4)))) w' ⟨bq, rfl, (by intros; first | rfl | trivial), hW⟩
                  · refine XInv.yes_tab [(251, 22), (247, 18)] (by kernel_rfl) ?_
                    have e0 := pw_cell_below hW V.out.2.1
                    have e2 := pw_cell_below hW V.out.2.2
                    have f0 := pw_cell_below hW P0.out
                    intro Q2 K2 hK2
                    simp only [XInv.puts, XPrint.pw]
                    go_simp
                    exact hK2.out (.pointer (some (ab.add (j1 * 4)))) w' ⟨bq, rfl, (by intros; first | rfl | trivial), hW⟩
                  · refine XInv.yes_tab [(252, 23), (247, 18)] (by kernel_rfl) ?_
                    have e0 := pw_cell_below hW V.out.2.1
                    have e2 := pw_cell_below hW V.out.2.2
                    have f0 := pw_cell_below hW P0.out
                    intro Q2 K2 hK2
                    simp only [XInv.puts, XPrint.pw]
                    go_simp
                    exact hK2.out (.int .u32 y0) w' ⟨bq, rfl, (by intros; first | rfl | trivial), hW⟩
                  · refine XInv.yes_tab [(247, 18)] (by kernel_rfl) ?_
                    have e0 := pw_cell_below hW V.out.2.1
                    have e2 := pw_cell_below hW V.out.2.2
                    have f0 := pw_cell_below hW P0.out
                    intro Q2 K2 hK2
                    simp only [XInv.puts, XPrint.pw]
                    go_simp
                    exact hK2.out (.slice (some ab) nb cb) w' ⟨bq, rfl, (by intros; first | rfl | trivial), hW⟩
                  · refine XInv.yes_tab [(247, 18)] (by kernel_rfl) ?_
                    have e0 := pw_cell_below hW V.out.2.1
                    have e2 := pw_cell_below hW V.out.2.2
                    have f0 := pw_cell_below hW P0.out
                    intro Q2 K2 hK2
                    simp only [XInv.puts, XPrint.pw]
                    go_simp
                    exact hK2.out (.int .i64 i) w' ⟨bq, rfl, (by intros; first | rfl | trivial), hW⟩
                  · refine XInv.yes_tab [(255, 26), (254, 25), (247, 18)] (by kernel_rfl) ?_
                    have e0 := pw_cell_below hW V.out.2.1
                    have e2 := pw_cell_below hW V.out.2.2
                    have f0 := pw_cell_below hW P0.out
                    intro Q2 K2 hK2
                    simp only [XInv.puts, XPrint.pw]
                    go_simp
                    exact hK2.out (.pointer (some (ab.add (i * 4)))) w' ⟨bq, rfl, (by intros; first | rfl | trivial), hW⟩
                  · refine XInv.yes_tab [(256, 27), (247, 18)] (by kernel_rfl) ?_
                    have e0 := pw_cell_below hW V.out.2.1
                    have e2 := pw_cell_below hW V.out.2.2
                    have f0 := pw_cell_below hW P0.out
                    intro Q2 K2 hK2
                    simp only [XInv.puts, XPrint.pw]
                    go_simp
                    exact hK2.out (.pointer (some (ab.add (i * 4)))) w' ⟨bq, rfl, (by intros; first | rfl | trivial), hW⟩
                  · refine XInv.yes_tab [(257, 28), (247, 18)] (by kernel_rfl) ?_
                    have e0 := pw_cell_below hW V.out.2.1
                    have e2 := pw_cell_below hW V.out.2.2
                    have f0 := pw_cell_below hW P0.out
                    intro Q2 K2 hK2
                    simp only [XInv.puts, XPrint.pw]
                    go_simp
                    exact hK2.out (.int .u32 z0) w' ⟨bq, rfl, (by intros; first | rfl | trivial), hW⟩
                  · refine XInv.yes_tab [(258, 29), (253, 24), (247, 18)] (by kernel_rfl) ?_
                    have e0 := pw_cell_below hW V.out.2.1
                    have e2 := pw_cell_below hW V.out.2.2
                    have f0 := pw_cell_below hW P0.out
                    intro Q2 K2 hK2
                    simp only [XInv.puts, XPrint.pw]
                    go_simp
                    exact hK2.out (.bool false) w' ⟨bq, rfl, (by intros; first | rfl | trivial), hW⟩
                  · refine XInv.yes_tab [(259, 30), (247, 18), (244, 15)] (by kernel_rfl) ?_
                    have e0 := pw_cell_below hW V.out.2.1
                    have e2 := pw_cell_below hW V.out.2.2
                    have f0 := pw_cell_below hW P0.out
                    intro Q2 K2 hK2
                    simp only [XInv.puts, XPrint.pw]
                    go_simp
                    exact hK2.out (.bool false) w' ⟨bq, rfl, (by intros; first | rfl | trivial), hW⟩
                  · refine XInv.yes_tab [(260, 31), (244, 15)] (by kernel_rfl) ?_
                    have e0 := pw_cell_below hW V.out.2.1
                    have e2 := pw_cell_below hW V.out.2.2
                    have f0 := pw_cell_below hW P0.out
                    intro Q2 K2 hK2
                    simp only [XInv.puts, XPrint.pw]
                    go_simp
                    exact hK2.out (.bool false) w' ⟨bq, rfl, (by intros; first | rfl | trivial), hW⟩
                · intro bq w' hW
                  refine XInv.end_nil [(261, 32), (260, 31), (259, 30), (258, 29), (257, 28), (256, 27), (255, 26), (254, 25), (253, 24), (252, 23), (251, 22), (250, 21), (249, 20), (248, 19), (247, 18), (246, 17), (245, 16), (244, 15), (243, 14), (242, 13), (241, 12), (240, 11), (239, 10), (238, 9), (237, 8), (236, 7), (235, 6), (234, 5), (233, 4), (232, 3), (231, 2), (230, 1), (229, 0)] (by kernel_rfl) (by kernel_rfl) ?_
                  simp only [XInv.puts, XPrint.pw]
                  have G := Aside0.mk hW
                  clear hW
                  go_wp2
                  clear hw9
                  go_roundg (nb - (i + 1))
                  case measure => omega
                  case rel => exact ⟨i + 1, rfl, by go_num, by omega, below_step V.out.1 G.out⟩
          · as_aux_lemma =>
              have hlti' : ¬ (i : Int) < (nb : Int) := by omega
              have V := Aside0.mk hBi
              clear hBi
              go_wp2
              go_roundg (l.length - (j + 1))
              case measure => omega
              case rel => exact ⟨j + 1, ns2, v2, bx2, last2, rfl, by go_num, by omega, rfl, by have := X.out.2; omega, W.out.1.same V.out⟩
  · have hlt' : ¬ (j : Int) < (l.length : Int) := by omega
    have X := Aside0.mk hS
    clear hS
    go_wp2_with fail
    refine (head wr).mono ?_
    rintro e w3 ⟨rfl, hb⟩
    have Y := Aside0.mk hb
    clear hb
    dsimp only
    go_wp2
    go_ret
    exact ⟨rfl, below_step (below_then HA.out.2.2.2.2.2.1 HA.out.2.2.2.2.2.1.size X.out.below) Y.out⟩
end Go.Proofs.Ythibppfdonepoaa.LedT
