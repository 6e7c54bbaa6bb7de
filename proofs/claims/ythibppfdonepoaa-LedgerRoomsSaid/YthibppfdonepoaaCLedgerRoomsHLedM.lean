/- ledger.Ledger: Give. -/
import Derived.Test.YthibppfdonepoaaCLedgerRoomsHLedL
import Derived.Laws.LoneSync
set_option linter.unusedVariables false
set_option linter.unusedSimpArgs false
namespace Go.Proofs.Ythibppfdonepoaa.LedT
open Go.RowKit Go.MapKept Go.Maps Go.ChangeMaps Go.Proofs.Ythibppfdonepoaa.XBut Go.Proofs.Ythibppfdonepoaa.XMap Go.Proofs.Ythibppfdonepoaa.NodeT Go.Proofs.YthibppfdonepoaaW.PrintWords Go.Proofs.YthibppfdonepoaaW.PrintLast
set_option maxHeartbeats 4000000 in
set_option maxRecDepth 100000 in
theorem add (p : Nat) (n d : Int) (w : World) (hc : w.cell? ⟨p, 2, none⟩ = some (.int .u32 n)) (hz : w.frozen? ⟨p, 2, none⟩ = false) : Calls Try.prog 107 #[.pointer (some ⟨p, 2, none⟩), .int .u32 d] w fun e w' => e = .returned (.int .u32 (IntKind.u32.wrap (n + d))) ∧ w' = w.setCell ⟨p, 2, none⟩ (.int .u32 (IntKind.u32.wrap (n + d))) := by
  obtain ⟨r, hr⟩ : ∃ r, IntKind.u32.wrap (n + d) = r := ⟨_, rfl⟩
  have R0 := Aside0.mk hr
  rw [hr]
  clear hr
  go_enter Try.func107, Try.ntmps107
  go_wp2
  rw [run_call_add Try.func142 (by kernel_rfl) (by kernel_rfl) (by kernel_rfl) .u32 (by kernel_rfl) (s := r) hc hz (by rw [← R0.out]; simp [Op.intArith, go_sem])]
  go_wp2
  go_ret
  exact ⟨rfl, rfl⟩
theorem LG.len {u0 u1 : Int} {ns : List Nd} {bx : List Bx} {last : Int} (h : LG u0 u1 ns bx last) : bx.length ≤ 131072 ∧ 0 ≤ freeN u0 u1 ns bx ∧ freeN u0 u1 ns bx ≤ 131072 := by
  have h1 := h.free_nonneg
  have h2 := h.nodes.total
  unfold freeN at h1 ⊢
  omega
/-- Where no node has room more, all is given. -/
theorem LG.full {u0 u1 : Int} {ns : List Nd} {bx : List Bx} {last : Int} (h : LG u0 u1 ns bx last) {o : Int} (s : Bool) (ho : o ≠ 0) {m N : Nat} (hm : m ≤ N) (hN : (N : Int) ≤ freeN u0 u1 ns bx) (hr : ∀ x ∈ ns, roomN u0 u1 ns (bx ++ LedT.grow u0 u1 ns bx last o s m) x.f0 ≤ 0) : m = N := by
  have h1 := (h.grow o s ho m (by omega)).free
  have h2 := sumU_nonpos (U := fun x => roomN u0 u1 ns (bx ++ LedT.grow u0 u1 ns bx last o s m) x.f0) hr
  rw [h1] at h2
  unfold freeN at h2 hN
  rw [List.length_append, grow_len] at h2
  omega
/-- Give's loops. -/
structure GS (w2 wr : World) (base p b g : Nat) (u0 u1 : Int) (ns : List Nd) (v : Value) (bx : List Bx) (last o : Int) (s : Bool) (N : Nat) (vo : Value) (m : Nat) (near near2 : List Nd) : Prop where
  but : But (fun k => k = p) w2 wr
  led : LedAt wr base p b g u0 u1 ns v bx (last + m)
  row : RB wr w2.heap.size vo (grow u0 u1 ns bx last o s m)
  le : m ≤ N
  full : m = N ∨ ∀ x ∈ near, roomN u0 u1 ns (bx ++ grow u0 u1 ns bx last o s m) x.f0 ≤ 0
  on : ∀ y ∈ grow u0 u1 ns bx last o s m, ∃ x ∈ near2, y.f1 = x.f0
theorem led_put {w : World} {base p b g N : Nat} {u0 u1 : Int} {ns : List Nd} {v0 v' : Value} {bx' : List Bx} {last : Int} (hT : TabAt w base b g u0 u1 ns) (hk : w.heap[p]? = some (.cells #[.pointer (some ⟨b, 0, none⟩), v0, .int .u32 last] 129 (0, 0))) (hne : p ≠ b ∧ p ≠ g ∧ base ≤ p) (hR : RB w N v' bx') (hB : base ≤ N) (ho : ∀ k, v'.ownBlock = some k → k ≠ b ∧ k ≠ g ∧ k ≠ p) : LedAt (w.setCell ⟨p, 1, none⟩ v') base p b g u0 u1 ns v' bx' last := by
  have hb : But (fun k => k = p) w (w.setCell ⟨p, 1, none⟩ v') := (But.refl (fun k => k = p) w).setCell (b := p) rfl 1 v'
  exact ⟨hT.but hb (fun e => hne.1 e.symm) (fun e => hne.2.1 e.symm), by simpa using blk_set hk 1 v', Kd.R_lower (Kd.R_step hR (fun k hk hlt => hb.block k hlt (ho k hk).2.2)) hB, ho, hne⟩
theorem GS.below {w2 wr w' : World} {base p b g : Nat} {u0 u1 : Int} {ns : List Nd} {v : Value} {bx : List Bx} {last o : Int} {s : Bool} {N : Nat} {vo : Value} {m : Nat} {near near2 : List Nd} (h : GS w2 wr base p b g u0 u1 ns v bx last o s N vo m near near2) (hb : Below wr.heap.size wr w') : GS w2 w' base p b g u0 u1 ns v bx last o s N vo m near near2 :=
  ⟨h.but.trans (But.of_below hb), h.led.below hb, Kd.R_below h.row hb, h.le, h.full, h.on⟩
theorem GS.wide {w2 wr : World} {base p b g : Nat} {u0 u1 : Int} {ns : List Nd} {v : Value} {bx : List Bx} {last o : Int} {s : Bool} {N : Nat} {vo : Value} {m : Nat} {near near2 near2' : List Nd} (h : GS w2 wr base p b g u0 u1 ns v bx last o s N vo m near near2) (hs : ∀ x ∈ near2, x ∈ near2') : GS w2 wr base p b g u0 u1 ns v bx last o s N vo m near near2' :=
  ⟨h.but, h.led, h.row, h.le, h.full, fun y hy => by obtain ⟨x, hx, e⟩ := h.on y hy; exact ⟨x, hs x hx, e⟩⟩
/-- A node that none of the boxes given is on has the room it had. -/
theorem GS.room {w2 wr : World} {base p b g : Nat} {u0 u1 : Int} {ns : List Nd} {v : Value} {bx : List Bx} {last o : Int} {s : Bool} {N : Nat} {vo : Value} {m j : Nat} (h : GS w2 wr base p b g u0 u1 ns v bx last o s N vo m (ns.take j) (ns.take j)) (hG : LG u0 u1 ns bx last) (hj : j < ns.length) : roomN u0 u1 ns (bx ++ grow u0 u1 ns bx last o s m) ns[j].f0 = roomN u0 u1 ns bx ns[j].f0 := by
  have hw := who_of hG.nodes.rising (List.getElem_mem hj)
  rw [room_some hw, room_some hw, onN_append]
  have : onN (grow u0 u1 ns bx last o s m) ns[j].f0 = [] := List.filter_eq_nil_iff.2 fun y hy e => by
    obtain ⟨x, hx, e2⟩ := h.on y hy
    obtain ⟨i, hi, rfl⟩ := List.mem_iff_getElem.1 hx
    rw [List.getElem_take] at e2
    have hi2 : i < j := by rw [List.length_take] at hi; omega
    have h3 := List.pairwise_iff_getElem.1 hG.nodes.rising i j (by omega) hj hi2
    have h4 : y.f1 = ns[j].f0 := by simpa using e
    omega
  rw [this, List.append_nil]
theorem GS.next {w2 wr w' : World} {base p b g : Nat} {u0 u1 : Int} {ns : List Nd} {v : Value} {bx : List Bx} {last o : Int} {s : Bool} {N : Nat} {vo : Value} {m j : Nat} (h : GS w2 wr base p b g u0 u1 ns v bx last o s N vo m (ns.take j) (ns.take (j + 1))) (hG : LG u0 u1 ns bx last) (hj : j < ns.length) (hm : m < N) (hr : 0 < roomN u0 u1 ns (bx ++ grow u0 u1 ns bx last o s m) ns[j].f0)
    (v1 : Value) (hb : But (fun k => k = p) w2 w') (hL : LedAt w' base p b g u0 u1 ns v bx (last + m + 1)) (hR : RB w' w2.heap.size v1 (grow u0 u1 ns bx last o s m ++ [⟨last + m + 1, ns[j].f0, o, s⟩])) :
    GS w2 w' base p b g u0 u1 ns v bx last o s N v1 (m + 1) (ns.take j) (ns.take (j + 1)) ∧ roomN u0 u1 ns (bx ++ grow u0 u1 ns bx last o s (m + 1)) ns[j].f0 = roomN u0 u1 ns (bx ++ grow u0 u1 ns bx last o s m) ns[j].f0 - 1 := by
  have hf : ∀ x ∈ ns.take j, roomN u0 u1 ns (bx ++ grow u0 u1 ns bx last o s m) x.f0 ≤ 0 := h.full.resolve_left (by omega)
  have hp := placeN_at j hj hf hr
  have hg : grow u0 u1 ns bx last o s (m + 1) = grow u0 u1 ns bx last o s m ++ [⟨last + m + 1, ns[j].f0, o, s⟩] := by rw [grow, hp]
  refine ⟨⟨hb, by rw [show last + ((m + 1 : Nat) : Int) = last + m + 1 by omega]; exact hL, by rw [hg]; exact hR, hm, .inr fun x hx => ?_, fun y hy => ?_⟩, ?_⟩
  · rw [hg, ← List.append_assoc, room_put _ _ _ (by rw [who_of hG.nodes.rising (List.mem_of_mem_take hx)]; rfl)]
    have := hf x hx
    split <;> omega
  · rw [hg] at hy
    rcases List.mem_append.1 hy with hy | hy
    · exact h.on y hy
    · refine ⟨ns[j], ?_, by rw [List.mem_singleton.1 hy]⟩
      rw [List.take_add_one, List.getElem?_eq_getElem hj]
      exact List.mem_append_right _ (by simp)
  · rw [hg, ← List.append_assoc, room_put _ _ _ (by rw [who_of hG.nodes.rising (List.getElem_mem hj)]; rfl), if_pos rfl]
/-- A node is done. -/
theorem GS.done {w2 wr : World} {base p b g : Nat} {u0 u1 : Int} {ns : List Nd} {v : Value} {bx : List Bx} {last o : Int} {s : Bool} {N : Nat} {vo : Value} {m j : Nat} (h : GS w2 wr base p b g u0 u1 ns v bx last o s N vo m (ns.take j) (ns.take (j + 1))) (hj : j < ns.length) (hr : m = N ∨ roomN u0 u1 ns (bx ++ grow u0 u1 ns bx last o s m) ns[j].f0 = 0) : GS w2 wr base p b g u0 u1 ns v bx last o s N vo m (ns.take (j + 1)) (ns.take (j + 1)) := by
  refine ⟨h.but, h.led, h.row, h.le, ?_, h.on⟩
  rcases hr with hr | hr
  · exact .inl hr
  · rcases h.full with hf | hf
    · exact .inl hf
    · refine .inr fun x hx => ?_
      rw [List.take_add_one, List.getElem?_eq_getElem hj] at hx
      rcases List.mem_append.1 hx with hx | hx
      · exact hf x hx
      · rw [show x = ns[j] by simpa using hx]
        omega
theorem LedAt.low {w w' : World} {base p b g N : Nat} {u0 u1 : Int} {ns : List Nd} {v : Value} {bx : List Bx} {last : Int} (h : LedAt w base p b g u0 u1 ns v bx last) (hb : Below N w w') (hp : p < N) (hb2 : b < N) (hg : g < N) (hv : ∀ k, v.ownBlock = some k → k < N) : LedAt w' base p b g u0 u1 ns v bx last :=
  h.but (T := fun k => N ≤ k) ⟨hb.os, hb.tape, hb.output, hb.size, fun k hk hn => hb.block k (by omega)⟩ (by omega) (by omega) (by omega) (fun k hk => by have := hv k hk; omega)
set_option maxHeartbeats 16000000 in
set_option maxRecDepth 100000 in
theorem lgive_ok {base p b g : Nat} {u0 u1 : Int} {ns : List Nd} {v : Value} {bx : List Bx} {last : Int} (o n : Int) (s : Bool) (w : World) (h : LedAt w base p b g u0 u1 ns v bx last) (hG : LG u0 u1 ns bx last) (hla : last ≤ 4000000000) (hm : mayc o n ≠ 2) (hf : ¬ freeN u0 u1 ns bx < n) :
    Calls Try.prog 54 #[.pointer (some ⟨p, 0, none⟩), .int .u32 o, .bool s, .int .i64 n] w fun e w' => ∃ vo v', e = .returned (.tuple #[vo, .int .i64 0]) ∧ LedAt w' base p b g u0 u1 ns v' (bx ++ grow u0 u1 ns bx last o s n.toNat) (last + n.toNat) ∧ RB w' w.heap.size vo (grow u0 u1 ns bx last o s n.toNat) ∧ (∀ k, vo.ownBlock = some k → v'.ownBlock ≠ some k) ∧ But (fun k => k = p ∨ v.ownBlock = some k) w w' ∧ (∀ k, v'.ownBlock = some k → v.ownBlock = some k ∨ w.heap.size ≤ k) := by
  have hu39 := Try.underlying39
  have hu113 := Try.underlying113
  obtain ⟨A, c, rfl⟩ := Kd.R_slice h.row
  obtain ⟨bl, hbl⟩ : ∃ bl, bx.length = bl := ⟨_, rfl⟩
  rw [hbl] at h ⊢
  have hz := mayc_zero hm
  have hm0 : mayc o n = 0 := (mayc_cases o n).resolve_left hm
  have hlen := hG.len
  have MY := may_at p b o n w h.cells.1
  rw [hm0] at MY
  have MY := Aside0.mk MY
  have FR := free w h hG.nodes (by omega)
  have FE : Aside0 ((n.toNat : Int) ≤ freeN u0 u1 ns bx) := ⟨by omega⟩
  obtain ⟨fr, hfr⟩ : ∃ fr, freeN u0 u1 ns bx = fr := ⟨_, rfl⟩
  rw [hfr] at FR hf
  have FR := Aside0.mk FR
  have t1 : decide (fr < n) = false := decide_eq_false hf
  have hnl : (ns.length : Int) ≤ 32 := by have := hG.nodes.len; omega
  obtain ⟨N, hN⟩ : ∃ N : Nat, n = N := ⟨n.toNat, by omega⟩
  subst hN
  have hNN : (N : Int) ≤ 1048576 := hz.2.2
  have ho := Aside0.mk hz.1
  have eN : ((N : Int)).toNat = N := by simp
  rw [eN] at FE ⊢
  have H := Aside0.mk (And.intro h (And.intro hG (And.intro hla hbl)))
  have c0 := h.cells.1
  clear h hG hla hbl hz hm hm0 hlen hfr hf eN
  go_enter Try.func54, Try.ntmps54
  go_wp2_with fail
  refine MY.out.mono ?_
  rintro e wz ⟨rfl, hz⟩
  obtain rfl := hz.symm
  clear hz MY
  dsimp only
  go_wp2_with fail
  refine FR.out.mono ?_
  rintro e w1 ⟨rfl, hb1⟩
  have c0 := pw_cell_below hb1 c0
  have B1 := Aside0.mk hb1
  clear hb1 FR
  dsimp only
  go_wp2_with fail
  refine (nodes base b g u0 u1 ns w1 (H.out.1.below B1.out).tab (by omega)).mono ?_
  rintro e w2 ⟨vn, rfl, hRn, hb2⟩
  obtain ⟨An, cn, rfl⟩ := Kd.R_slice hRn
  have B2 := below_step B1.out hb2
  have L2 := H.out.1.below B2
  have hp2 := L2.lt
  have hpw := H.out.1.lt
  have hs1 := B1.out.size
  have hs2 := hb2.size
  have Y := Aside0.mk (And.intro hRn (And.intro B2 (And.intro L2 (And.intro hp2 (And.intro hpw (And.intro hs1 hs2))))))
  clear hRn hb2 B2 L2 hp2 hpw hs1 hs2 c0 B1
  dsimp only
  go_wp2_with fail
  go_loopg [11, 32] ns.length (fun kk v11 v32 wr => ∃ j m : Nat, kk = ns.length - j ∧ v32 = .int .i64 j ∧ j ≤ ns.length ∧ GS w2 wr base p b g u0 u1 ns (.slice A bl c) bx last o s N v11 m (ns.take j) (ns.take j))
  case atStart => exact ⟨0, 0, rfl, rfl, Nat.zero_le _, ⟨But.refl _ _, by simpa using Y.out.2.2.1, Kd.R_nil _ _ _ _ _, Nat.zero_le _, .inr (by simp), fun y hy => (by cases hy)⟩⟩
  obtain ⟨j, m, rfl, rfl, hj, hS⟩ := hrel
  obtain ⟨Ao, co, rfl⟩ := Kd.R_slice hS.row
  by_cases hlt : j < ns.length
  · have RN := R_but Y.out.1 hS.but (fun k hk => by have := Y.out.2.2.2.2.1.1; have := Y.out.2.2.2.2.2.1; omega)
    obtain ⟨ad, rfl, d0, d1, d2⟩ := PNodePlays.at_T39 (Kd.R_reads' RN).2.2 (j : Int) (by omega) (by omega)
    have ej : (j : Int).toNat = j := by simp
    have er : PNodePlays.rd_T39 ns (j : Int) = ns[j] := by unfold PNodePlays.rd_T39; rw [ej, List.getD_eq_getElem?_getD, List.getElem?_eq_getElem hlt]; rfl
    rw [er, ej] at d0 d1 d2
    have hroom := hS.room H.out.2.1 hlt
    have hmem : ns[j] ∈ ns := List.getElem_mem hlt
    have hall := H.out.2.1.nodes.all _ hmem
    have hwho := who_of H.out.2.1.nodes.rising hmem
    have hrn := H.out.2.1.room ns[j].f0
    obtain ⟨x, hx⟩ : ∃ x, ns[j] = x := ⟨_, rfl⟩
    rw [hx] at d0 d1 d2 hroom hall hwho hrn
    obtain ⟨r0, hr0⟩ : ∃ r0 : Nat, roomN u0 u1 ns bx x.f0 = r0 := ⟨_, (Int.toNat_of_nonneg hrn).symm⟩
    have hwf : (Lit.int .u32 x.f0).wf = true := by simp [Lit.wf, IntKind.min, IntKind.max, IntKind.signed, IntKind.bits]; omega
    have RC := Aside0.mk (fun w' (hL : LedAt w' base p b g u0 u1 ns (.slice A bl c) bx (last + m)) => room_yes w' x.f0 hL H.out.2.1.nodes (by have := H.out.2.1.len; omega) hwf x hwho)
    have rub : (r0 : Int) ≤ 4096 := by rw [← hr0, room_some hwho]; have := hall.2.2; omega
    rw [hr0] at RC hroom
    have hlt' : (j : Int) < (ns.length : Int) := by omega
    have X := Aside0.mk (And.intro hS (And.intro hroom hx))
    obtain ⟨x0, x1, x2⟩ := x
    dsimp only at d0 d1 d2 RC
    clear hS RN er ej hroom hmem hall hwho hrn hr0 hwf hx
    go_wp2_with fail
    obtain ⟨W4, hW4⟩ : ∃ W4, wr.alloc (.cells #[.int .u32 x0, .int .i64 x1, .int .i64 x2] 39) = W4 := ⟨_, rfl⟩
    have hB4 : Below wr.heap.size wr W4 := by rw [← hW4]; exact below_alloc (Below.refl _ _) _
    have k4 : W4.heap[wr.heap.size]? = some (.cells #[.int .u32 x0, .int .i64 x1, .int .i64 x2] 39 (0, 0)) := by rw [← hW4]; exact blk_new wr _
    rw [hW4]
    refine (RC.out _ (X.out.1.led.below hB4)).mono ?_
    rintro e w5 ⟨rfl, hb5⟩
    have K5 := blk_below k4 hb5
    have S5 := (X.out.1.below (below_step hB4 hb5)).wide (near2' := ns.take (j + 1)) (fun x hx => by rw [List.take_add_one]; exact List.mem_append_left _ hx)
    have Z := Aside0.mk (And.intro K5 S5)
    have hxb : w2.heap.size ≤ wr.heap.size := X.out.1.but.size
    have hr5 := X.out.2.1
    have hx5 := X.out.2.2
    obtain ⟨xb, hxe⟩ : ∃ xb, wr.heap.size = xb := ⟨_, rfl⟩
    rw [hxe] at hxb Z ⊢
    have XX := Aside0.mk (And.intro hr5 (And.intro hx5 hxb))
    clear hr5 hx5 hxb hxe X
    clear hB4 k4 hb5 K5 S5 d0 d1 d2 RC hW4
    dsimp only
    go_wp2_with fail
    go_loopg [11, 14] r0 (fun kk v11 v14 wq => ∃ m r : Nat, r = kk ∧ v14 = .int .i64 r ∧ r ≤ r0 ∧ roomN u0 u1 ns (bx ++ grow u0 u1 ns bx last o s m) x0 = r ∧ wq.heap[xb]? = some (.cells #[.int .u32 x0, .int .i64 x1, .int .i64 x2] 39 (0, 0)) ∧ GS w2 wq base p b g u0 u1 ns (.slice A bl c) bx last o s N v11 m (ns.take j) (ns.take (j + 1)))
    case atStart => exact ⟨m, r0, rfl, rfl, Nat.le_refl _, XX.out.1, Z.out.1, Z.out.2⟩
    obtain ⟨m2, r, rfl, rfl, hrr, hrm, hk, hS⟩ := hrel
    obtain ⟨Ao2, co2, rfl⟩ := Kd.R_slice hS.row
    have hml : (grow u0 u1 ns bx last o s m2).length = m2 := grow_len ..
    rw [hml] at hS ⊢
    have hmN := hS.le
    have Q := Aside0.mk (And.intro hS (And.intro hk (And.intro hrm hrr)))
    clear hS hk hrm hml Z hrr
    rcases Nat.eq_zero_or_pos r with h0 | h0
    · have tr : decide ((0 : Int) < (r : Int)) = false := decide_eq_false (by omega)
      have tr2 : decide (0 < r) = false := decide_eq_false (by omega)
      have tr3 : ¬ (0 : Int) < (r : Int) := by omega
      have R0 := Aside0.mk h0
      clear h0
      go_wp2
      go_roundg (ns.length - (j + 1))
      case measure => omega
      case rel => exact ⟨j + 1, m2, rfl, by go_num, by omega, Q.out.1.done hlt (.inr (by have := Q.out.2.2.1; rw [R0.out] at this; rw [XX.out.2.1]; exact this))⟩
    · have tr : decide ((0 : Int) < (r : Int)) = true := decide_eq_true (by omega)
      have tr2 : decide (0 < r) = true := decide_eq_true (by omega)
      have tr3 : (0 : Int) < (r : Int) := by omega
      by_cases hmm : m2 < N
      · have tm : decide ((m2 : Int) < (N : Int)) = true := decide_eq_true (by omega)
        have tm2 : decide (m2 < N) = true := decide_eq_true hmm
        have tm3 : (m2 : Int) < (N : Int) := by omega
        have hlow := H.out.2.1.low
        have hla := H.out.2.2.1
        obtain ⟨l1, hl1⟩ : ∃ l1, last + (m2 : Int) + 1 = l1 := ⟨_, rfl⟩
        have hw1 : IntKind.u32.wrap (last + (m2 : Int) + 1) = l1 := by rw [IntKind.wrap_u32]; omega
        have AD : Aside0 (∀ w', LedAt w' base p b g u0 u1 ns (.slice A bl c) bx (last + m2) → Calls Try.prog 107 #[.pointer (some ⟨p, 2, none⟩), .int .u32 1] w' fun e w'' => e = .returned (.int .u32 l1) ∧ But (fun k => k = p) w' w'' ∧ LedAt w'' base p b g u0 u1 ns (.slice A bl c) bx l1) := ⟨fun w' hL => by
          have h := add p (last + m2) 1 w' hL.cells.2.2 (blk_frozen hL.blk 2)
          rw [hw1] at h
          refine h.mono ?_
          rintro e w'' ⟨h1, rfl⟩
          exact ⟨h1, (But.refl (fun k => k = p) w').setCell (b := p) rfl 2 _, hL.number l1⟩⟩
        have NE : Aside0 (xb ≠ p) := ⟨by have := Y.out.2.2.2.1.1; have := XX.out.2.2; omega⟩
        have LE1 := Aside0.mk hl1
        have MM := Aside0.mk hmm
        have R0 := Aside0.mk h0
        clear hlow hla hl1 hw1 h0 hmm
        go_upto_region 13 with (fail)
        refine XInv.region_tab [] [[], [], [1], [2], [3], [], [5], [], [], [4, 6, 7, 8], [9], [0, 10, 4], [11, 11, 0, 1, 2, 3, 4, 5, 6, 7, 8, 9, 10, 11]] (fun bq jq => match jq with
            | 0 => .slice Ao2 m2 co2
            | 1 => .pointer (some ⟨p, 0, none⟩)
            | 2 => .pointer (some ⟨p, 0, none⟩)
            | 3 => .pointer (some ⟨p, 2, none⟩)
            | 4 => .int .u32 l1
            | 5 => .pointer (some ⟨xb, 0, none⟩)
            | 6 => .int .u32 x0
            | 7 => .int .u32 o
            | 8 => .bool s
            | 9 => .agg #[.int .u32 l1, .int .u32 x0, .int .u32 o, .bool s]
            | 10 => .slice (some ⟨bq.1, 0, none⟩) 1 1
            | 11 => bq.2
            | 12 => bq.2
            | _ => undef)
            (fun bq l w' => if l 11 = true then (But (fun k => k = p) w2 w' ∧ LedAt w' base p b g u0 u1 ns (.slice A bl c) bx l1 ∧ RB w' w2.heap.size bq.2 (grow u0 u1 ns bx last o s m2 ++ [⟨l1, x0, o, s⟩]) ∧ w'.heap[xb]? = some (.cells #[.int .u32 x0, .int .i64 x1, .int .i64 x2] 39 (0, 0))) else if l 10 = true then (∃ wz, (But (fun k => k = p) wr wz ∧ LedAt wz base p b g u0 u1 ns (.slice A bl c) bx l1) ∧ bq.1 = wz.heap.size ∧ w' = wz.alloc (.cells #[.int .u32 l1, .int .u32 x0, .int .u32 o, .bool s] 113)) else if l 4 = true then (But (fun k => k = p) wr w' ∧ LedAt w' base p b g u0 u1 ns (.slice A bl c) bx l1) else Below wr.heap.size wr w')
            (by kernel_rfl) rfl (by kernel_rfl) (by kernel_rfl) (by kernel_rfl) ⟨((0, undef) : Nat × Value), (by rw [if_neg (by simp)]; rw [if_neg (by simp)]; rw [if_neg (by simp)]; exact below_drew (Below.refl _ _))⟩ ?_ ?_
        · intro i1 hi1 hds oi hoi bq lb w' hW hlb hcl hneed hclo
          have hi1 : i1 < 13 := hi1
          have hcs : i1 = 0 ∨ i1 = 1 ∨ i1 = 2 ∨ i1 = 3 ∨ i1 = 4 ∨ i1 = 5 ∨ i1 = 6 ∨ i1 = 7 ∨ i1 = 8 ∨ i1 = 9 ∨ i1 = 10 ∨ i1 = 11 ∨ i1 = 12 := by omega
          clear hi1
          rcases hcs with rfl | rfl | rfl | rfl | rfl | rfl | rfl | rfl | rfl | rfl | rfl | rfl | rfl
          all_goals simp only [List.getElem?_toArray, List.getElem?_cons_succ, List.getElem?_cons_zero, Option.some.injEq] at hoi
          all_goals subst hoi
          · refine XInv.yes_tab [] (by kernel_rfl) ?_
            have hs2 := hcl 11 (by decide) (by kernel_rfl)
            cases hs0 : lb 4
            case false =>
              cases hs1 : lb 10
              case false =>
                rw [if_neg (by rw [hs2]; decide)] at hW
                rw [if_neg (by rw [hs1]; decide)] at hW
                rw [if_neg (by rw [hs0]; decide)] at hW
                obtain ⟨c0, c1, c2⟩ := (Q.out.1.led.below hW).cells
                have n0 := (blk_cell (blk_below Q.out.2.1 hW) 0).trans rfl
                clear hcl hneed hclo
                intro Q2 K2 hK2
                simp only [XInv.puts, XPrint.pw]
                go_simp
                exact hK2.out (.slice Ao2 m2 co2) w' ⟨bq, rfl, (by intros; first | rfl | trivial), (by rw [if_neg (by simp [XInv.up, hs2])]; rw [if_neg (by simp [XInv.up, hs1])]; rw [if_neg (by simp [XInv.up, hs0])]; exact hW)⟩
              case true =>
                exact absurd (hclo 9 4 (by decide) (hclo 10 9 (by decide) hs1 (by kernel_rfl)) (by kernel_rfl)) (by rw [hs0]; decide)
            case true =>
              cases hs1 : lb 10
              case false =>
                rw [if_neg (by rw [hs2]; decide)] at hW
                rw [if_neg (by rw [hs1]; decide)] at hW
                rw [if_pos hs0] at hW
                obtain ⟨c0, c1, c2⟩ := hW.2.cells
                have n0 := (blk_cell (hW.1.heap Q.out.2.1 NE.out) 0).trans rfl
                clear hcl hneed hclo
                intro Q2 K2 hK2
                simp only [XInv.puts, XPrint.pw]
                go_simp
                exact hK2.out (.slice Ao2 m2 co2) w' ⟨bq, rfl, (by intros; first | rfl | trivial), (by rw [if_neg (by simp [XInv.up, hs2])]; rw [if_neg (by simp [XInv.up, hs1])]; rw [if_pos (by simp [XInv.up, hs0])]; exact hW)⟩
              case true =>
                rw [if_neg (by rw [hs2]; decide)] at hW
                rw [if_pos hs1] at hW
                have n12 : lb 12 = false := hcl 12 (by decide) (by kernel_rfl)
                clear hcl hneed hclo
                intro Q2 K2 hK2
                simp only [XInv.puts, XPrint.pw]
                go_simp
                exact hK2.out (.slice Ao2 m2 co2) w' ⟨bq, rfl, (by intros; first | rfl | trivial), (by rw [if_neg (by simp [XInv.up, hs2])]; rw [if_pos (by simp [XInv.up, hs1])]; exact hW)⟩
          · refine XInv.yes_tab [] (by kernel_rfl) ?_
            have hs0 : lb 4 = false := (Bool.eq_false_or_eq_true (lb 4)).elim (fun h => absurd (hclo 2 1 (by decide) (hclo 3 2 (by decide) (hclo 4 3 (by decide) h (by kernel_rfl)) (by kernel_rfl)) (by kernel_rfl)) (by rw [hlb]; decide)) id
            have hs1 : lb 10 = false := (Bool.eq_false_or_eq_true (lb 10)).elim (fun h => absurd (hclo 2 1 (by decide) (hclo 3 2 (by decide) (hclo 4 3 (by decide) (hclo 9 4 (by decide) (hclo 10 9 (by decide) h (by kernel_rfl)) (by kernel_rfl)) (by kernel_rfl)) (by kernel_rfl)) (by kernel_rfl)) (by rw [hlb]; decide)) id
            have hs2 : lb 11 = false := (Bool.eq_false_or_eq_true (lb 11)).elim (fun h => absurd (hclo 2 1 (by decide) (hclo 3 2 (by decide) (hclo 4 3 (by decide) (hclo 11 4 (by decide) h (by kernel_rfl)) (by kernel_rfl)) (by kernel_rfl)) (by kernel_rfl)) (by rw [hlb]; decide)) id
            rw [if_neg (by rw [hs2]; decide)] at hW
            rw [if_neg (by rw [hs1]; decide)] at hW
            rw [if_neg (by rw [hs0]; decide)] at hW
            obtain ⟨c0, c1, c2⟩ := (Q.out.1.led.below hW).cells
            have n0 := (blk_cell (blk_below Q.out.2.1 hW) 0).trans rfl
            clear hcl hneed hclo
            intro Q2 K2 hK2
            simp only [XInv.puts, XPrint.pw]
            go_simp
            exact hK2.out (.pointer (some ⟨p, 0, none⟩)) w' ⟨bq, rfl, (by intros; first | rfl | trivial), (by rw [if_neg (by simp [XInv.up, hs2])]; rw [if_neg (by simp [XInv.up, hs1])]; rw [if_neg (by simp [XInv.up, hs0])]; exact hW)⟩
          · refine XInv.yes_tab [(51, 1)] (by kernel_rfl) ?_
            have hs0 : lb 4 = false := (Bool.eq_false_or_eq_true (lb 4)).elim (fun h => absurd (hclo 3 2 (by decide) (hclo 4 3 (by decide) h (by kernel_rfl)) (by kernel_rfl)) (by rw [hlb]; decide)) id
            have hs1 : lb 10 = false := (Bool.eq_false_or_eq_true (lb 10)).elim (fun h => absurd (hclo 3 2 (by decide) (hclo 4 3 (by decide) (hclo 9 4 (by decide) (hclo 10 9 (by decide) h (by kernel_rfl)) (by kernel_rfl)) (by kernel_rfl)) (by kernel_rfl)) (by rw [hlb]; decide)) id
            have hs2 : lb 11 = false := (Bool.eq_false_or_eq_true (lb 11)).elim (fun h => absurd (hclo 3 2 (by decide) (hclo 4 3 (by decide) (hclo 11 4 (by decide) h (by kernel_rfl)) (by kernel_rfl)) (by kernel_rfl)) (by rw [hlb]; decide)) id
            rw [if_neg (by rw [hs2]; decide)] at hW
            rw [if_neg (by rw [hs1]; decide)] at hW
            rw [if_neg (by rw [hs0]; decide)] at hW
            obtain ⟨c0, c1, c2⟩ := (Q.out.1.led.below hW).cells
            have n0 := (blk_cell (blk_below Q.out.2.1 hW) 0).trans rfl
            clear hcl hneed hclo
            intro Q2 K2 hK2
            simp only [XInv.puts, XPrint.pw]
            go_simp
            exact hK2.out (.pointer (some ⟨p, 0, none⟩)) w' ⟨bq, rfl, (by intros; first | rfl | trivial), (by rw [if_neg (by simp [XInv.up, hs2])]; rw [if_neg (by simp [XInv.up, hs1])]; rw [if_neg (by simp [XInv.up, hs0])]; exact hW)⟩
          · refine XInv.yes_tab [(52, 2)] (by kernel_rfl) ?_
            have hs0 := hcl 4 (by decide) (by kernel_rfl)
            have hs1 : lb 10 = false := (Bool.eq_false_or_eq_true (lb 10)).elim (fun h => absurd (hclo 4 3 (by decide) (hclo 9 4 (by decide) (hclo 10 9 (by decide) h (by kernel_rfl)) (by kernel_rfl)) (by kernel_rfl)) (by rw [hlb]; decide)) id
            have hs2 : lb 11 = false := (Bool.eq_false_or_eq_true (lb 11)).elim (fun h => absurd (hclo 4 3 (by decide) (hclo 11 4 (by decide) h (by kernel_rfl)) (by kernel_rfl)) (by rw [hlb]; decide)) id
            rw [if_neg (by rw [hs2]; decide)] at hW
            rw [if_neg (by rw [hs1]; decide)] at hW
            rw [if_neg (by rw [hs0]; decide)] at hW
            obtain ⟨c0, c1, c2⟩ := (Q.out.1.led.below hW).cells
            have n0 := (blk_cell (blk_below Q.out.2.1 hW) 0).trans rfl
            clear hcl hneed hclo
            intro Q2 K2 hK2
            simp only [XInv.puts, XPrint.pw]
            go_simp
            exact hK2.out (.pointer (some ⟨p, 2, none⟩)) w' ⟨bq, rfl, (by intros; first | rfl | trivial), (by rw [if_neg (by simp [XInv.up, hs2])]; rw [if_neg (by simp [XInv.up, hs1])]; rw [if_neg (by simp [XInv.up, hs0])]; exact hW)⟩
          · refine XInv.yes_tab [(53, 3)] (by kernel_rfl) ?_
            have hs0 := hlb
            have hs1 : lb 10 = false := (Bool.eq_false_or_eq_true (lb 10)).elim (fun h => absurd (hclo 9 4 (by decide) (hclo 10 9 (by decide) h (by kernel_rfl)) (by kernel_rfl)) (by rw [hlb]; decide)) id
            have hs2 := hcl 11 (by decide) (by kernel_rfl)
            rw [if_neg (by rw [hs2]; decide)] at hW
            rw [if_neg (by rw [hs1]; decide)] at hW
            rw [if_neg (by rw [hs0]; decide)] at hW
            obtain ⟨c0, c1, c2⟩ := (Q.out.1.led.below hW).cells
            have n0 := (blk_cell (blk_below Q.out.2.1 hW) 0).trans rfl
            clear hcl hneed hclo
            intro Q2 K2 hK2
            simp only [XInv.puts, XPrint.pw]
            go_simp
            go_at_call 107
            (with_reducible refine (AD.out _ (Q.out.1.led.below hW)).mono ?_)
            rintro e wz ⟨rfl, hb, hL⟩
            exact hK2.out (.int .u32 l1) wz ⟨bq, rfl, (by intros; first | rfl | trivial), (by rw [if_neg (by simp [XInv.up, hs2])]; rw [if_neg (by simp [XInv.up, hs1])]; rw [if_pos (by simp [XInv.up, hs0])]; exact ⟨(But.of_below hW).trans hb, hL⟩)⟩
          · refine XInv.yes_tab [] (by kernel_rfl) ?_
            have hs1 : lb 10 = false := (Bool.eq_false_or_eq_true (lb 10)).elim (fun h => absurd (hclo 6 5 (by decide) (hclo 9 6 (by decide) (hclo 10 9 (by decide) h (by kernel_rfl)) (by kernel_rfl)) (by kernel_rfl)) (by rw [hlb]; decide)) id
            have hs2 : lb 11 = false := (Bool.eq_false_or_eq_true (lb 11)).elim (fun h => absurd (hclo 6 5 (by decide) (hclo 9 6 (by decide) (hclo 10 9 (by decide) (hclo 11 10 (by decide) h (by kernel_rfl)) (by kernel_rfl)) (by kernel_rfl)) (by kernel_rfl)) (by rw [hlb]; decide)) id
            cases hs0 : lb 4
            case false =>
              rw [if_neg (by rw [hs2]; decide)] at hW
              rw [if_neg (by rw [hs1]; decide)] at hW
              rw [if_neg (by rw [hs0]; decide)] at hW
              obtain ⟨c0, c1, c2⟩ := (Q.out.1.led.below hW).cells
              have n0 := (blk_cell (blk_below Q.out.2.1 hW) 0).trans rfl
              clear hcl hneed hclo
              intro Q2 K2 hK2
              simp only [XInv.puts, XPrint.pw]
              go_simp
              exact hK2.out (.pointer (some ⟨xb, 0, none⟩)) w' ⟨bq, rfl, (by intros; first | rfl | trivial), (by rw [if_neg (by simp [XInv.up, hs2])]; rw [if_neg (by simp [XInv.up, hs1])]; rw [if_neg (by simp [XInv.up, hs0])]; exact hW)⟩
            case true =>
              rw [if_neg (by rw [hs2]; decide)] at hW
              rw [if_neg (by rw [hs1]; decide)] at hW
              rw [if_pos hs0] at hW
              obtain ⟨c0, c1, c2⟩ := hW.2.cells
              have n0 := (blk_cell (hW.1.heap Q.out.2.1 NE.out) 0).trans rfl
              clear hcl hneed hclo
              intro Q2 K2 hK2
              simp only [XInv.puts, XPrint.pw]
              go_simp
              exact hK2.out (.pointer (some ⟨xb, 0, none⟩)) w' ⟨bq, rfl, (by intros; first | rfl | trivial), (by rw [if_neg (by simp [XInv.up, hs2])]; rw [if_neg (by simp [XInv.up, hs1])]; rw [if_pos (by simp [XInv.up, hs0])]; exact hW)⟩
          · refine XInv.yes_tab [(55, 5)] (by kernel_rfl) ?_
            have hs1 : lb 10 = false := (Bool.eq_false_or_eq_true (lb 10)).elim (fun h => absurd (hclo 9 6 (by decide) (hclo 10 9 (by decide) h (by kernel_rfl)) (by kernel_rfl)) (by rw [hlb]; decide)) id
            have hs2 : lb 11 = false := (Bool.eq_false_or_eq_true (lb 11)).elim (fun h => absurd (hclo 9 6 (by decide) (hclo 10 9 (by decide) (hclo 11 10 (by decide) h (by kernel_rfl)) (by kernel_rfl)) (by kernel_rfl)) (by rw [hlb]; decide)) id
            cases hs0 : lb 4
            case false =>
              rw [if_neg (by rw [hs2]; decide)] at hW
              rw [if_neg (by rw [hs1]; decide)] at hW
              rw [if_neg (by rw [hs0]; decide)] at hW
              obtain ⟨c0, c1, c2⟩ := (Q.out.1.led.below hW).cells
              have n0 := (blk_cell (blk_below Q.out.2.1 hW) 0).trans rfl
              clear hcl hneed hclo
              intro Q2 K2 hK2
              simp only [XInv.puts, XPrint.pw]
              go_simp
              exact hK2.out (.int .u32 x0) w' ⟨bq, rfl, (by intros; first | rfl | trivial), (by rw [if_neg (by simp [XInv.up, hs2])]; rw [if_neg (by simp [XInv.up, hs1])]; rw [if_neg (by simp [XInv.up, hs0])]; exact hW)⟩
            case true =>
              rw [if_neg (by rw [hs2]; decide)] at hW
              rw [if_neg (by rw [hs1]; decide)] at hW
              rw [if_pos hs0] at hW
              obtain ⟨c0, c1, c2⟩ := hW.2.cells
              have n0 := (blk_cell (hW.1.heap Q.out.2.1 NE.out) 0).trans rfl
              clear hcl hneed hclo
              intro Q2 K2 hK2
              simp only [XInv.puts, XPrint.pw]
              go_simp
              exact hK2.out (.int .u32 x0) w' ⟨bq, rfl, (by intros; first | rfl | trivial), (by rw [if_neg (by simp [XInv.up, hs2])]; rw [if_neg (by simp [XInv.up, hs1])]; rw [if_pos (by simp [XInv.up, hs0])]; exact hW)⟩
          · refine XInv.yes_tab [] (by kernel_rfl) ?_
            have hs1 : lb 10 = false := (Bool.eq_false_or_eq_true (lb 10)).elim (fun h => absurd (hclo 9 7 (by decide) (hclo 10 9 (by decide) h (by kernel_rfl)) (by kernel_rfl)) (by rw [hlb]; decide)) id
            have hs2 : lb 11 = false := (Bool.eq_false_or_eq_true (lb 11)).elim (fun h => absurd (hclo 9 7 (by decide) (hclo 10 9 (by decide) (hclo 11 10 (by decide) h (by kernel_rfl)) (by kernel_rfl)) (by kernel_rfl)) (by rw [hlb]; decide)) id
            cases hs0 : lb 4
            case false =>
              rw [if_neg (by rw [hs2]; decide)] at hW
              rw [if_neg (by rw [hs1]; decide)] at hW
              rw [if_neg (by rw [hs0]; decide)] at hW
              obtain ⟨c0, c1, c2⟩ := (Q.out.1.led.below hW).cells
              have n0 := (blk_cell (blk_below Q.out.2.1 hW) 0).trans rfl
              clear hcl hneed hclo
              intro Q2 K2 hK2
              simp only [XInv.puts, XPrint.pw]
              go_simp
              exact hK2.out (.int .u32 o) w' ⟨bq, rfl, (by intros; first | rfl | trivial), (by rw [if_neg (by simp [XInv.up, hs2])]; rw [if_neg (by simp [XInv.up, hs1])]; rw [if_neg (by simp [XInv.up, hs0])]; exact hW)⟩
            case true =>
              rw [if_neg (by rw [hs2]; decide)] at hW
              rw [if_neg (by rw [hs1]; decide)] at hW
              rw [if_pos hs0] at hW
              obtain ⟨c0, c1, c2⟩ := hW.2.cells
              have n0 := (blk_cell (hW.1.heap Q.out.2.1 NE.out) 0).trans rfl
              clear hcl hneed hclo
              intro Q2 K2 hK2
              simp only [XInv.puts, XPrint.pw]
              go_simp
              exact hK2.out (.int .u32 o) w' ⟨bq, rfl, (by intros; first | rfl | trivial), (by rw [if_neg (by simp [XInv.up, hs2])]; rw [if_neg (by simp [XInv.up, hs1])]; rw [if_pos (by simp [XInv.up, hs0])]; exact hW)⟩
          · refine XInv.yes_tab [] (by kernel_rfl) ?_
            have hs1 : lb 10 = false := (Bool.eq_false_or_eq_true (lb 10)).elim (fun h => absurd (hclo 9 8 (by decide) (hclo 10 9 (by decide) h (by kernel_rfl)) (by kernel_rfl)) (by rw [hlb]; decide)) id
            have hs2 : lb 11 = false := (Bool.eq_false_or_eq_true (lb 11)).elim (fun h => absurd (hclo 9 8 (by decide) (hclo 10 9 (by decide) (hclo 11 10 (by decide) h (by kernel_rfl)) (by kernel_rfl)) (by kernel_rfl)) (by rw [hlb]; decide)) id
            cases hs0 : lb 4
            case false =>
              rw [if_neg (by rw [hs2]; decide)] at hW
              rw [if_neg (by rw [hs1]; decide)] at hW
              rw [if_neg (by rw [hs0]; decide)] at hW
              obtain ⟨c0, c1, c2⟩ := (Q.out.1.led.below hW).cells
              have n0 := (blk_cell (blk_below Q.out.2.1 hW) 0).trans rfl
              clear hcl hneed hclo
              intro Q2 K2 hK2
              simp only [XInv.puts, XPrint.pw]
              go_simp
              exact hK2.out (.bool s) w' ⟨bq, rfl, (by intros; first | rfl | trivial), (by rw [if_neg (by simp [XInv.up, hs2])]; rw [if_neg (by simp [XInv.up, hs1])]; rw [if_neg (by simp [XInv.up, hs0])]; exact hW)⟩
            case true =>
              rw [if_neg (by rw [hs2]; decide)] at hW
              rw [if_neg (by rw [hs1]; decide)] at hW
              rw [if_pos hs0] at hW
              obtain ⟨c0, c1, c2⟩ := hW.2.cells
              have n0 := (blk_cell (hW.1.heap Q.out.2.1 NE.out) 0).trans rfl
              clear hcl hneed hclo
              intro Q2 K2 hK2
              simp only [XInv.puts, XPrint.pw]
              go_simp
              exact hK2.out (.bool s) w' ⟨bq, rfl, (by intros; first | rfl | trivial), (by rw [if_neg (by simp [XInv.up, hs2])]; rw [if_neg (by simp [XInv.up, hs1])]; rw [if_pos (by simp [XInv.up, hs0])]; exact hW)⟩
          · refine XInv.yes_tab [(58, 8), (57, 7), (56, 6), (54, 4)] (by kernel_rfl) ?_
            have hs0 := hneed 4 (by kernel_rfl)
            have hs1 := hcl 10 (by decide) (by kernel_rfl)
            have hs2 : lb 11 = false := (Bool.eq_false_or_eq_true (lb 11)).elim (fun h => absurd (hclo 10 9 (by decide) (hclo 11 10 (by decide) h (by kernel_rfl)) (by kernel_rfl)) (by rw [hlb]; decide)) id
            rw [if_neg (by rw [hs2]; decide)] at hW
            rw [if_neg (by rw [hs1]; decide)] at hW
            rw [if_pos hs0] at hW
            obtain ⟨c0, c1, c2⟩ := hW.2.cells
            have n0 := (blk_cell (hW.1.heap Q.out.2.1 NE.out) 0).trans rfl
            clear hcl hneed hclo
            intro Q2 K2 hK2
            simp only [XInv.puts, XPrint.pw] at hK2 ⊢
            go_simp
            exact hK2.out (.agg #[.int .u32 l1, .int .u32 x0, .int .u32 o, .bool s]) w' ⟨bq, rfl, (by intros; first | rfl | trivial), (by rw [if_neg (by simp [XInv.up, hs2])]; rw [if_neg (by simp [XInv.up, hs1])]; rw [if_pos (by simp [XInv.up, hs0])]; exact hW)⟩
          · refine XInv.yes_tab [(59, 9)] (by kernel_rfl) ?_
            have hs0 := (hclo 9 4 (by decide) (hneed 9 (by kernel_rfl)) (by kernel_rfl))
            have hs1 := hlb
            have hs2 := hcl 11 (by decide) (by kernel_rfl)
            rw [if_neg (by rw [hs2]; decide)] at hW
            rw [if_neg (by rw [hs1]; decide)] at hW
            rw [if_pos hs0] at hW
            obtain ⟨c0, c1, c2⟩ := hW.2.cells
            have n0 := (blk_cell (hW.1.heap Q.out.2.1 NE.out) 0).trans rfl
            clear hcl hneed hclo
            intro Q2 K2 hK2
            simp only [XInv.puts, XPrint.pw]
            go_simp
            exact hK2.out (.slice (some ⟨w'.heap.size, 0, none⟩) 1 1) _ ⟨(w'.heap.size, bq.2), rfl, (by intro jj hjj hlj; have hjj : jj < 13 := hjj; rcases (by omega : jj = 0 ∨ jj = 1 ∨ jj = 2 ∨ jj = 3 ∨ jj = 4 ∨ jj = 5 ∨ jj = 6 ∨ jj = 7 ∨ jj = 8 ∨ jj = 9 ∨ jj = 10 ∨ jj = 11 ∨ jj = 12) with rfl | rfl | rfl | rfl | rfl | rfl | rfl | rfl | rfl | rfl | rfl | rfl | rfl <;> first | rfl | (rw [hlb] at hlj; cases hlj)), (by rw [if_neg (by simp [XInv.up, hs2])]; rw [if_pos (by simp [XInv.up, hs1])]; exact ⟨w', hW, rfl, rfl⟩)⟩
          · refine XInv.yes_tab [(60, 10), (54, 4), (50, 0)] (by kernel_rfl) ?_
            have hs0 := hneed 4 (by kernel_rfl)
            have hs1 := hneed 10 (by kernel_rfl)
            have hs2 := hlb
            rw [if_neg (by rw [hs2]; decide)] at hW
            rw [if_pos hs1] at hW
            have n12 : lb 12 = false := hcl 12 (by decide) (by kernel_rfl)
            clear hcl hneed hclo
            obtain ⟨wz, hz, hq, rfl⟩ := id hW
            have hro : RB wz w2.heap.size (.slice Ao2 m2 co2) (grow u0 u1 ns bx last o s m2) := Kd.R_step Q.out.1.row (fun k hk hlt => hz.1.block k hlt (by have := Kd.R_base Q.out.1.row k hk; have := Y.out.2.2.2.1.1; omega))
            have hxk := hz.1.heap Q.out.2.1 NE.out
            have hxne := Kd.R_ne hro hxk (by decide)
            have hsz : w2.heap.size ≤ wz.heap.size := Nat.le_trans Q.out.1.but.size hz.1.size
            have h12 := Q.out.1.but.trans hz.1
            intro Q2 K2 hK2
            simp only [XInv.puts]
            refine Kd.R_append_step PLedLib.k113 (w0 := wz) (W := wz) w2.heap.size (by rfl) (.tmp 50) (.tmp 60) 108 113 (.agg #[.int .u32 0, .int .u32 0, .int .u32 0, .bool false]) 16 rfl Try.underlying108 PLedLib.info113 rfl (by decide) (by omega) (.slice Ao2 m2 co2) (grow u0 u1 ns bx last o s m2) ⟨l1, x0, o, s⟩ [.int .u32 l1, .int .u32 x0, .int .u32 o, .bool s] (fun _ => True) (fun _ => False) rfl (by show Value.slice (some ⟨bq.1, 0, none⟩) 1 1 = _; rw [hq]) (PLedLib.k113_mkM _ _ _ _) (fun _ h => h.elim) (fun _ _ => trivial) (Kd.R_mono hro (fun _ _ => trivial)) (Below.refl _ _) hsz (by rw [grow_len]; omega) ?_
            intro v1 w1 hR2 hB2 hg2 hat2
            exact hK2.out v1 w1 ⟨(bq.1, v1), rfl, (by intro jj hjj hlj; have hjj : jj < 13 := hjj; rcases (by omega : jj = 0 ∨ jj = 1 ∨ jj = 2 ∨ jj = 3 ∨ jj = 4 ∨ jj = 5 ∨ jj = 6 ∨ jj = 7 ∨ jj = 8 ∨ jj = 9 ∨ jj = 10 ∨ jj = 11 ∨ jj = 12) with rfl | rfl | rfl | rfl | rfl | rfl | rfl | rfl | rfl | rfl | rfl | rfl | rfl <;> first | rfl | (rw [hlb] at hlj; cases hlj) | (simp only [hq]; done) | (rw [n12] at hlj; cases hlj)), (by rw [if_pos (by simp [XInv.up, hs2])]; exact ⟨⟨hB2.os.trans h12.os, hB2.tape.trans h12.tape, hB2.output.trans h12.output, Nat.le_trans h12.size hB2.size, fun k hk hn => (hB2.block k hk).trans (h12.block k hk hn)⟩, hz.2.low hB2 Y.out.2.2.2.1.1 Y.out.2.2.2.1.2.1 Y.out.2.2.2.1.2.2.1 Y.out.2.2.2.1.2.2.2, Kd.R_mono (Kd.R_tight (by rfl) hR2) (fun k hk => hk.symm), (hg2.block xb (blk_lt hxk) hxne).trans hxk⟩)⟩
          · refine XInv.yes_tab [(61, 11), (60, 10), (59, 9), (58, 8), (57, 7), (56, 6), (55, 5), (54, 4), (53, 3), (52, 2), (51, 1), (50, 0)] (by kernel_rfl) ?_
            have hs0 := hneed 4 (by kernel_rfl)
            have hs1 := hneed 10 (by kernel_rfl)
            have hs2 := hneed 11 (by kernel_rfl)
            rw [if_pos hs2] at hW
            clear hcl hneed hclo
            intro Q2 K2 hK2
            simp only [XInv.puts, XPrint.pw] at hK2 ⊢
            go_simp
            exact hK2.out (bq.2) w' ⟨bq, rfl, (by intros; first | rfl | trivial), (by rw [if_pos (by simp [XInv.up, hs2])]; exact hW)⟩
        · intro bq w' hW
          refine XInv.end_nil [(11, 12), (61, 11), (60, 10), (59, 9), (58, 8), (57, 7), (56, 6), (55, 5), (54, 4), (53, 3), (52, 2), (51, 1), (50, 0)] (by kernel_rfl) (by kernel_rfl) ?_
          simp only [XInv.puts, XPrint.pw]
          rw [if_pos (by kernel_rfl)] at hW
          obtain ⟨hb3, hL3, hR3, hk3⟩ := hW
          have ej : ns[j].f0 = x0 := by rw [XX.out.2.1]
          have hnx := Q.out.1.next H.out.2.1 hlt MM.out (by rw [ej, Q.out.2.2.1]; have := R0.out; omega) bq.2 hb3 (by rw [LE1.out]; exact hL3) (by rw [LE1.out, ej]; exact hR3)
          rw [ej, Q.out.2.2.1] at hnx
          have V := Aside0.mk (And.intro hnx hk3)
          have R1 := R0.out
          have rub2 : (r : Int) ≤ 4096 := by have := Q.out.2.2.2; omega
          clear hb3 hL3 hR3 hk3 hnx ej tr tr2 tr3
          go_wp2
          go_roundg (r - 1)
          case measure => omega
          case rel => exact ⟨m2 + 1, r - 1, rfl, by go_num, by have := Q.out.2.2.2; omega, by rw [V.out.1.2]; omega, V.out.2, V.out.1.1⟩
      · have tm : decide ((m2 : Int) < (N : Int)) = false := decide_eq_false (by omega)
        have tm2 : decide (m2 < N) = false := decide_eq_false hmm
        have tm3 : ¬ (m2 : Int) < (N : Int) := by omega
        have R0 := Aside0.mk h0
        clear h0
        go_wp2
        go_roundg (ns.length - (j + 1))
        case measure => omega
        case rel => exact ⟨j + 1, m2, rfl, by go_num, by omega, Q.out.1.done hlt (.inl (by omega))⟩
  · have hlt' : ¬ (j : Int) < (ns.length : Int) := by omega
    have htk : ns.take j = ns := List.take_of_length_le (by omega)
    rw [htk] at hS
    have hmN : m = N := by
      rcases hS.full with h | h
      · exact h
      · exact H.out.2.1.full s ho.out hS.le FE.out h
    subst hmN
    have hml : (grow u0 u1 ns bx last o s m).length = m := grow_len ..
    rw [hml] at hS ⊢
    have c1 := hS.led.cells.2.1
    have kp := hS.led.blk
    have CC := (Kd.R_reads' hS.row).2.2
    rw [hml] at CC
    have Q := Aside0.mk (And.intro hS (And.intro CC (And.intro kp hml)))
    have hbb := H.out.2.1.len
    have hbl := H.out.2.2.2
    clear hS CC kp hml htk
    go_wp2_with (refine Kd.R_append_rows PLedLib.k113 (w0 := wr) (W := wr) base (by rfl) (.tmp 67) (.tmp 68) 108 113 (.agg #[.int .u32 0, .int .u32 0, .int .u32 0, .bool false]) 16 rfl Try.underlying108 PLedLib.info113 rfl (by decide) (by omega) (.slice A bl c) bx (grow u0 u1 ns bx last o s m) Ao m co (fun _ => True) (fun _ => False) rfl rfl (Kd.R_mono Q.out.1.led.row (fun _ _ => trivial)) Q.out.2.1 (fun x cs hK => by obtain rfl := PLedLib.k113_open hK; exact PLedLib.k113_mkM _ _ _ _) (fun _ h => h.elim) (fun _ _ => trivial) (Below.refl _ _) (by have := Q.out.1.led.ne.2.2; have := Q.out.1.led.lt.1; omega) ?hl ?_)
    case hl => omega
    intro v1 w3 hR3 hB3 hg3 hat3
    have hown := Q.out.1.led.own
    have hpl := Y.out.2.2.2.1
    have hsw := Q.out.1.but.size
    have hpne : some p ≠ (Value.slice A bl c).ownBlock := fun e => (hown p e.symm).2.2 rfl
    have kp3 := (hg3.block p (blk_lt Q.out.2.2.1) hpne).trans Q.out.2.2.1
    have f1 := blk_frozen kp3 1
    have d1 := (blk_cell kp3 1).trans rfl
    have gBut : But (fun k => (Value.slice A bl c).ownBlock = some k) wr w3 := But.grown hg3 (fun k hk => hk)
    have T3 := Q.out.1.led.tab.but gBut (fun e => (hown _ e).1 rfl) (fun e => (hown _ e).2.1 rfl)
    have hvl : ∀ k, (Value.slice Ao m co).ownBlock = some k → w2.heap.size ≤ k := fun k hk => Kd.R_base Q.out.1.row k hk
    have hvl2 := Kd.R_lt Q.out.1.row
    have RV3 : RB w3 w2.heap.size (.slice Ao m co) (grow u0 u1 ns bx last o s m) := Kd.R_step Q.out.1.row (fun k hk hlt => gBut.block k hlt (fun e => by have := hvl k hk; have := hpl.2.2.2 k e; omega))
    have R3 : RB w3 base v1 (bx ++ grow u0 u1 ns bx last o s m) := Kd.R_mono (Kd.R_tight (by rfl) hR3) (fun k hk => hk.symm)
    have hat : ∀ k, v1.ownBlock = some k → (Value.slice A bl c).ownBlock = some k ∨ wr.heap.size ≤ k := fun k hk => by
      rcases hat3 with h3 | ⟨b3, h3, h4⟩
      · exact .inl (h3 ▸ hk)
      · have h5 : b3 = k := Option.some.inj (h3.symm.trans hk)
        exact .inr (by omega)
    have ho1 : ∀ k, v1.ownBlock = some k → k ≠ b ∧ k ≠ g ∧ k ≠ p := fun k hk => by
      rcases hat k hk with h3 | h3
      · exact hown k h3
      · omega
    obtain ⟨A1, c1', e1⟩ := Kd.R_slice R3
    obtain ⟨l3, hl3⟩ : ∃ l3, (bx ++ grow u0 u1 ns bx last o s m).length = l3 := ⟨_, rfl⟩
    rw [hl3] at e1
    subst e1
    have Z := Aside0.mk (And.intro T3 (And.intro kp3 (And.intro R3 (And.intro ho1 (And.intro hat (And.intro gBut RV3))))))
    clear hR3 hB3 hg3 hat3 hown hpne kp3 T3 R3 hat ho1 gBut RV3 hl3 c1
    go_wp2
    go_ret2
    have hbp : But (fun k => k = p) w3 (w3.setCell ⟨p, 1, none⟩ (.slice A1 l3 c1')) := (But.refl (fun k => k = p) w3).setCell (b := p) rfl 1 _
    have hsz3 : w.heap.size ≤ w2.heap.size := by have := Y.out.2.2.2.2.2; omega
    have hpw := Y.out.2.2.2.2.1
    refine ⟨_, _, rfl, led_put Z.out.1 Z.out.2.1 Q.out.1.led.ne Z.out.2.2.1 (Nat.le_refl _) Z.out.2.2.2.1, Kd.R_lower (Kd.R_step Z.out.2.2.2.2.2.2 (fun k hk hlt => hbp.block k hlt (by have := hvl k hk; omega))) hsz3, fun k hk hk2 => ?_, (((But.of_below Y.out.2.1).trans (Q.out.1.but.mono fun k h => .inl h)).trans (Z.out.2.2.2.2.2.1.mono fun k h => .inr h)).trans (hbp.mono fun k h => .inl h), fun k hk => ?_⟩
    · have h1 := hvl k hk
      have h2 := hvl2 k hk
      rcases Z.out.2.2.2.2.1 k hk2 with h3 | h3
      · have := hpl.2.2.2 k h3
        omega
      · omega
    · rcases Z.out.2.2.2.2.1 k hk with h3 | h3
      · exact .inl h3
      · exact .inr (by omega)
end Go.Proofs.Ythibppfdonepoaa.LedT
