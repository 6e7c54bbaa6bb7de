/- ledger.Ledger: what it is; none, may. ledger.picked. slices.Clone of boxes; the closures of ledger. slices.Clone of boxes; Boxes, Free. ledger.Ledger: Boxes, Nodes. -/
import Derived.Test.YthibppfdonepoaaCLedgerRoomsHNodeQ
import Derived.Test.YthibppfdonepoaaCLedgerRoomsHNodeI
import Derived.Test.YthibppfdonepoaaCLedgerRoomsPLedLibx0
set_option linter.unusedVariables false
namespace Go.Proofs.Ythibppfdonepoaa.LedT
open Go.RowKit Go.MapKept Go.Maps Go.ChangeMaps Go.Proofs.Ythibppfdonepoaa.XBut Go.Proofs.Ythibppfdonepoaa.XMap Go.Proofs.Ythibppfdonepoaa.NodeT Go.Proofs.YthibppfdonepoaaW.PrintWords Go.Proofs.YthibppfdonepoaaW.PrintLast
abbrev Bx := PLedLib.S113
abbrev Nd := PNodePlays.S39
/-- A ledger in block p: its table (block b, map g), its boxes (value v), the last number. -/
structure LedAt (w : World) (base p b g : Nat) (u0 u1 : Int) (ns : List Nd) (v : Value) (bx : List Bx) (last : Int) : Prop where
  tab : TabAt w base b g u0 u1 ns
  blk : w.heap[p]? = some (.cells #[.pointer (some ⟨b, 0, none⟩), v, .int .u32 last] 129 (0, 0))
  row : Kd.R PLedLib.k113 113 w base (fun k => v.ownBlock = some k) v bx
  own : ∀ k, v.ownBlock = some k → k ≠ b ∧ k ≠ g ∧ k ≠ p
  ne : p ≠ b ∧ p ≠ g ∧ base ≤ p
theorem LedAt.but {w w' : World} {base p b g : Nat} {u0 u1 : Int} {ns : List Nd} {v : Value} {bx : List Bx} {last : Int} (h : LedAt w base p b g u0 u1 ns v bx last) {T : Nat → Prop} (hb : But T w w') (h1 : ¬ T p) (h2 : ¬ T b) (h3 : ¬ T g) (h4 : ∀ k, v.ownBlock = some k → ¬ T k) : LedAt w' base p b g u0 u1 ns v bx last :=
  ⟨h.tab.but hb h2 h3, hb.heap h.blk h1, Kd.R_step h.row (fun k hk hlt => hb.block k hlt (h4 k hk)), h.own, h.ne⟩
theorem LedAt.below {w w' : World} {base p b g : Nat} {u0 u1 : Int} {ns : List Nd} {v : Value} {bx : List Bx} {last : Int} (h : LedAt w base p b g u0 u1 ns v bx last) (hb : Below w.heap.size w w') : LedAt w' base p b g u0 u1 ns v bx last :=
  h.but (T := fun _ => False) (But.of_below hb) id id id (fun _ _ h => h)
theorem LedAt.cells {w : World} {base p b g : Nat} {u0 u1 : Int} {ns : List Nd} {v : Value} {bx : List Bx} {last : Int} (h : LedAt w base p b g u0 u1 ns v bx last) : w.cell? ⟨p, 0, none⟩ = some (.pointer (some ⟨b, 0, none⟩)) ∧ w.cell? ⟨p, 1, none⟩ = some v ∧ w.cell? ⟨p, 2, none⟩ = some (.int .u32 last) :=
  ⟨(blk_cell h.blk 0).trans rfl, (blk_cell h.blk 1).trans rfl, (blk_cell h.blk 2).trans rfl⟩
set_option maxHeartbeats 4000000 in
set_option maxRecDepth 100000 in
theorem none_nil (w : World) : Calls Try.prog 103 #[.pointer none] w fun e w' => e = .returned (.bool true) ∧ w' = w := by
  go_enter Try.func103, Try.ntmps103
  go_wp2
  go_ret
  exact ⟨rfl, rfl⟩
set_option maxHeartbeats 4000000 in
set_option maxRecDepth 100000 in
theorem none_at (p : Nat) (q : Option Addr) (w : World) (h : w.cell? ⟨p, 0, none⟩ = some (.pointer q)) : Calls Try.prog 103 #[.pointer (some ⟨p, 0, none⟩)] w fun e w' => e = .returned (.bool q.isNone) ∧ w' = w := by
  cases q
  · go_enter Try.func103, Try.ntmps103
    go_wp2
    go_ret
    exact ⟨rfl, rfl⟩
  · go_enter Try.func103, Try.ntmps103
    go_wp2
    go_ret
    exact ⟨rfl, rfl⟩
end Go.Proofs.Ythibppfdonepoaa.LedT
set_option linter.unusedVariables false
namespace Go.Proofs.Ythibppfdonepoaa.LedT
open Go.RowKit Go.MapKept Go.Maps Go.ChangeMaps Go.Proofs.Ythibppfdonepoaa.XBut Go.Proofs.Ythibppfdonepoaa.XMap Go.Proofs.Ythibppfdonepoaa.NodeT Go.Proofs.YthibppfdonepoaaW.PrintWords Go.Proofs.YthibppfdonepoaaW.PrintLast
/-- A box as a value. -/
def bv (x : Bx) : Value := .agg #[.int .u32 x.f0, .int .u32 x.f1, .int .u32 x.f2, .bool x.f3]
abbrev RB (w : World) (N : Nat) (v : Value) (xs : List Bx) : Prop := Kd.R PLedLib.k113 113 w N (fun k => v.ownBlock = some k) v xs
set_option maxHeartbeats 8000000 in
set_option maxRecDepth 100000 in
theorem picked (gf : FuncId) (cap : Value) (q : Bx → Bool) (bx : List Bx) (A : Option Addr) (c : Nat) (w : World) (hC : Kd.C PLedLib.k113 w A bx.length bx) (hl : bx.length ≤ 1000000) (hent : ∀ args w, (callFunc gf args).run Try.prog w = .ok (.enter gf args) w)
    (hq : ∀ x ∈ bx, ∀ w', Below w.heap.size w w' → Calls Try.prog gf #[bv x, cap] w' fun e w'' => e = .returned (.bool (q x)) ∧ Below w'.heap.size w' w'') :
    Calls Try.prog 104 #[.slice A bx.length c, .func (.func gf) #[] #[cap]] w fun e w' => ∃ v1 v2, e = .returned (.tuple #[v1, v2]) ∧ RB w' w.heap.size v1 (bx.filter q) ∧ RB w' w.heap.size v2 (bx.filter fun x => !q x) ∧ (∀ k, v1.ownBlock = some k → v2.ownBlock ≠ some k) ∧ Below w.heap.size w w' := by
  have hu113 := Try.underlying113
  have H := Aside0.mk (And.intro hC (And.intro hl hq))
  have hl6 : (bx.length : Int) ≤ 1000000 := by omega
  clear hC hl hq
  go_enter Try.func104, Try.ntmps104
  go_wp2_with fail
  go_loopg [4, 5, 10] bx.length (fun kk v4 v5 v10 wr => ∃ j : Nat, kk = bx.length - j ∧ v10 = .int .i64 j ∧ j ≤ bx.length ∧ Below w.heap.size w wr ∧ RB wr w.heap.size v4 ((bx.take j).filter q) ∧ RB wr w.heap.size v5 ((bx.take j).filter fun x => !q x) ∧ (∀ k, v4.ownBlock = some k → v5.ownBlock ≠ some k))
  case atStart => exact ⟨0, rfl, rfl, Nat.zero_le _, Below.refl _ _, by rw [List.take_zero]; exact Kd.R_nil _ _ _ _ _, by rw [List.take_zero]; exact Kd.R_nil _ _ _ _ _, fun k hk => by simp [Value.ownBlock] at hk⟩
  obtain ⟨j, rfl, rfl, hj, hB, hR4, hR5, hne⟩ := hrel
  by_cases hlt : j < bx.length
  · obtain ⟨ad, rfl, d0, d1, d2, d3⟩ := PLedLib.at_T113 (Kd.C_below H.out.1 hB) (j : Int) (by omega) (by omega)
    have ej : (j : Int).toNat = j := by simp
    have er : PLedLib.rd_T113 bx (j : Int) = bx[j] := by unfold PLedLib.rd_T113; rw [ej, List.getD_eq_getElem?_getD, List.getElem?_eq_getElem hlt]; rfl
    rw [er, ej] at d0 d1 d2 d3
    have hmem : bx[j] ∈ bx := List.getElem_mem hlt
    have htk : bx.take (j + 1) = bx.take j ++ [bx[j]] := by rw [List.take_add_one, List.getElem?_eq_getElem hlt]; rfl
    obtain ⟨x, hx⟩ : ∃ x, bx[j] = x := ⟨_, rfl⟩
    rw [hx] at d0 d1 d2 d3 hmem htk
    have f1 : (bx.take (j + 1)).filter q = (bx.take j).filter q ++ (if q x = true then [x] else []) := by rw [htk, List.filter_append]; congr 1; cases hqx : q x <;> simp [hqx]
    have f2 : (bx.take (j + 1)).filter (fun x => !q x) = (bx.take j).filter (fun x => !q x) ++ (if q x = true then [] else [x]) := by rw [htk, List.filter_append]; congr 1; cases hqx : q x <;> simp [hqx]
    have hcall := H.out.2.2 x hmem
    have hlt' : (j : Int) < (bx.length : Int) := by omega
    have l1 : ((bx.take j).filter q).length ≤ j := Nat.le_trans (List.length_filter_le _ _) (by rw [List.length_take]; omega)
    have l2 : ((bx.take j).filter fun x => !q x).length ≤ j := Nat.le_trans (List.length_filter_le _ _) (by rw [List.length_take]; omega)
    have Y := Aside0.mk (And.intro hB (And.intro hR4 (And.intro hR5 (And.intro hne (And.intro f1 (And.intro f2 (And.intro hcall (And.intro l1 l2))))))))
    obtain ⟨x0, x1, x2, x3⟩ := x
    dsimp only at d0 d1 d2 d3
    clear hB hR4 hR5 hne f1 f2 hcall l1 l2 hx hmem htk er
    go_wp2_with fail
    refine (Y.out.2.2.2.2.2.2.1 _ (below_step Y.out.1 (below_alloc (Below.refl _ _) _))).mono ?_
    rintro e wz ⟨rfl, hb⟩
    have X := Aside0.mk hb
    have kz := blk_below (blk_new wr (.cells #[.int .u32 x0, .int .u32 x1, .int .u32 x2, .bool x3] 113)) hb
    have z0 := (blk_cell kz 0).trans rfl
    have z1 := (blk_cell kz 1).trans rfl
    have z2 := (blk_cell kz 2).trans rfl
    have z3 := (blk_cell kz 3).trans rfl
    clear hb kz d0 d1 d2 d3
    dsimp only
    cases hqx : q ⟨x0, x1, x2, x3⟩
    · go_wp2_with (refine Kd.R_append PLedLib.k113 (w0 := w) w.heap.size (by rfl) (.tmp 21) (.tmp 23) 108 113 (.agg #[.int .u32 0, .int .u32 0, .int .u32 0, .bool false]) 16 rfl Try.underlying108 PLedLib.info113 rfl (by decide) (by omega) u5 ((bx.take j).filter fun x => !q x) ⟨x0, x1, x2, x3⟩ [.int .u32 x0, .int .u32 x1, .int .u32 x2, .bool x3] (fun _ => True) (fun _ => False) rfl rfl (PLedLib.k113_mkM _ _ _ _) (fun _ h => h.elim) (fun _ _ => trivial) (Kd.R_mono (Kd.R_below Y.out.2.2.1 (below_step (below_alloc (Below.refl _ _) _) X.out)) (fun _ _ => trivial)) (below_step (below_step Y.out.1 (below_alloc (Below.refl _ _) _)) X.out) (below_step (below_step Y.out.1 (below_alloc (Below.refl _ _) _)) X.out).size ?hl ?_)
      case hl => have h := Y.out.2.2.2.2.2.2.2.2; have h2 := H.out.2.1; exact Nat.le_trans (Nat.mul_le_mul_right _ (Nat.add_le_add_right h 1)) (by omega)
      intro v1 w2 hR2 hB2 hg2 hat2
      have hbx : Below wr.heap.size wr wz := below_step (below_alloc (Below.refl _ _) _) X.out
      have ho : RB w2 w.heap.size u4 _ := Kd.R_grown (Kd.R_below Y.out.2.1 hbx) hg2 (fun k hk he => Y.out.2.2.2.1 k hk he.symm)
      have hm : RB w2 w.heap.size v1 _ := Kd.R_mono (Kd.R_tight (by rfl) hR2) (fun k hk => hk.symm)
      have hn : ∀ k, u4.ownBlock = some k → v1.ownBlock ≠ some k := by
        intro k hk hk2
        rcases hat2 with h3 | ⟨b3, h3, h4⟩
        · exact Y.out.2.2.2.1 k hk (h3.symm.trans hk2)
        · have h5 := Kd.R_lt Y.out.2.1 k hk
          have h6 : some b3 = some k := h3.symm.trans hk2
          have h7 : b3 = k := Option.some.inj h6
          have := hbx.size
          omega
      have Z := Aside0.mk (And.intro hm (And.intro ho (And.intro hn hB2)))
      clear hR2 hB2 hg2 hat2 hbx ho hm hn
      go_wp2
      go_roundg (bx.length - (j + 1))
      case measure => omega
      case rel => exact ⟨j + 1, rfl, by go_num, by omega, Z.out.2.2.2, by rw [Y.out.2.2.2.2.1, hqx, if_neg (by decide), List.append_nil]; exact Z.out.2.1, by rw [Y.out.2.2.2.2.2.1, hqx, if_neg (by decide)]; exact Z.out.1, Z.out.2.2.1⟩
    · go_wp2_with (refine Kd.R_append PLedLib.k113 (w0 := w) w.heap.size (by rfl) (.tmp 17) (.tmp 19) 108 113 (.agg #[.int .u32 0, .int .u32 0, .int .u32 0, .bool false]) 16 rfl Try.underlying108 PLedLib.info113 rfl (by decide) (by omega) u4 ((bx.take j).filter q) ⟨x0, x1, x2, x3⟩ [.int .u32 x0, .int .u32 x1, .int .u32 x2, .bool x3] (fun _ => True) (fun _ => False) rfl rfl (PLedLib.k113_mkM _ _ _ _) (fun _ h => h.elim) (fun _ _ => trivial) (Kd.R_mono (Kd.R_below Y.out.2.1 (below_step (below_alloc (Below.refl _ _) _) X.out)) (fun _ _ => trivial)) (below_step (below_step Y.out.1 (below_alloc (Below.refl _ _) _)) X.out) (below_step (below_step Y.out.1 (below_alloc (Below.refl _ _) _)) X.out).size ?hl ?_)
      case hl => have h := Y.out.2.2.2.2.2.2.2.1; have h2 := H.out.2.1; exact Nat.le_trans (Nat.mul_le_mul_right _ (Nat.add_le_add_right h 1)) (by omega)
      intro v1 w2 hR2 hB2 hg2 hat2
      have hbx : Below wr.heap.size wr wz := below_step (below_alloc (Below.refl _ _) _) X.out
      have ho : RB w2 w.heap.size u5 _ := Kd.R_grown (Kd.R_below Y.out.2.2.1 hbx) hg2 (fun k hk he => Y.out.2.2.2.1 k he.symm hk)
      have hm : RB w2 w.heap.size v1 _ := Kd.R_mono (Kd.R_tight (by rfl) hR2) (fun k hk => hk.symm)
      have hn : ∀ k, v1.ownBlock = some k → u5.ownBlock ≠ some k := by
        intro k hk hk2
        rcases hat2 with h3 | ⟨b3, h3, h4⟩
        · exact Y.out.2.2.2.1 k (h3.symm.trans hk) hk2
        · have h5 := Kd.R_lt Y.out.2.2.1 k hk2
          have h6 : some b3 = some k := h3.symm.trans hk
          have h7 : b3 = k := Option.some.inj h6
          have := hbx.size
          omega
      have Z := Aside0.mk (And.intro hm (And.intro ho (And.intro hn hB2)))
      clear hR2 hB2 hg2 hat2 hbx ho hm hn
      go_wp2
      go_roundg (bx.length - (j + 1))
      case measure => omega
      case rel => exact ⟨j + 1, rfl, by go_num, by omega, Z.out.2.2.2, by rw [Y.out.2.2.2.2.1, hqx, if_pos rfl]; exact Z.out.1, by rw [Y.out.2.2.2.2.2.1, hqx, if_pos rfl, List.append_nil]; exact Z.out.2.1, Z.out.2.2.1⟩
  · have hlt' : ¬ (j : Int) < (bx.length : Int) := by omega
    have htk : bx.take j = bx := List.take_of_length_le (by omega)
    rw [htk] at hR4 hR5
    have Y := Aside0.mk (And.intro hB (And.intro hR4 (And.intro hR5 hne)))
    clear hB hR4 hR5 hne htk
    go_wp2
    go_ret2
    exact ⟨_, _, rfl, Y.out.2.1, Y.out.2.2.1, Y.out.2.2.2, Y.out.1⟩
end Go.Proofs.Ythibppfdonepoaa.LedT
set_option linter.unusedVariables false
namespace Go.Proofs.Ythibppfdonepoaa.LedT
open Go.RowKit Go.MapKept Go.Maps Go.ChangeMaps Go.Proofs.Ythibppfdonepoaa.XBut Go.Proofs.Ythibppfdonepoaa.XMap Go.Proofs.Ythibppfdonepoaa.NodeT Go.Proofs.YthibppfdonepoaaW.PrintWords Go.Proofs.YthibppfdonepoaaW.PrintLast
set_option maxHeartbeats 4000000 in
set_option maxRecDepth 100000 in
theorem lose1 (x : Bx) (p : Nat) (n : Int) (w : World) (h : w.cell? ⟨p, 0, none⟩ = some (.int .u32 n)) : Calls Try.prog 105 #[bv x, .pointer (some ⟨p, 0, none⟩)] w fun e w' => e = .returned (.bool (x.f1 == n)) ∧ Below w.heap.size w w' := by
  have hu113 := Try.underlying113
  obtain ⟨x0, x1, x2, x3⟩ := x
  have c0 : ∀ o, (w.alloc o).cell? ⟨p, 0, none⟩ = some (.int .u32 n) := fun o => pw_cell_below (below_alloc (Below.refl _ _) o) h
  clear h
  unfold bv
  dsimp only
  go_enter Try.func105, Try.ntmps105
  go_wp2
  go_ret
  exact ⟨rfl, below_alloc (Below.refl _ _) _⟩
set_option maxHeartbeats 4000000 in
set_option maxRecDepth 100000 in
theorem room1 (x : Bx) (p : Nat) (n : Int) (w : World) (h : w.cell? ⟨p, 0, none⟩ = some (.int .u32 n)) : Calls Try.prog 111 #[bv x, .pointer (some ⟨p, 0, none⟩)] w fun e w' => e = .returned (.bool (x.f1 == n)) ∧ Below w.heap.size w w' := by
  have hu113 := Try.underlying113
  obtain ⟨x0, x1, x2, x3⟩ := x
  have c0 : ∀ o, (w.alloc o).cell? ⟨p, 0, none⟩ = some (.int .u32 n) := fun o => pw_cell_below (below_alloc (Below.refl _ _) o) h
  clear h
  unfold bv
  dsimp only
  go_enter Try.func111, Try.ntmps111
  go_wp2
  go_ret
  exact ⟨rfl, below_alloc (Below.refl _ _) _⟩
/-- What may tells. -/
def mayc (o n : Int) : Int := if o = 0 ∨ n < 0 ∨ 1048576 < n then 2 else 0
set_option maxHeartbeats 4000000 in
set_option maxRecDepth 100000 in
theorem may_at (p b : Nat) (o n : Int) (w : World) (h : w.cell? ⟨p, 0, none⟩ = some (.pointer (some ⟨b, 0, none⟩))) : Calls Try.prog 106 #[.pointer (some ⟨p, 0, none⟩), .int .u32 o, .int .i64 n] w fun e w' => e = .returned (.int .i64 (mayc o n)) ∧ w' = w := by
  by_cases h1 : o = 0
  · have t1 : (o == 0) = true := by simp [h1]
    have E : Aside0 (mayc o n = 2) := ⟨if_pos (.inl h1)⟩
    clear h1
    go_enter Try.func106, Try.ntmps106
    go_wp2_with fail
    refine (none_at p _ _ h).mono ?_
    rintro e wz ⟨rfl, hz⟩
    obtain rfl := hz.symm
    clear hz
    simp only [Option.isNone]
    go_wp2
    go_ret
    exact ⟨by rw [E.out]; rfl, rfl⟩
  · have t1 : (o == 0) = false := by simp [h1]
    by_cases h2 : n < 0
    · have t2 : decide (n < 0) = true := decide_eq_true h2
      have E : Aside0 (mayc o n = 2) := ⟨if_pos (.inr (.inl h2))⟩
      clear h1
      go_enter Try.func106, Try.ntmps106
      go_wp2_with fail
      refine (none_at p _ _ h).mono ?_
      rintro e wz ⟨rfl, hz⟩
      obtain rfl := hz.symm
      clear hz
      simp only [Option.isNone]
      go_wp2
      go_ret
      exact ⟨by rw [E.out]; rfl, rfl⟩
    · have t2 : decide (n < 0) = false := decide_eq_false h2
      by_cases h3 : 1048576 < n
      · have t3 : decide ((1048576 : Int) < n) = true := decide_eq_true h3
        have E : Aside0 (mayc o n = 2) := ⟨if_pos (.inr (.inr h3))⟩
        clear h1
        go_enter Try.func106, Try.ntmps106
        go_wp2_with fail
        refine (none_at p _ _ h).mono ?_
        rintro e wz ⟨rfl, hz⟩
        obtain rfl := hz.symm
        clear hz
        simp only [Option.isNone]
        go_wp2
        go_ret
        exact ⟨by rw [E.out]; rfl, rfl⟩
      · have t3 : decide ((1048576 : Int) < n) = false := decide_eq_false h3
        have E : Aside0 (mayc o n = 0) := ⟨if_neg (by omega)⟩
        clear h1
        go_enter Try.func106, Try.ntmps106
        go_wp2_with fail
        refine (none_at p _ _ h).mono ?_
        rintro e wz ⟨rfl, hz⟩
        obtain rfl := hz.symm
        clear hz
        simp only [Option.isNone]
        go_wp2
        go_ret
        exact ⟨by rw [E.out]; rfl, rfl⟩
end Go.Proofs.Ythibppfdonepoaa.LedT
set_option linter.unusedVariables false
namespace Go.Proofs.Ythibppfdonepoaa.LedT
open Go.RowKit Go.MapKept Go.Maps Go.ChangeMaps Go.Proofs.Ythibppfdonepoaa.XBut Go.Proofs.Ythibppfdonepoaa.XMap Go.Proofs.Ythibppfdonepoaa.NodeT Go.Proofs.YthibppfdonepoaaW.PrintWords Go.Proofs.YthibppfdonepoaaW.PrintLast
theorem eq_slice_nil {P : Program} (w : World) (t e : TypeId) (a : Option Addr) (n c : Nat) (h : P.underlying t = some (.slice e)) : (binOp .eql t (.slice a n c) (.slice none 0 0)).run P w = .ok (.bool a.isNone) w := by
  have e0 : ∀ d, (Op.equalIn (d + 1) t (.slice a n c) (.slice none 0 0)).run P w = .ok a.isNone w := by
    intro d
    cases a <;> simp [Op.equalIn, run_underlying h]
  have e1 := e0 9999
  simp only [binOp]
  simp [show Op.equal t (.slice a n c) (.slice none 0 0) = Op.equalIn (9999 + 1) t (.slice a n c) (.slice none 0 0) from rfl, e1]
set_option maxHeartbeats 4000000 in
set_option maxRecDepth 100000 in
theorem clone (bx : List Bx) (A : Option Addr) (c : Nat) (w : World) (hC : Kd.C PLedLib.k113 w A bx.length bx) (hl : bx.length ≤ 1000000) :
    Calls Try.prog 110 #[.slice A bx.length c] w fun e w' => ∃ v, e = .returned v ∧ RB w' w.heap.size v bx ∧ Below w.heap.size w w' := by
  have H := Aside0.mk (And.intro hC hl)
  have hq := fun w => eq_slice_nil (P := Try.prog) w 108 _ A bx.length c Try.underlying108
  clear hC hl
  cases A with
  | none =>
    have h0 : bx = [] := by
      cases bx with
      | nil => rfl
      | cons a l => obtain ⟨ad, h, _⟩ := PLedLib.at_T113 H.out.1 0 (by omega) (by simp); cases h
    subst h0
    simp only [List.length_nil, Option.isNone] at hq
    go_enter Try.func110, Try.ntmps110
    go_wp2
    go_ret
    exact ⟨_, rfl, Kd.R_nil _ _ _ _ _, Below.refl _ _⟩
  | some ad =>
    simp only [Option.isNone] at hq
    go_enter Try.func110, Try.ntmps110
    go_upto_region 3 with (fail)
    have R0 : Kd.R PLedLib.k113 113 (w.alloc (.cells #[] 113)) w.heap.size (fun _ => True) (.slice (some ⟨w.heap.size, 0, none⟩) 0 0) [] :=
      ⟨fun _ _ => trivial, [], by have := World.ownsRow_lit (base := w.heap.size) (e := 113) (size := 4) w #[] 0 (Nat.le_refl _) (by decide) rfl; exact (show (w.alloc (.cells #[] 113)).ownsRow w.heap.size 113 4 (.slice (some ⟨w.heap.size, 0, none⟩) 0 0) 0 [] by simpa using this), Reps.none _ _⟩
    have R0 := Aside0.mk R0
    go_wp2_with (refine Kd.R_append_rows PLedLib.k113 (w0 := w) w.heap.size (by rfl) (.tmp 5) (.tmp 6) 108 113 (.agg #[.int .u32 0, .int .u32 0, .int .u32 0, .bool false]) 16 rfl Try.underlying108 PLedLib.info113 rfl (by decide) (by omega) _ [] bx (some ad) bx.length c (fun _ => True) (fun _ => False) rfl rfl R0.out (Kd.C_below H.out.1 (below_alloc (Below.refl _ _) _)) (fun _ _ h => h) (fun _ h => h.elim) (fun _ _ => trivial) (below_alloc (Below.refl _ _) _) (by simp) ?hl ?_)
    case hl => have := H.out.2; simp only [List.length_nil]; omega
    intro v1 w2 hR2 hB2 hg2 hat2
    have X := Aside0.mk (And.intro (show RB w2 w.heap.size v1 bx from Kd.R_mono (Kd.R_tight (by rfl) hR2) (fun k hk => hk.symm)) hB2)
    clear hR2 hB2 hg2 hat2
    go_wp2
    go_ret
    exact ⟨_, rfl, X.out.1, X.out.2⟩
end Go.Proofs.Ythibppfdonepoaa.LedT
set_option linter.unusedVariables false
namespace Go.Proofs.Ythibppfdonepoaa.LedT
open Go.RowKit Go.MapKept Go.Maps Go.ChangeMaps Go.Proofs.Ythibppfdonepoaa.XBut Go.Proofs.Ythibppfdonepoaa.XMap Go.Proofs.Ythibppfdonepoaa.NodeT Go.Proofs.YthibppfdonepoaaW.PrintWords Go.Proofs.YthibppfdonepoaaW.PrintLast
set_option maxHeartbeats 4000000 in
set_option maxRecDepth 100000 in
theorem boxes {base p b g : Nat} {u0 u1 : Int} {ns : List Nd} {v : Value} {bx : List Bx} {last : Int} (w : World) (h : LedAt w base p b g u0 u1 ns v bx last) (hl : bx.length ≤ 1000000) :
    Calls Try.prog 56 #[.pointer (some ⟨p, 0, none⟩)] w fun e w' => ∃ v', e = .returned v' ∧ RB w' w.heap.size v' bx ∧ Below w.heap.size w w' := by
  obtain ⟨c0, c1, c2⟩ := h.cells
  obtain ⟨A, c, rfl⟩ := Kd.R_slice h.row
  obtain ⟨_, hc, hC⟩ := Kd.R_reads' h.row
  have CL := Aside0.mk (clone bx A c w hC hl)
  clear h hl hc hC
  go_enter Try.func56, Try.ntmps56
  go_wp2_with fail
  refine (none_at p _ _ c0).mono ?_
  rintro e wz ⟨rfl, hz⟩
  obtain rfl := hz.symm
  clear hz
  simp only [Option.isNone]
  go_wp2_with fail
  refine CL.out.mono ?_
  rintro e w1 ⟨v', rfl, hR, hb⟩
  have X := Aside0.mk (And.intro hR hb)
  clear hR hb c0 c1 c2
  dsimp only
  go_wp2
  go_ret
  exact ⟨_, rfl, X.out.1, X.out.2⟩
set_option maxHeartbeats 4000000 in
set_option maxRecDepth 100000 in
theorem lnodes {base p b g : Nat} {u0 u1 : Int} {ns : List Nd} {v : Value} {bx : List Bx} {last : Int} (w : World) (h : LedAt w base p b g u0 u1 ns v bx last) :
    Calls Try.prog 57 #[.pointer (some ⟨p, 0, none⟩)] w fun e w' => ∃ b' g', e = .returned (.pointer (some ⟨b', 0, none⟩)) ∧ Below w.heap.size w w' ∧ TabAt w' w.heap.size b' g' u0 u1 ns := by
  obtain ⟨c0, c1, c2⟩ := h.cells
  have CL := Aside0.mk (copy base b g u0 u1 ns w h.tab)
  clear h
  go_enter Try.func57, Try.ntmps57
  go_wp2_with fail
  refine (none_at p _ _ c0).mono ?_
  rintro e wz ⟨rfl, hz⟩
  obtain rfl := hz.symm
  clear hz
  simp only [Option.isNone]
  go_wp2_with fail
  refine CL.out.mono ?_
  rintro e w1 ⟨b', g', rfl, hb, hT⟩
  have X := Aside0.mk (And.intro hb hT)
  clear hb hT c0 c1 c2
  dsimp only
  go_wp2
  go_ret
  exact ⟨_, _, rfl, X.out.1, X.out.2⟩
end Go.Proofs.Ythibppfdonepoaa.LedT
