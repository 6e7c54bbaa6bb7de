/- liveryref22.Join. -/
import Derived.Test.YthibppfdonepoaaGreatCLedgerPlaysHLedBB
import Derived.Test.YthibppfdonepoaaGreatCLedgerPlaysHNodeX
set_option linter.unusedVariables false
namespace Go.Proofs.YthibppfdonepoaaGreat.NodeT
open Go.RowKit Go.MapKept Go.Maps Go.ChangeMaps Go.Proofs.YthibppfdonepoaaGreat.XBut Go.Proofs.YthibppfdonepoaaGreat.XMap Go.Proofs.YthibppfdonepoaaGreat.PNodePlays Go.Proofs.YthibppfdonepoaaGreatW.PrintWords Go.Proofs.YthibppfdonepoaaGreatW.PrintLast
theorem code_may {u0 u1 : Int} {ns : List S59} {x : S59} (hx : 0 ≤ x.f0) :
  (may u0 u1 x = false → code u0 u1 ns x = 2) ∧ (may u0 u1 x = true → ((0 ≤ place ns x.f0 → code u0 u1 ns x = 8) ∧ (place ns x.f0 < 0 → (32 ≤ ns.length → code u0 u1 ns x = 6) ∧ (ns.length < 32 → code u0 u1 ns x = 0)))) := by
 unfold may code joins
 constructor
 ·intro h
  have h := of_decide_eq_false h
  by_cases h1 : x.f0 = 0
  ·rw [if_pos h1]
  ·by_cases h2 : okV 0 x.f1
   ·rw [if_neg h1, if_neg (by simp [h2]), if_pos (by have : ¬ uns u0 u1 x ≤ 4096 := fun h3 => h ⟨by omega, h2, h3⟩; omega)]
   ·rw [if_neg h1, if_pos (by simp [h2])]
 ·intro h
  obtain ⟨h1, h2, h3⟩ := of_decide_eq_true h
  rw [if_neg (by omega), if_neg (by simp [h2]), if_neg (by omega)]
  constructor
  ·intro hp
   obtain ⟨_, hw⟩ := place_at hp
   rw [hw, if_pos (by rfl)]
  ·intro hp
   rw [(place_who ns x.f0).1 hp, if_neg (by simp)]
   exact ⟨fun h => if_pos h, fun h => if_neg (by omega)⟩
def spot : List S59 → Int → Nat
 | [], _ => 0
 | a :: l, i => if a.f0 < i then spot l i + 1 else 0
theorem spot_le (ns : List S59) (i : Int) : spot ns i ≤ ns.length := by
 induction ns with
 | nil => exact Nat.le_refl _
 | cons a l ih => unfold spot; split <;> simp only [List.length_cons] <;> omega
theorem spot_lt {ns : List S59} {i : Int} {j : Nat} (h : j < spot ns i) (hj : j < ns.length) : ns[j].f0 < i := by
 induction ns generalizing j with
 | nil => simp at hj
 | cons a l ih =>
  unfold spot at h
  split at h
  ·cases j with
   | zero => assumption
   | succ j => exact ih (by omega) (by simpa using hj)
  ·omega
theorem spot_at {ns : List S59} {i : Int} (hj : spot ns i < ns.length) : ¬ (ns[spot ns i]'hj).f0 < i := by
 induction ns with
 | nil => simp at hj
 | cons a l ih =>
  by_cases h : a.f0 < i
  ·have e : spot (a :: l) i = spot l i + 1 := by show (if _ then _ else _) = _; rw [if_pos h]
   simp only [e, List.getElem_cons_succ]
   exact ih (by rw [e] at hj; simpa using hj)
  ·have e : spot (a :: l) i = 0 := by show (if _ then _ else _) = _; rw [if_neg h]
   simp only [e, List.getElem_cons_zero]
   exact h
theorem spot_ins {ns : List S59} {x : S59} (h : who ns x.f0 = none) : (ns.take (spot ns x.f0) ++ [x]) ++ ns.drop (spot ns x.f0) = ins ns x := by
 replace h := List.find?_eq_none.1 h
 induction ns with
 | nil => rfl
 | cons a l ih =>
  have h1 : ¬ a.f0 = x.f0 := by simpa using h a (by simp)
  have i1 := ih fun y hy => h y (by simp [hy])
  unfold ins
  by_cases h2 : a.f0 < x.f0
  ·have e : spot (a :: l) x.f0 = spot l x.f0 + 1 := by show (if _ then _ else _) = _; rw [if_pos h2]
   rw [e, if_neg (by omega), if_neg (by omega), List.take_succ_cons, List.drop_succ_cons, List.cons_append, List.cons_append, i1]
  ·have e : spot (a :: l) x.f0 = 0 := by show (if _ then _ else _) = _; rw [if_neg h2]
   rw [e, if_pos (by omega)]
   rfl
set_option maxHeartbeats 16000000 in
set_option maxRecDepth 100000 in
theorem rjoin (u0 u1 x0 x1 x2 : Int) (ns : List S59) (v : Value) (B : Nat) (ok : Nat → Prop) (w : World) (hu : okV 1 ⟨u0, u1⟩) (hr : Kd.R k59 59 w B ok v ns) (hB : B ≤ w.heap.size) (hl : ns.length ≤ 32) (hx : 0 ≤ x0) :
  Calls Tryz.prog 40 #[.agg #[.int .i64 u0, .int .i64 u1, v], .agg #[.int .u32 x0, .int .i64 x1, .int .i64 x2]] w fun e w' => ∃ v', e = .returned (.tuple #[.agg #[.int .i64 u0, .int .i64 u1, v'], .int .i64 (code u0 u1 ns ⟨x0, ⟨x1, x2⟩⟩)]) ∧
   Kd.R k59 59 w' B (fun k => ok k ∨ w.heap.size ≤ k) v' (joined (code u0 u1 ns ⟨x0, ⟨x1, x2⟩⟩) ns ⟨x0, ⟨x1, x2⟩⟩) ∧ Below w.heap.size w w' := by
 have hu31 := Tryz.underlying33
 have hu39 := Tryz.underlying59
 obtain ⟨A, c, rfl⟩ := Kd.R_slice hr
 obtain ⟨_, hc, hC⟩ := Kd.R_reads' hr
 obtain ⟨W0, hW0⟩ : ∃ W0, W0 = ((w.alloc (.cells #[.int .i64 u0, .int .i64 u1, .slice A ns.length c] 33)).alloc (.cells #[.int .u32 x0, .int .i64 x1, .int .i64 x2] 59)).alloc (.cells #[.int .i64 0, .int .i64 0, .slice none 0 0] 33) := ⟨_, rfl⟩
 have hB0 : Below w.heap.size w W0 := by rw [hW0]; exact below_alloc (below_alloc (below_alloc (Below.refl _ _) _) _) _
 have k0 : W0.heap[w.heap.size]? = some (.cells #[.int .i64 u0, .int .i64 u1, .slice A ns.length c] 33 (0, 0)) := by rw [hW0]; exact blk_alloc (blk_alloc (blk_new w _) _) _
 have k1 : W0.heap[w.heap.size + 1]? = some (.cells #[.int .u32 x0, .int .i64 x1, .int .i64 x2] 59 (0, 0)) := by
  have := blk_alloc (blk_new (w.alloc (.cells #[.int .i64 u0, .int .i64 u1, .slice A ns.length c] 33)) (.cells #[.int .u32 x0, .int .i64 x1, .int .i64 x2] 59)) (.cells #[.int .i64 0, .int .i64 0, .slice none 0 0] 33)
  rw [World.size_alloc] at this
  rw [hW0]; exact this
 have k2 : W0.heap[w.heap.size + 1 + 1]? = some (.cells #[.int .i64 0, .int .i64 0, .slice none 0 0] 33 (0, 0)) := by
  have := blk_new ((w.alloc (.cells #[.int .i64 u0, .int .i64 u1, .slice A ns.length c] 33)).alloc (.cells #[.int .u32 x0, .int .i64 x1, .int .i64 x2] 59)) (.cells #[.int .i64 0, .int .i64 0, .slice none 0 0] 33)
  rw [World.size_alloc, World.size_alloc] at this
  rw [hW0]; exact this
 obtain ⟨KM, hKM⟩ := rmay_ev ⟨x0, ⟨x1, x2⟩⟩ ns hu
 obtain ⟨b0, hb0⟩ : ∃ b0, may u0 u1 ⟨x0, ⟨x1, x2⟩⟩ = b0 := ⟨_, rfl⟩
 rw [hb0] at hKM
 have CM := Aside0.mk (code_may (u0 := u0) (u1 := u1) (ns := ns) (x := ⟨x0, ⟨x1, x2⟩⟩) hx)
 have H := Aside0.mk (And.intro hr (And.intro hC (And.intro hc (And.intro hB0 (And.intro k0 (And.intro k1 (And.intro k2 (And.intro (hKM KM (Nat.le_refl _)) (And.intro hb0 (And.intro hB (And.intro hl hx)))))))))))
 have CC : ∀ w', Below W0.heap.size W0 w' → ((w'.cell? ⟨w.heap.size, 0, none⟩ = some (.int .i64 u0) ∧ w'.cell? ⟨w.heap.size, 1, none⟩ = some (.int .i64 u1) ∧ w'.cell? ⟨w.heap.size, 2, none⟩ = some (.slice A ns.length c)) ∧ (w'.cell? ⟨w.heap.size + 1, 0, none⟩ = some (.int .u32 x0) ∧ w'.cell? ⟨w.heap.size + 1, 1, none⟩ = some (.int .i64 x1) ∧ w'.cell? ⟨w.heap.size + 1, 2, none⟩ = some (.int .i64 x2)) ∧ Kd.C k59 w' A ns.length ns) := fun w' h => by
  have p0 := blk_below k0 h
  have p1 := blk_below k1 h
  exact ⟨⟨(blk_cell p0 0).trans rfl, (blk_cell p0 1).trans rfl, (blk_cell p0 2).trans rfl⟩, ⟨(blk_cell p1 0).trans rfl, (blk_cell p1 1).trans rfl, (blk_cell p1 2).trans rfl⟩, Kd.C_below (Kd.C_below hC hB0) h⟩
 have CC := Aside0.mk CC
 have S0 := Aside0.mk (show W0.heap.size = w.heap.size + 3 by rw [hW0]; simp)
 clear hr hC hc hB0 k0 k1 k2 hKM hb0 hu hB hl hx
 obtain ⟨⟨c0, c1, c2⟩, ⟨n0, n1, n2⟩, _⟩ := CC.out W0 (Below.refl _ _)
 go_enter Tryz.func40, Tryz.ntmps40
 go_wp2_with fail
 rw [← hW0]
 refine (liveryref22_May.calls KM u0 u1 A c ns x0 x1 x2 b0 _ (CC.out W0 (Below.refl _ _)).2.2 H.out.2.2.1 H.out.2.2.2.2.2.2.2.1).mono ?_
 rintro e w1 ⟨rfl, hb⟩
 have X := Aside0.mk hb
 clear hb c0 c1 c2 n0 n1 n2
 dsimp only
 obtain ⟨⟨c0, c1, c2⟩, ⟨n0, n1, n2⟩, _⟩ := CC.out w1 X.out
 have RT : ∀ wz, Below W0.heap.size W0 wz → wz.heap[w.heap.size + 1 + 1]? = some (.cells #[.int .i64 0, .int .i64 0, .slice none 0 0] 33 (0, 0)) := fun wz h => blk_below H.out.2.2.2.2.2.2.1 h
 have RT := Aside0.mk RT
 have r0 := (blk_cell (RT.out w1 X.out) 0).trans rfl
 have r1 := (blk_cell (RT.out w1 X.out) 1).trans rfl
 have r2 := (blk_cell (RT.out w1 X.out) 2).trans rfl
 have g0 := blk_frozen (RT.out w1 X.out) 0
 have g1 := blk_frozen (RT.out w1 X.out) 1
 have g2 := blk_frozen (RT.out w1 X.out) 2
 cases b0
 ·go_wp2
  have hcode : code u0 u1 ns ⟨x0, ⟨x1, x2⟩⟩ = 2 := CM.out.1 H.out.2.2.2.2.2.2.2.2.1
  have hjo : joined (code u0 u1 ns ⟨x0, ⟨x1, x2⟩⟩) ns ⟨x0, ⟨x1, x2⟩⟩ = ns := by rw [hcode]; rfl
  have hfin := ((((below_then H.out.2.2.2.1 H.out.2.2.2.1.size X.out).setCell (p := ⟨w.heap.size + 1 + 1, 0, none⟩) (by show _ ≤ w.heap.size + 1 + 1; omega) (.int .i64 u0)).setCell (p := ⟨w.heap.size + 1 + 1, 1, none⟩) (by show _ ≤ w.heap.size + 1 + 1; omega) (.int .i64 u1)).setCell (p := ⟨w.heap.size + 1 + 1, 2, none⟩) (by show _ ≤ w.heap.size + 1 + 1; omega) (.slice A ns.length c))
  refine bodyPost_ret (v := .tuple #[.agg #[.int .i64 u0, .int .i64 u1, .slice A ns.length c], .int .i64 2]) (by simp [results, Tryz.results40, go_sem, r0, r1, r2]) rfl ⟨_, by rw [hcode], ?_, hfin⟩
  rw [hjo]
  exact Kd.R_mono (Kd.R_below H.out.1 hfin) (fun k hk => .inl hk)
 ·go_wp2_with fail
  refine (liveryref22_At.calls (ns.length + 1) u0 u1 A c ns x0 (place ns x0) _ (CC.out w1 X.out).2.2 H.out.2.2.1 (rat_f u0 u1 x0 ns (by have := H.out.2.2.2.2.2.2.2.2.2.2.1; omega) _ (Nat.lt_succ_self _))).mono ?_
  rintro e w2 ⟨rfl, hb⟩
  replace X := Aside0.mk (below_step X.out hb)
  clear hb c0 c1 c2 n0 n1 n2 r0 r1 r2 g0 g1 g2
  dsimp only
  obtain ⟨⟨c0, c1, c2⟩, ⟨n0, n1, n2⟩, _⟩ := CC.out w2 X.out
  have r0 := (blk_cell (RT.out w2 X.out) 0).trans rfl
  have r1 := (blk_cell (RT.out w2 X.out) 1).trans rfl
  have r2 := (blk_cell (RT.out w2 X.out) 2).trans rfl
  have g0 := blk_frozen (RT.out w2 X.out) 0
  have g1 := blk_frozen (RT.out w2 X.out) 1
  have g2 := blk_frozen (RT.out w2 X.out) 2
  obtain ⟨pl, hpl⟩ : ∃ pl, place ns x0 = pl := ⟨_, rfl⟩
  have PL := Aside0.mk hpl
  rw [hpl]
  clear hpl
  by_cases h0 : 0 ≤ pl
  ·have h0b : decide ((0 : Int) ≤ pl) = true := decide_eq_true h0
   go_wp2
   have hcode : code u0 u1 ns ⟨x0, ⟨x1, x2⟩⟩ = 8 := (CM.out.2 H.out.2.2.2.2.2.2.2.2.1).1 (by rw [PL.out]; exact h0)
   have hjo : joined (code u0 u1 ns ⟨x0, ⟨x1, x2⟩⟩) ns ⟨x0, ⟨x1, x2⟩⟩ = ns := by rw [hcode]; rfl
   have hfin := ((((below_then H.out.2.2.2.1 H.out.2.2.2.1.size X.out).setCell (p := ⟨w.heap.size + 1 + 1, 0, none⟩) (by show _ ≤ w.heap.size + 1 + 1; omega) (.int .i64 u0)).setCell (p := ⟨w.heap.size + 1 + 1, 1, none⟩) (by show _ ≤ w.heap.size + 1 + 1; omega) (.int .i64 u1)).setCell (p := ⟨w.heap.size + 1 + 1, 2, none⟩) (by show _ ≤ w.heap.size + 1 + 1; omega) (.slice A ns.length c))
   refine bodyPost_ret (v := .tuple #[.agg #[.int .i64 u0, .int .i64 u1, .slice A ns.length c], .int .i64 8]) (by simp [results, Tryz.results40, go_sem, r0, r1, r2]) rfl ⟨_, by rw [hcode], ?_, hfin⟩
   rw [hjo]
   exact Kd.R_mono (Kd.R_below H.out.1 hfin) (fun k hk => .inl hk)
  ·have h0b : decide ((0 : Int) ≤ pl) = false := decide_eq_false h0
   by_cases h3 : 32 ≤ ns.length
   ·have h3b : decide ((32 : Int) ≤ (ns.length : Int)) = true := decide_eq_true (by omega)
    go_wp2
    have hcode : code u0 u1 ns ⟨x0, ⟨x1, x2⟩⟩ = 6 := ((CM.out.2 H.out.2.2.2.2.2.2.2.2.1).2 (by rw [PL.out]; omega)).1 h3
    have hjo : joined (code u0 u1 ns ⟨x0, ⟨x1, x2⟩⟩) ns ⟨x0, ⟨x1, x2⟩⟩ = ns := by rw [hcode]; rfl
    have hfin := ((((below_then H.out.2.2.2.1 H.out.2.2.2.1.size X.out).setCell (p := ⟨w.heap.size + 1 + 1, 0, none⟩) (by show _ ≤ w.heap.size + 1 + 1; omega) (.int .i64 u0)).setCell (p := ⟨w.heap.size + 1 + 1, 1, none⟩) (by show _ ≤ w.heap.size + 1 + 1; omega) (.int .i64 u1)).setCell (p := ⟨w.heap.size + 1 + 1, 2, none⟩) (by show _ ≤ w.heap.size + 1 + 1; omega) (.slice A ns.length c))
    refine bodyPost_ret (v := .tuple #[.agg #[.int .i64 u0, .int .i64 u1, .slice A ns.length c], .int .i64 6]) (by simp [results, Tryz.results40, go_sem, r0, r1, r2]) rfl ⟨_, by rw [hcode], ?_, hfin⟩
    rw [hjo]
    exact Kd.R_mono (Kd.R_below H.out.1 hfin) (fun k hk => .inl hk)
   ·have h3b : decide ((32 : Int) ≤ (ns.length : Int)) = false := decide_eq_false (by omega)
    have hcode : code u0 u1 ns ⟨x0, ⟨x1, x2⟩⟩ = 0 := ((CM.out.2 H.out.2.2.2.2.2.2.2.2.1).2 (by rw [PL.out]; omega)).2 (by omega)
    have hwho : who ns x0 = none := (place_who ns x0).1 (by rw [PL.out]; omega)
    have KC := Aside0.mk (And.intro hcode hwho)
    clear hcode hwho h0 h3
    go_wp2_with fail
    clear c0 c1 c2 n0 n1 n2 r0 r1 r2 g0 g1 g2
    go_loopg [6] (spot ns x0) (fun kk i wr => ∃ j : Nat, kk = spot ns x0 - j ∧ i = .int .i64 j ∧ j ≤ spot ns x0 ∧ Below W0.heap.size W0 wr)
    case atStart => exact ⟨0, rfl, rfl, Nat.zero_le _, X.out⟩
    obtain ⟨j, rfl, rfl, hj, hB⟩ := hrel
    have hsp := spot_le ns x0
    have hl32 := H.out.2.2.2.2.2.2.2.2.2.2.1
    have hl6 : (ns.length : Int) ≤ 1000000 := by omega
    have X := Aside0.mk hB
    clear hB
    by_cases hlt : j < spot ns x0
    ·obtain ⟨ad, rfl, d0, _, _⟩ := at_T59 H.out.2.1 (j : Int) (by omega) (by omega)
     have hjn : j < ns.length := by omega
     have ej : (j : Int).toNat = j := by simp
     have er : rd_T59 ns (j : Int) = ns[j] := by unfold rd_T59; rw [ej, List.getD_eq_getElem?_getD, List.getElem?_eq_getElem hjn]; rfl
     rw [er, ej] at d0
     have hy := spot_lt hlt hjn
     obtain ⟨y, hye⟩ : ∃ y, ns[j].f0 = y := ⟨_, rfl⟩
     rw [hye] at d0 hy
     have t1 : decide ((j : Int) < (ns.length : Int)) = true := decide_eq_true (by omega)
     have t1' : decide (j < ns.length) = true := decide_eq_true hjn
     have t2 : decide (y < x0) = true := decide_eq_true hy
     have hlt' : (j : Int) < (ns.length : Int) := by omega
     have D := Aside0.mk d0
     clear hye d0 hy er
     go_upto_region 8 with (fail)
     refine XInv.region_tab [] [[], [], [1], [2], [0, 3], [4], [5], [6, 5], [5], [7, 8, 5], [9, 5], [10, 5], [5], [12, 5], [11, 13, 5], [5, 14]] (fun bq jq => match jq with
       | 0 => .int .i64 j
       | 1 => .pointer (some ⟨w.heap.size, 2, none⟩)
       | 2 => .slice (some ad) ns.length c
       | 3 => .int .i64 ns.length
       | 4 => .bool true
       | 5 => .bool true
       | 6 => .pointer (some ⟨w.heap.size, 2, none⟩)
       | 7 => .slice (some ad) ns.length c
       | 8 => .int .i64 j
       | 9 => .pointer (some (ad.add (j * 3)))
       | 10 => .pointer (some (ad.add (j * 3)))
       | 11 => .int .u32 y
       | 12 => .pointer (some ⟨w.heap.size + 1, 0, none⟩)
       | 13 => .int .u32 x0
       | 14 => .bool true
       | 15 => .bool true
       | _ => undef)
       (fun bq l w' => Below wr.heap.size wr w')
       (by kernel_rfl) rfl (by kernel_rfl) (by kernel_rfl) (by kernel_rfl) ⟨fun _ : Nat => (0 : Nat), below_drew (Below.refl _ _)⟩ ?_ ?_
     ·intro i1 hi1 hds oi hoi bq lb w' hW hlb hcl hneed hclo
      have hi1 : i1 < 16 := hi1
      have hcs : i1 = 0 ∨ i1 = 1 ∨ i1 = 2 ∨ i1 = 3 ∨ i1 = 4 ∨ i1 = 5 ∨ i1 = 6 ∨ i1 = 7 ∨ i1 = 8 ∨ i1 = 9 ∨ i1 = 10 ∨ i1 = 11 ∨ i1 = 12 ∨ i1 = 13 ∨ i1 = 14 ∨ i1 = 15 := by omega
      clear hi1 hcl hneed hclo
      obtain ⟨⟨c0, c1, c2⟩, ⟨n0, n1, n2⟩, _⟩ := CC.out w' (below_step X.out hW)
      have d0 := pw_cell_below (below_then H.out.2.2.2.1 H.out.2.2.2.1.size (below_step X.out hW)) D.out
      rcases hcs with rfl | rfl | rfl | rfl | rfl | rfl | rfl | rfl | rfl | rfl | rfl | rfl | rfl | rfl | rfl | rfl
      all_goals simp only [List.getElem?_toArray, List.getElem?_cons_succ, List.getElem?_cons_zero, Option.some.injEq] at hoi
      all_goals subst hoi
      ·refine XInv.yes_tab [] (by kernel_rfl) ?_
       intro Q2 K2 hK2
       simp only [XInv.puts, XPrint.pw]
       go_simp
       exact hK2.out (.int .i64 j) w' ⟨bq, rfl, fun _ _ _ => rfl, hW⟩
      ·refine XInv.yes_tab [] (by kernel_rfl) ?_
       intro Q2 K2 hK2
       simp only [XInv.puts, XPrint.pw]
       go_simp
       exact hK2.out (.pointer (some ⟨w.heap.size, 2, none⟩)) w' ⟨bq, rfl, fun _ _ _ => rfl, hW⟩
      ·refine XInv.yes_tab [(24, 1)] (by kernel_rfl) ?_
       intro Q2 K2 hK2
       simp only [XInv.puts, XPrint.pw]
       go_simp
       exact hK2.out (.slice (some ad) ns.length c) w' ⟨bq, rfl, fun _ _ _ => rfl, hW⟩
      ·refine XInv.yes_tab [(25, 2)] (by kernel_rfl) ?_
       intro Q2 K2 hK2
       simp only [XInv.puts, XPrint.pw]
       go_simp
       exact hK2.out (.int .i64 ns.length) w' ⟨bq, rfl, fun _ _ _ => rfl, hW⟩
      ·refine XInv.yes_tab [(26, 3), (23, 0)] (by kernel_rfl) ?_
       intro Q2 K2 hK2
       simp only [XInv.puts, XPrint.pw]
       go_simp
       exact hK2.out (.bool true) w' ⟨bq, rfl, fun _ _ _ => rfl, hW⟩
      ·refine XInv.yes_tab [(27, 4)] (by kernel_rfl) ?_
       intro Q2 K2 hK2
       simp only [XInv.puts, XPrint.pw]
       go_simp
       exact hK2.out (.bool true) w' ⟨bq, rfl, fun _ _ _ => rfl, hW⟩
      ·refine XInv.yes_tab [(28, 5)] (by kernel_rfl) ?_
       intro Q2 K2 hK2
       simp only [XInv.puts, XPrint.pw]
       go_simp
       exact hK2.out (.pointer (some ⟨w.heap.size, 2, none⟩)) w' ⟨bq, rfl, fun _ _ _ => rfl, hW⟩
      ·refine XInv.yes_tab [(29, 6), (28, 5)] (by kernel_rfl) ?_
       intro Q2 K2 hK2
       simp only [XInv.puts, XPrint.pw]
       go_simp
       exact hK2.out (.slice (some ad) ns.length c) w' ⟨bq, rfl, fun _ _ _ => rfl, hW⟩
      ·refine XInv.yes_tab [(28, 5)] (by kernel_rfl) ?_
       intro Q2 K2 hK2
       simp only [XInv.puts, XPrint.pw]
       go_simp
       exact hK2.out (.int .i64 j) w' ⟨bq, rfl, fun _ _ _ => rfl, hW⟩
      ·refine XInv.yes_tab [(31, 8), (30, 7), (28, 5)] (by kernel_rfl) ?_
       intro Q2 K2 hK2
       simp only [XInv.puts, XPrint.pw]
       go_simp
       exact hK2.out (.pointer (some (ad.add (j * 3)))) w' ⟨bq, rfl, fun _ _ _ => rfl, hW⟩
      ·refine XInv.yes_tab [(32, 9), (28, 5)] (by kernel_rfl) ?_
       intro Q2 K2 hK2
       simp only [XInv.puts, XPrint.pw]
       go_simp
       exact hK2.out (.pointer (some (ad.add (j * 3)))) w' ⟨bq, rfl, fun _ _ _ => rfl, hW⟩
      ·refine XInv.yes_tab [(33, 10), (28, 5)] (by kernel_rfl) ?_
       intro Q2 K2 hK2
       simp only [XInv.puts, XPrint.pw]
       go_simp
       exact hK2.out (.int .u32 y) w' ⟨bq, rfl, fun _ _ _ => rfl, hW⟩
      ·refine XInv.yes_tab [(28, 5)] (by kernel_rfl) ?_
       intro Q2 K2 hK2
       simp only [XInv.puts, XPrint.pw]
       go_simp
       exact hK2.out (.pointer (some ⟨w.heap.size + 1, 0, none⟩)) w' ⟨bq, rfl, fun _ _ _ => rfl, hW⟩
      ·refine XInv.yes_tab [(35, 12), (28, 5)] (by kernel_rfl) ?_
       intro Q2 K2 hK2
       simp only [XInv.puts, XPrint.pw]
       go_simp
       exact hK2.out (.int .u32 x0) w' ⟨bq, rfl, fun _ _ _ => rfl, hW⟩
      ·refine XInv.yes_tab [(36, 13), (34, 11), (28, 5)] (by kernel_rfl) ?_
       intro Q2 K2 hK2
       simp only [XInv.puts, XPrint.pw]
       go_simp
       exact hK2.out (.bool true) w' ⟨bq, rfl, fun _ _ _ => rfl, hW⟩
      ·refine XInv.yes_tab [(37, 14), (28, 5)] (by kernel_rfl) ?_
       intro Q2 K2 hK2
       simp only [XInv.puts, XPrint.pw]
       go_simp
       exact hK2.out (.bool true) w' ⟨bq, rfl, fun _ _ _ => rfl, hW⟩
     ·intro bq w' hW
      refine XInv.end_nil [(38, 15), (37, 14), (36, 13), (35, 12), (34, 11), (33, 10), (32, 9), (31, 8), (30, 7), (29, 6), (28, 5), (27, 4), (26, 3), (25, 2), (24, 1), (23, 0)] (by kernel_rfl) (by kernel_rfl) ?_
      simp only [XInv.puts, XPrint.pw]
      have hW2 := Aside0.mk (below_step X.out hW)
      clear hW
      go_wp2
      go_roundg (spot ns x0 - (j + 1))
      case measure => omega
      case rel => exact ⟨j + 1, rfl, by go_num, by omega, hW2.out⟩
    ·have hje : j = spot ns x0 := by omega
     by_cases hjn : j < ns.length
     ·obtain ⟨ad, rfl, d0, _, _⟩ := at_T59 H.out.2.1 (j : Int) (by omega) (by omega)
      have ej : (j : Int).toNat = j := by simp
      have er : rd_T59 ns (j : Int) = ns[j] := by unfold rd_T59; rw [ej, List.getD_eq_getElem?_getD, List.getElem?_eq_getElem hjn]; rfl
      rw [er, ej] at d0
      have hy : ¬ ns[j].f0 < x0 := by subst hje; exact spot_at hjn
      obtain ⟨y, hye⟩ : ∃ y, ns[j].f0 = y := ⟨_, rfl⟩
      rw [hye] at d0 hy
      have t1 : decide ((j : Int) < (ns.length : Int)) = true := decide_eq_true (by omega)
      have t1' : decide (j < ns.length) = true := decide_eq_true hjn
      have t2 : decide (y < x0) = false := decide_eq_false hy
      have hlt' : (j : Int) < (ns.length : Int) := by omega
      have D := Aside0.mk d0
      have HJ := Aside0.mk hje
      clear hye d0 hy er hje
      go_upto_region 8 with (fail)
      refine XInv.region_tab [] [[], [], [1], [2], [0, 3], [4], [5], [6, 5], [5], [7, 8, 5], [9, 5], [10, 5], [5], [12, 5], [11, 13, 5], [5, 14]] (fun bq jq => match jq with
        | 0 => .int .i64 j
        | 1 => .pointer (some ⟨w.heap.size, 2, none⟩)
        | 2 => .slice (some ad) ns.length c
        | 3 => .int .i64 ns.length
        | 4 => .bool true
        | 5 => .bool true
        | 6 => .pointer (some ⟨w.heap.size, 2, none⟩)
        | 7 => .slice (some ad) ns.length c
        | 8 => .int .i64 j
        | 9 => .pointer (some (ad.add (j * 3)))
        | 10 => .pointer (some (ad.add (j * 3)))
        | 11 => .int .u32 y
        | 12 => .pointer (some ⟨w.heap.size + 1, 0, none⟩)
        | 13 => .int .u32 x0
        | 14 => .bool false
        | 15 => .bool false
        | _ => undef)
        (fun bq l w' => Below wr.heap.size wr w')
        (by kernel_rfl) rfl (by kernel_rfl) (by kernel_rfl) (by kernel_rfl) ⟨fun _ : Nat => (0 : Nat), below_drew (Below.refl _ _)⟩ ?_ ?_
      ·intro i1 hi1 hds oi hoi bq lb w' hW hlb hcl hneed hclo
       have hi1 : i1 < 16 := hi1
       have hcs : i1 = 0 ∨ i1 = 1 ∨ i1 = 2 ∨ i1 = 3 ∨ i1 = 4 ∨ i1 = 5 ∨ i1 = 6 ∨ i1 = 7 ∨ i1 = 8 ∨ i1 = 9 ∨ i1 = 10 ∨ i1 = 11 ∨ i1 = 12 ∨ i1 = 13 ∨ i1 = 14 ∨ i1 = 15 := by omega
       clear hi1 hcl hneed hclo
       obtain ⟨⟨c0, c1, c2⟩, ⟨n0, n1, n2⟩, _⟩ := CC.out w' (below_step X.out hW)
       have d0 := pw_cell_below (below_then H.out.2.2.2.1 H.out.2.2.2.1.size (below_step X.out hW)) D.out
       rcases hcs with rfl | rfl | rfl | rfl | rfl | rfl | rfl | rfl | rfl | rfl | rfl | rfl | rfl | rfl | rfl | rfl
       all_goals simp only [List.getElem?_toArray, List.getElem?_cons_succ, List.getElem?_cons_zero, Option.some.injEq] at hoi
       all_goals subst hoi
       ·refine XInv.yes_tab [] (by kernel_rfl) ?_
        intro Q2 K2 hK2
        simp only [XInv.puts, XPrint.pw]
        go_simp
        exact hK2.out (.int .i64 j) w' ⟨bq, rfl, fun _ _ _ => rfl, hW⟩
       ·refine XInv.yes_tab [] (by kernel_rfl) ?_
        intro Q2 K2 hK2
        simp only [XInv.puts, XPrint.pw]
        go_simp
        exact hK2.out (.pointer (some ⟨w.heap.size, 2, none⟩)) w' ⟨bq, rfl, fun _ _ _ => rfl, hW⟩
       ·refine XInv.yes_tab [(24, 1)] (by kernel_rfl) ?_
        intro Q2 K2 hK2
        simp only [XInv.puts, XPrint.pw]
        go_simp
        exact hK2.out (.slice (some ad) ns.length c) w' ⟨bq, rfl, fun _ _ _ => rfl, hW⟩
       ·refine XInv.yes_tab [(25, 2)] (by kernel_rfl) ?_
        intro Q2 K2 hK2
        simp only [XInv.puts, XPrint.pw]
        go_simp
        exact hK2.out (.int .i64 ns.length) w' ⟨bq, rfl, fun _ _ _ => rfl, hW⟩
       ·refine XInv.yes_tab [(26, 3), (23, 0)] (by kernel_rfl) ?_
        intro Q2 K2 hK2
        simp only [XInv.puts, XPrint.pw]
        go_simp
        exact hK2.out (.bool true) w' ⟨bq, rfl, fun _ _ _ => rfl, hW⟩
       ·refine XInv.yes_tab [(27, 4)] (by kernel_rfl) ?_
        intro Q2 K2 hK2
        simp only [XInv.puts, XPrint.pw]
        go_simp
        exact hK2.out (.bool true) w' ⟨bq, rfl, fun _ _ _ => rfl, hW⟩
       ·refine XInv.yes_tab [(28, 5)] (by kernel_rfl) ?_
        intro Q2 K2 hK2
        simp only [XInv.puts, XPrint.pw]
        go_simp
        exact hK2.out (.pointer (some ⟨w.heap.size, 2, none⟩)) w' ⟨bq, rfl, fun _ _ _ => rfl, hW⟩
       ·refine XInv.yes_tab [(29, 6), (28, 5)] (by kernel_rfl) ?_
        intro Q2 K2 hK2
        simp only [XInv.puts, XPrint.pw]
        go_simp
        exact hK2.out (.slice (some ad) ns.length c) w' ⟨bq, rfl, fun _ _ _ => rfl, hW⟩
       ·refine XInv.yes_tab [(28, 5)] (by kernel_rfl) ?_
        intro Q2 K2 hK2
        simp only [XInv.puts, XPrint.pw]
        go_simp
        exact hK2.out (.int .i64 j) w' ⟨bq, rfl, fun _ _ _ => rfl, hW⟩
       ·refine XInv.yes_tab [(31, 8), (30, 7), (28, 5)] (by kernel_rfl) ?_
        intro Q2 K2 hK2
        simp only [XInv.puts, XPrint.pw]
        go_simp
        exact hK2.out (.pointer (some (ad.add (j * 3)))) w' ⟨bq, rfl, fun _ _ _ => rfl, hW⟩
       ·refine XInv.yes_tab [(32, 9), (28, 5)] (by kernel_rfl) ?_
        intro Q2 K2 hK2
        simp only [XInv.puts, XPrint.pw]
        go_simp
        exact hK2.out (.pointer (some (ad.add (j * 3)))) w' ⟨bq, rfl, fun _ _ _ => rfl, hW⟩
       ·refine XInv.yes_tab [(33, 10), (28, 5)] (by kernel_rfl) ?_
        intro Q2 K2 hK2
        simp only [XInv.puts, XPrint.pw]
        go_simp
        exact hK2.out (.int .u32 y) w' ⟨bq, rfl, fun _ _ _ => rfl, hW⟩
       ·refine XInv.yes_tab [(28, 5)] (by kernel_rfl) ?_
        intro Q2 K2 hK2
        simp only [XInv.puts, XPrint.pw]
        go_simp
        exact hK2.out (.pointer (some ⟨w.heap.size + 1, 0, none⟩)) w' ⟨bq, rfl, fun _ _ _ => rfl, hW⟩
       ·refine XInv.yes_tab [(35, 12), (28, 5)] (by kernel_rfl) ?_
        intro Q2 K2 hK2
        simp only [XInv.puts, XPrint.pw]
        go_simp
        exact hK2.out (.int .u32 x0) w' ⟨bq, rfl, fun _ _ _ => rfl, hW⟩
       ·refine XInv.yes_tab [(36, 13), (34, 11), (28, 5)] (by kernel_rfl) ?_
        intro Q2 K2 hK2
        simp only [XInv.puts, XPrint.pw]
        go_simp
        exact hK2.out (.bool false) w' ⟨bq, rfl, fun _ _ _ => rfl, hW⟩
       ·refine XInv.yes_tab [(37, 14), (28, 5)] (by kernel_rfl) ?_
        intro Q2 K2 hK2
        simp only [XInv.puts, XPrint.pw]
        go_simp
        exact hK2.out (.bool false) w' ⟨bq, rfl, fun _ _ _ => rfl, hW⟩
      ·intro bq w' hW
       refine XInv.end_nil [(38, 15), (37, 14), (36, 13), (35, 12), (34, 11), (33, 10), (32, 9), (31, 8), (30, 7), (29, 6), (28, 5), (27, 4), (26, 3), (25, 2), (24, 1), (23, 0)] (by kernel_rfl) (by kernel_rfl) ?_
       simp only [XInv.puts, XPrint.pw]
       replace X := Aside0.mk (below_step X.out hW)
       clear hW
       clear t1 t1'
       go_upto_region 10 with (fail)
       obtain ⟨Ws, hWs⟩ : ∃ Ws, w' = Ws := ⟨_, rfl⟩
       rw [hWs] at X ⊢
       clear hWs
       have hjl : j ≤ ns.length := by omega
       obtain ⟨i0, hi0, _, hsz, _⟩ := info_parts info59
       have hcut1 := cut_to (P := Tryz.prog) 24 59 .i64 Tryz.underlying24 hi0 (some ad) ns.length c (j : Int) (by omega) (by omega) H.out.2.2.1
       have hcut2 := cut_from (P := Tryz.prog) 24 59 .i64 Tryz.underlying24 hi0 3 hsz (some ad) ns.length c (j : Int) (by omega) (by omega)
       simp only [Int.toNat_natCast] at hcut1 hcut2
       obtain ⟨A2, hA2⟩ : ∃ A2, (if c = j then (some ad) else Option.map (fun x => x.add (j * 3)) (some ad)) = A2 := ⟨_, rfl⟩
       rw [hA2] at hcut2
       have TK : Aside0 (∀ w', Below Ws.heap.size Ws w' → Kd.C k59 w' (some ad) j (ns.take j)) := ⟨fun w' h => by
        have := Kd.C_take (m := j) (CC.out w' (below_step X.out h)).2.2 hjl
        rwa [show (ns.take j).length = j by rw [List.length_take]; omega] at this⟩
       have DR : Aside0 (∀ w', Below Ws.heap.size Ws w' → Kd.C k59 w' A2 (ns.length - j) (ns.drop j)) := ⟨fun w' h => by
        have := Kd.C_drop (m := j) (c := c) (CC.out w' (below_step X.out h)).2.2 hjl H.out.2.2.1
        rw [List.length_drop] at this
        rw [← hA2]
        exact this⟩
       clear hi0 hsz hA2
       refine XInv.region_tab [] [[], [], [1], [], [2, 3], [0, 4], [], [6], [5, 7, 5], [], [9], [], [10, 11], [8, 12, 8], [0, 1, 2, 3, 4, 5, 6, 7, 8, 9, 10, 11, 12, 13], [14, 13, 13, 0, 1, 2, 3, 4, 5, 6, 7, 8, 9, 10, 11, 12, 13]] (fun bq jq => match jq with
         | 0 => bq.1
         | 1 => .pointer (some ⟨w.heap.size, 2, none⟩)
         | 2 => .slice (some ad) ns.length c
         | 3 => .int .i64 j
         | 4 => .slice (some ad) j c
         | 5 => bq.2.1
         | 6 => .agg #[.int .u32 x0, .int .i64 x1, .int .i64 x2]
         | 7 => bq.2.2.1
         | 8 => bq.2.2.2.1
         | 9 => .pointer (some ⟨w.heap.size, 2, none⟩)
         | 10 => .slice (some ad) ns.length c
         | 11 => .int .i64 j
         | 12 => .slice A2 (ns.length - j) (c - j)
         | 13 => bq.2.2.2.2
         | 14 => .pointer (some ⟨w.heap.size, 2, none⟩)
         | 15 => undef
         | _ => undef)
         (fun bq l w' => JW Ws.heap.size Ws ⟨x0, ⟨x1, x2⟩⟩ (ns.take j) (ns.drop j) ⟨w.heap.size, 2, none⟩ bq l w')
         (by kernel_rfl) rfl (by kernel_rfl) (by kernel_rfl) (by kernel_rfl) ⟨((undef, undef, undef, undef, undef) : V5), JW.start (below_drew (Below.refl _ _))⟩ ?_ ?_
       ·intro i1 hi1 hds oi hoi bq lb w' hW hlb hcl hneed hclo
        have hi1 : i1 < 16 := hi1
        have hcs : i1 = 0 ∨ i1 = 1 ∨ i1 = 2 ∨ i1 = 3 ∨ i1 = 4 ∨ i1 = 5 ∨ i1 = 6 ∨ i1 = 7 ∨ i1 = 8 ∨ i1 = 9 ∨ i1 = 10 ∨ i1 = 11 ∨ i1 = 12 ∨ i1 = 13 ∨ i1 = 14 ∨ i1 = 15 := by omega
        clear hi1
        rcases hcs with rfl | rfl | rfl | rfl | rfl | rfl | rfl | rfl | rfl | rfl | rfl | rfl | rfl | rfl | rfl | rfl
        all_goals simp only [List.getElem?_toArray, List.getElem?_cons_succ, List.getElem?_cons_zero, Option.some.injEq] at hoi
        all_goals subst hoi
        ·refine XInv.yes_tab [] (by kernel_rfl) ?_
         have n15 : lb 15 = false := hcl 15 (by decide) (by kernel_rfl)
         have n5 : lb 5 = false := hcl 5 (by decide) (by kernel_rfl)
         have n8 : lb 8 = false := (Bool.eq_false_or_eq_true (lb 8)).elim (fun h => absurd (hclo 8 5 (by decide) h (by kernel_rfl)) (by rw [n5]; decide)) id
         have n13 : lb 13 = false := (Bool.eq_false_or_eq_true (lb 13)).elim (fun h => absurd (hclo 13 8 (by decide) h (by kernel_rfl)) (by rw [n8]; decide)) id
         clear hcl hneed hclo
         intro Q2 K2 hK2
         refine Kd.R_lit_step k59 _ 59 (by rfl) (N := 41) rfl (xs := ([] : List S59)) (inner := []) (ok := fun _ => True) (okp := fun _ => True) (by (try simp only [XInv.puts, XPrint.pw]); first | (go_simp; done) | (go_simp; rfl)) (Reps.none _ _) (fun _ hk => hk) trivial (Below.refl _ _) (Nat.le_refl _) (by simp) ?_
         intro v1 w1 hR hB hg _
         exact hK2.out v1 w1 ⟨(v1, bq.2), rfl, (by intro jj hjj hlj; have hjj : jj < 16 := hjj; rcases (by omega : jj = 0 ∨ jj = 1 ∨ jj = 2 ∨ jj = 3 ∨ jj = 4 ∨ jj = 5 ∨ jj = 6 ∨ jj = 7 ∨ jj = 8 ∨ jj = 9 ∨ jj = 10 ∨ jj = 11 ∨ jj = 12 ∨ jj = 13 ∨ jj = 14 ∨ jj = 15) with rfl | rfl | rfl | rfl | rfl | rfl | rfl | rfl | rfl | rfl | rfl | rfl | rfl | rfl | rfl | rfl <;> first | rfl | (rw [hlb] at hlj; cases hlj)), hW.s0 n15 n13 n8 n5 v1 hB hR (hW.below n15).size⟩
        ·refine XInv.yes_tab [] (by kernel_rfl) ?_
         intro Q2 K2 hK2
         simp only [XInv.puts, XPrint.pw]
         go_simp
         exact hK2.out (.pointer (some ⟨w.heap.size, 2, none⟩)) w' ⟨bq, rfl, fun _ _ _ => rfl, hW.up 1 (by decide)⟩
        ·refine XInv.yes_tab [(42, 1)] (by kernel_rfl) ?_
         have n15 : lb 15 = false := hcl 15 (by decide) (by kernel_rfl)
         obtain ⟨⟨c0, c1, c2⟩, ⟨m0, m1, m2⟩, _⟩ := CC.out w' (below_step X.out (hW.below n15))
         clear hcl hneed hclo
         intro Q2 K2 hK2
         simp only [XInv.puts, XPrint.pw]
         go_simp
         exact hK2.out (.slice (some ad) ns.length c) w' ⟨bq, rfl, fun _ _ _ => rfl, hW.up 2 (by decide)⟩
        ·refine XInv.yes_tab [] (by kernel_rfl) ?_
         intro Q2 K2 hK2
         simp only [XInv.puts, XPrint.pw]
         go_simp
         exact hK2.out (.int .i64 j) w' ⟨bq, rfl, fun _ _ _ => rfl, hW.up 3 (by decide)⟩
        ·refine XInv.yes_tab [(44, 3), (43, 2)] (by kernel_rfl) ?_
         intro Q2 K2 hK2
         simp only [XInv.puts, XPrint.pw]
         go_simp
         exact hK2.out (.slice (some ad) j c) w' ⟨bq, rfl, fun _ _ _ => rfl, hW.up 4 (by decide)⟩
        ·refine XInv.yes_tab [(45, 4), (41, 0)] (by kernel_rfl) ?_
         have n15 : lb 15 = false := hcl 15 (by decide) (by kernel_rfl)
         have n8 : lb 8 = false := hcl 8 (by decide) (by kernel_rfl)
         have n13 : lb 13 = false := (Bool.eq_false_or_eq_true (lb 13)).elim (fun h => absurd (hclo 13 8 (by decide) h (by kernel_rfl)) (by rw [n8]; decide)) id
         have y0 : lb 0 = true := hneed 0 (by kernel_rfl)
         have r0 := hW.row0 n15 n13 n8 hlb y0
         clear hcl hneed hclo
         intro Q2 K2 hK2
         simp only [XInv.puts]
         refine Kd.R_append_rows_step k59 (w0 := Ws) Ws.heap.size (by rfl) (.tmp 41) (.tmp 45) 24 59 (.agg #[.int .u32 0, .int .i64 0, .int .i64 0]) 24 rfl Tryz.underlying24 info59 rfl (by decide) (by omega) (bq.1) ([]) (ns.take j) ((some ad)) (j) (c) (fun k => lb 7 = true → bq.2.2.1.ownBlock ≠ some k) (fun _ => False) rfl rfl r0 (TK.out _ (hW.below n15)) (fun _ _ h => h) (fun _ h => h.elim) (fun k hk h7 he => by have := Kd.R_lt (hW.row7 n15 n13 n8 h7) k he; omega) (hW.below n15) (hW.below n15).size (by simp only [List.length_nil]; omega) ?_
         intro v1 w1 hR hB hg _
         exact hK2.out v1 w1 ⟨(bq.1, v1, bq.2.2), rfl, (by intro jj hjj hlj; have hjj : jj < 16 := hjj; rcases (by omega : jj = 0 ∨ jj = 1 ∨ jj = 2 ∨ jj = 3 ∨ jj = 4 ∨ jj = 5 ∨ jj = 6 ∨ jj = 7 ∨ jj = 8 ∨ jj = 9 ∨ jj = 10 ∨ jj = 11 ∨ jj = 12 ∨ jj = 13 ∨ jj = 14 ∨ jj = 15) with rfl | rfl | rfl | rfl | rfl | rfl | rfl | rfl | rfl | rfl | rfl | rfl | rfl | rfl | rfl | rfl <;> first | rfl | (rw [hlb] at hlj; cases hlj)), hW.s5 n15 n13 n8 hlb y0 v1 hR hB hg⟩
        ·refine XInv.yes_tab [] (by kernel_rfl) ?_
         have n15 : lb 15 = false := hcl 15 (by decide) (by kernel_rfl)
         obtain ⟨⟨c0, c1, c2⟩, ⟨m0, m1, m2⟩, _⟩ := CC.out w' (below_step X.out (hW.below n15))
         clear hcl hneed hclo
         intro Q2 K2 hK2
         simp only [XInv.puts, XPrint.pw]
         go_simp
         exact hK2.out (.agg #[.int .u32 x0, .int .i64 x1, .int .i64 x2]) w' ⟨bq, rfl, fun _ _ _ => rfl, hW.up 6 (by decide)⟩
        ·refine XInv.yes_tab [(47, 6)] (by kernel_rfl) ?_
         have n15 : lb 15 = false := hcl 15 (by decide) (by kernel_rfl)
         have n8 : lb 8 = false := hcl 8 (by decide) (by kernel_rfl)
         have n13 : lb 13 = false := (Bool.eq_false_or_eq_true (lb 13)).elim (fun h => absurd (hclo 13 8 (by decide) h (by kernel_rfl)) (by rw [n8]; decide)) id
         clear hcl hneed hclo
         intro Q2 K2 hK2
         simp only [XInv.puts]
         refine Kd.R_lit_step k59 _ 59 (by rfl) (N := 48) rfl (xs := ([⟨x0, ⟨x1, x2⟩⟩] : List S59)) (inner := [.int .u32 x0, .int .i64 x1, .int .i64 x2]) (ok := fun _ => True) (okp := fun _ => True) (by (try simp only [XInv.puts, XPrint.pw]); first | (go_simp; done) | (go_simp; rfl)) (Reps.c3 (k59_mkM _ _ _ (⟨x0, ⟨x1, x2⟩⟩ : S59)) (Reps.none _ _)) (fun _ hk => hk) trivial (Below.refl _ _) (Nat.le_refl _) (by simp) ?_
         intro v1 w1 hR hB hg _
         exact hK2.out v1 w1 ⟨(bq.1, bq.2.1, v1, bq.2.2.2), rfl, (by intro jj hjj hlj; have hjj : jj < 16 := hjj; rcases (by omega : jj = 0 ∨ jj = 1 ∨ jj = 2 ∨ jj = 3 ∨ jj = 4 ∨ jj = 5 ∨ jj = 6 ∨ jj = 7 ∨ jj = 8 ∨ jj = 9 ∨ jj = 10 ∨ jj = 11 ∨ jj = 12 ∨ jj = 13 ∨ jj = 14 ∨ jj = 15) with rfl | rfl | rfl | rfl | rfl | rfl | rfl | rfl | rfl | rfl | rfl | rfl | rfl | rfl | rfl | rfl <;> first | rfl | (rw [hlb] at hlj; cases hlj)), hW.s7 n15 n13 n8 hlb v1 hB hR (hW.below n15).size⟩
        ·refine XInv.yes_tab [(48, 7), (46, 5)] (by kernel_rfl) ?_
         have n15 : lb 15 = false := hcl 15 (by decide) (by kernel_rfl)
         have n13 : lb 13 = false := hcl 13 (by decide) (by kernel_rfl)
         have y5 : lb 5 = true := hneed 5 (by kernel_rfl)
         have y7 : lb 7 = true := hneed 7 (by kernel_rfl)
         have r5 := Kd.R_mono (ok' := fun _ => True) (hW.row5 n15 n13 hlb y5) (fun _ _ => trivial)
         have r7 := hW.row7 n15 n13 hlb y7
         obtain ⟨A7, c7, e7⟩ := Kd.R_slice r7
         rw [e7] at r7
         obtain ⟨_, _, hC7⟩ := Kd.R_reads' r7
         clear hcl hneed hclo
         intro Q2 K2 hK2
         simp only [XInv.puts]
         refine Kd.R_append_rows_step k59 (w0 := Ws) Ws.heap.size (by rfl) (.tmp 46) (.tmp 48) 24 59 (.agg #[.int .u32 0, .int .i64 0, .int .i64 0]) 24 rfl Tryz.underlying24 info59 rfl (by decide) (by omega) (bq.2.1) (ns.take j) ([⟨x0, ⟨x1, x2⟩⟩]) (A7) (1) (c7) (fun _ => True) (fun _ => False) rfl e7 r5 (hC7) (fun _ _ h => h) (fun _ h => h.elim) (fun _ _ => trivial) (hW.below n15) (hW.below n15).size (by rw [List.length_take]; omega) ?_
         intro v1 w1 hR hB hg _
         exact hK2.out v1 w1 ⟨(bq.1, bq.2.1, bq.2.2.1, v1, bq.2.2.2.2), rfl, (by intro jj hjj hlj; have hjj : jj < 16 := hjj; rcases (by omega : jj = 0 ∨ jj = 1 ∨ jj = 2 ∨ jj = 3 ∨ jj = 4 ∨ jj = 5 ∨ jj = 6 ∨ jj = 7 ∨ jj = 8 ∨ jj = 9 ∨ jj = 10 ∨ jj = 11 ∨ jj = 12 ∨ jj = 13 ∨ jj = 14 ∨ jj = 15) with rfl | rfl | rfl | rfl | rfl | rfl | rfl | rfl | rfl | rfl | rfl | rfl | rfl | rfl | rfl | rfl <;> first | rfl | (rw [hlb] at hlj; cases hlj)), hW.s8 n15 n13 v1 hR hB⟩
        ·refine XInv.yes_tab [] (by kernel_rfl) ?_
         intro Q2 K2 hK2
         simp only [XInv.puts, XPrint.pw]
         go_simp
         exact hK2.out (.pointer (some ⟨w.heap.size, 2, none⟩)) w' ⟨bq, rfl, fun _ _ _ => rfl, hW.up 9 (by decide)⟩
        ·refine XInv.yes_tab [(50, 9)] (by kernel_rfl) ?_
         have n15 : lb 15 = false := hcl 15 (by decide) (by kernel_rfl)
         obtain ⟨⟨c0, c1, c2⟩, ⟨m0, m1, m2⟩, _⟩ := CC.out w' (below_step X.out (hW.below n15))
         clear hcl hneed hclo
         intro Q2 K2 hK2
         simp only [XInv.puts, XPrint.pw]
         go_simp
         exact hK2.out (.slice (some ad) ns.length c) w' ⟨bq, rfl, fun _ _ _ => rfl, hW.up 10 (by decide)⟩
        ·refine XInv.yes_tab [] (by kernel_rfl) ?_
         intro Q2 K2 hK2
         simp only [XInv.puts, XPrint.pw]
         go_simp
         exact hK2.out (.int .i64 j) w' ⟨bq, rfl, fun _ _ _ => rfl, hW.up 11 (by decide)⟩
        ·refine XInv.yes_tab [(52, 11), (51, 10)] (by kernel_rfl) ?_
         intro Q2 K2 hK2
         simp only [XInv.puts, XPrint.pw]
         go_simp
         exact hK2.out (.slice A2 (ns.length - j) (c - j)) w' ⟨bq, rfl, fun _ _ _ => rfl, hW.up 12 (by decide)⟩
        ·refine XInv.yes_tab [(53, 12), (49, 8)] (by kernel_rfl) ?_
         have n15 : lb 15 = false := hcl 15 (by decide) (by kernel_rfl)
         have y8 : lb 8 = true := hneed 8 (by kernel_rfl)
         have r8 := hW.row8 n15 hlb y8
         clear hcl hneed hclo
         intro Q2 K2 hK2
         simp only [XInv.puts]
         refine Kd.R_append_rows_step k59 (w0 := Ws) Ws.heap.size (by rfl) (.tmp 49) (.tmp 53) 24 59 (.agg #[.int .u32 0, .int .i64 0, .int .i64 0]) 24 rfl Tryz.underlying24 info59 rfl (by decide) (by omega) (bq.2.2.2.1) (ns.take j ++ [⟨x0, ⟨x1, x2⟩⟩]) (ns.drop j) (A2) (ns.length - j) (c - j) (fun _ => True) (fun _ => False) rfl rfl r8 (DR.out _ (hW.below n15)) (fun _ _ h => h) (fun _ h => h.elim) (fun _ _ => trivial) (hW.below n15) (hW.below n15).size (by rw [List.length_append, List.length_take, List.length_singleton]; omega) ?_
         intro v1 w1 hR hB hg _
         exact hK2.out v1 w1 ⟨(bq.1, bq.2.1, bq.2.2.1, bq.2.2.2.1, v1), rfl, (by intro jj hjj hlj; have hjj : jj < 16 := hjj; rcases (by omega : jj = 0 ∨ jj = 1 ∨ jj = 2 ∨ jj = 3 ∨ jj = 4 ∨ jj = 5 ∨ jj = 6 ∨ jj = 7 ∨ jj = 8 ∨ jj = 9 ∨ jj = 10 ∨ jj = 11 ∨ jj = 12 ∨ jj = 13 ∨ jj = 14 ∨ jj = 15) with rfl | rfl | rfl | rfl | rfl | rfl | rfl | rfl | rfl | rfl | rfl | rfl | rfl | rfl | rfl | rfl <;> first | rfl | (rw [hlb] at hlj; cases hlj)), hW.s13 n15 v1 hR hB⟩
        ·refine XInv.yes_tab [(54, 13), (53, 12), (52, 11), (51, 10), (50, 9), (49, 8), (48, 7), (47, 6), (46, 5), (45, 4), (44, 3), (43, 2), (42, 1), (41, 0)] (by kernel_rfl) ?_
         intro Q2 K2 hK2
         simp only [XInv.puts, XPrint.pw] at hK2 ⊢
         go_simp
         exact hK2.out (.pointer (some ⟨w.heap.size, 2, none⟩)) w' ⟨bq, rfl, fun _ _ _ => rfl, hW.up 14 (by decide)⟩
        ·refine XInv.yes_tab [(55, 14), (54, 13), (53, 12), (52, 11), (51, 10), (50, 9), (49, 8), (48, 7), (47, 6), (46, 5), (45, 4), (44, 3), (43, 2), (42, 1), (41, 0)] (by kernel_rfl) ?_
         have n15 := hlb
         have y13 : lb 13 = true := hneed 13 (by kernel_rfl)
         have kz := blk_below H.out.2.2.2.2.1 (below_step X.out (hW.below n15))
         have z2 := (blk_cell kz 2).trans rfl
         have g2 := blk_frozen kz 2
         obtain ⟨A9, c9, e9⟩ := Kd.R_slice (hW.row13 n15 y13)
         obtain ⟨m9, hm9⟩ : ∃ m9, (ns.take j ++ [(⟨x0, ⟨x1, x2⟩⟩ : S59)] ++ ns.drop j).length = m9 := ⟨_, rfl⟩
         rw [hm9] at e9
         clear hm9
         have hfin := hW.s15 n15 y13 rfl
         clear hcl hneed hclo
         intro Q2 K2 hK2
         simp only [XInv.puts, XPrint.pw] at hK2 ⊢
         rw [e9] at hfin hK2 ⊢
         go_simp
         exact hK2.out undef _ ⟨bq, rfl, (by intro jj hjj hlj; have hjj : jj < 16 := hjj; rcases (by omega : jj = 0 ∨ jj = 1 ∨ jj = 2 ∨ jj = 3 ∨ jj = 4 ∨ jj = 5 ∨ jj = 6 ∨ jj = 7 ∨ jj = 8 ∨ jj = 9 ∨ jj = 10 ∨ jj = 11 ∨ jj = 12 ∨ jj = 13 ∨ jj = 14 ∨ jj = 15) with rfl | rfl | rfl | rfl | rfl | rfl | rfl | rfl | rfl | rfl | rfl | rfl | rfl | rfl | rfl | rfl <;> first | rfl | exact e9 | (rw [hlb] at hlj; cases hlj)), hfin⟩
       ·intro bq w' hW
        refine XInv.end_nil [(55, 14), (54, 13), (53, 12), (52, 11), (51, 10), (50, 9), (49, 8), (48, 7), (47, 6), (46, 5), (45, 4), (44, 3), (43, 2), (42, 1), (41, 0)] (by kernel_rfl) (by kernel_rfl) ?_
        simp only [XInv.puts, XPrint.pw]
        unfold JW at hW
        rw [if_pos (by kernel_rfl)] at hW
        obtain ⟨b1, b5, b7, b8, b13⟩ := bq
        obtain ⟨wz, hbz, hRz, rfl⟩ := hW
        dsimp only at hRz ⊢
        have hins : ns.take j ++ [⟨x0, ⟨x1, x2⟩⟩] ++ ns.drop j = ins ns ⟨x0, ⟨x1, x2⟩⟩ := by rw [HJ.out]; exact spot_ins (x := ⟨x0, ⟨x1, x2⟩⟩) KC.out.2
        rw [hins] at hRz
        obtain ⟨A9, c9, rfl⟩ := Kd.R_slice hRz
        obtain ⟨m9, hm9⟩ : ∃ m9, (ins ns ⟨x0, ⟨x1, x2⟩⟩).length = m9 := ⟨_, rfl⟩
        rw [hm9] at hRz ⊢
        clear hins hm9
        have hbw := below_step X.out hbz
        have kz := blk_below H.out.2.2.2.2.1 hbw
        have kz2 : (wz.setCell ⟨w.heap.size, 2, none⟩ (.slice A9 m9 c9)).heap[w.heap.size]? = some (.cells #[.int .i64 u0, .int .i64 u1, .slice A9 m9 c9] 33 (0, 0)) := by simpa using blk_set kz 2 (.slice A9 m9 c9)
        have kr := RT.out wz hbw
        have kr2 : (wz.setCell ⟨w.heap.size, 2, none⟩ (.slice A9 m9 c9)).heap[w.heap.size + 1 + 1]? = some (.cells #[.int .i64 0, .int .i64 0, .slice none 0 0] 33 (0, 0)) := (Below.heap_setCell wz ⟨w.heap.size, 2, none⟩ _ (w.heap.size + 1 + 1) (by show w.heap.size + 1 + 1 ≠ w.heap.size; omega)).trans kr
        have hbf := (below_then H.out.2.2.2.1 H.out.2.2.2.1.size hbw).setCell (p := ⟨w.heap.size, 2, none⟩) (Nat.le_refl _) (.slice A9 m9 c9)
        have hN : w.heap.size + 3 ≤ Ws.heap.size := by have := X.out.size; have := S0.out; omega
        have hRf := Kd.R_far (p := ⟨w.heap.size, 2, none⟩) (Kd.R_bound hRz) (fun k hk => by show k ≠ w.heap.size; have := hk.2.1; omega) (.slice A9 m9 c9)
        obtain ⟨Wf, hWf⟩ : ∃ Wf, wz.setCell ⟨w.heap.size, 2, none⟩ (.slice A9 m9 c9) = Wf := ⟨_, rfl⟩
        rw [hWf] at kz2 kr2 hbf hRf ⊢
        have F := Aside0.mk (And.intro hbf (And.intro hRf hN))
        have z0 := (blk_cell kz2 0).trans rfl
        have z1 := (blk_cell kz2 1).trans rfl
        have z2 := (blk_cell kz2 2).trans rfl
        have r0 := (blk_cell kr2 0).trans rfl
        have r1 := (blk_cell kr2 1).trans rfl
        have r2 := (blk_cell kr2 2).trans rfl
        have g0 := blk_frozen kr2 0
        have g1 := blk_frozen kr2 1
        have g2 := blk_frozen kr2 2
        clear hbz hRz hbw kz kz2 kr kr2 hbf hRf hN hWf
        go_wp2
        have hfin := (((F.out.1.setCell (p := ⟨w.heap.size + 1 + 1, 0, none⟩) (by show _ ≤ w.heap.size + 1 + 1; omega) (.int .i64 u0)).setCell (p := ⟨w.heap.size + 1 + 1, 1, none⟩) (by show _ ≤ w.heap.size + 1 + 1; omega) (.int .i64 u1)).setCell (p := ⟨w.heap.size + 1 + 1, 2, none⟩) (by show _ ≤ w.heap.size + 1 + 1; omega) (.slice A9 m9 c9))
        refine bodyPost_ret (v := .tuple #[.agg #[.int .i64 u0, .int .i64 u1, .slice A9 m9 c9], .int .i64 0]) (by simp [results, Tryz.results40, go_sem, r0, r1, r2]) rfl ⟨_, by rw [KC.out.1], ?_, hfin⟩
        rw [show joined (code u0 u1 ns ⟨x0, ⟨x1, x2⟩⟩) ns ⟨x0, ⟨x1, x2⟩⟩ = ins ns ⟨x0, ⟨x1, x2⟩⟩ by rw [KC.out.1]; rfl]
        refine Kd.R_lower (Kd.R_mono (Kd.R_far (p := ⟨w.heap.size + 1 + 1, 2, none⟩) (Kd.R_far (p := ⟨w.heap.size + 1 + 1, 1, none⟩) (Kd.R_far (p := ⟨w.heap.size + 1 + 1, 0, none⟩) F.out.2.1 (fun k hk => by show k ≠ w.heap.size + 1 + 1; have := hk.2.1; have := F.out.2.2; omega) _) (fun k hk => by show k ≠ w.heap.size + 1 + 1; have := hk.2.1; have := F.out.2.2; omega) _) (fun k hk => by show k ≠ w.heap.size + 1 + 1; have := hk.2.1; have := F.out.2.2; omega) _) (fun k hk => .inr ?_)) ?_
        ·have := hk.2.1; have := F.out.2.2; omega
        ·have := H.out.2.2.2.2.2.2.2.2.2.1; have := F.out.2.2; omega
     ·have t1 : decide ((j : Int) < (ns.length : Int)) = false := decide_eq_false (by omega)
      have t1' : decide (j < ns.length) = false := decide_eq_false hjn
      have HJ := Aside0.mk hje
      clear hje
      go_upto_region 8 with (fail)
      refine XInv.region_tab [] [[], [], [1], [2], [0, 3], [4], [5], [6, 5], [5], [7, 8, 5], [9, 5], [10, 5], [5], [12, 5], [11, 13, 5], [5, 14]] (fun bq jq => match jq with
        | 0 => .int .i64 j
        | 1 => .pointer (some ⟨w.heap.size, 2, none⟩)
        | 2 => .slice A ns.length c
        | 3 => .int .i64 ns.length
        | 4 => .bool false
        | 5 => .bool false
        | 6 => undef
        | 7 => undef
        | 8 => undef
        | 9 => undef
        | 10 => undef
        | 11 => undef
        | 12 => undef
        | 13 => undef
        | 14 => undef
        | 15 => .bool false
        | _ => undef)
        (fun bq l w' => Below wr.heap.size wr w')
        (by kernel_rfl) rfl (by kernel_rfl) (by kernel_rfl) (by kernel_rfl) ⟨fun _ : Nat => (0 : Nat), below_drew (Below.refl _ _)⟩ ?_ ?_
      ·intro i1 hi1 hds oi hoi bq lb w' hW hlb hcl hneed hclo
       have hi1 : i1 < 16 := hi1
       have hcs : i1 = 0 ∨ i1 = 1 ∨ i1 = 2 ∨ i1 = 3 ∨ i1 = 4 ∨ i1 = 5 ∨ i1 = 6 ∨ i1 = 7 ∨ i1 = 8 ∨ i1 = 9 ∨ i1 = 10 ∨ i1 = 11 ∨ i1 = 12 ∨ i1 = 13 ∨ i1 = 14 ∨ i1 = 15 := by omega
       clear hi1 hcl hneed hclo
       obtain ⟨⟨c0, c1, c2⟩, ⟨n0, n1, n2⟩, _⟩ := CC.out w' (below_step X.out hW)
       rcases hcs with rfl | rfl | rfl | rfl | rfl | rfl | rfl | rfl | rfl | rfl | rfl | rfl | rfl | rfl | rfl | rfl
       all_goals simp only [List.getElem?_toArray, List.getElem?_cons_succ, List.getElem?_cons_zero, Option.some.injEq] at hoi
       all_goals subst hoi
       ·refine XInv.yes_tab [] (by kernel_rfl) ?_
        intro Q2 K2 hK2
        simp only [XInv.puts, XPrint.pw]
        go_simp
        exact hK2.out (.int .i64 j) w' ⟨bq, rfl, fun _ _ _ => rfl, hW⟩
       ·refine XInv.yes_tab [] (by kernel_rfl) ?_
        intro Q2 K2 hK2
        simp only [XInv.puts, XPrint.pw]
        go_simp
        exact hK2.out (.pointer (some ⟨w.heap.size, 2, none⟩)) w' ⟨bq, rfl, fun _ _ _ => rfl, hW⟩
       ·refine XInv.yes_tab [(24, 1)] (by kernel_rfl) ?_
        intro Q2 K2 hK2
        simp only [XInv.puts, XPrint.pw]
        go_simp
        exact hK2.out (.slice A ns.length c) w' ⟨bq, rfl, fun _ _ _ => rfl, hW⟩
       ·refine XInv.yes_tab [(25, 2)] (by kernel_rfl) ?_
        intro Q2 K2 hK2
        simp only [XInv.puts, XPrint.pw]
        go_simp
        exact hK2.out (.int .i64 ns.length) w' ⟨bq, rfl, fun _ _ _ => rfl, hW⟩
       ·refine XInv.yes_tab [(26, 3), (23, 0)] (by kernel_rfl) ?_
        intro Q2 K2 hK2
        simp only [XInv.puts, XPrint.pw]
        go_simp
        exact hK2.out (.bool false) w' ⟨bq, rfl, fun _ _ _ => rfl, hW⟩
       ·refine XInv.yes_tab [(27, 4)] (by kernel_rfl) ?_
        intro Q2 K2 hK2
        simp only [XInv.puts, XPrint.pw]
        go_simp
        exact hK2.out (.bool false) w' ⟨bq, rfl, fun _ _ _ => rfl, hW⟩
       ·refine XInv.yes_tab [(28, 5)] (by kernel_rfl) ?_
        intro Q2 K2 hK2
        simp only [XInv.puts, XPrint.pw]
        refine XInv.no_want (by kernel_rfl) ?_
        exact hK2.out undef w' ⟨bq, rfl, fun _ _ _ => rfl, hW⟩
       ·refine XInv.yes_tab [(29, 6), (28, 5)] (by kernel_rfl) ?_
        intro Q2 K2 hK2
        simp only [XInv.puts, XPrint.pw]
        refine XInv.no_want (by kernel_rfl) ?_
        exact hK2.out undef w' ⟨bq, rfl, fun _ _ _ => rfl, hW⟩
       ·refine XInv.yes_tab [(28, 5)] (by kernel_rfl) ?_
        intro Q2 K2 hK2
        simp only [XInv.puts, XPrint.pw]
        refine XInv.no_want (by kernel_rfl) ?_
        exact hK2.out undef w' ⟨bq, rfl, fun _ _ _ => rfl, hW⟩
       ·refine XInv.yes_tab [(31, 8), (30, 7), (28, 5)] (by kernel_rfl) ?_
        intro Q2 K2 hK2
        simp only [XInv.puts, XPrint.pw]
        refine XInv.no_want (by kernel_rfl) ?_
        exact hK2.out undef w' ⟨bq, rfl, fun _ _ _ => rfl, hW⟩
       ·refine XInv.yes_tab [(32, 9), (28, 5)] (by kernel_rfl) ?_
        intro Q2 K2 hK2
        simp only [XInv.puts, XPrint.pw]
        refine XInv.no_want (by kernel_rfl) ?_
        exact hK2.out undef w' ⟨bq, rfl, fun _ _ _ => rfl, hW⟩
       ·refine XInv.yes_tab [(33, 10), (28, 5)] (by kernel_rfl) ?_
        intro Q2 K2 hK2
        simp only [XInv.puts, XPrint.pw]
        refine XInv.no_want (by kernel_rfl) ?_
        exact hK2.out undef w' ⟨bq, rfl, fun _ _ _ => rfl, hW⟩
       ·refine XInv.yes_tab [(28, 5)] (by kernel_rfl) ?_
        intro Q2 K2 hK2
        simp only [XInv.puts, XPrint.pw]
        refine XInv.no_want (by kernel_rfl) ?_
        exact hK2.out undef w' ⟨bq, rfl, fun _ _ _ => rfl, hW⟩
       ·refine XInv.yes_tab [(35, 12), (28, 5)] (by kernel_rfl) ?_
        intro Q2 K2 hK2
        simp only [XInv.puts, XPrint.pw]
        refine XInv.no_want (by kernel_rfl) ?_
        exact hK2.out undef w' ⟨bq, rfl, fun _ _ _ => rfl, hW⟩
       ·refine XInv.yes_tab [(36, 13), (34, 11), (28, 5)] (by kernel_rfl) ?_
        intro Q2 K2 hK2
        simp only [XInv.puts, XPrint.pw]
        refine XInv.no_want (by kernel_rfl) ?_
        exact hK2.out undef w' ⟨bq, rfl, fun _ _ _ => rfl, hW⟩
       ·refine XInv.yes_tab [(37, 14), (28, 5)] (by kernel_rfl) ?_
        intro Q2 K2 hK2
        simp only [XInv.puts, XPrint.pw]
        go_simp
        exact hK2.out (.bool false) w' ⟨bq, rfl, fun _ _ _ => rfl, hW⟩
      ·intro bq w' hW
       refine XInv.end_nil [(38, 15), (37, 14), (36, 13), (35, 12), (34, 11), (33, 10), (32, 9), (31, 8), (30, 7), (29, 6), (28, 5), (27, 4), (26, 3), (25, 2), (24, 1), (23, 0)] (by kernel_rfl) (by kernel_rfl) ?_
       simp only [XInv.puts, XPrint.pw]
       replace X := Aside0.mk (below_step X.out hW)
       clear hW
       clear t1 t1'
       go_upto_region 10 with (fail)
       obtain ⟨Ws, hWs⟩ : ∃ Ws, w' = Ws := ⟨_, rfl⟩
       rw [hWs] at X ⊢
       clear hWs
       have hjl : j ≤ ns.length := by omega
       obtain ⟨i0, hi0, _, hsz, _⟩ := info_parts info59
       have hcut1 := cut_to (P := Tryz.prog) 24 59 .i64 Tryz.underlying24 hi0 A ns.length c (j : Int) (by omega) (by omega) H.out.2.2.1
       have hcut2 := cut_from (P := Tryz.prog) 24 59 .i64 Tryz.underlying24 hi0 3 hsz A ns.length c (j : Int) (by omega) (by omega)
       simp only [Int.toNat_natCast] at hcut1 hcut2
       obtain ⟨A2, hA2⟩ : ∃ A2, (if c = j then A else Option.map (fun x => x.add (j * 3)) A) = A2 := ⟨_, rfl⟩
       rw [hA2] at hcut2
       have TK : Aside0 (∀ w', Below Ws.heap.size Ws w' → Kd.C k59 w' A j (ns.take j)) := ⟨fun w' h => by
        have := Kd.C_take (m := j) (CC.out w' (below_step X.out h)).2.2 hjl
        rwa [show (ns.take j).length = j by rw [List.length_take]; omega] at this⟩
       have DR : Aside0 (∀ w', Below Ws.heap.size Ws w' → Kd.C k59 w' A2 (ns.length - j) (ns.drop j)) := ⟨fun w' h => by
        have := Kd.C_drop (m := j) (c := c) (CC.out w' (below_step X.out h)).2.2 hjl H.out.2.2.1
        rw [List.length_drop] at this
        rw [← hA2]
        exact this⟩
       clear hi0 hsz hA2
       refine XInv.region_tab [] [[], [], [1], [], [2, 3], [0, 4], [], [6], [5, 7, 5], [], [9], [], [10, 11], [8, 12, 8], [0, 1, 2, 3, 4, 5, 6, 7, 8, 9, 10, 11, 12, 13], [14, 13, 13, 0, 1, 2, 3, 4, 5, 6, 7, 8, 9, 10, 11, 12, 13]] (fun bq jq => match jq with
         | 0 => bq.1
         | 1 => .pointer (some ⟨w.heap.size, 2, none⟩)
         | 2 => .slice A ns.length c
         | 3 => .int .i64 j
         | 4 => .slice A j c
         | 5 => bq.2.1
         | 6 => .agg #[.int .u32 x0, .int .i64 x1, .int .i64 x2]
         | 7 => bq.2.2.1
         | 8 => bq.2.2.2.1
         | 9 => .pointer (some ⟨w.heap.size, 2, none⟩)
         | 10 => .slice A ns.length c
         | 11 => .int .i64 j
         | 12 => .slice A2 (ns.length - j) (c - j)
         | 13 => bq.2.2.2.2
         | 14 => .pointer (some ⟨w.heap.size, 2, none⟩)
         | 15 => undef
         | _ => undef)
         (fun bq l w' => JW Ws.heap.size Ws ⟨x0, ⟨x1, x2⟩⟩ (ns.take j) (ns.drop j) ⟨w.heap.size, 2, none⟩ bq l w')
         (by kernel_rfl) rfl (by kernel_rfl) (by kernel_rfl) (by kernel_rfl) ⟨((undef, undef, undef, undef, undef) : V5), JW.start (below_drew (Below.refl _ _))⟩ ?_ ?_
       ·intro i1 hi1 hds oi hoi bq lb w' hW hlb hcl hneed hclo
        have hi1 : i1 < 16 := hi1
        have hcs : i1 = 0 ∨ i1 = 1 ∨ i1 = 2 ∨ i1 = 3 ∨ i1 = 4 ∨ i1 = 5 ∨ i1 = 6 ∨ i1 = 7 ∨ i1 = 8 ∨ i1 = 9 ∨ i1 = 10 ∨ i1 = 11 ∨ i1 = 12 ∨ i1 = 13 ∨ i1 = 14 ∨ i1 = 15 := by omega
        clear hi1
        rcases hcs with rfl | rfl | rfl | rfl | rfl | rfl | rfl | rfl | rfl | rfl | rfl | rfl | rfl | rfl | rfl | rfl
        all_goals simp only [List.getElem?_toArray, List.getElem?_cons_succ, List.getElem?_cons_zero, Option.some.injEq] at hoi
        all_goals subst hoi
        ·refine XInv.yes_tab [] (by kernel_rfl) ?_
         have n15 : lb 15 = false := hcl 15 (by decide) (by kernel_rfl)
         have n5 : lb 5 = false := hcl 5 (by decide) (by kernel_rfl)
         have n8 : lb 8 = false := (Bool.eq_false_or_eq_true (lb 8)).elim (fun h => absurd (hclo 8 5 (by decide) h (by kernel_rfl)) (by rw [n5]; decide)) id
         have n13 : lb 13 = false := (Bool.eq_false_or_eq_true (lb 13)).elim (fun h => absurd (hclo 13 8 (by decide) h (by kernel_rfl)) (by rw [n8]; decide)) id
         clear hcl hneed hclo
         intro Q2 K2 hK2
         refine Kd.R_lit_step k59 _ 59 (by rfl) (N := 41) rfl (xs := ([] : List S59)) (inner := []) (ok := fun _ => True) (okp := fun _ => True) (by (try simp only [XInv.puts, XPrint.pw]); first | (go_simp; done) | (go_simp; rfl)) (Reps.none _ _) (fun _ hk => hk) trivial (Below.refl _ _) (Nat.le_refl _) (by simp) ?_
         intro v1 w1 hR hB hg _
         exact hK2.out v1 w1 ⟨(v1, bq.2), rfl, (by intro jj hjj hlj; have hjj : jj < 16 := hjj; rcases (by omega : jj = 0 ∨ jj = 1 ∨ jj = 2 ∨ jj = 3 ∨ jj = 4 ∨ jj = 5 ∨ jj = 6 ∨ jj = 7 ∨ jj = 8 ∨ jj = 9 ∨ jj = 10 ∨ jj = 11 ∨ jj = 12 ∨ jj = 13 ∨ jj = 14 ∨ jj = 15) with rfl | rfl | rfl | rfl | rfl | rfl | rfl | rfl | rfl | rfl | rfl | rfl | rfl | rfl | rfl | rfl <;> first | rfl | (rw [hlb] at hlj; cases hlj)), hW.s0 n15 n13 n8 n5 v1 hB hR (hW.below n15).size⟩
        ·refine XInv.yes_tab [] (by kernel_rfl) ?_
         intro Q2 K2 hK2
         simp only [XInv.puts, XPrint.pw]
         go_simp
         exact hK2.out (.pointer (some ⟨w.heap.size, 2, none⟩)) w' ⟨bq, rfl, fun _ _ _ => rfl, hW.up 1 (by decide)⟩
        ·refine XInv.yes_tab [(42, 1)] (by kernel_rfl) ?_
         have n15 : lb 15 = false := hcl 15 (by decide) (by kernel_rfl)
         obtain ⟨⟨c0, c1, c2⟩, ⟨m0, m1, m2⟩, _⟩ := CC.out w' (below_step X.out (hW.below n15))
         clear hcl hneed hclo
         intro Q2 K2 hK2
         simp only [XInv.puts, XPrint.pw]
         go_simp
         exact hK2.out (.slice A ns.length c) w' ⟨bq, rfl, fun _ _ _ => rfl, hW.up 2 (by decide)⟩
        ·refine XInv.yes_tab [] (by kernel_rfl) ?_
         intro Q2 K2 hK2
         simp only [XInv.puts, XPrint.pw]
         go_simp
         exact hK2.out (.int .i64 j) w' ⟨bq, rfl, fun _ _ _ => rfl, hW.up 3 (by decide)⟩
        ·refine XInv.yes_tab [(44, 3), (43, 2)] (by kernel_rfl) ?_
         intro Q2 K2 hK2
         simp only [XInv.puts, XPrint.pw]
         go_simp
         exact hK2.out (.slice A j c) w' ⟨bq, rfl, fun _ _ _ => rfl, hW.up 4 (by decide)⟩
        ·refine XInv.yes_tab [(45, 4), (41, 0)] (by kernel_rfl) ?_
         have n15 : lb 15 = false := hcl 15 (by decide) (by kernel_rfl)
         have n8 : lb 8 = false := hcl 8 (by decide) (by kernel_rfl)
         have n13 : lb 13 = false := (Bool.eq_false_or_eq_true (lb 13)).elim (fun h => absurd (hclo 13 8 (by decide) h (by kernel_rfl)) (by rw [n8]; decide)) id
         have y0 : lb 0 = true := hneed 0 (by kernel_rfl)
         have r0 := hW.row0 n15 n13 n8 hlb y0
         clear hcl hneed hclo
         intro Q2 K2 hK2
         simp only [XInv.puts]
         refine Kd.R_append_rows_step k59 (w0 := Ws) Ws.heap.size (by rfl) (.tmp 41) (.tmp 45) 24 59 (.agg #[.int .u32 0, .int .i64 0, .int .i64 0]) 24 rfl Tryz.underlying24 info59 rfl (by decide) (by omega) (bq.1) ([]) (ns.take j) (A) (j) (c) (fun k => lb 7 = true → bq.2.2.1.ownBlock ≠ some k) (fun _ => False) rfl rfl r0 (TK.out _ (hW.below n15)) (fun _ _ h => h) (fun _ h => h.elim) (fun k hk h7 he => by have := Kd.R_lt (hW.row7 n15 n13 n8 h7) k he; omega) (hW.below n15) (hW.below n15).size (by simp only [List.length_nil]; omega) ?_
         intro v1 w1 hR hB hg _
         exact hK2.out v1 w1 ⟨(bq.1, v1, bq.2.2), rfl, (by intro jj hjj hlj; have hjj : jj < 16 := hjj; rcases (by omega : jj = 0 ∨ jj = 1 ∨ jj = 2 ∨ jj = 3 ∨ jj = 4 ∨ jj = 5 ∨ jj = 6 ∨ jj = 7 ∨ jj = 8 ∨ jj = 9 ∨ jj = 10 ∨ jj = 11 ∨ jj = 12 ∨ jj = 13 ∨ jj = 14 ∨ jj = 15) with rfl | rfl | rfl | rfl | rfl | rfl | rfl | rfl | rfl | rfl | rfl | rfl | rfl | rfl | rfl | rfl <;> first | rfl | (rw [hlb] at hlj; cases hlj)), hW.s5 n15 n13 n8 hlb y0 v1 hR hB hg⟩
        ·refine XInv.yes_tab [] (by kernel_rfl) ?_
         have n15 : lb 15 = false := hcl 15 (by decide) (by kernel_rfl)
         obtain ⟨⟨c0, c1, c2⟩, ⟨m0, m1, m2⟩, _⟩ := CC.out w' (below_step X.out (hW.below n15))
         clear hcl hneed hclo
         intro Q2 K2 hK2
         simp only [XInv.puts, XPrint.pw]
         go_simp
         exact hK2.out (.agg #[.int .u32 x0, .int .i64 x1, .int .i64 x2]) w' ⟨bq, rfl, fun _ _ _ => rfl, hW.up 6 (by decide)⟩
        ·refine XInv.yes_tab [(47, 6)] (by kernel_rfl) ?_
         have n15 : lb 15 = false := hcl 15 (by decide) (by kernel_rfl)
         have n8 : lb 8 = false := hcl 8 (by decide) (by kernel_rfl)
         have n13 : lb 13 = false := (Bool.eq_false_or_eq_true (lb 13)).elim (fun h => absurd (hclo 13 8 (by decide) h (by kernel_rfl)) (by rw [n8]; decide)) id
         clear hcl hneed hclo
         intro Q2 K2 hK2
         simp only [XInv.puts]
         refine Kd.R_lit_step k59 _ 59 (by rfl) (N := 48) rfl (xs := ([⟨x0, ⟨x1, x2⟩⟩] : List S59)) (inner := [.int .u32 x0, .int .i64 x1, .int .i64 x2]) (ok := fun _ => True) (okp := fun _ => True) (by (try simp only [XInv.puts, XPrint.pw]); first | (go_simp; done) | (go_simp; rfl)) (Reps.c3 (k59_mkM _ _ _ (⟨x0, ⟨x1, x2⟩⟩ : S59)) (Reps.none _ _)) (fun _ hk => hk) trivial (Below.refl _ _) (Nat.le_refl _) (by simp) ?_
         intro v1 w1 hR hB hg _
         exact hK2.out v1 w1 ⟨(bq.1, bq.2.1, v1, bq.2.2.2), rfl, (by intro jj hjj hlj; have hjj : jj < 16 := hjj; rcases (by omega : jj = 0 ∨ jj = 1 ∨ jj = 2 ∨ jj = 3 ∨ jj = 4 ∨ jj = 5 ∨ jj = 6 ∨ jj = 7 ∨ jj = 8 ∨ jj = 9 ∨ jj = 10 ∨ jj = 11 ∨ jj = 12 ∨ jj = 13 ∨ jj = 14 ∨ jj = 15) with rfl | rfl | rfl | rfl | rfl | rfl | rfl | rfl | rfl | rfl | rfl | rfl | rfl | rfl | rfl | rfl <;> first | rfl | (rw [hlb] at hlj; cases hlj)), hW.s7 n15 n13 n8 hlb v1 hB hR (hW.below n15).size⟩
        ·refine XInv.yes_tab [(48, 7), (46, 5)] (by kernel_rfl) ?_
         have n15 : lb 15 = false := hcl 15 (by decide) (by kernel_rfl)
         have n13 : lb 13 = false := hcl 13 (by decide) (by kernel_rfl)
         have y5 : lb 5 = true := hneed 5 (by kernel_rfl)
         have y7 : lb 7 = true := hneed 7 (by kernel_rfl)
         have r5 := Kd.R_mono (ok' := fun _ => True) (hW.row5 n15 n13 hlb y5) (fun _ _ => trivial)
         have r7 := hW.row7 n15 n13 hlb y7
         obtain ⟨A7, c7, e7⟩ := Kd.R_slice r7
         rw [e7] at r7
         obtain ⟨_, _, hC7⟩ := Kd.R_reads' r7
         clear hcl hneed hclo
         intro Q2 K2 hK2
         simp only [XInv.puts]
         refine Kd.R_append_rows_step k59 (w0 := Ws) Ws.heap.size (by rfl) (.tmp 46) (.tmp 48) 24 59 (.agg #[.int .u32 0, .int .i64 0, .int .i64 0]) 24 rfl Tryz.underlying24 info59 rfl (by decide) (by omega) (bq.2.1) (ns.take j) ([⟨x0, ⟨x1, x2⟩⟩]) (A7) (1) (c7) (fun _ => True) (fun _ => False) rfl e7 r5 (hC7) (fun _ _ h => h) (fun _ h => h.elim) (fun _ _ => trivial) (hW.below n15) (hW.below n15).size (by rw [List.length_take]; omega) ?_
         intro v1 w1 hR hB hg _
         exact hK2.out v1 w1 ⟨(bq.1, bq.2.1, bq.2.2.1, v1, bq.2.2.2.2), rfl, (by intro jj hjj hlj; have hjj : jj < 16 := hjj; rcases (by omega : jj = 0 ∨ jj = 1 ∨ jj = 2 ∨ jj = 3 ∨ jj = 4 ∨ jj = 5 ∨ jj = 6 ∨ jj = 7 ∨ jj = 8 ∨ jj = 9 ∨ jj = 10 ∨ jj = 11 ∨ jj = 12 ∨ jj = 13 ∨ jj = 14 ∨ jj = 15) with rfl | rfl | rfl | rfl | rfl | rfl | rfl | rfl | rfl | rfl | rfl | rfl | rfl | rfl | rfl | rfl <;> first | rfl | (rw [hlb] at hlj; cases hlj)), hW.s8 n15 n13 v1 hR hB⟩
        ·refine XInv.yes_tab [] (by kernel_rfl) ?_
         intro Q2 K2 hK2
         simp only [XInv.puts, XPrint.pw]
         go_simp
         exact hK2.out (.pointer (some ⟨w.heap.size, 2, none⟩)) w' ⟨bq, rfl, fun _ _ _ => rfl, hW.up 9 (by decide)⟩
        ·refine XInv.yes_tab [(50, 9)] (by kernel_rfl) ?_
         have n15 : lb 15 = false := hcl 15 (by decide) (by kernel_rfl)
         obtain ⟨⟨c0, c1, c2⟩, ⟨m0, m1, m2⟩, _⟩ := CC.out w' (below_step X.out (hW.below n15))
         clear hcl hneed hclo
         intro Q2 K2 hK2
         simp only [XInv.puts, XPrint.pw]
         go_simp
         exact hK2.out (.slice A ns.length c) w' ⟨bq, rfl, fun _ _ _ => rfl, hW.up 10 (by decide)⟩
        ·refine XInv.yes_tab [] (by kernel_rfl) ?_
         intro Q2 K2 hK2
         simp only [XInv.puts, XPrint.pw]
         go_simp
         exact hK2.out (.int .i64 j) w' ⟨bq, rfl, fun _ _ _ => rfl, hW.up 11 (by decide)⟩
        ·refine XInv.yes_tab [(52, 11), (51, 10)] (by kernel_rfl) ?_
         intro Q2 K2 hK2
         simp only [XInv.puts, XPrint.pw]
         go_simp
         exact hK2.out (.slice A2 (ns.length - j) (c - j)) w' ⟨bq, rfl, fun _ _ _ => rfl, hW.up 12 (by decide)⟩
        ·refine XInv.yes_tab [(53, 12), (49, 8)] (by kernel_rfl) ?_
         have n15 : lb 15 = false := hcl 15 (by decide) (by kernel_rfl)
         have y8 : lb 8 = true := hneed 8 (by kernel_rfl)
         have r8 := hW.row8 n15 hlb y8
         clear hcl hneed hclo
         intro Q2 K2 hK2
         simp only [XInv.puts]
         refine Kd.R_append_rows_step k59 (w0 := Ws) Ws.heap.size (by rfl) (.tmp 49) (.tmp 53) 24 59 (.agg #[.int .u32 0, .int .i64 0, .int .i64 0]) 24 rfl Tryz.underlying24 info59 rfl (by decide) (by omega) (bq.2.2.2.1) (ns.take j ++ [⟨x0, ⟨x1, x2⟩⟩]) (ns.drop j) (A2) (ns.length - j) (c - j) (fun _ => True) (fun _ => False) rfl rfl r8 (DR.out _ (hW.below n15)) (fun _ _ h => h) (fun _ h => h.elim) (fun _ _ => trivial) (hW.below n15) (hW.below n15).size (by rw [List.length_append, List.length_take, List.length_singleton]; omega) ?_
         intro v1 w1 hR hB hg _
         exact hK2.out v1 w1 ⟨(bq.1, bq.2.1, bq.2.2.1, bq.2.2.2.1, v1), rfl, (by intro jj hjj hlj; have hjj : jj < 16 := hjj; rcases (by omega : jj = 0 ∨ jj = 1 ∨ jj = 2 ∨ jj = 3 ∨ jj = 4 ∨ jj = 5 ∨ jj = 6 ∨ jj = 7 ∨ jj = 8 ∨ jj = 9 ∨ jj = 10 ∨ jj = 11 ∨ jj = 12 ∨ jj = 13 ∨ jj = 14 ∨ jj = 15) with rfl | rfl | rfl | rfl | rfl | rfl | rfl | rfl | rfl | rfl | rfl | rfl | rfl | rfl | rfl | rfl <;> first | rfl | (rw [hlb] at hlj; cases hlj)), hW.s13 n15 v1 hR hB⟩
        ·refine XInv.yes_tab [(54, 13), (53, 12), (52, 11), (51, 10), (50, 9), (49, 8), (48, 7), (47, 6), (46, 5), (45, 4), (44, 3), (43, 2), (42, 1), (41, 0)] (by kernel_rfl) ?_
         intro Q2 K2 hK2
         simp only [XInv.puts, XPrint.pw] at hK2 ⊢
         go_simp
         exact hK2.out (.pointer (some ⟨w.heap.size, 2, none⟩)) w' ⟨bq, rfl, fun _ _ _ => rfl, hW.up 14 (by decide)⟩
        ·refine XInv.yes_tab [(55, 14), (54, 13), (53, 12), (52, 11), (51, 10), (50, 9), (49, 8), (48, 7), (47, 6), (46, 5), (45, 4), (44, 3), (43, 2), (42, 1), (41, 0)] (by kernel_rfl) ?_
         have n15 := hlb
         have y13 : lb 13 = true := hneed 13 (by kernel_rfl)
         have kz := blk_below H.out.2.2.2.2.1 (below_step X.out (hW.below n15))
         have z2 := (blk_cell kz 2).trans rfl
         have g2 := blk_frozen kz 2
         obtain ⟨A9, c9, e9⟩ := Kd.R_slice (hW.row13 n15 y13)
         obtain ⟨m9, hm9⟩ : ∃ m9, (ns.take j ++ [(⟨x0, ⟨x1, x2⟩⟩ : S59)] ++ ns.drop j).length = m9 := ⟨_, rfl⟩
         rw [hm9] at e9
         clear hm9
         have hfin := hW.s15 n15 y13 rfl
         clear hcl hneed hclo
         intro Q2 K2 hK2
         simp only [XInv.puts, XPrint.pw] at hK2 ⊢
         rw [e9] at hfin hK2 ⊢
         go_simp
         exact hK2.out undef _ ⟨bq, rfl, (by intro jj hjj hlj; have hjj : jj < 16 := hjj; rcases (by omega : jj = 0 ∨ jj = 1 ∨ jj = 2 ∨ jj = 3 ∨ jj = 4 ∨ jj = 5 ∨ jj = 6 ∨ jj = 7 ∨ jj = 8 ∨ jj = 9 ∨ jj = 10 ∨ jj = 11 ∨ jj = 12 ∨ jj = 13 ∨ jj = 14 ∨ jj = 15) with rfl | rfl | rfl | rfl | rfl | rfl | rfl | rfl | rfl | rfl | rfl | rfl | rfl | rfl | rfl | rfl <;> first | rfl | exact e9 | (rw [hlb] at hlj; cases hlj)), hfin⟩
       ·intro bq w' hW
        refine XInv.end_nil [(55, 14), (54, 13), (53, 12), (52, 11), (51, 10), (50, 9), (49, 8), (48, 7), (47, 6), (46, 5), (45, 4), (44, 3), (43, 2), (42, 1), (41, 0)] (by kernel_rfl) (by kernel_rfl) ?_
        simp only [XInv.puts, XPrint.pw]
        unfold JW at hW
        rw [if_pos (by kernel_rfl)] at hW
        obtain ⟨b1, b5, b7, b8, b13⟩ := bq
        obtain ⟨wz, hbz, hRz, rfl⟩ := hW
        dsimp only at hRz ⊢
        have hins : ns.take j ++ [⟨x0, ⟨x1, x2⟩⟩] ++ ns.drop j = ins ns ⟨x0, ⟨x1, x2⟩⟩ := by rw [HJ.out]; exact spot_ins (x := ⟨x0, ⟨x1, x2⟩⟩) KC.out.2
        rw [hins] at hRz
        obtain ⟨A9, c9, rfl⟩ := Kd.R_slice hRz
        obtain ⟨m9, hm9⟩ : ∃ m9, (ins ns ⟨x0, ⟨x1, x2⟩⟩).length = m9 := ⟨_, rfl⟩
        rw [hm9] at hRz ⊢
        clear hins hm9
        have hbw := below_step X.out hbz
        have kz := blk_below H.out.2.2.2.2.1 hbw
        have kz2 : (wz.setCell ⟨w.heap.size, 2, none⟩ (.slice A9 m9 c9)).heap[w.heap.size]? = some (.cells #[.int .i64 u0, .int .i64 u1, .slice A9 m9 c9] 33 (0, 0)) := by simpa using blk_set kz 2 (.slice A9 m9 c9)
        have kr := RT.out wz hbw
        have kr2 : (wz.setCell ⟨w.heap.size, 2, none⟩ (.slice A9 m9 c9)).heap[w.heap.size + 1 + 1]? = some (.cells #[.int .i64 0, .int .i64 0, .slice none 0 0] 33 (0, 0)) := (Below.heap_setCell wz ⟨w.heap.size, 2, none⟩ _ (w.heap.size + 1 + 1) (by show w.heap.size + 1 + 1 ≠ w.heap.size; omega)).trans kr
        have hbf := (below_then H.out.2.2.2.1 H.out.2.2.2.1.size hbw).setCell (p := ⟨w.heap.size, 2, none⟩) (Nat.le_refl _) (.slice A9 m9 c9)
        have hN : w.heap.size + 3 ≤ Ws.heap.size := by have := X.out.size; have := S0.out; omega
        have hRf := Kd.R_far (p := ⟨w.heap.size, 2, none⟩) (Kd.R_bound hRz) (fun k hk => by show k ≠ w.heap.size; have := hk.2.1; omega) (.slice A9 m9 c9)
        obtain ⟨Wf, hWf⟩ : ∃ Wf, wz.setCell ⟨w.heap.size, 2, none⟩ (.slice A9 m9 c9) = Wf := ⟨_, rfl⟩
        rw [hWf] at kz2 kr2 hbf hRf ⊢
        have F := Aside0.mk (And.intro hbf (And.intro hRf hN))
        have z0 := (blk_cell kz2 0).trans rfl
        have z1 := (blk_cell kz2 1).trans rfl
        have z2 := (blk_cell kz2 2).trans rfl
        have r0 := (blk_cell kr2 0).trans rfl
        have r1 := (blk_cell kr2 1).trans rfl
        have r2 := (blk_cell kr2 2).trans rfl
        have g0 := blk_frozen kr2 0
        have g1 := blk_frozen kr2 1
        have g2 := blk_frozen kr2 2
        clear hbz hRz hbw kz kz2 kr kr2 hbf hRf hN hWf
        go_wp2
        have hfin := (((F.out.1.setCell (p := ⟨w.heap.size + 1 + 1, 0, none⟩) (by show _ ≤ w.heap.size + 1 + 1; omega) (.int .i64 u0)).setCell (p := ⟨w.heap.size + 1 + 1, 1, none⟩) (by show _ ≤ w.heap.size + 1 + 1; omega) (.int .i64 u1)).setCell (p := ⟨w.heap.size + 1 + 1, 2, none⟩) (by show _ ≤ w.heap.size + 1 + 1; omega) (.slice A9 m9 c9))
        refine bodyPost_ret (v := .tuple #[.agg #[.int .i64 u0, .int .i64 u1, .slice A9 m9 c9], .int .i64 0]) (by simp [results, Tryz.results40, go_sem, r0, r1, r2]) rfl ⟨_, by rw [KC.out.1], ?_, hfin⟩
        rw [show joined (code u0 u1 ns ⟨x0, ⟨x1, x2⟩⟩) ns ⟨x0, ⟨x1, x2⟩⟩ = ins ns ⟨x0, ⟨x1, x2⟩⟩ by rw [KC.out.1]; rfl]
        refine Kd.R_lower (Kd.R_mono (Kd.R_far (p := ⟨w.heap.size + 1 + 1, 2, none⟩) (Kd.R_far (p := ⟨w.heap.size + 1 + 1, 1, none⟩) (Kd.R_far (p := ⟨w.heap.size + 1 + 1, 0, none⟩) F.out.2.1 (fun k hk => by show k ≠ w.heap.size + 1 + 1; have := hk.2.1; have := F.out.2.2; omega) _) (fun k hk => by show k ≠ w.heap.size + 1 + 1; have := hk.2.1; have := F.out.2.2; omega) _) (fun k hk => by show k ≠ w.heap.size + 1 + 1; have := hk.2.1; have := F.out.2.2; omega) _) (fun k hk => .inr ?_)) ?_
        ·have := hk.2.1; have := F.out.2.2; omega
        ·have := H.out.2.2.2.2.2.2.2.2.2.1; have := F.out.2.2; omega
end Go.Proofs.YthibppfdonepoaaGreat.NodeT
