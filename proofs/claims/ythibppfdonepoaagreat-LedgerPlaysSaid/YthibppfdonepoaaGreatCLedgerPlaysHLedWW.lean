/- liveryref23.Owners: the world while the new row is put together; where a number stands. liveryref23.Owners. -/
import Derived.Test.YthibppfdonepoaaGreatCLedgerPlaysHLedTT
import Derived.Test.YthibppfdonepoaaGreatCLedgerPlaysW
import Derived.Test.YthibppfdonepoaaGreatCLedgerPlaysHLedBB
set_option linter.unusedVariables false
namespace Go.Proofs.YthibppfdonepoaaGreat.LedT
open Go.RowKit Go.Proofs.YthibppfdonepoaaGreat.XBut Go.Proofs.YthibppfdonepoaaGreatW.PrintWords Go.Proofs.YthibppfdonepoaaGreatW.PrintLast
abbrev RI (w : World) (N : Nat) (ok : Nat → Prop) (v : Value) (xs : List Int) : Prop := Kd.R (Kd.int .u32) 35 w N ok v xs
abbrev V5 := Value × Value × Value × Value × Value
def JI (N : Nat) (Ws : World) (x : Int) (tk dr : List Int) (b : V5) (l : Nat → Bool) (w' : World) : Prop :=
  Below N Ws w' ∧
    (if l 16 = true then RI w' N (fun _ => True) b.2.2.2.2 ((tk ++ [x]) ++ dr)
     else if l 12 = true then RI w' N (fun _ => True) b.2.2.2.1 (tk ++ [x])
     else (l 11 = true → RI w' N (fun k => b.2.2.1.ownBlock = some k) b.2.2.1 [x]) ∧
          (if l 4 = true then RI w' N (fun k => l 11 = true → b.2.2.1.ownBlock ≠ some k) b.2.1 tk
           else l 0 = true → RI w' N (fun k => l 11 = true → b.2.2.1.ownBlock ≠ some k) b.1 []))
theorem JI.start {N : Nat} {Ws w' : World} {x : Int} {tk dr : List Int} {b : V5} (h : Below N Ws w') : JI N Ws x tk dr b (fun _ => false) w' := by
 unfold JI
 simp [h]
theorem JI.below {N : Nat} {Ws w' : World} {x : Int} {tk dr : List Int} {b : V5} {l : Nat → Bool} (h : JI N Ws x tk dr b l w') : Below N Ws w' := by
 unfold JI at h
 exact h.1
theorem JI.up {N : Nat} {Ws w' : World} {x : Int} {tk dr : List Int} {b : V5} {l : Nat → Bool} (h : JI N Ws x tk dr b l w') (i : Nat) (hi : i ≠ 0 ∧ i ≠ 4 ∧ i ≠ 11 ∧ i ≠ 12 ∧ i ≠ 16) : JI N Ws x tk dr b (XInv.up l i) w' := by
 have e : ∀ j, j ≠ i → XInv.up l i j = l j := fun j hj => by unfold XInv.up; rw [if_neg hj]
 unfold JI at *
 rw [e 16 (Ne.symm hi.2.2.2.2), e 12 (Ne.symm hi.2.2.2.1), e 11 (Ne.symm hi.2.2.1), e 4 (Ne.symm hi.2.1), e 0 (Ne.symm hi.1)]
 exact h
theorem JI.s0 {N : Nat} {Ws w' w1 : World} {x : Int} {tk dr : List Int} {b : V5} {l : Nat → Bool} (h : JI N Ws x tk dr b l w') (h13 : l 16 = false) (h8 : l 12 = false) (h5 : l 4 = false)
  (v : Value) (hb : Below w'.heap.size w' w1) (hR : RI w1 w'.heap.size (fun _ => True) v []) (hN : N ≤ w'.heap.size) : JI N Ws x tk dr (v, b.2) (XInv.up l 0) w1 := by
 have e : ∀ j, j ≠ 0 → XInv.up l 0 j = l j := fun j hj => by unfold XInv.up; rw [if_neg hj]
 unfold JI at *
 rw [e 16 (by decide), e 12 (by decide), e 11 (by decide), e 4 (by decide)]
 rw [if_neg (by rw [h13]; decide), if_neg (by rw [h8]; decide), if_neg (by rw [h5]; decide)] at h ⊢
 obtain ⟨h1, h2, h3⟩ := h
 refine ⟨h1.trans (hb.mono hN), fun h7 => Kd.R_below (h2 h7) hb, fun _ => ?_⟩
 refine Kd.R_mono (Kd.R_lower (Kd.R_bound hR) hN) (fun k hk h7 he => ?_)
 have := Kd.R_lt (h2 h7) k he
 have := hk.2.1
 omega
theorem JI.row0 {N : Nat} {Ws w' : World} {x : Int} {tk dr : List Int} {b : V5} {l : Nat → Bool} (h : JI N Ws x tk dr b l w') (h13 : l 16 = false) (h8 : l 12 = false) (h5 : l 4 = false) (h0 : l 0 = true) : RI w' N (fun k => l 11 = true → b.2.2.1.ownBlock ≠ some k) b.1 [] := by
 unfold JI at h
 rw [if_neg (by rw [h13]; decide), if_neg (by rw [h8]; decide), if_neg (by rw [h5]; decide)] at h
 exact h.2.2 h0
theorem JI.row5 {N : Nat} {Ws w' : World} {x : Int} {tk dr : List Int} {b : V5} {l : Nat → Bool} (h : JI N Ws x tk dr b l w') (h13 : l 16 = false) (h8 : l 12 = false) (h5 : l 4 = true) : RI w' N (fun k => l 11 = true → b.2.2.1.ownBlock ≠ some k) b.2.1 tk := by
 unfold JI at h
 rw [if_neg (by rw [h13]; decide), if_neg (by rw [h8]; decide), if_pos h5] at h
 exact h.2.2
theorem JI.row7 {N : Nat} {Ws w' : World} {x : Int} {tk dr : List Int} {b : V5} {l : Nat → Bool} (h : JI N Ws x tk dr b l w') (h13 : l 16 = false) (h8 : l 12 = false) (h7 : l 11 = true) : RI w' N (fun k => b.2.2.1.ownBlock = some k) b.2.2.1 [x] := by
 unfold JI at h
 rw [if_neg (by rw [h13]; decide), if_neg (by rw [h8]; decide)] at h
 exact h.2.1 h7
theorem JI.row8 {N : Nat} {Ws w' : World} {x : Int} {tk dr : List Int} {b : V5} {l : Nat → Bool} (h : JI N Ws x tk dr b l w') (h13 : l 16 = false) (h8 : l 12 = true) : RI w' N (fun _ => True) b.2.2.2.1 (tk ++ [x]) := by
 unfold JI at h
 rw [if_neg (by rw [h13]; decide), if_pos h8] at h
 exact h.2
theorem JI.row13 {N : Nat} {Ws w' : World} {x : Int} {tk dr : List Int} {b : V5} {l : Nat → Bool} (h : JI N Ws x tk dr b l w') (h13 : l 16 = true) : RI w' N (fun _ => True) b.2.2.2.2 ((tk ++ [x]) ++ dr) := by
 unfold JI at h
 rw [if_pos h13] at h
 exact h.2
theorem JI.s5 {N : Nat} {Ws w' w1 : World} {x : Int} {tk dr : List Int} {b : V5} {l : Nat → Bool} (h : JI N Ws x tk dr b l w') (h13 : l 16 = false) (h8 : l 12 = false) (h5 : l 4 = false) (h0 : l 0 = true)
  (v : Value) (hR : RI w1 N (fun k => l 11 = true → b.2.2.1.ownBlock ≠ some k) v tk) (hB : Below N Ws w1) (hg : w'.grownBy w1 b.1.ownBlock) : JI N Ws x tk dr (b.1, v, b.2.2) (XInv.up l 4) w1 := by
 have e : ∀ j, j ≠ 4 → XInv.up l 4 j = l j := fun j hj => by unfold XInv.up; rw [if_neg hj]
 have e5 : XInv.up l 4 4 = true := by unfold XInv.up; rw [if_pos rfl]
 have r0 := h.row0 h13 h8 h5 h0
 unfold JI at *
 rw [e 16 (by decide), e 12 (by decide), e 11 (by decide), e5, e 0 (by decide)]
 rw [if_neg (by rw [h13]; decide), if_neg (by rw [h8]; decide)] at h ⊢
 rw [if_pos rfl]
 refine ⟨hB, fun h7 => Kd.R_grown (h.2.1 h7) hg (fun k hk he => ?_), hR⟩
 exact r0.1 k he.symm h7 hk
theorem JI.s7 {N : Nat} {Ws w' w1 : World} {x : Int} {tk dr : List Int} {b : V5} {l : Nat → Bool} (h : JI N Ws x tk dr b l w') (h13 : l 16 = false) (h8 : l 12 = false) (h7 : l 11 = false)
  (v : Value) (hb : Below w'.heap.size w' w1) (hR : RI w1 w'.heap.size (fun _ => True) v [x]) (hN : N ≤ w'.heap.size) : JI N Ws x tk dr (b.1, b.2.1, v, b.2.2.2) (XInv.up l 11) w1 := by
 have e : ∀ j, j ≠ 11 → XInv.up l 11 j = l j := fun j hj => by unfold XInv.up; rw [if_neg hj]
 have e7 : XInv.up l 11 11 = true := by unfold XInv.up; rw [if_pos rfl]
 have old : ∀ u (xs : List Int), RI w' N (fun k => l 11 = true → b.2.2.1.ownBlock ≠ some k) u xs → RI w1 N (fun k => True → v.ownBlock ≠ some k) u xs := fun u xs hu =>
  Kd.R_mono (Kd.R_below (Kd.R_bound hu) hb) (fun k hk _ he => by have := Kd.R_base hR k he; have := hk.2.2.1; omega)
 unfold JI at *
 rw [e 16 (by decide), e 12 (by decide), e7, e 4 (by decide), e 0 (by decide)]
 rw [if_neg (by rw [h13]; decide), if_neg (by rw [h8]; decide)] at h ⊢
 obtain ⟨h1, h2, h3⟩ := h
 refine ⟨h1.trans (hb.mono hN), fun _ => Kd.R_lower (Kd.R_tight (by rfl) (Kd.R_mono hR fun _ _ => trivial) |> fun hz => Kd.R_mono hz fun k hk => hk.symm) hN, ?_⟩
 split at h3
 ·rename_i h5
  rw [if_pos h5]
  exact Kd.R_mono (old _ _ h3) (fun k hk _ => hk trivial)
 ·rename_i h5
  rw [if_neg h5]
  exact fun h0 => Kd.R_mono (old _ _ (h3 h0)) (fun k hk _ => hk trivial)
theorem JI.s8 {N : Nat} {Ws w' w1 : World} {x : Int} {tk dr : List Int} {b : V5} {l : Nat → Bool} (h : JI N Ws x tk dr b l w') (h13 : l 16 = false) (v : Value) (hR : RI w1 N (fun _ => True) v (tk ++ [x])) (hB : Below N Ws w1) : JI N Ws x tk dr (b.1, b.2.1, b.2.2.1, v, b.2.2.2.2) (XInv.up l 12) w1 := by
 have e : ∀ j, j ≠ 12 → XInv.up l 12 j = l j := fun j hj => by unfold XInv.up; rw [if_neg hj]
 have e8 : XInv.up l 12 12 = true := by unfold XInv.up; rw [if_pos rfl]
 unfold JI
 rw [e 16 (by decide), e8, if_neg (by rw [h13]; decide), if_pos rfl]
 exact ⟨hB, hR⟩
theorem JI.s13 {N : Nat} {Ws w' w1 : World} {x : Int} {tk dr : List Int} {b : V5} {l : Nat → Bool} (h : JI N Ws x tk dr b l w') (v : Value) (hR : RI w1 N (fun _ => True) v ((tk ++ [x]) ++ dr)) (hB : Below N Ws w1) : JI N Ws x tk dr (b.1, b.2.1, b.2.2.1, b.2.2.2.1, v) (XInv.up l 16) w1 := by
 have e : ∀ j, j ≠ 16 → XInv.up l 16 j = l j := fun j hj => by unfold XInv.up; rw [if_neg hj]
 have e13 : XInv.up l 16 16 = true := by unfold XInv.up; rw [if_pos rfl]
 unfold JI
 rw [e13, if_pos rfl]
 exact ⟨hB, hR⟩
def spotU : List Int → Int → Nat
 | [], _ => 0
 | a :: l, x => if a < x then spotU l x + 1 else 0
theorem spotU_le (l : List Int) (x : Int) : spotU l x ≤ l.length := by
 induction l with
 | nil => exact Nat.le_refl _
 | cons a l ih => rw [spotU]; split <;> simp <;> omega
theorem spotU_ahead {l : List Int} {x : Int} : ∀ {j : Nat} (hj : j < spotU l x) (hl : j < l.length), l[j] < x := by
 induction l with
 | nil => intro j hj; exact absurd hj (Nat.not_lt_zero _)
 | cons a l ih =>
  intro j hj hl
  rw [spotU] at hj
  split at hj
  ·rename_i h
   cases j with
   | zero => exact h
   | succ j => exact ih (by omega) (by simpa using hl)
  ·exact absurd hj (Nat.not_lt_zero _)
theorem spotU_at {l : List Int} {x : Int} (hl : spotU l x < l.length) : ¬ l[spotU l x] < x := by
 induction l with
 | nil => exact absurd hl (Nat.not_lt_zero _)
 | cons a l ih =>
  by_cases h : a < x
  ·have e : spotU (a :: l) x = spotU l x + 1 := by rw [spotU, if_pos h]
   simp only [e, List.getElem_cons_succ]
   exact ih (by rw [e] at hl; simpa using hl)
  ·have e : spotU (a :: l) x = 0 := by rw [spotU, if_neg h]
   simp only [e, List.getElem_cons_zero]
   exact h
theorem insU_there {l : List Int} {x : Int} (hl : spotU l x < l.length) (h : l[spotU l x] = x) : insU l x = l := by
 induction l with
 | nil => exact absurd hl (Nat.not_lt_zero _)
 | cons a l ih =>
  rw [insU]
  by_cases ha : a < x
  ·have e : spotU (a :: l) x = spotU l x + 1 := by rw [spotU, if_pos ha]
   simp only [e, List.getElem_cons_succ] at h
   rw [if_neg (by omega), if_neg (by omega), ih (by rw [e] at hl; simpa using hl) h]
  ·have e : spotU (a :: l) x = 0 := by rw [spotU, if_neg ha]
   simp only [e, List.getElem_cons_zero] at h
   rw [if_neg (by omega), if_pos h.symm]
theorem insU_new {l : List Int} {x : Int} (h : ∀ hl : spotU l x < l.length, l[spotU l x] ≠ x) : insU l x = l.take (spotU l x) ++ [x] ++ l.drop (spotU l x) := by
 induction l with
 | nil => rfl
 | cons a l ih =>
  rw [insU]
  by_cases ha : a < x
  ·have e : spotU (a :: l) x = spotU l x + 1 := by rw [spotU, if_pos ha]
   rw [if_neg (by omega), if_neg (by omega), ih (fun hl => by have := h (by rw [e]; simpa using hl); simpa [e] using this), e]
   simp
  ·have e : spotU (a :: l) x = 0 := by rw [spotU, if_neg ha]
   have h0 : a ≠ x := by have := h (by rw [e]; simp); simpa [e] using this
   rw [if_pos (by omega), e]
   simp
end Go.Proofs.YthibppfdonepoaaGreat.LedT
set_option linter.unusedVariables false
set_option linter.unusedSimpArgs false
namespace Go.Proofs.YthibppfdonepoaaGreat.LedT
open Go.RowKit Go.MapKept Go.Maps Go.ChangeMaps Go.Proofs.YthibppfdonepoaaGreat.XBut Go.Proofs.YthibppfdonepoaaGreat.XMap Go.Proofs.YthibppfdonepoaaGreat.NodeT Go.Proofs.YthibppfdonepoaaGreatW.PrintWords Go.Proofs.YthibppfdonepoaaGreatW.PrintLast
theorem u_at {w : World} {A : Option Addr} {n : Nat} {xs : List Int} (h : Kd.C (Kd.int .u32) w A n xs) (j : Nat) (hj : j < n) (hj2 : j < xs.length) : ∃ ad, A = some ad ∧ w.cell? (ad.add j) = some (.int .u32 xs[j]) := by
 obtain ⟨ad, c, hA, hc, hR, hcell⟩ := ReadsRow.get_ h 0 (j : Int) (by omega) (by omega)
 refine ⟨ad, hA, ?_⟩
 have e : (j : Int).toNat = j := by simp
 have er : xs.getD (j : Int).toNat 0 = xs[j] := by rw [e, List.getD_eq_getElem?_getD, List.getElem?_eq_getElem hj2]; rfl
 rw [er] at hR
 have hR : c = [.int .u32 xs[j]] := hR
 have := hcell 0 (.int .u32 xs[j]) (by rw [hR]; rfl)
 rw [e] at this
 have this : w.cell? (ad.add (j * 1 + 0)) = some (.int .u32 xs[j]) := this
 simpa using this
theorem owners_step {bx : List Bx} {s : Bool} {k : Nat} (hk : k < bx.length) : ownersN (bx.take (k + 1)) s = if (bx[k].f3 == s) = true then insU (ownersN (bx.take k) s) bx[k].f2 else ownersN (bx.take k) s := by
 unfold ownersN
 rw [raw_step hk, List.foldl_append]
 split <;> rfl
theorem owners_len (bx : List Bx) (s : Bool) : (ownersN bx s).length ≤ bx.length := by
 have h1 : (ownersN bx s).Nodup := (owners_rising bx s).imp fun h e => by omega
 exact Nat.le_trans (Keys.sub_len h1 fun a ha => (owners_mem bx s a).1 ha) (raw_len bx s)
theorem cs18 (P : Nat → Prop) (h0 : P 0) (h1 : P 1) (h2 : P 2) (h3 : P 3) (h4 : P 4) (h5 : P 5) (h6 : P 6) (h7 : P 7) (h8 : P 8) (h9 : P 9) (h10 : P 10) (h11 : P 11) (h12 : P 12) (h13 : P 13) (h14 : P 14) (h15 : P 15) (h16 : P 16) (h17 : P 17) : ∀ i, i < 18 → P i := by
 intro i hi
 rcases (by omega : i = 0 ∨ i = 1 ∨ i = 2 ∨ i = 3 ∨ i = 4 ∨ i = 5 ∨ i = 6 ∨ i = 7 ∨ i = 8 ∨ i = 9 ∨ i = 10 ∨ i = 11 ∨ i = 12 ∨ i = 13 ∨ i = 14 ∨ i = 15 ∨ i = 16 ∨ i = 17) with rfl | rfl | rfl | rfl | rfl | rfl | rfl | rfl | rfl | rfl | rfl | rfl | rfl | rfl | rfl | rfl | rfl | rfl
 all_goals assumption
set_option maxHeartbeats 16000000 in
set_option maxRecDepth 100000 in
theorem downers (u0 u1 : Int) (An A : Option Addr) (nn cn n c : Nat) (last : Int) (s : Bool) (bx : List Bx) (w : World) (hC : Kd.C PLedLib.k100 w A n bx) (hn : bx.length = n) (hl : bx.length ≤ 1000000) :
  Calls Tryz.prog 76 #[dv u0 u1 (.slice An nn cn) (.slice A n c) last, .bool s] w fun e w' => ∃ v, e = .returned v ∧ RU w' w.heap.size v (ownersN bx s) ∧ Below w.heap.size w w' := by
 have hu118 := Tryz.underlying37
 have hu113 := Tryz.underlying100
 obtain ⟨W0, hW0⟩ : ∃ W0, w.alloc (db u0 u1 (.slice An nn cn) (.slice A n c) last) = W0 := ⟨_, rfl⟩
 have hB0 : Below w.heap.size w W0 := by rw [← hW0]; exact below_alloc (Below.refl _ _) _
 have k0 : W0.heap[w.heap.size]? = some (.cells #[.int .i64 u0, .int .i64 u1, .slice An nn cn, .slice A n c, .int .u32 last] LT (0, 0)) := by rw [← hW0]; exact blk_new w _
 have hl2 : n ≤ 1000000 := by omega
 have H := Aside0.mk (And.intro (Kd.C_below hC hB0) (And.intro hn (And.intro hB0 (And.intro k0 hW0))))
 have c3 := (blk_cell k0 3).trans rfl
 unfold dv
 clear hC hn hl hB0 k0 hW0
 go_enter Tryz.func76, Tryz.ntmps76
 go_upto_region 2 with (fail)
 rw [H.out.2.2.2.2]
 go_wp2_with fail
 go_loopg [5, 6, 7] n (fun kk v5 v6 v7 wr => ∃ i : Nat, kk = n - i ∧ v6 = .int .i64 i ∧ i ≤ n ∧ Below W0.heap.size W0 wr ∧ RU wr W0.heap.size v5 (ownersN (bx.take i) s))
 case atStart => exact ⟨0, rfl, rfl, Nat.zero_le _, Below.refl _ _, Kd.R_nil _ _ _ _ _⟩
 obtain ⟨i, rfl, rfl, hi, hB, hR⟩ := hrel
 clear c3
 have c3 := (blk_cell (blk_below H.out.2.2.2.1 hB) 3).trans rfl
 by_cases hlt : i < n
 ·have hib : i < bx.length := by rw [H.out.2.1]; exact hlt
  obtain ⟨ab, rfl, d0, d1, d2, d3⟩ := box_at (Kd.C_below H.out.1 hB) H.out.2.1 i hlt hib
  have hst := owners_step (s := s) hib
  obtain ⟨x, hx⟩ : ∃ x, bx[i] = x := ⟨_, rfl⟩
  rw [hx] at d0 d1 d2 d3 hst
  obtain ⟨x0, x1, x2, x3⟩ := x
  dsimp only at d0 d1 d2 d3 hst
  have hlt' : (i : Int) < (n : Int) := by omega
  have hol := owners_len (bx.take i) s
  rw [List.length_take] at hol
  obtain ⟨A5, c5, rfl⟩ := Kd.R_slice hR
  obtain ⟨lst, hll⟩ : ∃ lst, ownersN (bx.take i) s = lst := ⟨_, rfl⟩
  rw [hll] at hR hst hol ⊢
  obtain ⟨m, hm⟩ : ∃ m, lst.length = m := ⟨_, rfl⟩
  rw [hm] at hol hR ⊢
  have hm1 : m ≤ 1000000 := by omega
  obtain ⟨be, hbe⟩ : ∃ be, (x3 == s) = be := ⟨_, rfl⟩
  have Y := Aside0.mk (And.intro hB (And.intro hR (And.intro hst (And.intro d2 (And.intro (blk_below H.out.2.2.2.1 hB) hm)))))
  clear hB hR hst hx hll hol hm d0 d1 d2
  cases be
  case true =>
   have E := Aside0.mk hbe
   go_wp2_with fail
   have hsp := spotU_le lst x2
   rw [Y.out.2.2.2.2.2] at hsp
   clear d3 c3 hbe
   go_loopg [7] (m + 1) (fun kk v7 wq => ∃ k : Nat, kk = m + 1 - k ∧ v7 = .int .i64 k ∧ k ≤ spotU lst x2 ∧ Below wr.heap.size wr wq)
   case atStart => exact ⟨0, rfl, rfl, Nat.zero_le _, Below.refl _ _⟩
   obtain ⟨k, rfl, rfl, hk, hBk⟩ := hrel
   have CL := Aside0.mk (Kd.R_reads' (Kd.R_below Y.out.2.1 hBk))
   have X := Aside0.mk hBk
   have kq := Aside0.mk (blk_below Y.out.2.2.2.2.1 hBk)
   have D2 := Aside0.mk (pw_cell_below hBk Y.out.2.2.2.1)
   by_cases hks : k < spotU lst x2
   ·as_aux_lemma =>
    have hkm : k < m := by omega
    have hkl : k < lst.length := by rw [Y.out.2.2.2.2.2]; exact hkm
    obtain ⟨a5, rfl, e0⟩ := u_at CL.out.2.2 k hkl hkl
    have hy := spotU_ahead hks hkl
    obtain ⟨y, hye⟩ : ∃ y, lst[k] = y := ⟨_, rfl⟩
    rw [hye] at e0 hy
    have hkm' : (k : Int) < (m : Int) := by omega
    have t1 : decide ((k : Int) < (m : Int)) = true := decide_eq_true hkm'
    have t2 : decide (y < x2) = true := decide_eq_true hy
    have E0 := Aside0.mk e0
    clear e0 hye hy hBk
    go_upto_region 7 with (fail)
    refine XInv.region_tab [] [[], [], [1], [0, 2], [3], [4], [4], [5, 6, 4], [7, 4], [4], [9, 4], [4], [10, 11, 4], [12, 4], [13, 4], [8, 14, 4], [4, 15]] (fun bq jq => match jq with
      | 0 => .int .i64 k
      | 1 => .slice (some a5) m c5
      | 2 => .int .i64 m
      | 3 => .bool true
      | 4 => .bool true
      | 5 => .slice (some a5) m c5
      | 6 => .int .i64 k
      | 7 => .pointer (some (a5.add k))
      | 8 => .int .u32 y
      | 9 => .pointer (some ⟨w.heap.size, 3, none⟩)
      | 10 => .slice (some ab) n c
      | 11 => .int .i64 i
      | 12 => .pointer (some (ab.add (i * 4)))
      | 13 => .pointer (some ⟨(ab.add (i * 4)).block, (ab.add (i * 4)).off + 2, none⟩)
      | 14 => .int .u32 x2
      | 15 => .bool true
      | 16 => .bool true
      | _ => undef)
      (fun bq l w' => Below wr.heap.size wr w')
      (by kernel_rfl) rfl (by kernel_rfl) (by kernel_rfl) (by kernel_rfl) ⟨fun _ : Nat => (0 : Nat), below_drew (Below.refl _ _)⟩ ?_ ?_
    ·intro i1 hi1 hds oi hoi bq lb w' hW hlb hcl hneed hclo
     have hi1 : i1 < 17 := hi1
     have hcs : i1 = 0 ∨ i1 = 1 ∨ i1 = 2 ∨ i1 = 3 ∨ i1 = 4 ∨ i1 = 5 ∨ i1 = 6 ∨ i1 = 7 ∨ i1 = 8 ∨ i1 = 9 ∨ i1 = 10 ∨ i1 = 11 ∨ i1 = 12 ∨ i1 = 13 ∨ i1 = 14 ∨ i1 = 15 ∨ i1 = 16 := by omega
     clear hi1 hcl hneed hclo
     have c3 := (blk_cell (blk_below kq.out hW) 3).trans rfl
     have d2 := pw_cell_below hW D2.out
     have e0 := pw_cell_below hW E0.out
     rcases hcs with rfl | rfl | rfl | rfl | rfl | rfl | rfl | rfl | rfl | rfl | rfl | rfl | rfl | rfl | rfl | rfl | rfl
     all_goals simp only [List.getElem?_toArray, List.getElem?_cons_succ, List.getElem?_cons_zero, Option.some.injEq] at hoi
     all_goals subst hoi
     ·refine XInv.yes_tab [] (by kernel_rfl) ?_
      intro Q2 K2 hK2
      simp only [XInv.puts, XPrint.pw]
      go_simp
      exact hK2.out (.int .i64 k) w' ⟨bq, rfl, (by intros; first | rfl | trivial), hW⟩
     ·refine XInv.yes_tab [] (by kernel_rfl) ?_
      intro Q2 K2 hK2
      simp only [XInv.puts, XPrint.pw]
      go_simp
      exact hK2.out (.slice (some a5) m c5) w' ⟨bq, rfl, (by intros; first | rfl | trivial), hW⟩
     ·refine XInv.yes_tab [(24, 1)] (by kernel_rfl) ?_
      intro Q2 K2 hK2
      simp only [XInv.puts, XPrint.pw]
      go_simp
      exact hK2.out (.int .i64 m) w' ⟨bq, rfl, (by intros; first | rfl | trivial), hW⟩
     ·refine XInv.yes_tab [(25, 2), (23, 0)] (by kernel_rfl) ?_
      intro Q2 K2 hK2
      simp only [XInv.puts, XPrint.pw]
      go_simp
      exact hK2.out (.bool true) w' ⟨bq, rfl, (by intros; first | rfl | trivial), hW⟩
     ·refine XInv.yes_tab [(26, 3)] (by kernel_rfl) ?_
      intro Q2 K2 hK2
      simp only [XInv.puts, XPrint.pw]
      go_simp
      exact hK2.out (.bool true) w' ⟨bq, rfl, (by intros; first | rfl | trivial), hW⟩
     ·refine XInv.yes_tab [(27, 4)] (by kernel_rfl) ?_
      intro Q2 K2 hK2
      simp only [XInv.puts, XPrint.pw]
      go_simp
      exact hK2.out (.slice (some a5) m c5) w' ⟨bq, rfl, (by intros; first | rfl | trivial), hW⟩
     ·refine XInv.yes_tab [(27, 4)] (by kernel_rfl) ?_
      intro Q2 K2 hK2
      simp only [XInv.puts, XPrint.pw]
      go_simp
      exact hK2.out (.int .i64 k) w' ⟨bq, rfl, (by intros; first | rfl | trivial), hW⟩
     ·refine XInv.yes_tab [(29, 6), (28, 5), (27, 4)] (by kernel_rfl) ?_
      intro Q2 K2 hK2
      simp only [XInv.puts, XPrint.pw]
      go_simp
      exact hK2.out (.pointer (some (a5.add k))) w' ⟨bq, rfl, (by intros; first | rfl | trivial), hW⟩
     ·refine XInv.yes_tab [(30, 7), (27, 4)] (by kernel_rfl) ?_
      intro Q2 K2 hK2
      simp only [XInv.puts, XPrint.pw]
      go_simp
      exact hK2.out (.int .u32 y) w' ⟨bq, rfl, (by intros; first | rfl | trivial), hW⟩
     ·refine XInv.yes_tab [(27, 4)] (by kernel_rfl) ?_
      intro Q2 K2 hK2
      simp only [XInv.puts, XPrint.pw]
      go_simp
      exact hK2.out (.pointer (some ⟨w.heap.size, 3, none⟩)) w' ⟨bq, rfl, (by intros; first | rfl | trivial), hW⟩
     ·refine XInv.yes_tab [(32, 9), (27, 4)] (by kernel_rfl) ?_
      intro Q2 K2 hK2
      simp only [XInv.puts, XPrint.pw]
      go_simp
      exact hK2.out (.slice (some ab) n c) w' ⟨bq, rfl, (by intros; first | rfl | trivial), hW⟩
     ·refine XInv.yes_tab [(27, 4)] (by kernel_rfl) ?_
      intro Q2 K2 hK2
      simp only [XInv.puts, XPrint.pw]
      go_simp
      exact hK2.out (.int .i64 i) w' ⟨bq, rfl, (by intros; first | rfl | trivial), hW⟩
     ·refine XInv.yes_tab [(34, 11), (33, 10), (27, 4)] (by kernel_rfl) ?_
      intro Q2 K2 hK2
      simp only [XInv.puts, XPrint.pw]
      go_simp
      exact hK2.out (.pointer (some (ab.add (i * 4)))) w' ⟨bq, rfl, (by intros; first | rfl | trivial), hW⟩
     ·refine XInv.yes_tab [(35, 12), (27, 4)] (by kernel_rfl) ?_
      intro Q2 K2 hK2
      simp only [XInv.puts, XPrint.pw]
      go_simp
      exact hK2.out (.pointer (some ⟨(ab.add (i * 4)).block, (ab.add (i * 4)).off + 2, none⟩)) w' ⟨bq, rfl, (by intros; first | rfl | trivial), hW⟩
     ·refine XInv.yes_tab [(36, 13), (27, 4)] (by kernel_rfl) ?_
      intro Q2 K2 hK2
      simp only [XInv.puts, XPrint.pw]
      go_simp
      exact hK2.out (.int .u32 x2) w' ⟨bq, rfl, (by intros; first | rfl | trivial), hW⟩
     ·refine XInv.yes_tab [(37, 14), (31, 8), (27, 4)] (by kernel_rfl) ?_
      intro Q2 K2 hK2
      simp only [XInv.puts, XPrint.pw]
      go_simp
      exact hK2.out (.bool true) w' ⟨bq, rfl, (by intros; first | rfl | trivial), hW⟩
     ·refine XInv.yes_tab [(38, 15), (27, 4)] (by kernel_rfl) ?_
      intro Q2 K2 hK2
      simp only [XInv.puts, XPrint.pw]
      go_simp
      exact hK2.out (.bool true) w' ⟨bq, rfl, (by intros; first | rfl | trivial), hW⟩
    ·intro bq w' hW
     refine XInv.end_nil [(39, 16), (38, 15), (37, 14), (36, 13), (35, 12), (34, 11), (33, 10), (32, 9), (31, 8), (30, 7), (29, 6), (28, 5), (27, 4), (26, 3), (25, 2), (24, 1), (23, 0)] (by kernel_rfl) (by kernel_rfl) ?_
     simp only [XInv.puts, XPrint.pw]
     replace X := Aside0.mk (below_step X.out hW)
     clear hW
     go_wp2
     go_roundg (m + 1 - (k + 1))
     case measure => omega
     case rel => exact ⟨k + 1, rfl, by go_num, by omega, X.out⟩
   ·have hke : k = spotU lst x2 := by omega
    by_cases hkm : k < m
    ·have hkl : k < lst.length := by rw [Y.out.2.2.2.2.2]; exact hkm
     obtain ⟨a5, rfl, e0⟩ := u_at CL.out.2.2 k hkl hkl
     have hy : ¬ lst[k] < x2 := by
      have := spotU_at (l := lst) (x := x2) (by rw [← hke]; exact hkl)
      simpa [← hke] using this
     have hthere : lst[k] = x2 → insU lst x2 = lst := fun h => insU_there (by rw [← hke]; exact hkl) (by simpa [← hke] using h)
     have hnew : lst[k] ≠ x2 → insU lst x2 = lst.take k ++ [x2] ++ lst.drop k := fun h => by
      have := insU_new (l := lst) (x := x2) (fun hl => by simpa [← hke] using h)
      rwa [← hke] at this
     obtain ⟨y, hye⟩ : ∃ y, lst[k] = y := ⟨_, rfl⟩
     rw [hye] at e0 hy hthere hnew
     have hkm' : (k : Int) < (m : Int) := by omega
     have t1 : decide ((k : Int) < (m : Int)) = true := decide_eq_true hkm'
     have t2 : decide (y < x2) = false := decide_eq_false hy
     have E0 := Aside0.mk e0
     have T := Aside0.mk (And.intro hthere hnew)
     clear e0 hye hy hBk hthere hnew hke hks
     go_upto_region 7 with (fail)
     refine XInv.region_tab [] [[], [], [1], [0, 2], [3], [4], [4], [5, 6, 4], [7, 4], [4], [9, 4], [4], [10, 11, 4], [12, 4], [13, 4], [8, 14, 4], [4, 15]] (fun bq jq => match jq with
       | 0 => .int .i64 k
       | 1 => .slice (some a5) m c5
       | 2 => .int .i64 m
       | 3 => .bool true
       | 4 => .bool true
       | 5 => .slice (some a5) m c5
       | 6 => .int .i64 k
       | 7 => .pointer (some (a5.add k))
       | 8 => .int .u32 y
       | 9 => .pointer (some ⟨w.heap.size, 3, none⟩)
       | 10 => .slice (some ab) n c
       | 11 => .int .i64 i
       | 12 => .pointer (some (ab.add (i * 4)))
       | 13 => .pointer (some ⟨(ab.add (i * 4)).block, (ab.add (i * 4)).off + 2, none⟩)
       | 14 => .int .u32 x2
       | 15 => .bool false
       | 16 => .bool false
       | _ => undef)
       (fun bq l w' => Below wr.heap.size wr w')
       (by kernel_rfl) rfl (by kernel_rfl) (by kernel_rfl) (by kernel_rfl) ⟨fun _ : Nat => (0 : Nat), below_drew (Below.refl _ _)⟩ ?_ ?_
     ·intro i1 hi1 hds oi hoi bq lb w' hW hlb hcl hneed hclo
      have hi1 : i1 < 17 := hi1
      have hcs : i1 = 0 ∨ i1 = 1 ∨ i1 = 2 ∨ i1 = 3 ∨ i1 = 4 ∨ i1 = 5 ∨ i1 = 6 ∨ i1 = 7 ∨ i1 = 8 ∨ i1 = 9 ∨ i1 = 10 ∨ i1 = 11 ∨ i1 = 12 ∨ i1 = 13 ∨ i1 = 14 ∨ i1 = 15 ∨ i1 = 16 := by omega
      clear hi1 hcl hneed hclo
      have c3 := (blk_cell (blk_below kq.out hW) 3).trans rfl
      have d2 := pw_cell_below hW D2.out
      have e0 := pw_cell_below hW E0.out
      rcases hcs with rfl | rfl | rfl | rfl | rfl | rfl | rfl | rfl | rfl | rfl | rfl | rfl | rfl | rfl | rfl | rfl | rfl
      all_goals simp only [List.getElem?_toArray, List.getElem?_cons_succ, List.getElem?_cons_zero, Option.some.injEq] at hoi
      all_goals subst hoi
      ·refine XInv.yes_tab [] (by kernel_rfl) ?_
       intro Q2 K2 hK2
       simp only [XInv.puts, XPrint.pw]
       go_simp
       exact hK2.out (.int .i64 k) w' ⟨bq, rfl, (by intros; first | rfl | trivial), hW⟩
      ·refine XInv.yes_tab [] (by kernel_rfl) ?_
       intro Q2 K2 hK2
       simp only [XInv.puts, XPrint.pw]
       go_simp
       exact hK2.out (.slice (some a5) m c5) w' ⟨bq, rfl, (by intros; first | rfl | trivial), hW⟩
      ·refine XInv.yes_tab [(24, 1)] (by kernel_rfl) ?_
       intro Q2 K2 hK2
       simp only [XInv.puts, XPrint.pw]
       go_simp
       exact hK2.out (.int .i64 m) w' ⟨bq, rfl, (by intros; first | rfl | trivial), hW⟩
      ·refine XInv.yes_tab [(25, 2), (23, 0)] (by kernel_rfl) ?_
       intro Q2 K2 hK2
       simp only [XInv.puts, XPrint.pw]
       go_simp
       exact hK2.out (.bool true) w' ⟨bq, rfl, (by intros; first | rfl | trivial), hW⟩
      ·refine XInv.yes_tab [(26, 3)] (by kernel_rfl) ?_
       intro Q2 K2 hK2
       simp only [XInv.puts, XPrint.pw]
       go_simp
       exact hK2.out (.bool true) w' ⟨bq, rfl, (by intros; first | rfl | trivial), hW⟩
      ·refine XInv.yes_tab [(27, 4)] (by kernel_rfl) ?_
       intro Q2 K2 hK2
       simp only [XInv.puts, XPrint.pw]
       go_simp
       exact hK2.out (.slice (some a5) m c5) w' ⟨bq, rfl, (by intros; first | rfl | trivial), hW⟩
      ·refine XInv.yes_tab [(27, 4)] (by kernel_rfl) ?_
       intro Q2 K2 hK2
       simp only [XInv.puts, XPrint.pw]
       go_simp
       exact hK2.out (.int .i64 k) w' ⟨bq, rfl, (by intros; first | rfl | trivial), hW⟩
      ·refine XInv.yes_tab [(29, 6), (28, 5), (27, 4)] (by kernel_rfl) ?_
       intro Q2 K2 hK2
       simp only [XInv.puts, XPrint.pw]
       go_simp
       exact hK2.out (.pointer (some (a5.add k))) w' ⟨bq, rfl, (by intros; first | rfl | trivial), hW⟩
      ·refine XInv.yes_tab [(30, 7), (27, 4)] (by kernel_rfl) ?_
       intro Q2 K2 hK2
       simp only [XInv.puts, XPrint.pw]
       go_simp
       exact hK2.out (.int .u32 y) w' ⟨bq, rfl, (by intros; first | rfl | trivial), hW⟩
      ·refine XInv.yes_tab [(27, 4)] (by kernel_rfl) ?_
       intro Q2 K2 hK2
       simp only [XInv.puts, XPrint.pw]
       go_simp
       exact hK2.out (.pointer (some ⟨w.heap.size, 3, none⟩)) w' ⟨bq, rfl, (by intros; first | rfl | trivial), hW⟩
      ·refine XInv.yes_tab [(32, 9), (27, 4)] (by kernel_rfl) ?_
       intro Q2 K2 hK2
       simp only [XInv.puts, XPrint.pw]
       go_simp
       exact hK2.out (.slice (some ab) n c) w' ⟨bq, rfl, (by intros; first | rfl | trivial), hW⟩
      ·refine XInv.yes_tab [(27, 4)] (by kernel_rfl) ?_
       intro Q2 K2 hK2
       simp only [XInv.puts, XPrint.pw]
       go_simp
       exact hK2.out (.int .i64 i) w' ⟨bq, rfl, (by intros; first | rfl | trivial), hW⟩
      ·refine XInv.yes_tab [(34, 11), (33, 10), (27, 4)] (by kernel_rfl) ?_
       intro Q2 K2 hK2
       simp only [XInv.puts, XPrint.pw]
       go_simp
       exact hK2.out (.pointer (some (ab.add (i * 4)))) w' ⟨bq, rfl, (by intros; first | rfl | trivial), hW⟩
      ·refine XInv.yes_tab [(35, 12), (27, 4)] (by kernel_rfl) ?_
       intro Q2 K2 hK2
       simp only [XInv.puts, XPrint.pw]
       go_simp
       exact hK2.out (.pointer (some ⟨(ab.add (i * 4)).block, (ab.add (i * 4)).off + 2, none⟩)) w' ⟨bq, rfl, (by intros; first | rfl | trivial), hW⟩
      ·refine XInv.yes_tab [(36, 13), (27, 4)] (by kernel_rfl) ?_
       intro Q2 K2 hK2
       simp only [XInv.puts, XPrint.pw]
       go_simp
       exact hK2.out (.int .u32 x2) w' ⟨bq, rfl, (by intros; first | rfl | trivial), hW⟩
      ·refine XInv.yes_tab [(37, 14), (31, 8), (27, 4)] (by kernel_rfl) ?_
       intro Q2 K2 hK2
       simp only [XInv.puts, XPrint.pw]
       go_simp
       exact hK2.out (.bool false) w' ⟨bq, rfl, (by intros; first | rfl | trivial), hW⟩
      ·refine XInv.yes_tab [(38, 15), (27, 4)] (by kernel_rfl) ?_
       intro Q2 K2 hK2
       simp only [XInv.puts, XPrint.pw]
       go_simp
       exact hK2.out (.bool false) w' ⟨bq, rfl, (by intros; first | rfl | trivial), hW⟩
     ·intro bq w' hW
      refine XInv.end_nil [(39, 16), (38, 15), (37, 14), (36, 13), (35, 12), (34, 11), (33, 10), (32, 9), (31, 8), (30, 7), (29, 6), (28, 5), (27, 4), (26, 3), (25, 2), (24, 1), (23, 0)] (by kernel_rfl) (by kernel_rfl) ?_
      simp only [XInv.puts, XPrint.pw]
      replace X := Aside0.mk (below_step X.out hW)
      replace kq := Aside0.mk (blk_below kq.out hW)
      replace D2 := Aside0.mk (pw_cell_below hW D2.out)
      replace E0 := Aside0.mk (pw_cell_below hW E0.out)
      obtain ⟨w1, hw1⟩ : ∃ w1, w' = w1 := ⟨_, rfl⟩
      rw [hw1] at X kq D2 E0 ⊢
      clear hW t2 hw1
      obtain ⟨q, hq⟩ : ∃ q, (y == x2) = q := ⟨_, rfl⟩
      go_upto_region 9 with (fail)
      refine XInv.region_tab [] [[], [], [1], [0, 2], [3], [4], [4], [5, 6, 4], [7, 4], [4], [9, 4], [4], [10, 11, 4], [12, 4], [13, 4], [8, 14, 4], [4, 15]] (fun bq jq => match jq with
        | 0 => .int .i64 k
        | 1 => .slice (some a5) m c5
        | 2 => .int .i64 m
        | 3 => .bool true
        | 4 => .bool true
        | 5 => .slice (some a5) m c5
        | 6 => .int .i64 k
        | 7 => .pointer (some (a5.add k))
        | 8 => .int .u32 y
        | 9 => .pointer (some ⟨w.heap.size, 3, none⟩)
        | 10 => .slice (some ab) n c
        | 11 => .int .i64 i
        | 12 => .pointer (some (ab.add (i * 4)))
        | 13 => .pointer (some ⟨(ab.add (i * 4)).block, (ab.add (i * 4)).off + 2, none⟩)
        | 14 => .int .u32 x2
        | 15 => .bool q
        | 16 => .bool q
        | _ => undef)
        (fun bq l w' => Below w1.heap.size w1 w')
        (by kernel_rfl) rfl (by kernel_rfl) (by kernel_rfl) (by kernel_rfl) ⟨fun _ : Nat => (0 : Nat), below_drew (Below.refl _ _)⟩ ?_ ?_
      ·intro i1 hi1 hds oi hoi bq lb w' hW hlb hcl hneed hclo
       have hi1 : i1 < 17 := hi1
       have hcs : i1 = 0 ∨ i1 = 1 ∨ i1 = 2 ∨ i1 = 3 ∨ i1 = 4 ∨ i1 = 5 ∨ i1 = 6 ∨ i1 = 7 ∨ i1 = 8 ∨ i1 = 9 ∨ i1 = 10 ∨ i1 = 11 ∨ i1 = 12 ∨ i1 = 13 ∨ i1 = 14 ∨ i1 = 15 ∨ i1 = 16 := by omega
       clear hi1 hcl hneed hclo
       have c3 := (blk_cell (blk_below kq.out hW) 3).trans rfl
       have d2 := pw_cell_below hW D2.out
       have e0 := pw_cell_below hW E0.out
       rcases hcs with rfl | rfl | rfl | rfl | rfl | rfl | rfl | rfl | rfl | rfl | rfl | rfl | rfl | rfl | rfl | rfl | rfl
       all_goals simp only [List.getElem?_toArray, List.getElem?_cons_succ, List.getElem?_cons_zero, Option.some.injEq] at hoi
       all_goals subst hoi
       ·refine XInv.yes_tab [] (by kernel_rfl) ?_
        intro Q2 K2 hK2
        simp only [XInv.puts, XPrint.pw]
        go_simp
        exact hK2.out (.int .i64 k) w' ⟨bq, rfl, (by intros; first | rfl | trivial), hW⟩
       ·refine XInv.yes_tab [] (by kernel_rfl) ?_
        intro Q2 K2 hK2
        simp only [XInv.puts, XPrint.pw]
        go_simp
        exact hK2.out (.slice (some a5) m c5) w' ⟨bq, rfl, (by intros; first | rfl | trivial), hW⟩
       ·refine XInv.yes_tab [(43, 1)] (by kernel_rfl) ?_
        intro Q2 K2 hK2
        simp only [XInv.puts, XPrint.pw]
        go_simp
        exact hK2.out (.int .i64 m) w' ⟨bq, rfl, (by intros; first | rfl | trivial), hW⟩
       ·refine XInv.yes_tab [(44, 2), (42, 0)] (by kernel_rfl) ?_
        intro Q2 K2 hK2
        simp only [XInv.puts, XPrint.pw]
        go_simp
        exact hK2.out (.bool true) w' ⟨bq, rfl, (by intros; first | rfl | trivial), hW⟩
       ·refine XInv.yes_tab [(45, 3)] (by kernel_rfl) ?_
        intro Q2 K2 hK2
        simp only [XInv.puts, XPrint.pw]
        go_simp
        exact hK2.out (.bool true) w' ⟨bq, rfl, (by intros; first | rfl | trivial), hW⟩
       ·refine XInv.yes_tab [(46, 4)] (by kernel_rfl) ?_
        intro Q2 K2 hK2
        simp only [XInv.puts, XPrint.pw]
        go_simp
        exact hK2.out (.slice (some a5) m c5) w' ⟨bq, rfl, (by intros; first | rfl | trivial), hW⟩
       ·refine XInv.yes_tab [(46, 4)] (by kernel_rfl) ?_
        intro Q2 K2 hK2
        simp only [XInv.puts, XPrint.pw]
        go_simp
        exact hK2.out (.int .i64 k) w' ⟨bq, rfl, (by intros; first | rfl | trivial), hW⟩
       ·refine XInv.yes_tab [(48, 6), (47, 5), (46, 4)] (by kernel_rfl) ?_
        intro Q2 K2 hK2
        simp only [XInv.puts, XPrint.pw]
        go_simp
        exact hK2.out (.pointer (some (a5.add k))) w' ⟨bq, rfl, (by intros; first | rfl | trivial), hW⟩
       ·refine XInv.yes_tab [(49, 7), (46, 4)] (by kernel_rfl) ?_
        intro Q2 K2 hK2
        simp only [XInv.puts, XPrint.pw]
        go_simp
        exact hK2.out (.int .u32 y) w' ⟨bq, rfl, (by intros; first | rfl | trivial), hW⟩
       ·refine XInv.yes_tab [(46, 4)] (by kernel_rfl) ?_
        intro Q2 K2 hK2
        simp only [XInv.puts, XPrint.pw]
        go_simp
        exact hK2.out (.pointer (some ⟨w.heap.size, 3, none⟩)) w' ⟨bq, rfl, (by intros; first | rfl | trivial), hW⟩
       ·refine XInv.yes_tab [(51, 9), (46, 4)] (by kernel_rfl) ?_
        intro Q2 K2 hK2
        simp only [XInv.puts, XPrint.pw]
        go_simp
        exact hK2.out (.slice (some ab) n c) w' ⟨bq, rfl, (by intros; first | rfl | trivial), hW⟩
       ·refine XInv.yes_tab [(46, 4)] (by kernel_rfl) ?_
        intro Q2 K2 hK2
        simp only [XInv.puts, XPrint.pw]
        go_simp
        exact hK2.out (.int .i64 i) w' ⟨bq, rfl, (by intros; first | rfl | trivial), hW⟩
       ·refine XInv.yes_tab [(53, 11), (52, 10), (46, 4)] (by kernel_rfl) ?_
        intro Q2 K2 hK2
        simp only [XInv.puts, XPrint.pw]
        go_simp
        exact hK2.out (.pointer (some (ab.add (i * 4)))) w' ⟨bq, rfl, (by intros; first | rfl | trivial), hW⟩
       ·refine XInv.yes_tab [(54, 12), (46, 4)] (by kernel_rfl) ?_
        intro Q2 K2 hK2
        simp only [XInv.puts, XPrint.pw]
        go_simp
        exact hK2.out (.pointer (some ⟨(ab.add (i * 4)).block, (ab.add (i * 4)).off + 2, none⟩)) w' ⟨bq, rfl, (by intros; first | rfl | trivial), hW⟩
       ·refine XInv.yes_tab [(55, 13), (46, 4)] (by kernel_rfl) ?_
        intro Q2 K2 hK2
        simp only [XInv.puts, XPrint.pw]
        go_simp
        exact hK2.out (.int .u32 x2) w' ⟨bq, rfl, (by intros; first | rfl | trivial), hW⟩
       ·refine XInv.yes_tab [(56, 14), (50, 8), (46, 4)] (by kernel_rfl) ?_
        intro Q2 K2 hK2
        simp only [XInv.puts, XPrint.pw]
        go_simp
        exact hK2.out (.bool q) w' ⟨bq, rfl, (by intros; first | rfl | trivial), hW⟩
       ·refine XInv.yes_tab [(57, 15), (46, 4)] (by kernel_rfl) ?_
        intro Q2 K2 hK2
        simp only [XInv.puts, XPrint.pw]
        go_simp
        exact hK2.out (.bool q) w' ⟨bq, rfl, (by intros; first | rfl | trivial), hW⟩
      ·intro bq w' hW
       refine XInv.end_nil [(58, 16), (57, 15), (56, 14), (55, 13), (54, 12), (53, 11), (52, 10), (51, 9), (50, 8), (49, 7), (48, 6), (47, 5), (46, 4), (45, 3), (44, 2), (43, 1), (42, 0)] (by kernel_rfl) (by kernel_rfl) ?_
       simp only [XInv.puts, XPrint.pw]
       replace X := Aside0.mk (below_step X.out hW)
       clear hW
       cases q
       case true =>
        have hyx : y = x2 := by simpa using hq
        have N := Aside0.mk (T.out.1 hyx)
        clear hq hyx
        go_wp2
        go_roundg (n - (i + 1))
        case measure => omega
        case rel => exact ⟨i + 1, rfl, by go_num, by omega, below_step Y.out.1 X.out, by rw [Y.out.2.2.1, if_pos E.out, N.out]; exact Kd.R_below Y.out.2.1 X.out⟩
       case false =>
        have hyx : y ≠ x2 := by simpa using hq
        have N := Aside0.mk (T.out.2 hyx)
        clear hq hyx
        clear t1
        go_upto_region 10 with (fail)
        obtain ⟨Ws, hWs⟩ : ∃ Ws, w' = Ws := ⟨_, rfl⟩
        rw [hWs] at X ⊢
        clear hWs
        have hjl : k ≤ m := by omega
        obtain ⟨i0, hi0, _, hsz, _⟩ := info_parts infoU
        have hmc : m ≤ c5 := (Kd.R_reads' Y.out.2.1).2.1
        have hcut1 := cut_to (P := Tryz.prog) 43 35 .i64 Tryz.underlying43 hi0 (some a5) m c5 (k : Int) (by omega) (by omega) hmc
        have hcut2 := cut_from (P := Tryz.prog) 43 35 .i64 Tryz.underlying43 hi0 1 hsz (some a5) m c5 (k : Int) (by omega) (by omega)
        simp only [Int.toNat_natCast] at hcut1 hcut2
        obtain ⟨A2, hA2⟩ : ∃ A2, (if c5 = k then (some a5) else Option.map (fun x => x.add (k * 1)) (some a5)) = A2 := ⟨_, rfl⟩
        rw [hA2] at hcut2
        have XB := Aside0.mk (below_step Y.out.1 X.out)
        have RW := Aside0.mk (Kd.R_below Y.out.2.1 X.out)
        have TK : Aside0 (∀ w', Below Ws.heap.size Ws w' → Kd.C (Kd.int .u32) w' (some a5) k (lst.take k)) := ⟨fun w' h => by
         have := Kd.C_take (m := k) (Kd.C_below (Kd.R_reads' RW.out).2.2 h) (by rw [Y.out.2.2.2.2.2]; exact hjl)
         rwa [show (lst.take k).length = k by rw [List.length_take, Y.out.2.2.2.2.2]; omega] at this⟩
        have DR : Aside0 (∀ w', Below Ws.heap.size Ws w' → Kd.C (Kd.int .u32) w' A2 (m - k) (lst.drop k)) := ⟨fun w' h => by
         have := Kd.C_drop (m := k) (c := c5) (Kd.C_below (Kd.R_reads' RW.out).2.2 h) (by rw [Y.out.2.2.2.2.2]; exact hjl) (by rw [Y.out.2.2.2.2.2]; exact hmc)
         rw [List.length_drop, Y.out.2.2.2.2.2] at this
         rw [← hA2]
         exact this⟩
        have WB := Aside0.mk hmc
        have hlt1 : (lst.take k).length = k := by rw [List.length_take, Y.out.2.2.2.2.2]; omega
        clear hi0 hsz hA2 hmc
        refine XInv.region_tab [] [[], [], [], [1, 2], [0, 3], [], [5], [], [6, 7], [8], [9], [10], [4, 11, 4], [], [], [13, 14], [12, 15, 12], [16, 16, 0, 1, 2, 3, 4, 5, 6, 7, 8, 9, 10, 11, 12, 13, 14, 15, 16]] (fun bq jq => match jq with
          | 0 => bq.1
          | 1 => .slice (some a5) m c5
          | 2 => .int .i64 k
          | 3 => .slice (some a5) k c5
          | 4 => bq.2.1
          | 5 => .pointer (some ⟨w.heap.size, 3, none⟩)
          | 6 => .slice (some ab) n c
          | 7 => .int .i64 i
          | 8 => .pointer (some (ab.add (i * 4)))
          | 9 => .pointer (some ⟨(ab.add (i * 4)).block, (ab.add (i * 4)).off + 2, none⟩)
          | 10 => .int .u32 x2
          | 11 => bq.2.2.1
          | 12 => bq.2.2.2.1
          | 13 => .slice (some a5) m c5
          | 14 => .int .i64 k
          | 15 => .slice A2 (m - k) (c5 - k)
          | 16 => bq.2.2.2.2
          | 17 => bq.2.2.2.2
          | _ => undef)
          (fun bq l w' => JI Ws.heap.size Ws x2 (lst.take k) (lst.drop k) bq l w')
          (by kernel_rfl) rfl (by kernel_rfl) (by kernel_rfl) (by kernel_rfl) ⟨((undef, undef, undef, undef, undef) : V5), JI.start (below_drew (Below.refl _ _))⟩ ?_ ?_
        ·intro i1 hi1 hds oi hoi bq lb w' hW hlb hcl hneed hclo
         have hi1 : i1 < 18 := hi1
         have hcs : i1 = 0 ∨ i1 = 1 ∨ i1 = 2 ∨ i1 = 3 ∨ i1 = 4 ∨ i1 = 5 ∨ i1 = 6 ∨ i1 = 7 ∨ i1 = 8 ∨ i1 = 9 ∨ i1 = 10 ∨ i1 = 11 ∨ i1 = 12 ∨ i1 = 13 ∨ i1 = 14 ∨ i1 = 15 ∨ i1 = 16 ∨ i1 = 17 := by omega
         clear hi1
         rcases hcs with rfl | rfl | rfl | rfl | rfl | rfl | rfl | rfl | rfl | rfl | rfl | rfl | rfl | rfl | rfl | rfl | rfl | rfl
         all_goals simp only [List.getElem?_toArray, List.getElem?_cons_succ, List.getElem?_cons_zero, Option.some.injEq] at hoi
         all_goals subst hoi
         ·refine XInv.yes_tab [] (by kernel_rfl) ?_
          have n4 : lb 4 = false := (Bool.eq_false_or_eq_true (lb 4)).elim (fun h => absurd (XInv.reach hclo [] 4 0 (by kernel_rfl) h) (by rw [hlb]; decide)) id
          have n12 : lb 12 = false := (Bool.eq_false_or_eq_true (lb 12)).elim (fun h => absurd (XInv.reach hclo [4] 12 0 (by kernel_rfl) h) (by rw [hlb]; decide)) id
          have n16 : lb 16 = false := (Bool.eq_false_or_eq_true (lb 16)).elim (fun h => absurd (XInv.reach hclo [12, 4] 16 0 (by kernel_rfl) h) (by rw [hlb]; decide)) id
          intro Q2 K2 hK2
          refine Kd.R_lit_step (Kd.int .u32) _ 35 (by rfl) (N := 59) rfl (xs := ([] : List Int)) (inner := []) (ok := fun _ => True) (okp := fun _ => True) (by (try simp only [XInv.puts, XPrint.pw]); first | (go_simp; done) | (go_simp; rfl)) (Reps.none _ _) (fun _ hk => hk) trivial (Below.refl _ _) (Nat.le_refl _) (by simp) ?_
          intro v1 w1 hR hB hg _
          exact hK2.out v1 w1 ⟨(v1, bq.2), rfl, (cs18 _ (fun hlj => absurd (hlb.symm.trans hlj) (by decide)) (fun _ => rfl) (fun _ => rfl) (fun _ => rfl) (fun hlj => absurd (hlb.symm.trans (XInv.reach hclo [] 4 0 (by kernel_rfl) hlj)) (by decide)) (fun _ => rfl) (fun _ => rfl) (fun _ => rfl) (fun _ => rfl) (fun _ => rfl) (fun _ => rfl) (fun _ => rfl) (fun hlj => absurd (hlb.symm.trans (XInv.reach hclo [4] 12 0 (by kernel_rfl) hlj)) (by decide)) (fun _ => rfl) (fun _ => rfl) (fun _ => rfl) (fun hlj => absurd (hlb.symm.trans (XInv.reach hclo [12, 4] 16 0 (by kernel_rfl) hlj)) (by decide)) (fun hlj => absurd (hlb.symm.trans (XInv.reach hclo [] 17 0 (by kernel_rfl) hlj)) (by decide))), hW.s0 n16 n12 n4 v1 hB hR hW.below.size⟩
         ·refine XInv.yes_tab [] (by kernel_rfl) ?_
          intro Q2 K2 hK2
          simp only [XInv.puts, XPrint.pw]
          go_simp
          exact hK2.out (.slice (some a5) m c5) w' ⟨bq, rfl, (by intros; first | rfl | trivial), hW.up 1 (by decide)⟩
         ·refine XInv.yes_tab [] (by kernel_rfl) ?_
          intro Q2 K2 hK2
          simp only [XInv.puts, XPrint.pw]
          go_simp
          exact hK2.out (.int .i64 k) w' ⟨bq, rfl, (by intros; first | rfl | trivial), hW.up 2 (by decide)⟩
         ·refine XInv.yes_tab [(61, 2), (60, 1)] (by kernel_rfl) ?_
          intro Q2 K2 hK2
          simp only [XInv.puts, XPrint.pw]
          go_simp
          exact hK2.out (.slice (some a5) k c5) w' ⟨bq, rfl, (by intros; first | rfl | trivial), hW.up 3 (by decide)⟩
         ·refine XInv.yes_tab [(62, 3), (59, 0)] (by kernel_rfl) ?_
          have n12 : lb 12 = false := (Bool.eq_false_or_eq_true (lb 12)).elim (fun h => absurd (XInv.reach hclo [] 12 4 (by kernel_rfl) h) (by rw [hlb]; decide)) id
          have n16 : lb 16 = false := (Bool.eq_false_or_eq_true (lb 16)).elim (fun h => absurd (XInv.reach hclo [12] 16 4 (by kernel_rfl) h) (by rw [hlb]; decide)) id
          have y0 : lb 0 = true := hneed 0 (by kernel_rfl)
          have r0 := hW.row0 n16 n12 hlb y0
          intro Q2 K2 hK2
          simp only [XInv.puts]
          refine Kd.R_append_rows_step (Kd.int .u32) (w0 := Ws) Ws.heap.size (by rfl) (.tmp 59) (.tmp 62) 43 35 (.int .u32 0) 4 rfl Tryz.underlying43 infoU rfl (by decide) (by omega) (bq.1) ([]) (lst.take k) ((some a5)) (k) (c5) (fun k => lb 11 = true → bq.2.2.1.ownBlock ≠ some k) (fun _ => False) rfl rfl r0 (TK.out _ hW.below) (fun _ _ h => h) (fun _ h => h.elim) (fun k hk h7 he => by have := Kd.R_lt (hW.row7 n16 n12 h7) k he; omega) hW.below hW.below.size (by simp only [List.length_nil]; omega) ?_
          intro v1 w1 hR hB hg _
          exact hK2.out v1 w1 ⟨(bq.1, v1, bq.2.2), rfl, (cs18 _ (fun _ => rfl) (fun _ => rfl) (fun _ => rfl) (fun _ => rfl) (fun hlj => absurd (hlb.symm.trans hlj) (by decide)) (fun _ => rfl) (fun _ => rfl) (fun _ => rfl) (fun _ => rfl) (fun _ => rfl) (fun _ => rfl) (fun _ => rfl) (fun hlj => absurd (hlb.symm.trans (XInv.reach hclo [] 12 4 (by kernel_rfl) hlj)) (by decide)) (fun _ => rfl) (fun _ => rfl) (fun _ => rfl) (fun hlj => absurd (hlb.symm.trans (XInv.reach hclo [12] 16 4 (by kernel_rfl) hlj)) (by decide)) (fun hlj => absurd (hlb.symm.trans (XInv.reach hclo [] 17 4 (by kernel_rfl) hlj)) (by decide))), hW.s5 n16 n12 hlb y0 v1 hR hB hg⟩
         ·refine XInv.yes_tab [] (by kernel_rfl) ?_
          intro Q2 K2 hK2
          simp only [XInv.puts, XPrint.pw]
          go_simp
          exact hK2.out (.pointer (some ⟨w.heap.size, 3, none⟩)) w' ⟨bq, rfl, (by intros; first | rfl | trivial), hW.up 5 (by decide)⟩
         ·refine XInv.yes_tab [(64, 5)] (by kernel_rfl) ?_
          have c3 := (blk_cell (blk_below (blk_below Y.out.2.2.2.2.1 X.out) hW.below) 3).trans rfl
          have d2 := pw_cell_below hW.below (pw_cell_below X.out Y.out.2.2.2.1)
          intro Q2 K2 hK2
          simp only [XInv.puts, XPrint.pw]
          go_simp
          exact hK2.out (.slice (some ab) n c) w' ⟨bq, rfl, (by intros; first | rfl | trivial), hW.up 6 (by decide)⟩
         ·refine XInv.yes_tab [] (by kernel_rfl) ?_
          intro Q2 K2 hK2
          simp only [XInv.puts, XPrint.pw]
          go_simp
          exact hK2.out (.int .i64 i) w' ⟨bq, rfl, (by intros; first | rfl | trivial), hW.up 7 (by decide)⟩
         ·refine XInv.yes_tab [(66, 7), (65, 6)] (by kernel_rfl) ?_
          intro Q2 K2 hK2
          simp only [XInv.puts, XPrint.pw]
          go_simp
          exact hK2.out (.pointer (some (ab.add (i * 4)))) w' ⟨bq, rfl, (by intros; first | rfl | trivial), hW.up 8 (by decide)⟩
         ·refine XInv.yes_tab [(67, 8)] (by kernel_rfl) ?_
          intro Q2 K2 hK2
          simp only [XInv.puts, XPrint.pw]
          go_simp
          exact hK2.out (.pointer (some ⟨(ab.add (i * 4)).block, (ab.add (i * 4)).off + 2, none⟩)) w' ⟨bq, rfl, (by intros; first | rfl | trivial), hW.up 9 (by decide)⟩
         ·refine XInv.yes_tab [(68, 9)] (by kernel_rfl) ?_
          have c3 := (blk_cell (blk_below (blk_below Y.out.2.2.2.2.1 X.out) hW.below) 3).trans rfl
          have d2 := pw_cell_below hW.below (pw_cell_below X.out Y.out.2.2.2.1)
          intro Q2 K2 hK2
          simp only [XInv.puts, XPrint.pw]
          go_simp
          exact hK2.out (.int .u32 x2) w' ⟨bq, rfl, (by intros; first | rfl | trivial), hW.up 10 (by decide)⟩
         ·refine XInv.yes_tab [(69, 10)] (by kernel_rfl) ?_
          have n12 : lb 12 = false := (Bool.eq_false_or_eq_true (lb 12)).elim (fun h => absurd (XInv.reach hclo [] 12 11 (by kernel_rfl) h) (by rw [hlb]; decide)) id
          have n16 : lb 16 = false := (Bool.eq_false_or_eq_true (lb 16)).elim (fun h => absurd (XInv.reach hclo [12] 16 11 (by kernel_rfl) h) (by rw [hlb]; decide)) id
          intro Q2 K2 hK2
          simp only [XInv.puts]
          refine Kd.R_lit_step (Kd.int .u32) _ 35 (by rfl) (N := 70) rfl (xs := ([x2] : List Int)) (inner := [.int .u32 x2]) (ok := fun _ => True) (okp := fun _ => True) (by (try simp only [XInv.puts, XPrint.pw]); first | (go_simp; done) | (go_simp; rfl)) (⟨rfl, fun j p hp => by cases j with | zero => (cases hp; rfl) | succ j => simp at hp⟩) (fun _ hk => hk) trivial (Below.refl _ _) (Nat.le_refl _) (by simp) ?_
          intro v1 w1 hR hB hg _
          exact hK2.out v1 w1 ⟨(bq.1, bq.2.1, v1, bq.2.2.2), rfl, (cs18 _ (fun _ => rfl) (fun _ => rfl) (fun _ => rfl) (fun _ => rfl) (fun _ => rfl) (fun _ => rfl) (fun _ => rfl) (fun _ => rfl) (fun _ => rfl) (fun _ => rfl) (fun _ => rfl) (fun hlj => absurd (hlb.symm.trans hlj) (by decide)) (fun hlj => absurd (hlb.symm.trans (XInv.reach hclo [] 12 11 (by kernel_rfl) hlj)) (by decide)) (fun _ => rfl) (fun _ => rfl) (fun _ => rfl) (fun hlj => absurd (hlb.symm.trans (XInv.reach hclo [12] 16 11 (by kernel_rfl) hlj)) (by decide)) (fun hlj => absurd (hlb.symm.trans (XInv.reach hclo [] 17 11 (by kernel_rfl) hlj)) (by decide))), hW.s7 n16 n12 hlb v1 hB hR hW.below.size⟩
         ·refine XInv.yes_tab [(70, 11), (63, 4)] (by kernel_rfl) ?_
          have n16 : lb 16 = false := (Bool.eq_false_or_eq_true (lb 16)).elim (fun h => absurd (XInv.reach hclo [] 16 12 (by kernel_rfl) h) (by rw [hlb]; decide)) id
          have y4 : lb 4 = true := hneed 4 (by kernel_rfl)
          have y11 : lb 11 = true := hneed 11 (by kernel_rfl)
          have r5 := Kd.R_mono (ok' := fun _ => True) (hW.row5 n16 hlb y4) (fun _ _ => trivial)
          have r7 := hW.row7 n16 hlb y11
          obtain ⟨A7, c7, e7⟩ := Kd.R_slice r7
          rw [e7] at r7
          obtain ⟨_, _, hC7⟩ := Kd.R_reads' r7
          intro Q2 K2 hK2
          simp only [XInv.puts]
          refine Kd.R_append_rows_step (Kd.int .u32) (w0 := Ws) Ws.heap.size (by rfl) (.tmp 63) (.tmp 70) 43 35 (.int .u32 0) 4 rfl Tryz.underlying43 infoU rfl (by decide) (by omega) (bq.2.1) (lst.take k) ([x2]) (A7) (1) (c7) (fun _ => True) (fun _ => False) rfl e7 r5 (hC7) (fun _ _ h => h) (fun _ h => h.elim) (fun _ _ => trivial) hW.below hW.below.size (by rw [hlt1]; omega) ?_
          intro v1 w1 hR hB hg _
          exact hK2.out v1 w1 ⟨(bq.1, bq.2.1, bq.2.2.1, v1, bq.2.2.2.2), rfl, (cs18 _ (fun _ => rfl) (fun _ => rfl) (fun _ => rfl) (fun _ => rfl) (fun _ => rfl) (fun _ => rfl) (fun _ => rfl) (fun _ => rfl) (fun _ => rfl) (fun _ => rfl) (fun _ => rfl) (fun _ => rfl) (fun hlj => absurd (hlb.symm.trans hlj) (by decide)) (fun _ => rfl) (fun _ => rfl) (fun _ => rfl) (fun hlj => absurd (hlb.symm.trans (XInv.reach hclo [] 16 12 (by kernel_rfl) hlj)) (by decide)) (fun hlj => absurd (hlb.symm.trans (XInv.reach hclo [] 17 12 (by kernel_rfl) hlj)) (by decide))), hW.s8 n16 v1 hR hB⟩
         ·refine XInv.yes_tab [] (by kernel_rfl) ?_
          intro Q2 K2 hK2
          simp only [XInv.puts, XPrint.pw]
          go_simp
          exact hK2.out (.slice (some a5) m c5) w' ⟨bq, rfl, (by intros; first | rfl | trivial), hW.up 13 (by decide)⟩
         ·refine XInv.yes_tab [] (by kernel_rfl) ?_
          intro Q2 K2 hK2
          simp only [XInv.puts, XPrint.pw]
          go_simp
          exact hK2.out (.int .i64 k) w' ⟨bq, rfl, (by intros; first | rfl | trivial), hW.up 14 (by decide)⟩
         ·refine XInv.yes_tab [(73, 14), (72, 13)] (by kernel_rfl) ?_
          intro Q2 K2 hK2
          simp only [XInv.puts, XPrint.pw]
          go_simp
          exact hK2.out (.slice A2 (m - k) (c5 - k)) w' ⟨bq, rfl, (by intros; first | rfl | trivial), hW.up 15 (by decide)⟩
         ·refine XInv.yes_tab [(74, 15), (71, 12)] (by kernel_rfl) ?_
          have y12 : lb 12 = true := hneed 12 (by kernel_rfl)
          have r8 := hW.row8 hlb y12
          intro Q2 K2 hK2
          simp only [XInv.puts]
          refine Kd.R_append_rows_step (Kd.int .u32) (w0 := Ws) Ws.heap.size (by rfl) (.tmp 71) (.tmp 74) 43 35 (.int .u32 0) 4 rfl Tryz.underlying43 infoU rfl (by decide) (by omega) (bq.2.2.2.1) (lst.take k ++ [x2]) (lst.drop k) (A2) (m - k) (c5 - k) (fun _ => True) (fun _ => False) rfl rfl r8 (DR.out _ hW.below) (fun _ _ h => h) (fun _ h => h.elim) (fun _ _ => trivial) hW.below hW.below.size (by rw [List.length_append, hlt1, List.length_singleton]; omega) ?_
          intro v1 w1 hR hB hg _
          exact hK2.out v1 w1 ⟨(bq.1, bq.2.1, bq.2.2.1, bq.2.2.2.1, v1), rfl, (cs18 _ (fun _ => rfl) (fun _ => rfl) (fun _ => rfl) (fun _ => rfl) (fun _ => rfl) (fun _ => rfl) (fun _ => rfl) (fun _ => rfl) (fun _ => rfl) (fun _ => rfl) (fun _ => rfl) (fun _ => rfl) (fun _ => rfl) (fun _ => rfl) (fun _ => rfl) (fun _ => rfl) (fun hlj => absurd (hlb.symm.trans hlj) (by decide)) (fun hlj => absurd (hlb.symm.trans (XInv.reach hclo [] 17 16 (by kernel_rfl) hlj)) (by decide))), hW.s13 v1 hR hB⟩
         ·refine XInv.yes_tab [(75, 16), (74, 15), (73, 14), (72, 13), (71, 12), (70, 11), (69, 10), (68, 9), (67, 8), (66, 7), (65, 6), (64, 5), (63, 4), (62, 3), (61, 2), (60, 1), (59, 0)] (by kernel_rfl) ?_
          intro Q2 K2 hK2
          simp only [XInv.puts, XPrint.pw] at hK2 ⊢
          go_simp
          exact hK2.out (bq.2.2.2.2) w' ⟨bq, rfl, (by intros; first | rfl | trivial), hW.up 17 (by decide)⟩
        ·intro bq w' hW
         refine XInv.end_nil [(5, 17), (75, 16), (74, 15), (73, 14), (72, 13), (71, 12), (70, 11), (69, 10), (68, 9), (67, 8), (66, 7), (65, 6), (64, 5), (63, 4), (62, 3), (61, 2), (60, 1), (59, 0)] (by kernel_rfl) (by kernel_rfl) ?_
         simp only [XInv.puts, XPrint.pw]
         have hb := hW.below
         have hr := hW.row13 (by kernel_rfl)
         obtain ⟨b1, b5, b7, b8, b13⟩ := bq
         dsimp only at hr ⊢
         rw [← N.out] at hr
         have FIN := Aside0.mk (And.intro hb hr)
         clear hW hb hr
         go_wp2
         go_roundg (n - (i + 1))
         case measure => omega
         case rel => exact ⟨i + 1, rfl, by go_num, by omega, below_step XB.out FIN.out.1, by rw [Y.out.2.2.1, if_pos E.out]; exact Kd.R_lower FIN.out.2 XB.out.size⟩
    ·have hmk : m ≤ k := by omega
     have hnew : insU lst x2 = lst.take k ++ [x2] ++ lst.drop k := by
      have := insU_new (l := lst) (x := x2) (fun hl => by rw [← hke, Y.out.2.2.2.2.2] at hl; omega)
      rwa [← hke] at this
     have N := Aside0.mk hnew
     have hkm' : ¬ (k : Int) < (m : Int) := by omega
     have t1 : decide ((k : Int) < (m : Int)) = false := decide_eq_false hkm'
     have t1' : decide (k < m) = false := decide_eq_false hkm
     clear hBk hnew hke hks
     go_upto_region 7 with (fail)
     refine XInv.region_tab [] [[], [], [1], [0, 2], [3], [4], [4], [5, 6, 4], [7, 4], [4], [9, 4], [4], [10, 11, 4], [12, 4], [13, 4], [8, 14, 4], [4, 15]] (fun bq jq => match jq with
       | 0 => .int .i64 k
       | 1 => .slice A5 m c5
       | 2 => .int .i64 m
       | 3 => .bool false
       | 4 => .bool false
       | 5 => undef
       | 6 => undef
       | 7 => undef
       | 8 => undef
       | 9 => undef
       | 10 => undef
       | 11 => undef
       | 12 => undef
       | 13 => undef
       | 14 => undef
       | 15 => undef
       | 16 => .bool false
       | _ => undef)
       (fun bq l w' => Below wr.heap.size wr w')
       (by kernel_rfl) rfl (by kernel_rfl) (by kernel_rfl) (by kernel_rfl) ⟨fun _ : Nat => (0 : Nat), below_drew (Below.refl _ _)⟩ ?_ ?_
     ·intro i1 hi1 hds oi hoi bq lb w' hW hlb hcl hneed hclo
      have hi1 : i1 < 17 := hi1
      have hcs : i1 = 0 ∨ i1 = 1 ∨ i1 = 2 ∨ i1 = 3 ∨ i1 = 4 ∨ i1 = 5 ∨ i1 = 6 ∨ i1 = 7 ∨ i1 = 8 ∨ i1 = 9 ∨ i1 = 10 ∨ i1 = 11 ∨ i1 = 12 ∨ i1 = 13 ∨ i1 = 14 ∨ i1 = 15 ∨ i1 = 16 := by omega
      clear hi1 hcl hneed hclo
      have c3 := (blk_cell (blk_below kq.out hW) 3).trans rfl
      have d2 := pw_cell_below hW D2.out
      rcases hcs with rfl | rfl | rfl | rfl | rfl | rfl | rfl | rfl | rfl | rfl | rfl | rfl | rfl | rfl | rfl | rfl | rfl
      all_goals simp only [List.getElem?_toArray, List.getElem?_cons_succ, List.getElem?_cons_zero, Option.some.injEq] at hoi
      all_goals subst hoi
      ·refine XInv.yes_tab [] (by kernel_rfl) ?_
       intro Q2 K2 hK2
       simp only [XInv.puts, XPrint.pw]
       go_simp
       exact hK2.out (.int .i64 k) w' ⟨bq, rfl, (by intros; first | rfl | trivial), hW⟩
      ·refine XInv.yes_tab [] (by kernel_rfl) ?_
       intro Q2 K2 hK2
       simp only [XInv.puts, XPrint.pw]
       go_simp
       exact hK2.out (.slice A5 m c5) w' ⟨bq, rfl, (by intros; first | rfl | trivial), hW⟩
      ·refine XInv.yes_tab [(24, 1)] (by kernel_rfl) ?_
       intro Q2 K2 hK2
       simp only [XInv.puts, XPrint.pw]
       go_simp
       exact hK2.out (.int .i64 m) w' ⟨bq, rfl, (by intros; first | rfl | trivial), hW⟩
      ·refine XInv.yes_tab [(25, 2), (23, 0)] (by kernel_rfl) ?_
       intro Q2 K2 hK2
       simp only [XInv.puts, XPrint.pw]
       go_simp
       exact hK2.out (.bool false) w' ⟨bq, rfl, (by intros; first | rfl | trivial), hW⟩
      ·refine XInv.yes_tab [(26, 3)] (by kernel_rfl) ?_
       intro Q2 K2 hK2
       simp only [XInv.puts, XPrint.pw]
       go_simp
       exact hK2.out (.bool false) w' ⟨bq, rfl, (by intros; first | rfl | trivial), hW⟩
      ·refine XInv.yes_tab [(27, 4)] (by kernel_rfl) ?_
       intro Q2 K2 hK2
       simp only [XInv.puts, XPrint.pw]
       refine XInv.no_want (by kernel_rfl) ?_
       exact hK2.out undef w' ⟨bq, rfl, (by intros; first | rfl | trivial), hW⟩
      ·refine XInv.yes_tab [(27, 4)] (by kernel_rfl) ?_
       intro Q2 K2 hK2
       simp only [XInv.puts, XPrint.pw]
       refine XInv.no_want (by kernel_rfl) ?_
       exact hK2.out undef w' ⟨bq, rfl, (by intros; first | rfl | trivial), hW⟩
      ·refine XInv.yes_tab [(29, 6), (28, 5), (27, 4)] (by kernel_rfl) ?_
       intro Q2 K2 hK2
       simp only [XInv.puts, XPrint.pw]
       refine XInv.no_want (by kernel_rfl) ?_
       exact hK2.out undef w' ⟨bq, rfl, (by intros; first | rfl | trivial), hW⟩
      ·refine XInv.yes_tab [(30, 7), (27, 4)] (by kernel_rfl) ?_
       intro Q2 K2 hK2
       simp only [XInv.puts, XPrint.pw]
       refine XInv.no_want (by kernel_rfl) ?_
       exact hK2.out undef w' ⟨bq, rfl, (by intros; first | rfl | trivial), hW⟩
      ·refine XInv.yes_tab [(27, 4)] (by kernel_rfl) ?_
       intro Q2 K2 hK2
       simp only [XInv.puts, XPrint.pw]
       refine XInv.no_want (by kernel_rfl) ?_
       exact hK2.out undef w' ⟨bq, rfl, (by intros; first | rfl | trivial), hW⟩
      ·refine XInv.yes_tab [(32, 9), (27, 4)] (by kernel_rfl) ?_
       intro Q2 K2 hK2
       simp only [XInv.puts, XPrint.pw]
       refine XInv.no_want (by kernel_rfl) ?_
       exact hK2.out undef w' ⟨bq, rfl, (by intros; first | rfl | trivial), hW⟩
      ·refine XInv.yes_tab [(27, 4)] (by kernel_rfl) ?_
       intro Q2 K2 hK2
       simp only [XInv.puts, XPrint.pw]
       refine XInv.no_want (by kernel_rfl) ?_
       exact hK2.out undef w' ⟨bq, rfl, (by intros; first | rfl | trivial), hW⟩
      ·refine XInv.yes_tab [(34, 11), (33, 10), (27, 4)] (by kernel_rfl) ?_
       intro Q2 K2 hK2
       simp only [XInv.puts, XPrint.pw]
       refine XInv.no_want (by kernel_rfl) ?_
       exact hK2.out undef w' ⟨bq, rfl, (by intros; first | rfl | trivial), hW⟩
      ·refine XInv.yes_tab [(35, 12), (27, 4)] (by kernel_rfl) ?_
       intro Q2 K2 hK2
       simp only [XInv.puts, XPrint.pw]
       refine XInv.no_want (by kernel_rfl) ?_
       exact hK2.out undef w' ⟨bq, rfl, (by intros; first | rfl | trivial), hW⟩
      ·refine XInv.yes_tab [(36, 13), (27, 4)] (by kernel_rfl) ?_
       intro Q2 K2 hK2
       simp only [XInv.puts, XPrint.pw]
       refine XInv.no_want (by kernel_rfl) ?_
       exact hK2.out undef w' ⟨bq, rfl, (by intros; first | rfl | trivial), hW⟩
      ·refine XInv.yes_tab [(37, 14), (31, 8), (27, 4)] (by kernel_rfl) ?_
       intro Q2 K2 hK2
       simp only [XInv.puts, XPrint.pw]
       refine XInv.no_want (by kernel_rfl) ?_
       exact hK2.out undef w' ⟨bq, rfl, (by intros; first | rfl | trivial), hW⟩
      ·refine XInv.yes_tab [(38, 15), (27, 4)] (by kernel_rfl) ?_
       intro Q2 K2 hK2
       simp only [XInv.puts, XPrint.pw]
       go_simp
       exact hK2.out (.bool false) w' ⟨bq, rfl, (by intros; first | rfl | trivial), hW⟩
     ·intro bq w' hW
      refine XInv.end_nil [(39, 16), (38, 15), (37, 14), (36, 13), (35, 12), (34, 11), (33, 10), (32, 9), (31, 8), (30, 7), (29, 6), (28, 5), (27, 4), (26, 3), (25, 2), (24, 1), (23, 0)] (by kernel_rfl) (by kernel_rfl) ?_
      simp only [XInv.puts, XPrint.pw]
      replace X := Aside0.mk (below_step X.out hW)
      replace kq := Aside0.mk (blk_below kq.out hW)
      replace D2 := Aside0.mk (pw_cell_below hW D2.out)
      obtain ⟨w1, hw1⟩ : ∃ w1, w' = w1 := ⟨_, rfl⟩
      rw [hw1] at X kq D2 ⊢
      clear hW hw1
      go_upto_region 9 with (fail)
      refine XInv.region_tab [] [[], [], [1], [0, 2], [3], [4], [4], [5, 6, 4], [7, 4], [4], [9, 4], [4], [10, 11, 4], [12, 4], [13, 4], [8, 14, 4], [4, 15]] (fun bq jq => match jq with
        | 0 => .int .i64 k
        | 1 => .slice A5 m c5
        | 2 => .int .i64 m
        | 3 => .bool false
        | 4 => .bool false
        | 5 => undef
        | 6 => undef
        | 7 => undef
        | 8 => undef
        | 9 => undef
        | 10 => undef
        | 11 => undef
        | 12 => undef
        | 13 => undef
        | 14 => undef
        | 15 => undef
        | 16 => .bool false
        | _ => undef)
        (fun bq l w' => Below w1.heap.size w1 w')
        (by kernel_rfl) rfl (by kernel_rfl) (by kernel_rfl) (by kernel_rfl) ⟨fun _ : Nat => (0 : Nat), below_drew (Below.refl _ _)⟩ ?_ ?_
      ·intro i1 hi1 hds oi hoi bq lb w' hW hlb hcl hneed hclo
       have hi1 : i1 < 17 := hi1
       have hcs : i1 = 0 ∨ i1 = 1 ∨ i1 = 2 ∨ i1 = 3 ∨ i1 = 4 ∨ i1 = 5 ∨ i1 = 6 ∨ i1 = 7 ∨ i1 = 8 ∨ i1 = 9 ∨ i1 = 10 ∨ i1 = 11 ∨ i1 = 12 ∨ i1 = 13 ∨ i1 = 14 ∨ i1 = 15 ∨ i1 = 16 := by omega
       clear hi1 hcl hneed hclo
       have c3 := (blk_cell (blk_below kq.out hW) 3).trans rfl
       have d2 := pw_cell_below hW D2.out
       rcases hcs with rfl | rfl | rfl | rfl | rfl | rfl | rfl | rfl | rfl | rfl | rfl | rfl | rfl | rfl | rfl | rfl | rfl
       all_goals simp only [List.getElem?_toArray, List.getElem?_cons_succ, List.getElem?_cons_zero, Option.some.injEq] at hoi
       all_goals subst hoi
       ·refine XInv.yes_tab [] (by kernel_rfl) ?_
        intro Q2 K2 hK2
        simp only [XInv.puts, XPrint.pw]
        go_simp
        exact hK2.out (.int .i64 k) w' ⟨bq, rfl, (by intros; first | rfl | trivial), hW⟩
       ·refine XInv.yes_tab [] (by kernel_rfl) ?_
        intro Q2 K2 hK2
        simp only [XInv.puts, XPrint.pw]
        go_simp
        exact hK2.out (.slice A5 m c5) w' ⟨bq, rfl, (by intros; first | rfl | trivial), hW⟩
       ·refine XInv.yes_tab [(43, 1)] (by kernel_rfl) ?_
        intro Q2 K2 hK2
        simp only [XInv.puts, XPrint.pw]
        go_simp
        exact hK2.out (.int .i64 m) w' ⟨bq, rfl, (by intros; first | rfl | trivial), hW⟩
       ·refine XInv.yes_tab [(44, 2), (42, 0)] (by kernel_rfl) ?_
        intro Q2 K2 hK2
        simp only [XInv.puts, XPrint.pw]
        go_simp
        exact hK2.out (.bool false) w' ⟨bq, rfl, (by intros; first | rfl | trivial), hW⟩
       ·refine XInv.yes_tab [(45, 3)] (by kernel_rfl) ?_
        intro Q2 K2 hK2
        simp only [XInv.puts, XPrint.pw]
        go_simp
        exact hK2.out (.bool false) w' ⟨bq, rfl, (by intros; first | rfl | trivial), hW⟩
       ·refine XInv.yes_tab [(46, 4)] (by kernel_rfl) ?_
        intro Q2 K2 hK2
        simp only [XInv.puts, XPrint.pw]
        refine XInv.no_want (by kernel_rfl) ?_
        exact hK2.out undef w' ⟨bq, rfl, (by intros; first | rfl | trivial), hW⟩
       ·refine XInv.yes_tab [(46, 4)] (by kernel_rfl) ?_
        intro Q2 K2 hK2
        simp only [XInv.puts, XPrint.pw]
        refine XInv.no_want (by kernel_rfl) ?_
        exact hK2.out undef w' ⟨bq, rfl, (by intros; first | rfl | trivial), hW⟩
       ·refine XInv.yes_tab [(48, 6), (47, 5), (46, 4)] (by kernel_rfl) ?_
        intro Q2 K2 hK2
        simp only [XInv.puts, XPrint.pw]
        refine XInv.no_want (by kernel_rfl) ?_
        exact hK2.out undef w' ⟨bq, rfl, (by intros; first | rfl | trivial), hW⟩
       ·refine XInv.yes_tab [(49, 7), (46, 4)] (by kernel_rfl) ?_
        intro Q2 K2 hK2
        simp only [XInv.puts, XPrint.pw]
        refine XInv.no_want (by kernel_rfl) ?_
        exact hK2.out undef w' ⟨bq, rfl, (by intros; first | rfl | trivial), hW⟩
       ·refine XInv.yes_tab [(46, 4)] (by kernel_rfl) ?_
        intro Q2 K2 hK2
        simp only [XInv.puts, XPrint.pw]
        refine XInv.no_want (by kernel_rfl) ?_
        exact hK2.out undef w' ⟨bq, rfl, (by intros; first | rfl | trivial), hW⟩
       ·refine XInv.yes_tab [(51, 9), (46, 4)] (by kernel_rfl) ?_
        intro Q2 K2 hK2
        simp only [XInv.puts, XPrint.pw]
        refine XInv.no_want (by kernel_rfl) ?_
        exact hK2.out undef w' ⟨bq, rfl, (by intros; first | rfl | trivial), hW⟩
       ·refine XInv.yes_tab [(46, 4)] (by kernel_rfl) ?_
        intro Q2 K2 hK2
        simp only [XInv.puts, XPrint.pw]
        refine XInv.no_want (by kernel_rfl) ?_
        exact hK2.out undef w' ⟨bq, rfl, (by intros; first | rfl | trivial), hW⟩
       ·refine XInv.yes_tab [(53, 11), (52, 10), (46, 4)] (by kernel_rfl) ?_
        intro Q2 K2 hK2
        simp only [XInv.puts, XPrint.pw]
        refine XInv.no_want (by kernel_rfl) ?_
        exact hK2.out undef w' ⟨bq, rfl, (by intros; first | rfl | trivial), hW⟩
       ·refine XInv.yes_tab [(54, 12), (46, 4)] (by kernel_rfl) ?_
        intro Q2 K2 hK2
        simp only [XInv.puts, XPrint.pw]
        refine XInv.no_want (by kernel_rfl) ?_
        exact hK2.out undef w' ⟨bq, rfl, (by intros; first | rfl | trivial), hW⟩
       ·refine XInv.yes_tab [(55, 13), (46, 4)] (by kernel_rfl) ?_
        intro Q2 K2 hK2
        simp only [XInv.puts, XPrint.pw]
        refine XInv.no_want (by kernel_rfl) ?_
        exact hK2.out undef w' ⟨bq, rfl, (by intros; first | rfl | trivial), hW⟩
       ·refine XInv.yes_tab [(56, 14), (50, 8), (46, 4)] (by kernel_rfl) ?_
        intro Q2 K2 hK2
        simp only [XInv.puts, XPrint.pw]
        refine XInv.no_want (by kernel_rfl) ?_
        exact hK2.out undef w' ⟨bq, rfl, (by intros; first | rfl | trivial), hW⟩
       ·refine XInv.yes_tab [(57, 15), (46, 4)] (by kernel_rfl) ?_
        intro Q2 K2 hK2
        simp only [XInv.puts, XPrint.pw]
        go_simp
        exact hK2.out (.bool false) w' ⟨bq, rfl, (by intros; first | rfl | trivial), hW⟩
      ·intro bq w' hW
       refine XInv.end_nil [(58, 16), (57, 15), (56, 14), (55, 13), (54, 12), (53, 11), (52, 10), (51, 9), (50, 8), (49, 7), (48, 6), (47, 5), (46, 4), (45, 3), (44, 2), (43, 1), (42, 0)] (by kernel_rfl) (by kernel_rfl) ?_
       simp only [XInv.puts, XPrint.pw]
       replace X := Aside0.mk (below_step X.out hW)
       clear hW
       clear t1 t1'
       go_upto_region 10 with (fail)
       obtain ⟨Ws, hWs⟩ : ∃ Ws, w' = Ws := ⟨_, rfl⟩
       rw [hWs] at X ⊢
       clear hWs
       have hjl : k ≤ m := by omega
       obtain ⟨i0, hi0, _, hsz, _⟩ := info_parts infoU
       have hmc : m ≤ c5 := (Kd.R_reads' Y.out.2.1).2.1
       have hcut1 := cut_to (P := Tryz.prog) 43 35 .i64 Tryz.underlying43 hi0 A5 m c5 (k : Int) (by omega) (by omega) hmc
       have hcut2 := cut_from (P := Tryz.prog) 43 35 .i64 Tryz.underlying43 hi0 1 hsz A5 m c5 (k : Int) (by omega) (by omega)
       simp only [Int.toNat_natCast] at hcut1 hcut2
       obtain ⟨A2, hA2⟩ : ∃ A2, (if c5 = k then A5 else Option.map (fun x => x.add (k * 1)) A5) = A2 := ⟨_, rfl⟩
       rw [hA2] at hcut2
       have XB := Aside0.mk (below_step Y.out.1 X.out)
       have RW := Aside0.mk (Kd.R_below Y.out.2.1 X.out)
       have TK : Aside0 (∀ w', Below Ws.heap.size Ws w' → Kd.C (Kd.int .u32) w' A5 k (lst.take k)) := ⟨fun w' h => by
        have := Kd.C_take (m := k) (Kd.C_below (Kd.R_reads' RW.out).2.2 h) (by rw [Y.out.2.2.2.2.2]; exact hjl)
        rwa [show (lst.take k).length = k by rw [List.length_take, Y.out.2.2.2.2.2]; omega] at this⟩
       have DR : Aside0 (∀ w', Below Ws.heap.size Ws w' → Kd.C (Kd.int .u32) w' A2 (m - k) (lst.drop k)) := ⟨fun w' h => by
        have := Kd.C_drop (m := k) (c := c5) (Kd.C_below (Kd.R_reads' RW.out).2.2 h) (by rw [Y.out.2.2.2.2.2]; exact hjl) (by rw [Y.out.2.2.2.2.2]; exact hmc)
        rw [List.length_drop, Y.out.2.2.2.2.2] at this
        rw [← hA2]
        exact this⟩
       have WB := Aside0.mk hmc
       have hlt1 : (lst.take k).length = k := by rw [List.length_take, Y.out.2.2.2.2.2]; omega
       clear hi0 hsz hA2 hmc hkm hkm' hmk
       refine XInv.region_tab [] [[], [], [], [1, 2], [0, 3], [], [5], [], [6, 7], [8], [9], [10], [4, 11, 4], [], [], [13, 14], [12, 15, 12], [16, 16, 0, 1, 2, 3, 4, 5, 6, 7, 8, 9, 10, 11, 12, 13, 14, 15, 16]] (fun bq jq => match jq with
         | 0 => bq.1
         | 1 => .slice A5 m c5
         | 2 => .int .i64 k
         | 3 => .slice A5 k c5
         | 4 => bq.2.1
         | 5 => .pointer (some ⟨w.heap.size, 3, none⟩)
         | 6 => .slice (some ab) n c
         | 7 => .int .i64 i
         | 8 => .pointer (some (ab.add (i * 4)))
         | 9 => .pointer (some ⟨(ab.add (i * 4)).block, (ab.add (i * 4)).off + 2, none⟩)
         | 10 => .int .u32 x2
         | 11 => bq.2.2.1
         | 12 => bq.2.2.2.1
         | 13 => .slice A5 m c5
         | 14 => .int .i64 k
         | 15 => .slice A2 (m - k) (c5 - k)
         | 16 => bq.2.2.2.2
         | 17 => bq.2.2.2.2
         | _ => undef)
         (fun bq l w' => JI Ws.heap.size Ws x2 (lst.take k) (lst.drop k) bq l w')
         (by kernel_rfl) rfl (by kernel_rfl) (by kernel_rfl) (by kernel_rfl) ⟨((undef, undef, undef, undef, undef) : V5), JI.start (below_drew (Below.refl _ _))⟩ ?_ ?_
       ·intro i1 hi1 hds oi hoi bq lb w' hW hlb hcl hneed hclo
        have hi1 : i1 < 18 := hi1
        have hcs : i1 = 0 ∨ i1 = 1 ∨ i1 = 2 ∨ i1 = 3 ∨ i1 = 4 ∨ i1 = 5 ∨ i1 = 6 ∨ i1 = 7 ∨ i1 = 8 ∨ i1 = 9 ∨ i1 = 10 ∨ i1 = 11 ∨ i1 = 12 ∨ i1 = 13 ∨ i1 = 14 ∨ i1 = 15 ∨ i1 = 16 ∨ i1 = 17 := by omega
        clear hi1
        rcases hcs with rfl | rfl | rfl | rfl | rfl | rfl | rfl | rfl | rfl | rfl | rfl | rfl | rfl | rfl | rfl | rfl | rfl | rfl
        all_goals simp only [List.getElem?_toArray, List.getElem?_cons_succ, List.getElem?_cons_zero, Option.some.injEq] at hoi
        all_goals subst hoi
        ·refine XInv.yes_tab [] (by kernel_rfl) ?_
         have n4 : lb 4 = false := (Bool.eq_false_or_eq_true (lb 4)).elim (fun h => absurd (XInv.reach hclo [] 4 0 (by kernel_rfl) h) (by rw [hlb]; decide)) id
         have n12 : lb 12 = false := (Bool.eq_false_or_eq_true (lb 12)).elim (fun h => absurd (XInv.reach hclo [4] 12 0 (by kernel_rfl) h) (by rw [hlb]; decide)) id
         have n16 : lb 16 = false := (Bool.eq_false_or_eq_true (lb 16)).elim (fun h => absurd (XInv.reach hclo [12, 4] 16 0 (by kernel_rfl) h) (by rw [hlb]; decide)) id
         intro Q2 K2 hK2
         refine Kd.R_lit_step (Kd.int .u32) _ 35 (by rfl) (N := 59) rfl (xs := ([] : List Int)) (inner := []) (ok := fun _ => True) (okp := fun _ => True) (by (try simp only [XInv.puts, XPrint.pw]); first | (go_simp; done) | (go_simp; rfl)) (Reps.none _ _) (fun _ hk => hk) trivial (Below.refl _ _) (Nat.le_refl _) (by simp) ?_
         intro v1 w1 hR hB hg _
         exact hK2.out v1 w1 ⟨(v1, bq.2), rfl, (cs18 _ (fun hlj => absurd (hlb.symm.trans hlj) (by decide)) (fun _ => rfl) (fun _ => rfl) (fun _ => rfl) (fun hlj => absurd (hlb.symm.trans (XInv.reach hclo [] 4 0 (by kernel_rfl) hlj)) (by decide)) (fun _ => rfl) (fun _ => rfl) (fun _ => rfl) (fun _ => rfl) (fun _ => rfl) (fun _ => rfl) (fun _ => rfl) (fun hlj => absurd (hlb.symm.trans (XInv.reach hclo [4] 12 0 (by kernel_rfl) hlj)) (by decide)) (fun _ => rfl) (fun _ => rfl) (fun _ => rfl) (fun hlj => absurd (hlb.symm.trans (XInv.reach hclo [12, 4] 16 0 (by kernel_rfl) hlj)) (by decide)) (fun hlj => absurd (hlb.symm.trans (XInv.reach hclo [] 17 0 (by kernel_rfl) hlj)) (by decide))), hW.s0 n16 n12 n4 v1 hB hR hW.below.size⟩
        ·refine XInv.yes_tab [] (by kernel_rfl) ?_
         intro Q2 K2 hK2
         simp only [XInv.puts, XPrint.pw]
         go_simp
         exact hK2.out (.slice A5 m c5) w' ⟨bq, rfl, (by intros; first | rfl | trivial), hW.up 1 (by decide)⟩
        ·refine XInv.yes_tab [] (by kernel_rfl) ?_
         intro Q2 K2 hK2
         simp only [XInv.puts, XPrint.pw]
         go_simp
         exact hK2.out (.int .i64 k) w' ⟨bq, rfl, (by intros; first | rfl | trivial), hW.up 2 (by decide)⟩
        ·refine XInv.yes_tab [(61, 2), (60, 1)] (by kernel_rfl) ?_
         intro Q2 K2 hK2
         simp only [XInv.puts, XPrint.pw]
         go_simp
         exact hK2.out (.slice A5 k c5) w' ⟨bq, rfl, (by intros; first | rfl | trivial), hW.up 3 (by decide)⟩
        ·refine XInv.yes_tab [(62, 3), (59, 0)] (by kernel_rfl) ?_
         have n12 : lb 12 = false := (Bool.eq_false_or_eq_true (lb 12)).elim (fun h => absurd (XInv.reach hclo [] 12 4 (by kernel_rfl) h) (by rw [hlb]; decide)) id
         have n16 : lb 16 = false := (Bool.eq_false_or_eq_true (lb 16)).elim (fun h => absurd (XInv.reach hclo [12] 16 4 (by kernel_rfl) h) (by rw [hlb]; decide)) id
         have y0 : lb 0 = true := hneed 0 (by kernel_rfl)
         have r0 := hW.row0 n16 n12 hlb y0
         intro Q2 K2 hK2
         simp only [XInv.puts]
         refine Kd.R_append_rows_step (Kd.int .u32) (w0 := Ws) Ws.heap.size (by rfl) (.tmp 59) (.tmp 62) 43 35 (.int .u32 0) 4 rfl Tryz.underlying43 infoU rfl (by decide) (by omega) (bq.1) ([]) (lst.take k) (A5) (k) (c5) (fun k => lb 11 = true → bq.2.2.1.ownBlock ≠ some k) (fun _ => False) rfl rfl r0 (TK.out _ hW.below) (fun _ _ h => h) (fun _ h => h.elim) (fun k hk h7 he => by have := Kd.R_lt (hW.row7 n16 n12 h7) k he; omega) hW.below hW.below.size (by simp only [List.length_nil]; omega) ?_
         intro v1 w1 hR hB hg _
         exact hK2.out v1 w1 ⟨(bq.1, v1, bq.2.2), rfl, (cs18 _ (fun _ => rfl) (fun _ => rfl) (fun _ => rfl) (fun _ => rfl) (fun hlj => absurd (hlb.symm.trans hlj) (by decide)) (fun _ => rfl) (fun _ => rfl) (fun _ => rfl) (fun _ => rfl) (fun _ => rfl) (fun _ => rfl) (fun _ => rfl) (fun hlj => absurd (hlb.symm.trans (XInv.reach hclo [] 12 4 (by kernel_rfl) hlj)) (by decide)) (fun _ => rfl) (fun _ => rfl) (fun _ => rfl) (fun hlj => absurd (hlb.symm.trans (XInv.reach hclo [12] 16 4 (by kernel_rfl) hlj)) (by decide)) (fun hlj => absurd (hlb.symm.trans (XInv.reach hclo [] 17 4 (by kernel_rfl) hlj)) (by decide))), hW.s5 n16 n12 hlb y0 v1 hR hB hg⟩
        ·refine XInv.yes_tab [] (by kernel_rfl) ?_
         intro Q2 K2 hK2
         simp only [XInv.puts, XPrint.pw]
         go_simp
         exact hK2.out (.pointer (some ⟨w.heap.size, 3, none⟩)) w' ⟨bq, rfl, (by intros; first | rfl | trivial), hW.up 5 (by decide)⟩
        ·refine XInv.yes_tab [(64, 5)] (by kernel_rfl) ?_
         have c3 := (blk_cell (blk_below (blk_below Y.out.2.2.2.2.1 X.out) hW.below) 3).trans rfl
         have d2 := pw_cell_below hW.below (pw_cell_below X.out Y.out.2.2.2.1)
         intro Q2 K2 hK2
         simp only [XInv.puts, XPrint.pw]
         go_simp
         exact hK2.out (.slice (some ab) n c) w' ⟨bq, rfl, (by intros; first | rfl | trivial), hW.up 6 (by decide)⟩
        ·refine XInv.yes_tab [] (by kernel_rfl) ?_
         intro Q2 K2 hK2
         simp only [XInv.puts, XPrint.pw]
         go_simp
         exact hK2.out (.int .i64 i) w' ⟨bq, rfl, (by intros; first | rfl | trivial), hW.up 7 (by decide)⟩
        ·refine XInv.yes_tab [(66, 7), (65, 6)] (by kernel_rfl) ?_
         intro Q2 K2 hK2
         simp only [XInv.puts, XPrint.pw]
         go_simp
         exact hK2.out (.pointer (some (ab.add (i * 4)))) w' ⟨bq, rfl, (by intros; first | rfl | trivial), hW.up 8 (by decide)⟩
        ·refine XInv.yes_tab [(67, 8)] (by kernel_rfl) ?_
         intro Q2 K2 hK2
         simp only [XInv.puts, XPrint.pw]
         go_simp
         exact hK2.out (.pointer (some ⟨(ab.add (i * 4)).block, (ab.add (i * 4)).off + 2, none⟩)) w' ⟨bq, rfl, (by intros; first | rfl | trivial), hW.up 9 (by decide)⟩
        ·refine XInv.yes_tab [(68, 9)] (by kernel_rfl) ?_
         have c3 := (blk_cell (blk_below (blk_below Y.out.2.2.2.2.1 X.out) hW.below) 3).trans rfl
         have d2 := pw_cell_below hW.below (pw_cell_below X.out Y.out.2.2.2.1)
         intro Q2 K2 hK2
         simp only [XInv.puts, XPrint.pw]
         go_simp
         exact hK2.out (.int .u32 x2) w' ⟨bq, rfl, (by intros; first | rfl | trivial), hW.up 10 (by decide)⟩
        ·refine XInv.yes_tab [(69, 10)] (by kernel_rfl) ?_
         have n12 : lb 12 = false := (Bool.eq_false_or_eq_true (lb 12)).elim (fun h => absurd (XInv.reach hclo [] 12 11 (by kernel_rfl) h) (by rw [hlb]; decide)) id
         have n16 : lb 16 = false := (Bool.eq_false_or_eq_true (lb 16)).elim (fun h => absurd (XInv.reach hclo [12] 16 11 (by kernel_rfl) h) (by rw [hlb]; decide)) id
         intro Q2 K2 hK2
         simp only [XInv.puts]
         refine Kd.R_lit_step (Kd.int .u32) _ 35 (by rfl) (N := 70) rfl (xs := ([x2] : List Int)) (inner := [.int .u32 x2]) (ok := fun _ => True) (okp := fun _ => True) (by (try simp only [XInv.puts, XPrint.pw]); first | (go_simp; done) | (go_simp; rfl)) (⟨rfl, fun j p hp => by cases j with | zero => (cases hp; rfl) | succ j => simp at hp⟩) (fun _ hk => hk) trivial (Below.refl _ _) (Nat.le_refl _) (by simp) ?_
         intro v1 w1 hR hB hg _
         exact hK2.out v1 w1 ⟨(bq.1, bq.2.1, v1, bq.2.2.2), rfl, (cs18 _ (fun _ => rfl) (fun _ => rfl) (fun _ => rfl) (fun _ => rfl) (fun _ => rfl) (fun _ => rfl) (fun _ => rfl) (fun _ => rfl) (fun _ => rfl) (fun _ => rfl) (fun _ => rfl) (fun hlj => absurd (hlb.symm.trans hlj) (by decide)) (fun hlj => absurd (hlb.symm.trans (XInv.reach hclo [] 12 11 (by kernel_rfl) hlj)) (by decide)) (fun _ => rfl) (fun _ => rfl) (fun _ => rfl) (fun hlj => absurd (hlb.symm.trans (XInv.reach hclo [12] 16 11 (by kernel_rfl) hlj)) (by decide)) (fun hlj => absurd (hlb.symm.trans (XInv.reach hclo [] 17 11 (by kernel_rfl) hlj)) (by decide))), hW.s7 n16 n12 hlb v1 hB hR hW.below.size⟩
        ·refine XInv.yes_tab [(70, 11), (63, 4)] (by kernel_rfl) ?_
         have n16 : lb 16 = false := (Bool.eq_false_or_eq_true (lb 16)).elim (fun h => absurd (XInv.reach hclo [] 16 12 (by kernel_rfl) h) (by rw [hlb]; decide)) id
         have y4 : lb 4 = true := hneed 4 (by kernel_rfl)
         have y11 : lb 11 = true := hneed 11 (by kernel_rfl)
         have r5 := Kd.R_mono (ok' := fun _ => True) (hW.row5 n16 hlb y4) (fun _ _ => trivial)
         have r7 := hW.row7 n16 hlb y11
         obtain ⟨A7, c7, e7⟩ := Kd.R_slice r7
         rw [e7] at r7
         obtain ⟨_, _, hC7⟩ := Kd.R_reads' r7
         intro Q2 K2 hK2
         simp only [XInv.puts]
         refine Kd.R_append_rows_step (Kd.int .u32) (w0 := Ws) Ws.heap.size (by rfl) (.tmp 63) (.tmp 70) 43 35 (.int .u32 0) 4 rfl Tryz.underlying43 infoU rfl (by decide) (by omega) (bq.2.1) (lst.take k) ([x2]) (A7) (1) (c7) (fun _ => True) (fun _ => False) rfl e7 r5 (hC7) (fun _ _ h => h) (fun _ h => h.elim) (fun _ _ => trivial) hW.below hW.below.size (by rw [hlt1]; omega) ?_
         intro v1 w1 hR hB hg _
         exact hK2.out v1 w1 ⟨(bq.1, bq.2.1, bq.2.2.1, v1, bq.2.2.2.2), rfl, (cs18 _ (fun _ => rfl) (fun _ => rfl) (fun _ => rfl) (fun _ => rfl) (fun _ => rfl) (fun _ => rfl) (fun _ => rfl) (fun _ => rfl) (fun _ => rfl) (fun _ => rfl) (fun _ => rfl) (fun _ => rfl) (fun hlj => absurd (hlb.symm.trans hlj) (by decide)) (fun _ => rfl) (fun _ => rfl) (fun _ => rfl) (fun hlj => absurd (hlb.symm.trans (XInv.reach hclo [] 16 12 (by kernel_rfl) hlj)) (by decide)) (fun hlj => absurd (hlb.symm.trans (XInv.reach hclo [] 17 12 (by kernel_rfl) hlj)) (by decide))), hW.s8 n16 v1 hR hB⟩
        ·refine XInv.yes_tab [] (by kernel_rfl) ?_
         intro Q2 K2 hK2
         simp only [XInv.puts, XPrint.pw]
         go_simp
         exact hK2.out (.slice A5 m c5) w' ⟨bq, rfl, (by intros; first | rfl | trivial), hW.up 13 (by decide)⟩
        ·refine XInv.yes_tab [] (by kernel_rfl) ?_
         intro Q2 K2 hK2
         simp only [XInv.puts, XPrint.pw]
         go_simp
         exact hK2.out (.int .i64 k) w' ⟨bq, rfl, (by intros; first | rfl | trivial), hW.up 14 (by decide)⟩
        ·refine XInv.yes_tab [(73, 14), (72, 13)] (by kernel_rfl) ?_
         intro Q2 K2 hK2
         simp only [XInv.puts, XPrint.pw]
         go_simp
         exact hK2.out (.slice A2 (m - k) (c5 - k)) w' ⟨bq, rfl, (by intros; first | rfl | trivial), hW.up 15 (by decide)⟩
        ·refine XInv.yes_tab [(74, 15), (71, 12)] (by kernel_rfl) ?_
         have y12 : lb 12 = true := hneed 12 (by kernel_rfl)
         have r8 := hW.row8 hlb y12
         intro Q2 K2 hK2
         simp only [XInv.puts]
         refine Kd.R_append_rows_step (Kd.int .u32) (w0 := Ws) Ws.heap.size (by rfl) (.tmp 71) (.tmp 74) 43 35 (.int .u32 0) 4 rfl Tryz.underlying43 infoU rfl (by decide) (by omega) (bq.2.2.2.1) (lst.take k ++ [x2]) (lst.drop k) (A2) (m - k) (c5 - k) (fun _ => True) (fun _ => False) rfl rfl r8 (DR.out _ hW.below) (fun _ _ h => h) (fun _ h => h.elim) (fun _ _ => trivial) hW.below hW.below.size (by rw [List.length_append, hlt1, List.length_singleton]; omega) ?_
         intro v1 w1 hR hB hg _
         exact hK2.out v1 w1 ⟨(bq.1, bq.2.1, bq.2.2.1, bq.2.2.2.1, v1), rfl, (cs18 _ (fun _ => rfl) (fun _ => rfl) (fun _ => rfl) (fun _ => rfl) (fun _ => rfl) (fun _ => rfl) (fun _ => rfl) (fun _ => rfl) (fun _ => rfl) (fun _ => rfl) (fun _ => rfl) (fun _ => rfl) (fun _ => rfl) (fun _ => rfl) (fun _ => rfl) (fun _ => rfl) (fun hlj => absurd (hlb.symm.trans hlj) (by decide)) (fun hlj => absurd (hlb.symm.trans (XInv.reach hclo [] 17 16 (by kernel_rfl) hlj)) (by decide))), hW.s13 v1 hR hB⟩
        ·refine XInv.yes_tab [(75, 16), (74, 15), (73, 14), (72, 13), (71, 12), (70, 11), (69, 10), (68, 9), (67, 8), (66, 7), (65, 6), (64, 5), (63, 4), (62, 3), (61, 2), (60, 1), (59, 0)] (by kernel_rfl) ?_
         intro Q2 K2 hK2
         simp only [XInv.puts, XPrint.pw] at hK2 ⊢
         go_simp
         exact hK2.out (bq.2.2.2.2) w' ⟨bq, rfl, (by intros; first | rfl | trivial), hW.up 17 (by decide)⟩
       ·intro bq w' hW
        refine XInv.end_nil [(5, 17), (75, 16), (74, 15), (73, 14), (72, 13), (71, 12), (70, 11), (69, 10), (68, 9), (67, 8), (66, 7), (65, 6), (64, 5), (63, 4), (62, 3), (61, 2), (60, 1), (59, 0)] (by kernel_rfl) (by kernel_rfl) ?_
        simp only [XInv.puts, XPrint.pw]
        have hb := hW.below
        have hr := hW.row13 (by kernel_rfl)
        obtain ⟨b1, b5, b7, b8, b13⟩ := bq
        dsimp only at hr ⊢
        rw [← N.out] at hr
        have FIN := Aside0.mk (And.intro hb hr)
        clear hW hb hr
        go_wp2
        go_roundg (n - (i + 1))
        case measure => omega
        case rel => exact ⟨i + 1, rfl, by go_num, by omega, below_step XB.out FIN.out.1, by rw [Y.out.2.2.1, if_pos E.out]; exact Kd.R_lower FIN.out.2 XB.out.size⟩
  case false =>
   have E : Aside0 (¬ (x3 == s) = true) := ⟨by rw [hbe]; decide⟩
   clear hm1
   go_wp2
   go_roundg (n - (i + 1))
   case measure => omega
   case rel => exact ⟨i + 1, rfl, by go_num, by omega, Y.out.1, by rw [Y.out.2.2.1, if_neg E.out]; exact Y.out.2.1⟩
 ·have hlt' : ¬ (i : Int) < (n : Int) := by omega
  have htk : bx.take i = bx := List.take_of_length_le (by rw [H.out.2.1]; omega)
  rw [htk] at hR
  have Y := Aside0.mk (And.intro hB hR)
  clear hB hR htk
  go_wp2
  go_ret
  exact ⟨_, rfl, Kd.R_lower Y.out.2 H.out.2.2.1.size, below_then H.out.2.2.1 H.out.2.2.1.size Y.out.1⟩
end Go.Proofs.YthibppfdonepoaaGreat.LedT
