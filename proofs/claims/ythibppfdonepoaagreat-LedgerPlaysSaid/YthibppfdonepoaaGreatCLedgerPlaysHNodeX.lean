/- ledger: what a law's act may change; the document's ledger beside the program's. liveryref22.New. liveryref23.New. liveryref23.Take, whatever is asked. liveryref23.Give, whatever is asked. Rows of nodes and of boxes lie apart. liveryref23.Same on like rows; liverylaw23.of. liverylaw23: acts, great. liveryref22.Join: the world while the new row is put together. -/
import Derived.Test.YthibppfdonepoaaGreatCLedgerPlaysHLedFF
import Derived.Test.YthibppfdonepoaaGreatCLedgerPlaysHLedBB
import Derived.Test.YthibppfdonepoaaGreatCLedgerPlaysPLedLibx0
import Derived.Test.YthibppfdonepoaaGreatCLedgerPlaysPLedLibx1
import Derived.Test.YthibppfdonepoaaGreatCLedgerPlaysPLedLibx10
import Derived.Test.YthibppfdonepoaaGreatCLedgerPlaysPLedLibx11
import Derived.Test.YthibppfdonepoaaGreatCLedgerPlaysPLedLibx12
import Derived.Test.YthibppfdonepoaaGreatCLedgerPlaysPLedLibx13
import Derived.Test.YthibppfdonepoaaGreatCLedgerPlaysPLedLibx14
import Derived.Test.YthibppfdonepoaaGreatCLedgerPlaysPLedLibx16
import Derived.Test.YthibppfdonepoaaGreatCLedgerPlaysPLedLibx17
import Derived.Test.YthibppfdonepoaaGreatCLedgerPlaysPLedLibx2
import Derived.Test.YthibppfdonepoaaGreatCLedgerPlaysPLedLibx3
import Derived.Test.YthibppfdonepoaaGreatCLedgerPlaysPLedLibx4
import Derived.Test.YthibppfdonepoaaGreatCLedgerPlaysPLedLibx5
import Derived.Test.YthibppfdonepoaaGreatCLedgerPlaysPLedLibx7
import Derived.Test.YthibppfdonepoaaGreatCLedgerPlaysPLedLibx8
import Derived.Test.YthibppfdonepoaaGreatCLedgerPlaysPLedLibx9
import Derived.Test.YthibppfdonepoaaGreatCLedgerPlaysHLedP
import Derived.Test.YthibppfdonepoaaGreatCLedgerPlaysW
set_option maxHeartbeats 8000000
set_option maxRecDepth 100000
set_option linter.unusedVariables false
set_option linter.unusedSimpArgs false
namespace Go.Proofs.YthibppfdonepoaaGreat.LedT
open Go.RowKit Go.MapKept Go.Maps Go.ChangeMaps Go.Proofs.YthibppfdonepoaaGreat.XBut Go.Proofs.YthibppfdonepoaaGreat.XMap Go.Proofs.YthibppfdonepoaaGreat.NodeT Go.Proofs.YthibppfdonepoaaGreatW.PrintWords Go.Proofs.YthibppfdonepoaaGreatW.PrintLast
def May (p g : Nat) (v : Value) (k : Nat) : Prop := (k = p ∨ k = g) ∨ v.ownBlock = some k
section
variable {w0 w w' : World} {p b g : Nat} {u0 u1 : Int} {ns ns' : List Nd} {v v' : Value} {bx bx' : List Bx} {last last' : Int} {rows rows' : List (Value × List Bx)}
theorem HS.joinB (h : HS w0 w p b g u0 u1 ns v bx last rows) (x0 x1 x2 : Int) (hx : (Lit.int .u32 x0).wf = true) :
  Calls Tryz.prog 39 #[.pointer (some ⟨p, 0, none⟩), .agg #[.int .u32 x0, .int .i64 x1, .int .i64 x2]] w fun e w' => e = .returned (.int .i64 (code u0 u1 ns ⟨x0, ⟨x1, x2⟩⟩)) ∧ HS w0 w' p b g u0 u1 (nsJ u0 u1 ns ⟨x0, ⟨x1, x2⟩⟩) v bx last rows ∧ But (May p g v) w w' := by
 refine (ljoin x0 x1 x2 w h.led h.good.nodes hx).mono ?_
 rintro e w' ⟨rfl, hb, hL⟩
 have hb2 := hb.mono (T' := May p g v) fun k hk => .inl (.inr hk)
 exact ⟨rfl, h.next (h.good.join ⟨x0, ⟨x1, x2⟩⟩ (wf32 hx)) hL hb2 (fun k hk => .inl hk), hb2⟩
theorem HS.loseB (h : HS w0 w p b g u0 u1 ns v bx last rows) (i : Int) (hi : (Lit.int .u32 i).wf = true) :
  Calls Tryz.prog 59 #[.pointer (some ⟨p, 0, none⟩), .int .u32 i] w fun e w' => ∃ vo v', e = .returned (.tuple #[vo, .int .i64 (lost ns i).2]) ∧ HS w0 w' p b g u0 u1 (less ns i) v' (offN bx i) last ((vo, onN bx i) :: rows) ∧ But (May p g v) w w' ∧ (∀ k, v'.ownBlock = some k → v.ownBlock = some k ∨ w.heap.size ≤ k) ∧ (∀ k, vo.ownBlock = some k → w.heap.size ≤ k) := by
 refine (llose i w h.led h.good h.len hi).mono ?_
 rintro e w' ⟨vo, v', rfl, hL, hR, hd, hb, ho⟩
 have hb2 := hb.mono (T' := May p g v) fun k hk => .inl hk
 exact ⟨vo, v', rfl, (h.next (h.good.lose i) hL hb2 ho).add hR (h.up (Nat.le_refl _)) hd, hb2, ho, fun k hk => Kd.R_base hR k hk⟩
theorem HS.giveM (h : HS w0 w p b g u0 u1 ns v bx last rows) (o n : Int) (s : Bool) (hla : last ≤ 4000000000) :
  Calls Tryz.prog 28 #[.pointer (some ⟨p, 0, none⟩), .int .u32 o, .bool s, .int .i64 n] w fun e w' => ∃ vo v', e = .returned (.tuple #[vo, .int .i64 (gcode u0 u1 ns bx o n)]) ∧ HS w0 w' p b g u0 u1 ns v' (bx ++ given u0 u1 ns bx last o s n) (last + (given u0 u1 ns bx last o s n).length) ((vo, given u0 u1 ns bx last o s n) :: rows) ∧ But (May p g v) w w' ∧ (∀ k, v'.ownBlock = some k → v.ownBlock = some k ∨ w.heap.size ≤ k) ∧ (∀ k, vo.ownBlock = some k → w.heap.size ≤ k) := by
 refine (lgive o n s w h.led h.good hla).mono ?_
 rintro e w' ⟨vo, v', rfl, hL, hR, hd, hb, ho⟩
 have hb2 := hb.mono (T' := May p g v) fun k hk => hk.elim (fun e => .inl (.inl e)) .inr
 exact ⟨vo, v', rfl, (h.next (h.good.give o s n) hL hb2 ho).add hR (h.up (Nat.le_refl _)) hd, hb2, ho, fun k hk => Kd.R_base hR k hk⟩
theorem HS.takeB (h : HS w0 w p b g u0 u1 ns v bx last rows) (o n : Int) (s : Bool) :
  Calls Tryz.prog 30 #[.pointer (some ⟨p, 0, none⟩), .int .u32 o, .bool s, .int .i64 n] w fun e w' => ∃ vo v', e = .returned (.tuple #[vo, .int .i64 (tcode bx o s n)]) ∧ HS w0 w' p b g u0 u1 ns v' (leftN bx (taken bx o s n)) last ((vo, taken bx o s n) :: rows) ∧ But (May p g v) w w' ∧ (∀ k, v'.ownBlock = some k → v.ownBlock = some k ∨ w.heap.size ≤ k) ∧ (∀ k, vo.ownBlock = some k → w.heap.size ≤ k) := by
 refine (ltake o n s w h.led h.len).mono ?_
 rintro e w' ⟨vo, v', rfl, hL, hR, hd, hb, ho⟩
 have hb2 := hb.mono (T' := May p g v) fun k hk => .inl (.inl hk)
 exact ⟨vo, v', rfl, (h.next (h.good.take _) hL hb2 ho).add hR (h.up (Nat.le_refl _)) hd, hb2, ho, fun k hk => Kd.R_base hR k hk⟩
theorem HS.may (h : HS w0 w p b g u0 u1 ns v bx last rows) : ∀ k, May p g v k → w0.heap.size ≤ k := fun k hk => by
 rcases hk with (rfl | rfl) | hk
 ·exact h.led.ne.2.2
 ·exact h.led.tab.base2
 ·exact Kd.R_base h.led.row k hk
end
structure DS (w0 w : World) (p b g : Nat) (u0 u1 : Int) (ns : List Nd) (v : Value) (bx : List Bx) (last : Int) (vn vb : Value) (okn : Nat → Prop) : Prop where
 hs : HS w0 w p b g u0 u1 ns v bx last []
 nrow : RNd w w0.heap.size okn vn ns
 brow : RB w w0.heap.size vb bx
 okp : ∀ k, okn k → ¬ May p g v k ∧ k ≠ b ∧ vb.ownBlock ≠ some k
 okb : ∀ k, vb.ownBlock = some k → ¬ May p g v k ∧ k ≠ b
 okl : ∀ k, okn k → k < w.heap.size
theorem DS.same {w0 w w' : World} {p b g : Nat} {u0 u1 : Int} {ns : List Nd} {v : Value} {bx : List Bx} {last : Int} {vn vb : Value} {okn : Nat → Prop} (h : DS w0 w p b g u0 u1 ns v bx last vn vb okn) (hb : Below w.heap.size w w') : DS w0 w' p b g u0 u1 ns v bx last vn vb okn :=
 ⟨h.hs.same hb, Kd.R_below h.nrow hb, Kd.R_below h.brow hb, h.okp, h.okb, fun k hk => Nat.lt_of_lt_of_le (h.okl k hk) hb.size⟩
theorem DS.rows {w0 w w' : World} {p b g : Nat} {u0 u1 : Int} {ns : List Nd} {v : Value} {bx : List Bx} {last : Int} {vn vb : Value} {okn : Nat → Prop} (h : DS w0 w p b g u0 u1 ns v bx last vn vb okn) (hb : But (May p g v) w w') : RNd w' w0.heap.size okn vn ns ∧ RB w' w0.heap.size vb bx :=
 ⟨Kd.R_step h.nrow (fun k hk hlt => hb.block k hlt (h.okp k hk).1), Kd.R_step h.brow (fun k hk hlt => hb.block k hlt (h.okb k hk).1)⟩
theorem DS.put {w0 w w' : World} {p b g Q : Nat} {u0 u1 : Int} {ns : List Nd} {v : Value} {bx : List Bx} {last : Int} {vn vb : Value} {okn : Nat → Prop} (h : DS w0 w p b g u0 u1 ns v bx last vn vb okn) (hb : But (fun k => k = Q) w w') (hQ : w0.heap.size ≤ Q) (h1 : ¬ May p g v Q) (h2 : Q ≠ b) (h3 : ¬ okn Q) (h4 : vb.ownBlock ≠ some Q) : DS w0 w' p b g u0 u1 ns v bx last vn vb okn := by
 refine ⟨⟨But.below h.hs.below (Nat.le_refl _) hb (fun k hk => by rw [hk]; exact hQ), h.hs.led.but hb (fun e => h1 (.inl (.inl e.symm))) (fun e => h2 e.symm) (fun e => h1 (.inl (.inr e.symm))) (fun k hk e => h1 (.inr (by rw [← e]; exact hk))), h.hs.good, fun r hr => by cases hr⟩, Kd.R_step h.nrow (fun k hk hlt => hb.block k hlt (fun e => h3 (by rw [← e]; exact hk))), Kd.R_step h.brow (fun k hk hlt => hb.block k hlt (fun e => h4 (by rw [← e]; exact hk))), h.okp, h.okb, fun k hk => Nat.lt_of_lt_of_le (h.okl k hk) hb.size⟩
theorem set3of5 {w : World} {q : Nat} {a0 a1 a2 a3 a4 b0 b1 b2 : Value} (h : w.heap[q]? = some (.cells #[a0, a1, a2, a3, a4] LT (0, 0))) :
  (((w.setCell ⟨q, 0, none⟩ b0).setCell ⟨q, 1, none⟩ b1).setCell ⟨q, 2, none⟩ b2).heap[q]? = some (.cells #[b0, b1, b2, a3, a4] LT (0, 0)) := by
 have h0 : (w.setCell ⟨q, 0, none⟩ b0).heap[q]? = some (.cells #[b0, a1, a2, a3, a4] LT (0, 0)) := by simpa using blk_set h 0 b0
 have h1 : ((w.setCell ⟨q, 0, none⟩ b0).setCell ⟨q, 1, none⟩ b1).heap[q]? = some (.cells #[b0, b1, a2, a3, a4] LT (0, 0)) := by simpa using blk_set h0 1 b1
 simpa using blk_set h1 2 b2
theorem nil_row (w : World) : Kd.C PLedLib.k100 w none 0 [] := (Kd.R_reads' (Kd.R_nil PLedLib.k100 100 w 0 (fun _ => True))).2.2
theorem DS.lt {w0 w : World} {p b g : Nat} {u0 u1 : Int} {ns : List Nd} {v : Value} {bx : List Bx} {last : Int} {vn vb : Value} {okn : Nat → Prop} (h : DS w0 w p b g u0 u1 ns v bx last vn vb okn) : ∀ k, May p g v k ∨ okn k ∨ vb.ownBlock = some k → k < w.heap.size := fun k hk => by
 have hl := h.hs.led.lt
 rcases hk with ((rfl | rfl) | hk) | hk | hk
 ·exact hl.1
 ·exact hl.2.2.1
 ·exact hl.2.2.2 k hk
 ·exact h.okl k hk
 ·exact Kd.R_lt h.brow k hk
end Go.Proofs.YthibppfdonepoaaGreat.LedT
set_option linter.unusedVariables false
set_option linter.unusedSimpArgs false
namespace Go.Proofs.YthibppfdonepoaaGreat.LedT
open Go.RowKit Go.MapKept Go.Maps Go.ChangeMaps Go.Proofs.YthibppfdonepoaaGreat.XBut Go.Proofs.YthibppfdonepoaaGreat.XMap Go.Proofs.YthibppfdonepoaaGreat.NodeT Go.Proofs.YthibppfdonepoaaGreatW.PrintWords Go.Proofs.YthibppfdonepoaaGreatW.PrintLast
theorem rnewC (u0 u1 r0 r1 rc : Int) (t : Bool) (w : World) (hf : PNodePlays.liveryref22_in.f u0 u1 1 = some t) (hr : if t = true then r0 = u0 ∧ r1 = u1 ∧ rc = 0 else r0 = 0 ∧ r1 = 0 ∧ rc = 2) :
  Calls Tryz.prog 60 #[.agg #[.int .i64 u0, .int .i64 u1]] w fun e w' => ∃ v, e = .returned (.tuple #[.agg #[.int .i64 r0, .int .i64 r1, v], .int .i64 rc]) ∧ Kd.R PNodePlays.k59 59 w' w.heap.size (fun _ => True) v [] ∧ Below w.heap.size w w' := by
 have hu31 := Tryz.underlying33
 have hu23 := Tryz.underlying23
 obtain ⟨W0, hW0⟩ : ∃ W0, (w.alloc (.cells #[.int .i64 u0, .int .i64 u1] 23)).alloc (.cells #[.int .i64 0, .int .i64 0, .slice none 0 0] 33) = W0 := ⟨_, rfl⟩
 have hB0 : Below w.heap.size w W0 := by rw [← hW0]; exact below_alloc (below_alloc (Below.refl _ _) _) _
 have k0 : W0.heap[w.heap.size]? = some (.cells #[.int .i64 u0, .int .i64 u1] 23 (0, 0)) := by rw [← hW0]; exact blk_alloc (blk_new w _) _
 have k1 : W0.heap[w.heap.size + 1]? = some (.cells #[.int .i64 0, .int .i64 0, .slice none 0 0] 33 (0, 0)) := by
  have := blk_new (w.alloc (.cells #[.int .i64 u0, .int .i64 u1] 23)) (.cells #[.int .i64 0, .int .i64 0, .slice none 0 0] 33)
  rw [World.size_alloc] at this
  rw [← hW0]; exact this
 have q0 := (blk_cell k0 0).trans rfl
 have q1 := (blk_cell k0 1).trans rfl
 have H := Aside0.mk (And.intro hB0 (And.intro k0 (And.intro k1 (And.intro hW0 (And.intro hf hr)))))
 clear hB0 k0 k1 hW0 hf hr
 go_enter Tryz.func60, Tryz.ntmps60
 go_wp2_with fail
 rw [H.out.2.2.2.1]
 go_wp2_with fail
 refine (PNodePlays.liveryref22_in.calls u0 u1 1 t _ H.out.2.2.2.2.1).mono ?_
 rintro e w1 ⟨rfl, hb1⟩
 have hb1 : Below W0.heap.size W0 w1 := by first | exact hb1 | exact hb1.below
 have k0 := blk_below H.out.2.1 hb1
 have k1 := blk_below H.out.2.2.1 hb1
 have X := Aside0.mk (And.intro (below_then H.out.1 H.out.1.size hb1) k1)
 clear q0 q1 hb1
 have q0 := (blk_cell k0 0).trans rfl
 have q1 := (blk_cell k0 1).trans rfl
 have s0 := (blk_cell k1 0).trans rfl
 have s1 := (blk_cell k1 1).trans rfl
 have s2 := (blk_cell k1 2).trans rfl
 have f0 := blk_frozen k1 0
 have f1 := blk_frozen k1 1
 have f2 := blk_frozen k1 2
 clear k0 k1
 have hlt := blk_lt H.out.2.2.1
 dsimp only
 cases t
 all_goals
  go_wp2
 ·have z := set3 (b0 := .int .i64 0) (b1 := .int .i64 0) (b2 := .slice none 0 0) X.out.2
  have a0 := (blk_cell z 0).trans rfl
  have a1 := (blk_cell z 1).trans rfl
  have a2 := (blk_cell z 2).trans rfl
  have FIN := Aside0.mk (but3T (But.refl (fun k => k = w.heap.size + 1) w1) (q := w.heap.size + 1) rfl (.int .i64 0) (.int .i64 0) (.slice none 0 0))
  obtain ⟨rfl, rfl, rfl⟩ := H.out.2.2.2.2.2
  refine bodyPost_ret (v := .tuple #[.agg #[.int .i64 0, .int .i64 0, .slice none 0 0], .int .i64 2]) (by simp [results, Tryz.results60, go_sem, a0, a1, a2]) rfl ⟨_, rfl, Kd.R_nil _ _ _ _ _, But.below X.out.1 (Nat.le_refl _) FIN.out (fun k hk => by omega)⟩
 ·have z := set3 (b0 := .int .i64 u0) (b1 := .int .i64 u1) (b2 := .slice none 0 0) X.out.2
  have a0 := (blk_cell z 0).trans rfl
  have a1 := (blk_cell z 1).trans rfl
  have a2 := (blk_cell z 2).trans rfl
  have FIN := Aside0.mk (but3T (But.refl (fun k => k = w.heap.size + 1) w1) (q := w.heap.size + 1) rfl (.int .i64 u0) (.int .i64 u1) (.slice none 0 0))
  obtain ⟨rfl, rfl, rfl⟩ := H.out.2.2.2.2.2
  refine bodyPost_ret (v := .tuple #[.agg #[.int .i64 r0, .int .i64 r1, .slice none 0 0], .int .i64 0]) (by simp [results, Tryz.results60, go_sem, a0, a1, a2]) rfl ⟨_, rfl, Kd.R_nil _ _ _ _ _, But.below X.out.1 (Nat.le_refl _) FIN.out (fun k hk => by omega)⟩
theorem dnew (u0 u1 : Int) (w : World) (hu : okV 1 ⟨u0, u1⟩) :
  Calls Tryz.prog 24 #[.agg #[.int .i64 u0, .int .i64 u1]] w fun e w' => ∃ vn, e = .returned (.tuple #[dv u0 u1 vn (.slice none 0 0) 0, .int .i64 0]) ∧ RNd w' w.heap.size (fun _ => True) vn [] ∧ Below w.heap.size w w' := by
 have hu118 := Tryz.underlying37
 have hu31 := Tryz.underlying33
 have hu23 := Tryz.underlying23
 have NF := rin_f u0 u1 1
 rw [decide_eq_true hu] at NF
 obtain ⟨W0, hW0⟩ : ∃ W0, (w.alloc (.cells #[.int .i64 u0, .int .i64 u1] 23)).alloc (db 0 0 (.slice none 0 0) (.slice none 0 0) 0) = W0 := ⟨_, rfl⟩
 have hB0 : Below w.heap.size w W0 := by rw [← hW0]; exact below_alloc (below_alloc (Below.refl _ _) _) _
 have k1 : W0.heap[w.heap.size + 1]? = some (.cells #[.int .i64 0, .int .i64 0, .slice none 0 0, .slice none 0 0, .int .u32 0] LT (0, 0)) := by
  have := blk_new (w.alloc (.cells #[.int .i64 u0, .int .i64 u1] 23)) (db 0 0 (.slice none 0 0) (.slice none 0 0) 0)
  rw [World.size_alloc] at this
  rw [← hW0]; exact this
 have k0 : W0.heap[w.heap.size]? = some (.cells #[.int .i64 u0, .int .i64 u1] 23 (0, 0)) := by rw [← hW0]; exact blk_alloc (blk_new w _) _
 have q0 := (blk_cell k0 0).trans rfl
 have q1 := (blk_cell k0 1).trans rfl
 have NC := Aside0.mk (rnewC u0 u1 u0 u1 0 true W0 NF (by rw [if_pos rfl]; exact ⟨rfl, rfl, rfl⟩))
 have H := Aside0.mk (And.intro hB0 (And.intro k1 hW0))
 clear hu NF hB0 k0 k1 hW0
 go_enter Tryz.func24, Tryz.ntmps24
 go_wp2_with fail
 rw [H.out.2.2]
 go_wp2_with fail
 refine NC.out.mono ?_
 rintro e w1 ⟨v2, rfl, hR, hb⟩
 obtain ⟨A2, c2, rfl⟩ := Kd.R_slice hR
 dsimp only [List.length_nil] at hR ⊢
 have X := Aside0.mk (And.intro hR hb)
 clear q0 q1 hR hb NC
 go_upto_region 2 with (fail)
 obtain ⟨w2, hw2⟩ : ∃ w2, w1.alloc (.cells #[.int .i64 u0, .int .i64 u1, .slice A2 0 c2] 33) = w2 := ⟨_, rfl⟩
 have hb2 : Below w1.heap.size w1 w2 := by rw [← hw2]; exact below_alloc (Below.refl _ _) _
 have kz : w2.heap[w1.heap.size]? = some (.cells #[.int .i64 u0, .int .i64 u1, .slice A2 0 c2] 33 (0, 0)) := by rw [← hw2]; exact blk_new w1 _
 have k1 := blk_below (blk_below H.out.2.1 X.out.2) hb2
 rw [hw2]
 have Z := Aside0.mk (And.intro hb2 k1)
 have m0 := (blk_cell kz 0).trans rfl
 have m1 := (blk_cell kz 1).trans rfl
 have m2 := (blk_cell kz 2).trans rfl
 have r0 := (blk_cell k1 0).trans rfl
 have r1 := (blk_cell k1 1).trans rfl
 have r2 := (blk_cell k1 2).trans rfl
 have r3 := (blk_cell k1 3).trans rfl
 have r4 := (blk_cell k1 4).trans rfl
 have g0 := blk_frozen k1 0
 have g1 := blk_frozen k1 1
 have g2 := blk_frozen k1 2
 have g3 := blk_frozen k1 3
 have g4 := blk_frozen k1 4
 clear hw2 hb2 kz k1
 go_wp2
 have z0 := set5 (b0 := .int .i64 u0) (b1 := .int .i64 u1) (b2 := .slice A2 0 c2) (b3 := .slice none 0 0) (b4 := .int .u32 0) Z.out.2
 have y0 := (blk_cell z0 0).trans rfl
 have y1 := (blk_cell z0 1).trans rfl
 have y2 := (blk_cell z0 2).trans rfl
 have y3 := (blk_cell z0 3).trans rfl
 have y4 := (blk_cell z0 4).trans rfl
 have hs := H.out.1.size
 have hlt := blk_lt H.out.2.1
 have FIN := Aside0.mk (but5T (But.refl (fun k => k = w.heap.size + 1) w2) (q := w.heap.size + 1) rfl (.int .i64 u0) (.int .i64 u1) (.slice A2 0 c2) (.slice none 0 0) (.int .u32 0))
 refine bodyPost_ret (v := .tuple #[dv u0 u1 (.slice A2 0 c2) (.slice none 0 0) 0, .int .i64 0]) (by simp [results, Tryz.results24, go_sem, dv, y0, y1, y2, y3, y4]) rfl ⟨.slice A2 0 c2, rfl, ?_, ?_⟩
 ·exact Kd.R_mono (Kd.R_lower (Kd.R_step (Kd.R_below (Kd.R_bound X.out.1) Z.out.1) (fun k hk hlt => FIN.out.block k hlt (by have := hk.2.1; omega))) hs) (fun _ _ => trivial)
 ·exact But.below (below_then H.out.1 H.out.1.size (below_step X.out.2 Z.out.1)) (Nat.le_refl _) FIN.out (fun k hk => by omega)
theorem dtake (u0 u1 : Int) (An A : Option Addr) (nn cn n c N0 : Nat) (last o m : Int) (s : Bool) (bx : List Bx) (w : World) (hX : RB w N0 (.slice A n c) bx) (hN : N0 ≤ w.heap.size) (hl : bx.length ≤ 1000000) (hr : bx.Pairwise fun a c => a.f0 < c.f0) :
  Calls Tryz.prog 62 #[dv u0 u1 (.slice An nn cn) (.slice A n c) last, .int .u32 o, .bool s, .int .i64 m] w fun e w' => ∃ Ab lb cb Ag ng cg, e = .returned (.tuple #[dv u0 u1 (.slice An nn cn) (.slice Ab lb cb) last, .slice Ag ng cg, .int .i64 (tcode bx o s m)]) ∧ RB w' N0 (.slice Ab lb cb) (leftN bx (taken bx o s m)) ∧ (∀ k, (Value.slice Ab lb cb).ownBlock = some k → (Value.slice A n c).ownBlock = some k ∨ w.heap.size ≤ k) ∧ (∀ (T : Nat → Prop) (w'' : World), (∀ k, T k → k < w.heap.size) → But T w' w'' → Kd.C PLedLib.k100 w'' Ag ng (taken bx o s m)) ∧ (taken bx o s m).length = ng ∧ Below w.heap.size w w' := by
 obtain ⟨hn, hc, hC⟩ := Kd.R_reads' hX
 rw [← hn] at hC
 by_cases hm : mayc o m = 2
 ·have hcd : tcode bx o s m = 2 := if_pos hm
  have hg : taken bx o s m = [] := if_neg (by rw [hcd]; decide)
  rw [hcd, hg, left_nil]
  refine (dtake_bad u0 u1 An A nn cn n c last o m s w hm).mono ?_
  rintro e w' ⟨rfl, hb⟩
  exact ⟨A, n, c, none, 0, 0, rfl, Kd.R_below hX hb, fun k hk => .inl hk, fun _ w'' _ _ => nil_row w'', rfl, hb⟩
 ·have hm0 := (mayc_cases o m).resolve_left hm
  by_cases hf : ((ownN bx o s).length : Int) < m
  ·have hcd : tcode bx o s m = 7 := by unfold tcode; rw [if_neg hm, if_pos hf]
   have hg : taken bx o s m = [] := if_neg (by rw [hcd]; decide)
   rw [hcd, hg, left_nil]
   refine (dtake_few u0 u1 An A nn cn n c last o m s bx w hC hn.symm hl hm0 hf).mono ?_
   rintro e w' ⟨rfl, hb⟩
   exact ⟨A, n, c, none, 0, 0, rfl, Kd.R_below hX hb, fun k hk => .inl hk, fun _ w'' _ _ => nil_row w'', rfl, hb⟩
  ·have hcd : tcode bx o s m = 0 := by unfold tcode; rw [if_neg hm, if_neg hf]
   have hg : taken bx o s m = goneN bx o s m.toNat := if_pos hcd
   have hz := mayc_zero hm
   obtain ⟨N, hNm⟩ : ∃ N : Nat, m = N := ⟨m.toNat, by omega⟩
   subst hNm
   have eN : ((N : Int)).toNat = N := by simp
   have hgl : (goneN bx o s N).length = N := by unfold goneN; rw [List.length_drop]; omega
   rw [hcd, hg, eN]
   refine (dtake_ok u0 u1 An A nn cn n c last o N s bx w hC hn.symm hl hr hm0 (by omega)).mono ?_
   rintro e w' ⟨vb', Ag, cg, rfl, hR, hCg, _, hb⟩
   obtain ⟨Ab, cb, rfl⟩ := Kd.R_slice hR
   exact ⟨Ab, _, cb, Ag, N, cg, rfl, Kd.R_lower hR hN, fun k hk => .inr (Kd.R_base hR k hk), hCg, hgl, hb⟩
theorem dgive (u0 u1 : Int) (An A : Option Addr) (nn cn n c : Nat) (last o m : Int) (s : Bool) (ns : List Nd) (bx : List Bx) (okn : Nat → Prop) (w0 w : World) (hB : Below w0.heap.size w0 w) (hN : RNd w w0.heap.size okn (.slice An nn cn) ns) (hX : RB w w0.heap.size (.slice A n c) bx) (hG : LG u0 u1 ns bx last) (hla : last ≤ 4000000000) :
  Calls Tryz.prog 41 #[dv u0 u1 (.slice An nn cn) (.slice A n c) last, .int .u32 o, .bool s, .int .i64 m] w fun e w' => ∃ Ab lb cb Ag ng cg, e = .returned (.tuple #[dv u0 u1 (.slice An nn cn) (.slice Ab lb cb) (last + (given u0 u1 ns bx last o s m).length), .slice Ag ng cg, .int .i64 (gcode u0 u1 ns bx o m)]) ∧ RB w' w0.heap.size (.slice Ab lb cb) (bx ++ given u0 u1 ns bx last o s m) ∧ (∀ k, (Value.slice Ab lb cb).ownBlock = some k → (Value.slice A n c).ownBlock = some k ∨ w.heap.size ≤ k) ∧ (∀ (T : Nat → Prop) (w'' : World), (∀ k, T k → k < w.heap.size) → But T w' w'' → Kd.C PLedLib.k100 w'' Ag ng (given u0 u1 ns bx last o s m)) ∧ (given u0 u1 ns bx last o s m).length = ng ∧ Below w.heap.size w w' := by
 obtain ⟨hn, hc, hC⟩ := Kd.R_reads' hX
 obtain ⟨hnn, hcn, hCn⟩ := Kd.R_reads' hN
 have hl := hG.len
 by_cases hm : mayc o m = 2
 ·have hcd : gcode u0 u1 ns bx o m = 2 := if_pos hm
  have hg : given u0 u1 ns bx last o s m = [] := if_neg (by rw [hcd]; decide)
  rw [hcd, hg, List.append_nil]
  refine (dgive_bad u0 u1 An A nn cn n c last o m s w hm).mono ?_
  rintro e w' ⟨rfl, hb⟩
  exact ⟨A, n, c, none, 0, 0, by simp, Kd.R_below hX hb, fun k hk => .inl hk, fun _ w'' _ _ => nil_row w'', rfl, hb⟩
 ·have hm0 := (mayc_cases o m).resolve_left hm
  by_cases hf : freeN u0 u1 ns bx < m
  ·have hcd : gcode u0 u1 ns bx o m = 6 := by unfold gcode; rw [if_neg hm, if_pos hf]
   have hg : given u0 u1 ns bx last o s m = [] := if_neg (by rw [hcd]; decide)
   rw [hcd, hg, List.append_nil]
   refine (dgive_full u0 u1 An A nn cn n c last o m s ns bx w ⟨hCn, by omega, hC, by omega⟩ hG.nodes hnn.symm hn.symm (by omega) hm0 hf).mono ?_
   rintro e w' ⟨rfl, hb⟩
   exact ⟨A, n, c, none, 0, 0, by simp, Kd.R_below hX hb, fun k hk => .inl hk, fun _ w'' _ _ => nil_row w'', rfl, hb⟩
  ·have hcd : gcode u0 u1 ns bx o m = 0 := by unfold gcode; rw [if_neg hm, if_neg hf]
   have hg : given u0 u1 ns bx last o s m = grow u0 u1 ns bx last o s m.toNat := if_pos hcd
   have hz := mayc_zero hm
   obtain ⟨N, hNm⟩ : ∃ N : Nat, m = N := ⟨m.toNat, by omega⟩
   subst hNm
   have eN : ((N : Int)).toNat = N := by simp
   rw [hcd, hg, eN, grow_len]
   refine (dgive_ok u0 u1 An A nn cn n c last o N s ns bx okn w0 w hB hN hX hG hla hm0 (by omega)).mono ?_
   rintro e w' ⟨vb', vo, rfl, hR, hRo, hb⟩
   obtain ⟨Ab, cb, rfl⟩ := Kd.R_slice hR
   obtain ⟨Ag, cg, rfl⟩ := Kd.R_slice hRo
   rw [grow_len] at hRo ⊢
   refine ⟨Ab, _, cb, Ag, N, cg, rfl, Kd.R_mono (Kd.R_tight (by rfl) hR) (fun k hk => hk.symm), fun k hk => hR.1 k hk, fun T w'' hT hbT => ?_, rfl, hb⟩
   have h9 := (Kd.R_reads' (Kd.R_step hRo (fun k hk hlt => hbT.block k hlt (fun ht => by have := hT k ht; have := Kd.R_base hRo k hk; omega)))).2.2
   rw [grow_len] at h9
   exact h9
theorem row_apart {w : World} {B1 B2 : Nat} {ok1 : Nat → Prop} {v1 v2 : Value} {xs : List Nd} {ys : List Bx} (hN : RNd w B1 ok1 v1 xs) (hX : RB w B2 v2 ys) : ∀ k, v1.ownBlock = some k → v2.ownBlock ≠ some k := fun k h1 h2 => by
 obtain ⟨_, _, _, q, hq, c, h3⟩ := (Kd.R_bound hN).1 k h1
 obtain ⟨_, _, _, q2, hq2, c2, h4⟩ := (Kd.R_bound hX).1 k h2
 have e1 : q = 59 := by rcases List.mem_cons.1 hq with h | h; exact h; exact absurd h (by show q ∉ ([] : List TypeId); simp)
 have e2 : q2 = 100 := by rcases List.mem_cons.1 hq2 with h | h; exact h; exact absurd h (by show q2 ∉ ([] : List TypeId); simp)
 rw [h3] at h4
 subst e1
 subst e2
 cases h4
theorem dlose (u0 u1 : Int) (An A : Option Addr) (nn cn n c : Nat) (last i : Int) (ns : List Nd) (bx : List Bx) (okn : Nat → Prop) (w0 w : World) (hB : Below w0.heap.size w0 w) (hN : RNd w w0.heap.size okn (.slice An nn cn) ns) (hX : RB w w0.heap.size (.slice A n c) bx) (hd : ∀ k, okn k → (Value.slice A n c).ownBlock ≠ some k) (hG : LG u0 u1 ns bx last) :
  Calls Tryz.prog 61 #[dv u0 u1 (.slice An nn cn) (.slice A n c) last, .int .u32 i] w fun e w' => ∃ An2 nn2 cn2 Ab lb cb Ag ng cg, e = .returned (.tuple #[dv u0 u1 (.slice An2 nn2 cn2) (.slice Ab lb cb) last, .slice Ag ng cg, .int .i64 (lost ns i).2]) ∧ RNd w' w0.heap.size (fun k => (Value.slice An2 nn2 cn2).ownBlock = some k) (.slice An2 nn2 cn2) (less ns i) ∧ (∀ k, (Value.slice An2 nn2 cn2).ownBlock = some k → okn k ∨ w.heap.size ≤ k) ∧ RB w' w0.heap.size (.slice Ab lb cb) (offN bx i) ∧ (∀ k, (Value.slice Ab lb cb).ownBlock = some k → (Value.slice A n c).ownBlock = some k ∨ w.heap.size ≤ k) ∧ (∀ (T : Nat → Prop) (w'' : World), (∀ k, T k → k < w.heap.size) → But T w' w'' → Kd.C PLedLib.k100 w'' Ag ng (onN bx i)) ∧ (onN bx i).length = ng ∧ But okn w w' := by
 obtain ⟨hn, hc, hC⟩ := Kd.R_reads' hX
 obtain ⟨hnn, hcn, hCn⟩ := Kd.R_reads' hN
 have hl := hG.len
 have hl2 := hG.nodes.len
 cases hw : who ns i with
 | none =>
  have e1 : (lost ns i).2 = 7 := by unfold lost; rw [hw]
  rw [e1, less_none hw, off_none hG.on hw, onN_none hG.on hw]
  refine (dlose_no u0 u1 An A nn cn n c last i ns w (hnn ▸ hCn) hnn.symm hcn (by omega) hw).mono ?_
  rintro e w' ⟨rfl, hb⟩
  exact ⟨An, nn, cn, A, n, c, none, 0, 0, rfl, Kd.R_mono (Kd.R_tight (by rfl) (Kd.R_below hN hb)) (fun k hk => hk.symm), fun k hk => .inl (hN.1 k hk), Kd.R_below hX hb, fun k hk => .inl hk, fun _ w'' _ _ => nil_row w'', rfl, But.of_below hb⟩
 | some y =>
  have e1 : (lost ns i).2 = 0 := by unfold lost; rw [hw]
  rw [e1]
  refine (dlose_yes u0 u1 An A nn cn n c last i ns bx okn w0 w hB hN hX hd hG.nodes hG.ids (by omega) y hw).mono ?_
  rintro e w' ⟨vn', vb', Ag, ng, cg, rfl, hR, hRb, hCg, hng, _, hown, hb⟩
  obtain ⟨An2, cn2, rfl⟩ := Kd.R_slice hR
  obtain ⟨Ab, cb, rfl⟩ := Kd.R_slice hRb
  exact ⟨An2, _, cn2, Ab, _, cb, Ag, ng, cg, rfl, Kd.R_mono (Kd.R_tight (by rfl) hR) (fun k hk => hk.symm), fun k hk => hR.1 k hk, Kd.R_lower hRb hB.size, fun k hk => .inr (hown k hk), hCg, hng, hb⟩
theorem dsame (xs : List Bx) (A A2 : Option Addr) (n c c2 : Nat) (w : World) (h1 : Kd.C PLedLib.k100 w A n xs) (h2 : Kd.C PLedLib.k100 w A2 n xs) (hn : xs.length = n) (hl : n ≤ 1000000) :
  Calls Tryz.prog 29 #[.slice A n c, .slice A2 n c2] w fun e w' => e = .returned (.bool true) ∧ Below w.heap.size w w' := by
 have e113 := PLedLib.eqA100
 have hu113 := Tryz.underlying100
 have hl6 : (n : Int) ≤ 1000000 := by omega
 have H := Aside0.mk (And.intro h1 (And.intro h2 hn))
 clear h1 h2 hn hl
 go_enter Tryz.func29, Tryz.ntmps29
 go_wp2_with fail
 go_loopg [5] n (fun kk v5 wr => ∃ j : Nat, kk = n - j ∧ v5 = .int .i64 j ∧ j ≤ n ∧ Below w.heap.size w wr)
 case atStart => exact ⟨0, rfl, rfl, Nat.zero_le _, Below.refl _ _⟩
 obtain ⟨j, rfl, rfl, hj, hB⟩ := hrel
 by_cases hlt : j < n
 ·have hjb : j < xs.length := by rw [H.out.2.2]; exact hlt
  obtain ⟨ad, rfl, d0, d1, d2, d3⟩ := box_at (Kd.C_below H.out.1 hB) H.out.2.2 j hlt hjb
  obtain ⟨ag, rfl, e0, e1, e2, e3⟩ := box_at (Kd.C_below H.out.2.1 hB) H.out.2.2 j hlt hjb
  obtain ⟨x, hx⟩ : ∃ x, xs[j] = x := ⟨_, rfl⟩
  rw [hx] at d0 d1 d2 d3 e0 e1 e2 e3
  obtain ⟨x0, x1, x2, x3⟩ := x
  dsimp only at d0 d1 d2 d3 e0 e1 e2 e3
  have t0 : (x0 == x0) = true := by simp
  have t1 : (x1 == x1) = true := by simp
  have t2 : (x2 == x2) = true := by simp
  have t3 : (x3 == x3) = true := by simp
  have hlt' : (j : Int) < (n : Int) := by omega
  have Y := Aside0.mk (And.intro hB (And.intro d0 (And.intro d1 (And.intro d2 (And.intro d3 (And.intro e0 (And.intro e1 (And.intro e2 e3))))))))
  clear hB d0 d1 d2 d3 e0 e1 e2 e3 hx
  go_upto_region 6 with (fail)
  refine XInv.region_tab [] [[], [], [0, 1], [2], [], [], [4, 5], [6], [3, 7]] (fun bq jq => match jq with
    | 0 => .slice (some ad) n c
    | 1 => .int .i64 j
    | 2 => .pointer (some (ad.add (j * 4)))
    | 3 => .agg #[.int .u32 x0, .int .u32 x1, .int .u32 x2, .bool x3]
    | 4 => .slice (some ag) n c2
    | 5 => .int .i64 j
    | 6 => .pointer (some (ag.add (j * 4)))
    | 7 => .agg #[.int .u32 x0, .int .u32 x1, .int .u32 x2, .bool x3]
    | 8 => .bool false
    | _ => undef)
    (fun bq l w' => Below wr.heap.size wr w')
    (by kernel_rfl) rfl (by kernel_rfl) (by kernel_rfl) (by kernel_rfl) ⟨fun _ : Nat => (0 : Nat), below_drew (Below.refl _ _)⟩ ?_ ?_
  ·intro i1 hi1 hds oi hoi bq lb w' hW hlb hcl hneed hclo
   have hi1 : i1 < 9 := hi1
   have hcs : i1 = 0 ∨ i1 = 1 ∨ i1 = 2 ∨ i1 = 3 ∨ i1 = 4 ∨ i1 = 5 ∨ i1 = 6 ∨ i1 = 7 ∨ i1 = 8 := by omega
   clear hi1 hcl hneed hclo
   have d0 := pw_cell_below hW Y.out.2.1
   have d1 := pw_cell_below hW Y.out.2.2.1
   have d2 := pw_cell_below hW Y.out.2.2.2.1
   have d3 := pw_cell_below hW Y.out.2.2.2.2.1
   have e0 := pw_cell_below hW Y.out.2.2.2.2.2.1
   have e1 := pw_cell_below hW Y.out.2.2.2.2.2.2.1
   have e2 := pw_cell_below hW Y.out.2.2.2.2.2.2.2.1
   have e3 := pw_cell_below hW Y.out.2.2.2.2.2.2.2.2
   rcases hcs with rfl | rfl | rfl | rfl | rfl | rfl | rfl | rfl | rfl
   all_goals simp only [List.getElem?_toArray, List.getElem?_cons_succ, List.getElem?_cons_zero, Option.some.injEq] at hoi
   all_goals subst hoi
   ·refine XInv.yes_tab [] (by kernel_rfl) ?_
    intro Q2 K2 hK2
    simp only [XInv.puts, XPrint.pw]
    go_simp
    exact hK2.out (.slice (some ad) n c) w' ⟨bq, rfl, fun _ _ _ => rfl, hW⟩
   ·refine XInv.yes_tab [] (by kernel_rfl) ?_
    intro Q2 K2 hK2
    simp only [XInv.puts, XPrint.pw]
    go_simp
    exact hK2.out (.int .i64 j) w' ⟨bq, rfl, fun _ _ _ => rfl, hW⟩
   ·refine XInv.yes_tab [(18, 1), (17, 0)] (by kernel_rfl) ?_
    intro Q2 K2 hK2
    simp only [XInv.puts, XPrint.pw]
    go_simp
    exact hK2.out (.pointer (some (ad.add (j * 4)))) w' ⟨bq, rfl, fun _ _ _ => rfl, hW⟩
   ·refine XInv.yes_tab [(19, 2)] (by kernel_rfl) ?_
    intro Q2 K2 hK2
    simp only [XInv.puts, XPrint.pw]
    go_simp
    exact hK2.out (.agg #[.int .u32 x0, .int .u32 x1, .int .u32 x2, .bool x3]) w' ⟨bq, rfl, fun _ _ _ => rfl, hW⟩
   ·refine XInv.yes_tab [] (by kernel_rfl) ?_
    intro Q2 K2 hK2
    simp only [XInv.puts, XPrint.pw]
    go_simp
    exact hK2.out (.slice (some ag) n c2) w' ⟨bq, rfl, fun _ _ _ => rfl, hW⟩
   ·refine XInv.yes_tab [] (by kernel_rfl) ?_
    intro Q2 K2 hK2
    simp only [XInv.puts, XPrint.pw]
    go_simp
    exact hK2.out (.int .i64 j) w' ⟨bq, rfl, fun _ _ _ => rfl, hW⟩
   ·refine XInv.yes_tab [(22, 5), (21, 4)] (by kernel_rfl) ?_
    intro Q2 K2 hK2
    simp only [XInv.puts, XPrint.pw]
    go_simp
    exact hK2.out (.pointer (some (ag.add (j * 4)))) w' ⟨bq, rfl, fun _ _ _ => rfl, hW⟩
   ·refine XInv.yes_tab [(23, 6)] (by kernel_rfl) ?_
    intro Q2 K2 hK2
    simp only [XInv.puts, XPrint.pw]
    go_simp
    exact hK2.out (.agg #[.int .u32 x0, .int .u32 x1, .int .u32 x2, .bool x3]) w' ⟨bq, rfl, fun _ _ _ => rfl, hW⟩
   ·refine XInv.yes_tab [(24, 7), (20, 3)] (by kernel_rfl) ?_
    intro Q2 K2 hK2
    simp only [XInv.puts, XPrint.pw]
    go_simp
    exact hK2.out (.bool false) w' ⟨bq, rfl, fun _ _ _ => rfl, hW⟩
  ·intro bq w' hW
   refine XInv.end_nil [(25, 8), (24, 7), (23, 6), (22, 5), (21, 4), (20, 3), (19, 2), (18, 1), (17, 0)] (by kernel_rfl) (by kernel_rfl) ?_
   simp only [XInv.puts, XPrint.pw]
   have E := Aside0.mk (below_step Y.out.1 hW)
   clear hW
   go_wp2
   go_roundg (n - (j + 1))
   case measure => omega
   case rel => exact ⟨j + 1, rfl, by go_num, by omega, E.out⟩
 ·have hlt' : ¬ (j : Int) < (n : Int) := by omega
  have Y := Aside0.mk hB
  clear hB
  go_wp2
  go_ret
  exact ⟨rfl, Y.out⟩
theorem lof (a b c : Int) (w : World) : Calls Tryz.prog 57 #[.int .u32 a, .int .i64 b, .int .i64 c] w fun e w' => e = .returned (.agg #[.int .u32 a, .int .i64 b, .int .i64 c]) ∧ Below w.heap.size w w' := by
 have hu39 := Tryz.underlying59
 have hu23 := Tryz.underlying23
 go_enter Tryz.func57, Tryz.ntmps57
 go_wp2
 have k0 := blk_new w (.cells #[.int .u32 a, .int .i64 b, .int .i64 c] 59)
 have y0 := (blk_cell k0 0).trans rfl
 have y1 := (blk_cell k0 1).trans rfl
 have y2 := (blk_cell k0 2).trans rfl
 refine bodyPost_ret (v := .agg #[.int .u32 a, .int .i64 b, .int .i64 c]) (by simp [results, Tryz.results57, go_sem, y0, y1, y2]) rfl ⟨rfl, below_alloc (Below.refl _ _) _⟩
structure AcAt (w : World) (ad : Addr) (x : Ac) : Prop where
 c0 : w.cell? ad = some (.int .u8 x.what)
 c1 : w.cell? ⟨ad.block, ad.off + 1, none⟩ = some (.int .u32 x.n.f0)
 c2 : w.cell? ⟨ad.block, ad.off + 2, none⟩ = some (.int .i64 x.n.f1.f0)
 c3 : w.cell? ⟨ad.block, ad.off + 3, none⟩ = some (.int .i64 x.n.f1.f1)
 c4 : w.cell? ⟨ad.block, ad.off + 4, none⟩ = some (.int .u32 x.o)
 c5 : w.cell? ⟨ad.block, ad.off + 5, none⟩ = some (.bool x.s)
 c6 : w.cell? ⟨ad.block, ad.off + 6, none⟩ = some (.int .i64 x.many)
theorem AcAt.below {w w' : World} {ad : Addr} {x : Ac} (h : AcAt w ad x) (hb : Below w.heap.size w w') : AcAt w' ad x :=
 ⟨pw_cell_below hb h.c0, pw_cell_below hb h.c1, pw_cell_below hb h.c2, pw_cell_below hb h.c3, pw_cell_below hb h.c4, pw_cell_below hb h.c5, pw_cell_below hb h.c6⟩
structure AcRow (w : World) (A : Option Addr) (l : List Ac) : Prop where
 at_ : ∀ j (h : j < l.length), ∃ ad, A = some ad ∧ AcAt w (ad.add (j * 7)) l[j]
 wf : ∀ x ∈ l, (Lit.int .u8 x.what).wf = true ∧ (Lit.int .u32 x.n.f0).wf = true ∧ (Lit.int .u32 x.o).wf = true ∧ (Lit.int .i64 x.many).wf = true
theorem AcRow.below {w w' : World} {A : Option Addr} {l : List Ac} (h : AcRow w A l) (hb : Below w.heap.size w w') : AcRow w' A l :=
 ⟨fun j hj => by obtain ⟨ad, h1, h2⟩ := h.at_ j hj; exact ⟨ad, h1, h2.below hb⟩, h.wf⟩
def big (x : Ac) : Bool := decide (200 < x.many) && decide (x.many ≤ 1048576)
def gr (l : List Ac) : Bool := l.any big || decide (80 < l.length)
theorem great (A : Option Addr) (c : Nat) (l : List Ac) (w : World) (hA : AcRow w A l) (hl : l.length ≤ 9223372036854775807) :
  Calls Tryz.prog 22 #[.slice A l.length c] w fun e w' => e = .returned (.bool (gr l)) ∧ Below w.heap.size w w' := by
 have hu107 := Tryz.underlying61
 have H := Aside0.mk (And.intro hA hl)
 clear hA
 go_enter Tryz.func22, Tryz.ntmps22
 go_wp2_with fail
 go_loopg [3] l.length (fun kk v3 wr => ∃ j : Nat, kk = l.length - j ∧ v3 = .int .i64 j ∧ j ≤ l.length ∧ Below w.heap.size w wr ∧ ∀ x ∈ l.take j, big x = false)
 case atStart => exact ⟨0, rfl, rfl, Nat.zero_le _, Below.refl _ _, by simp⟩
 obtain ⟨j, rfl, rfl, hj, hB, hno⟩ := hrel
 by_cases hlt : j < l.length
 ·obtain ⟨ad, rfl, hAc⟩ := H.out.1.at_ j hlt
  have htk : l.take (j + 1) = l.take j ++ [l[j]] := by rw [List.take_add_one, List.getElem?_eq_getElem hlt]; rfl
  have hmem : l[j] ∈ l := List.getElem_mem hlt
  obtain ⟨x, hx⟩ : ∃ x, l[j] = x := ⟨_, rfl⟩
  rw [hx] at hAc htk hmem
  have d6 := (hAc.below hB).c6
  obtain ⟨m, hm⟩ : ∃ m, x.many = m := ⟨_, rfl⟩
  rw [hm] at d6
  have hlt' : (j : Int) < (l.length : Int) := by omega
  have hjl : (j : Int) + 1 ≤ 9223372036854775807 := by omega
  have X := Aside0.mk (And.intro hB (And.intro hno (And.intro htk (And.intro hmem hm))))
  clear hB hno htk hmem hm hx hAc
  by_cases h1 : (200 : Int) < m
  ·have t1 : decide ((200 : Int) < m) = true := decide_eq_true h1
   by_cases h2 : m ≤ 1048576
   ·have t2 : decide (m ≤ (1048576 : Int)) = true := decide_eq_true h2
    have G : Aside0 (gr l = true) := ⟨by
     unfold gr
     rw [List.any_eq_true.2 ⟨x, X.out.2.2.2.1, by unfold big; rw [X.out.2.2.2.2, t1, t2]; rfl⟩]
     rfl⟩
    clear h1 h2
    go_wp2
    go_ret
    exact ⟨by rw [G.out]; rfl, X.out.1⟩
   ·have t2 : decide (m ≤ (1048576 : Int)) = false := decide_eq_false h2
    have G : Aside0 (big x = false) := ⟨by unfold big; rw [X.out.2.2.2.2, t1, t2]; rfl⟩
    clear h1 h2
    go_wp2
    go_roundg (l.length - (j + 1))
    case measure => omega
    case rel => exact ⟨j + 1, rfl, by go_num, by omega, X.out.1, by rw [X.out.2.2.1]; intro y hy; rcases List.mem_append.1 hy with hy | hy; exact X.out.2.1 y hy; rw [List.mem_singleton.1 hy]; exact G.out⟩
  ·have t1 : decide ((200 : Int) < m) = false := decide_eq_false h1
   have G : Aside0 (big x = false) := ⟨by unfold big; rw [X.out.2.2.2.2, t1]; rfl⟩
   clear h1
   go_wp2
   go_roundg (l.length - (j + 1))
   case measure => omega
   case rel => exact ⟨j + 1, rfl, by go_num, by omega, X.out.1, by rw [X.out.2.2.1]; intro y hy; rcases List.mem_append.1 hy with hy | hy; exact X.out.2.1 y hy; rw [List.mem_singleton.1 hy]; exact G.out⟩
 ·have hlt' : ¬ (j : Int) < (l.length : Int) := by omega
  have htk : l.take j = l := List.take_of_length_le (by omega)
  rw [htk] at hno
  have G : Aside0 (gr l = decide ((80 : Int) < (l.length : Int))) := ⟨by
   unfold gr
   rw [List.any_eq_false.2 (fun x hx => by rw [hno x hx]; decide), Bool.false_or]
   exact decide_eq_decide.2 (by omega)⟩
  have X := Aside0.mk hB
  clear hB hno htk
  go_wp2
  go_ret
  exact ⟨by rw [G.out]; rfl, X.out⟩
theorem gr_small {l : List Ac} (h : gr l = false) : l.length ≤ 80 ∧ ∀ x ∈ l, big x = false := by
 unfold gr at h
 rw [Bool.or_eq_false_iff] at h
 exact ⟨by have := of_decide_eq_false h.2; omega, fun x hx => by have := List.any_eq_false.1 h.1 x hx; simpa using this⟩
end Go.Proofs.YthibppfdonepoaaGreat.LedT
set_option linter.unusedVariables false
namespace Go.Proofs.YthibppfdonepoaaGreat.NodeT
open Go.RowKit Go.Proofs.YthibppfdonepoaaGreat.XBut Go.Proofs.YthibppfdonepoaaGreat.PNodePlays Go.Proofs.YthibppfdonepoaaGreatW.PrintWords Go.Proofs.YthibppfdonepoaaGreatW.PrintLast
abbrev RN (w : World) (N : Nat) (ok : Nat → Prop) (v : Value) (xs : List S59) : Prop := Kd.R k59 59 w N ok v xs
abbrev V5 := Value × Value × Value × Value × Value
def JW (N : Nat) (Ws : World) (x : S59) (tk dr : List S59) (p : Addr) (b : V5) (l : Nat → Bool) (w' : World) : Prop :=
  if l 15 = true then ∃ wz, Below N Ws wz ∧ RN wz N (fun _ => True) b.2.2.2.2 ((tk ++ [x]) ++ dr) ∧ w' = wz.setCell p b.2.2.2.2
  else Below N Ws w' ∧
    (if l 13 = true then RN w' N (fun _ => True) b.2.2.2.2 ((tk ++ [x]) ++ dr)
     else if l 8 = true then RN w' N (fun _ => True) b.2.2.2.1 (tk ++ [x])
     else (l 7 = true → RN w' N (fun k => b.2.2.1.ownBlock = some k) b.2.2.1 [x]) ∧
          (if l 5 = true then RN w' N (fun k => l 7 = true → b.2.2.1.ownBlock ≠ some k) b.2.1 tk
           else l 0 = true → RN w' N (fun k => l 7 = true → b.2.2.1.ownBlock ≠ some k) b.1 []))
theorem JW.start {N : Nat} {Ws w' : World} {x : S59} {tk dr : List S59} {p : Addr} {b : V5} (h : Below N Ws w') : JW N Ws x tk dr p b (fun _ => false) w' := by
 unfold JW
 simp [h]
theorem JW.below {N : Nat} {Ws w' : World} {x : S59} {tk dr : List S59} {p : Addr} {b : V5} {l : Nat → Bool} (h : JW N Ws x tk dr p b l w') (h15 : l 15 = false) : Below N Ws w' := by
 unfold JW at h
 rw [if_neg (by rw [h15]; decide)] at h
 exact h.1
theorem JW.up {N : Nat} {Ws w' : World} {x : S59} {tk dr : List S59} {p : Addr} {b : V5} {l : Nat → Bool} (h : JW N Ws x tk dr p b l w') (i : Nat) (hi : i ≠ 0 ∧ i ≠ 5 ∧ i ≠ 7 ∧ i ≠ 8 ∧ i ≠ 13 ∧ i ≠ 15) : JW N Ws x tk dr p b (XInv.up l i) w' := by
 have e : ∀ j, j ≠ i → XInv.up l i j = l j := fun j hj => by unfold XInv.up; rw [if_neg hj]
 unfold JW at *
 rw [e 15 (Ne.symm hi.2.2.2.2.2), e 13 (Ne.symm hi.2.2.2.2.1), e 8 (Ne.symm hi.2.2.2.1), e 7 (Ne.symm hi.2.2.1), e 5 (Ne.symm hi.2.1), e 0 (Ne.symm hi.1)]
 exact h
theorem JW.s0 {N : Nat} {Ws w' w1 : World} {x : S59} {tk dr : List S59} {p : Addr} {b : V5} {l : Nat → Bool} (h : JW N Ws x tk dr p b l w') (h15 : l 15 = false) (h13 : l 13 = false) (h8 : l 8 = false) (h5 : l 5 = false)
  (v : Value) (hb : Below w'.heap.size w' w1) (hR : RN w1 w'.heap.size (fun _ => True) v []) (hN : N ≤ w'.heap.size) : JW N Ws x tk dr p (v, b.2) (XInv.up l 0) w1 := by
 have e : ∀ j, j ≠ 0 → XInv.up l 0 j = l j := fun j hj => by unfold XInv.up; rw [if_neg hj]
 unfold JW at *
 rw [e 15 (by decide), e 13 (by decide), e 8 (by decide), e 7 (by decide), e 5 (by decide)]
 rw [if_neg (by rw [h15]; decide), if_neg (by rw [h13]; decide), if_neg (by rw [h8]; decide), if_neg (by rw [h5]; decide)] at h ⊢
 obtain ⟨h1, h2, h3⟩ := h
 refine ⟨h1.trans (hb.mono hN), fun h7 => Kd.R_below (h2 h7) hb, fun _ => ?_⟩
 refine Kd.R_mono (Kd.R_lower (Kd.R_bound hR) hN) (fun k hk h7 he => ?_)
 have := Kd.R_lt (h2 h7) k he
 have := hk.2.1
 omega
theorem JW.row0 {N : Nat} {Ws w' : World} {x : S59} {tk dr : List S59} {p : Addr} {b : V5} {l : Nat → Bool} (h : JW N Ws x tk dr p b l w') (h15 : l 15 = false) (h13 : l 13 = false) (h8 : l 8 = false) (h5 : l 5 = false) (h0 : l 0 = true) : RN w' N (fun k => l 7 = true → b.2.2.1.ownBlock ≠ some k) b.1 [] := by
 unfold JW at h
 rw [if_neg (by rw [h15]; decide), if_neg (by rw [h13]; decide), if_neg (by rw [h8]; decide), if_neg (by rw [h5]; decide)] at h
 exact h.2.2 h0
theorem JW.row5 {N : Nat} {Ws w' : World} {x : S59} {tk dr : List S59} {p : Addr} {b : V5} {l : Nat → Bool} (h : JW N Ws x tk dr p b l w') (h15 : l 15 = false) (h13 : l 13 = false) (h8 : l 8 = false) (h5 : l 5 = true) : RN w' N (fun k => l 7 = true → b.2.2.1.ownBlock ≠ some k) b.2.1 tk := by
 unfold JW at h
 rw [if_neg (by rw [h15]; decide), if_neg (by rw [h13]; decide), if_neg (by rw [h8]; decide), if_pos h5] at h
 exact h.2.2
theorem JW.row7 {N : Nat} {Ws w' : World} {x : S59} {tk dr : List S59} {p : Addr} {b : V5} {l : Nat → Bool} (h : JW N Ws x tk dr p b l w') (h15 : l 15 = false) (h13 : l 13 = false) (h8 : l 8 = false) (h7 : l 7 = true) : RN w' N (fun k => b.2.2.1.ownBlock = some k) b.2.2.1 [x] := by
 unfold JW at h
 rw [if_neg (by rw [h15]; decide), if_neg (by rw [h13]; decide), if_neg (by rw [h8]; decide)] at h
 exact h.2.1 h7
theorem JW.row8 {N : Nat} {Ws w' : World} {x : S59} {tk dr : List S59} {p : Addr} {b : V5} {l : Nat → Bool} (h : JW N Ws x tk dr p b l w') (h15 : l 15 = false) (h13 : l 13 = false) (h8 : l 8 = true) : RN w' N (fun _ => True) b.2.2.2.1 (tk ++ [x]) := by
 unfold JW at h
 rw [if_neg (by rw [h15]; decide), if_neg (by rw [h13]; decide), if_pos h8] at h
 exact h.2
theorem JW.row13 {N : Nat} {Ws w' : World} {x : S59} {tk dr : List S59} {p : Addr} {b : V5} {l : Nat → Bool} (h : JW N Ws x tk dr p b l w') (h15 : l 15 = false) (h13 : l 13 = true) : RN w' N (fun _ => True) b.2.2.2.2 ((tk ++ [x]) ++ dr) := by
 unfold JW at h
 rw [if_neg (by rw [h15]; decide), if_pos h13] at h
 exact h.2
theorem JW.s5 {N : Nat} {Ws w' w1 : World} {x : S59} {tk dr : List S59} {p : Addr} {b : V5} {l : Nat → Bool} (h : JW N Ws x tk dr p b l w') (h15 : l 15 = false) (h13 : l 13 = false) (h8 : l 8 = false) (h5 : l 5 = false) (h0 : l 0 = true)
  (v : Value) (hR : RN w1 N (fun k => l 7 = true → b.2.2.1.ownBlock ≠ some k) v tk) (hB : Below N Ws w1) (hg : w'.grownBy w1 b.1.ownBlock) : JW N Ws x tk dr p (b.1, v, b.2.2) (XInv.up l 5) w1 := by
 have e : ∀ j, j ≠ 5 → XInv.up l 5 j = l j := fun j hj => by unfold XInv.up; rw [if_neg hj]
 have e5 : XInv.up l 5 5 = true := by unfold XInv.up; rw [if_pos rfl]
 have r0 := h.row0 h15 h13 h8 h5 h0
 unfold JW at *
 rw [e 15 (by decide), e 13 (by decide), e 8 (by decide), e 7 (by decide), e5, e 0 (by decide)]
 rw [if_neg (by rw [h15]; decide), if_neg (by rw [h13]; decide), if_neg (by rw [h8]; decide)] at h ⊢
 rw [if_pos rfl]
 refine ⟨hB, fun h7 => Kd.R_grown (h.2.1 h7) hg (fun k hk he => ?_), hR⟩
 exact r0.1 k he.symm h7 hk
theorem JW.s7 {N : Nat} {Ws w' w1 : World} {x : S59} {tk dr : List S59} {p : Addr} {b : V5} {l : Nat → Bool} (h : JW N Ws x tk dr p b l w') (h15 : l 15 = false) (h13 : l 13 = false) (h8 : l 8 = false) (h7 : l 7 = false)
  (v : Value) (hb : Below w'.heap.size w' w1) (hR : RN w1 w'.heap.size (fun _ => True) v [x]) (hN : N ≤ w'.heap.size) : JW N Ws x tk dr p (b.1, b.2.1, v, b.2.2.2) (XInv.up l 7) w1 := by
 have e : ∀ j, j ≠ 7 → XInv.up l 7 j = l j := fun j hj => by unfold XInv.up; rw [if_neg hj]
 have e7 : XInv.up l 7 7 = true := by unfold XInv.up; rw [if_pos rfl]
 have old : ∀ u (xs : List S59), RN w' N (fun k => l 7 = true → b.2.2.1.ownBlock ≠ some k) u xs → RN w1 N (fun k => True → v.ownBlock ≠ some k) u xs := fun u xs hu =>
  Kd.R_mono (Kd.R_below (Kd.R_bound hu) hb) (fun k hk _ he => by have := Kd.R_base hR k he; have := hk.2.2.1; omega)
 unfold JW at *
 rw [e 15 (by decide), e 13 (by decide), e 8 (by decide), e7, e 5 (by decide), e 0 (by decide)]
 rw [if_neg (by rw [h15]; decide), if_neg (by rw [h13]; decide), if_neg (by rw [h8]; decide)] at h ⊢
 obtain ⟨h1, h2, h3⟩ := h
 refine ⟨h1.trans (hb.mono hN), fun _ => Kd.R_lower (Kd.R_tight (by rfl) (Kd.R_mono hR fun _ _ => trivial) |> fun hz => Kd.R_mono hz fun k hk => hk.symm) hN, ?_⟩
 split at h3
 ·rename_i h5
  rw [if_pos h5]
  exact Kd.R_mono (old _ _ h3) (fun k hk _ => hk trivial)
 ·rename_i h5
  rw [if_neg h5]
  exact fun h0 => Kd.R_mono (old _ _ (h3 h0)) (fun k hk _ => hk trivial)
theorem JW.s8 {N : Nat} {Ws w' w1 : World} {x : S59} {tk dr : List S59} {p : Addr} {b : V5} {l : Nat → Bool} (h : JW N Ws x tk dr p b l w') (h15 : l 15 = false) (h13 : l 13 = false) (v : Value) (hR : RN w1 N (fun _ => True) v (tk ++ [x])) (hB : Below N Ws w1) : JW N Ws x tk dr p (b.1, b.2.1, b.2.2.1, v, b.2.2.2.2) (XInv.up l 8) w1 := by
 have e : ∀ j, j ≠ 8 → XInv.up l 8 j = l j := fun j hj => by unfold XInv.up; rw [if_neg hj]
 have e8 : XInv.up l 8 8 = true := by unfold XInv.up; rw [if_pos rfl]
 unfold JW
 rw [e 15 (by decide), e 13 (by decide), e8, if_neg (by rw [h15]; decide), if_neg (by rw [h13]; decide), if_pos rfl]
 exact ⟨hB, hR⟩
theorem JW.s13 {N : Nat} {Ws w' w1 : World} {x : S59} {tk dr : List S59} {p : Addr} {b : V5} {l : Nat → Bool} (h : JW N Ws x tk dr p b l w') (h15 : l 15 = false) (v : Value) (hR : RN w1 N (fun _ => True) v ((tk ++ [x]) ++ dr)) (hB : Below N Ws w1) : JW N Ws x tk dr p (b.1, b.2.1, b.2.2.1, b.2.2.2.1, v) (XInv.up l 13) w1 := by
 have e : ∀ j, j ≠ 13 → XInv.up l 13 j = l j := fun j hj => by unfold XInv.up; rw [if_neg hj]
 have e13 : XInv.up l 13 13 = true := by unfold XInv.up; rw [if_pos rfl]
 unfold JW
 rw [e 15 (by decide), e13, if_neg (by rw [h15]; decide), if_pos rfl]
 exact ⟨hB, hR⟩
theorem JW.s15 {N : Nat} {Ws w' w1 : World} {x : S59} {tk dr : List S59} {p : Addr} {b : V5} {l : Nat → Bool} (h : JW N Ws x tk dr p b l w') (h15 : l 15 = false) (h13 : l 13 = true) (hw : w1 = w'.setCell p b.2.2.2.2) : JW N Ws x tk dr p b (XInv.up l 15) w1 := by
 have e15 : XInv.up l 15 15 = true := by unfold XInv.up; rw [if_pos rfl]
 have r := h.row13 h15 h13
 have hb := h.below h15
 unfold JW
 rw [e15, if_pos rfl]
 exact ⟨w', hb, r, hw⟩
end Go.Proofs.YthibppfdonepoaaGreat.NodeT
