/- liveryref06.Same: two rows of tokens. -/
import Derived.Test.YtfpbapffdnochaaDoorCLexBackHLexE
import Derived.Deep.RegionHeld3
import Derived.Test.YtfpbapffdnochaaDoorCLexBackW
set_option linter.unusedVariables false
set_option linter.unusedSimpArgs false
namespace Go.Proofs.YtfpbapffdnochaaDoor.LexH
open Go.RowKit Go.Proofs.YtfpbapffdnochaaDoor.XBut Go.Proofs.YtfpbapffdnochaaDoorW.PrintWords Go.Proofs.YtfpbapffdnochaaDoorW.PrintLast Go.Proofs.YtfpbapffdnochaaDoor.LexM
abbrev T4 := Int × ByteArray × Int × Int
/-- Cells of a row of tokens, all four of each. -/
structure At4 (w : World) (ad : Addr) (x : T4) : Prop where
  c0 : w.cell? ad = some (.int .u8 x.1)
  c1 : w.cell? ⟨ad.block, ad.off + 1, none⟩ = some (.string x.2.1)
  c2 : w.cell? ⟨ad.block, ad.off + 2, none⟩ = some (.int .i64 x.2.2.1)
  c3 : w.cell? ⟨ad.block, ad.off + 3, none⟩ = some (.int .i64 x.2.2.2)
theorem At4.below {w w' : World} {ad : Addr} {x : T4} (h : At4 w ad x) (hb : Below w.heap.size w w') : At4 w' ad x := by
  have l1 := World.block_lt_of_cell? w _ h.c0
  exact ⟨(hb.cell l1).trans h.c0, (hb.cell (p := ⟨ad.block, ad.off + 1, none⟩) l1).trans h.c1, (hb.cell (p := ⟨ad.block, ad.off + 2, none⟩) l1).trans h.c2, (hb.cell (p := ⟨ad.block, ad.off + 3, none⟩) l1).trans h.c3⟩
theorem eqT (d : Nat) (w : World) (x0 y0 : Int) (x1 y1 : ByteArray) (x2 y2 : Int) (x3 y3 : Int) :
    (Op.equalIn (d + 2) 30 (.agg #[.int .u8 x0, .string x1, .int .i64 x2, .int .i64 x3]) (.agg #[.int .u8 y0, .string y1, .int .i64 y2, .int .i64 y3])).run Tryd.prog w = .ok (x0 == y0 && (x1.toList == y1.toList && (x2 == y2 && (x3 == y3)))) w := by
  refine eqA_of Tryd.underlying30 (by kernel_rfl) ?_
  refine eqf_cons (by rfl) (by go_simp; rfl) (by go_simp; rfl) (by go_simp) ?_
  refine eqf_cons (by rfl) (by go_simp; rfl) (by go_simp; rfl) (by go_simp) ?_
  refine eqf_cons (by rfl) (by go_simp; rfl) (by go_simp; rfl) (by go_simp) ?_
  exact eqf_last (by rfl) (by go_simp; rfl) (by go_simp; rfl) (by go_simp)
theorem neqT (w : World) (x0 y0 : Int) (x1 y1 : ByteArray) (x2 y2 : Int) (x3 y3 : Int) (b : Bool) (hb : (x0 == y0 && (x1.toList == y1.toList && (x2 == y2 && (x3 == y3)))) = b) :
    (binOp .neq 30 (.agg #[.int .u8 x0, .string x1, .int .i64 x2, .int .i64 x3]) (.agg #[.int .u8 y0, .string y1, .int .i64 y2, .int .i64 y3])).run Tryd.prog w = .ok (.bool (!b)) w := by
  have h : (Op.equal 30 (.agg #[.int .u8 x0, .string x1, .int .i64 x2, .int .i64 x3]) (.agg #[.int .u8 y0, .string y1, .int .i64 y2, .int .i64 y3])).run Tryd.prog w = .ok (x0 == y0 && (x1.toList == y1.toList && (x2 == y2 && (x3 == y3)))) w := eqT 9998 w x0 y0 x1 y1 x2 y2 x3 y3
  rw [hb] at h
  simp [binOp, go_sem, h]
def same1 (p : Bool) (x y : T4) : Bool := (x.1 == y.1) && (x.2.1.toList == y.2.1.toList) && (x.2.2.1 == y.2.2.1) && (!p || (x.2.2.2 == y.2.2.2))
def sameAll (p : Bool) : List T4 → List T4 → Bool
  | [], [] => true
  | x :: l, y :: m => same1 p x y && sameAll p l m
  | _, _ => false
theorem sameAll_len (p : Bool) : ∀ (l m : List T4), l.length ≠ m.length → sameAll p l m = false := by
  intro l
  induction l with
  | nil =>
    intro m h
    cases m with
    | nil => exact absurd rfl h
    | cons => rfl
  | cons x l ih =>
    intro m h
    cases m with
    | nil => rfl
    | cons y m =>
      unfold sameAll
      rw [ih m (fun e => h (by simp [e])), Bool.and_false]
theorem sameAll_step (p : Bool) (l m : List T4) (k : Nat) (h1 : k < l.length) (h2 : k < m.length) : sameAll p (l.drop k) (m.drop k) = (same1 p l[k] m[k] && sameAll p (l.drop (k + 1)) (m.drop (k + 1))) := by
  rw [List.drop_eq_getElem_cons h1, List.drop_eq_getElem_cons h2]
  rfl
set_option maxHeartbeats 8000000 in
set_option maxRecDepth 100000 in
theorem sameW (A B : Option Addr) (c d : Nat) (l m : List T4) (p : Bool) (w : World) (hl : l.length ≤ maxLen) (hA : ∀ j (h : j < l.length), ∃ ad, A = some ad ∧ At4 w (ad.add (j * 4)) l[j]) (hB : ∀ j (h : j < m.length), ∃ ad, B = some ad ∧ At4 w (ad.add (j * 4)) m[j]) :
    Calls Tryd.prog 12 #[.slice A l.length c, .slice B m.length d, .bool p] w fun e w' => e = .returned (.bool (sameAll p l m)) ∧ Below w.heap.size w w' := by
  unfold maxLen at hl
  have HH := Aside0.mk (And.intro hA hB)
  clear hA hB
  by_cases hlen : l.length = m.length
  · rw [← hlen]
    have HL := Aside0.mk hlen
    clear hlen
    go_enter Tryd.func12, Tryd.ntmps12
    go_wp2_with fail
    go_loopg [7] l.length (fun kk i wr => ∃ k : Nat, kk = l.length - k ∧ i = .int .i64 k ∧ k ≤ l.length ∧ Aside0 (sameAll p l m = sameAll p (l.drop k) (m.drop k)) ∧ Aside0 (Below w.heap.size w wr))
    case atStart => exact ⟨0, rfl, rfl, Nat.zero_le _, ⟨rfl⟩, ⟨Below.refl _ _⟩⟩
    obtain ⟨k, rfl, rfl, hk, HS, HB⟩ := hrel
    by_cases hlt : k < l.length
    · have hlt2 : k < m.length := by have := HL.out; omega
      obtain ⟨ad, rfl, hT⟩ := HH.out.1 k hlt
      obtain ⟨bd, rfl, hU⟩ := HH.out.2 k hlt2
      have hT2 := hT.below HB.out
      have hU2 := hU.below HB.out
      obtain ⟨t0, t1, t2, t3⟩ := hT2
      obtain ⟨u0, u1, u2, u3⟩ := hU2
      have lt1 := World.block_lt_of_cell? wr _ t0
      have lu1 := World.block_lt_of_cell? wr _ u0
      have X := Aside0.mk (And.intro hT hU)
      clear hT hU
      have hx : l[k] = l[k] := rfl
      generalize hX : l[k] = x at t0 t1 t2 t3
      generalize hY : m[k] = y at u0 u1 u2 u3
      obtain ⟨x0, x1, x2, x3⟩ := x
      obtain ⟨y0, y1, y2, y3⟩ := y
      simp only at t0 t1 t2 t3 u0 u1 u2 u3
      have XY := Aside0.mk (And.intro hX hY)
      clear hX hY hx
      go_upto_region 6 with (fail)
      go_region_held3 (fun w' => w'.cell? (ad.add (k * 4)) = some (.int .u8 x0) ∧ w'.cell? ⟨(ad.add (k * 4)).block, (ad.add (k * 4)).off + 1, none⟩ = some (.string x1) ∧ w'.cell? ⟨(ad.add (k * 4)).block, (ad.add (k * 4)).off + 2, none⟩ = some (.int .i64 x2) ∧ w'.cell? ⟨(ad.add (k * 4)).block, (ad.add (k * 4)).off + 3, none⟩ = some (.int .i64 x3) ∧
        w'.cell? (bd.add (k * 4)) = some (.int .u8 y0) ∧ w'.cell? ⟨(bd.add (k * 4)).block, (bd.add (k * 4)).off + 1, none⟩ = some (.string y1) ∧ w'.cell? ⟨(bd.add (k * 4)).block, (bd.add (k * 4)).off + 2, none⟩ = some (.int .i64 y2) ∧ w'.cell? ⟨(bd.add (k * 4)).block, (bd.add (k * 4)).off + 3, none⟩ = some (.int .i64 y3)) (go_keep) (fail)
      all_goals
        have hstep := HS.out.trans (sameAll_step p l m k hlt hlt2)
        rw [XY.out.1, XY.out.2] at hstep
        replace HS := Aside0.mk hstep
        clear hstep
        cases p
        · obtain ⟨b, hb⟩ : ∃ b, (x0 == y0 && (x1.toList == y1.toList && (x2 == y2 && (y3 == y3)))) = b := ⟨_, rfl⟩
          have hne := fun W => neqT W x0 y0 x1 y1 x2 y2 y3 y3 b hb
          have E : Aside0 (same1 false (x0, x1, x2, x3) (y0, y1, y2, y3) = b) := ⟨by rw [← hb]; unfold same1; simp [Bool.and_assoc]⟩
          clear hb
          cases b
          · go_wp2_with fail
            go_ret
            exact ⟨by rw [HS.out, E.out]; rfl, below_drew (below_alloc (below_alloc HB.out _) _)⟩
          · go_wp2_with fail
            go_roundg (l.length - (k + 1))
            case measure => omega
            case rel => exact ⟨k + 1, rfl, by go_num, by omega, ⟨by rw [HS.out, E.out]; rfl⟩, ⟨below_drew (below_alloc (below_alloc HB.out _) _)⟩⟩
        · obtain ⟨b, hb⟩ : ∃ b, (x0 == y0 && (x1.toList == y1.toList && (x2 == y2 && (x3 == y3)))) = b := ⟨_, rfl⟩
          have hne := fun W => neqT W x0 y0 x1 y1 x2 y2 x3 y3 b hb
          have E : Aside0 (same1 true (x0, x1, x2, x3) (y0, y1, y2, y3) = b) := ⟨by rw [← hb]; unfold same1; simp [Bool.and_assoc]⟩
          clear hb
          cases b
          · go_wp2_with fail
            go_ret
            exact ⟨by rw [HS.out, E.out]; rfl, below_drew (below_alloc (below_alloc HB.out _) _)⟩
          · go_wp2_with fail
            go_roundg (l.length - (k + 1))
            case measure => omega
            case rel => exact ⟨k + 1, rfl, by go_num, by omega, ⟨by rw [HS.out, E.out]; rfl⟩, ⟨below_drew (below_alloc (below_alloc HB.out _) _)⟩⟩
    · have hke : k = l.length := by omega
      have X := Aside0.mk hke
      clear hke
      go_wp2_with fail
      go_ret
      refine ⟨?_, HB.out⟩
      have h1 : l.drop k = [] := List.drop_eq_nil_of_le (by have := X.out; omega)
      have h2 : m.drop k = [] := List.drop_eq_nil_of_le (by have := X.out; have := HL.out; omega)
      rw [HS.out, h1, h2]
      rfl
  · have hlb : (l.length == m.length) = false := by simpa using hlen
    have E := Aside0.mk (sameAll_len p l m hlen)
    clear hlen
    go_enter Tryd.func12, Tryd.ntmps12
    go_wp2_with fail
    go_ret
    exact ⟨by rw [E.out]; rfl, Below.refl _ _⟩
end Go.Proofs.YtfpbapffdnochaaDoor.LexH
