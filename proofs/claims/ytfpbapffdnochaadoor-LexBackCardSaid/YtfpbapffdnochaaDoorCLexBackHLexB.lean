/- lex: the kinds of tokens; a token of bytes. (printed by genlexb.py) -/
import Derived.Test.YtfpbapffdnochaaDoorCLexBackHLexA
set_option linter.unusedVariables false
set_option linter.unusedSimpArgs false
namespace Go.Proofs.YtfpbapffdnochaaDoor.LexH
open Go.RowKit Go.Proofs.YtfpbapffdnochaaDoor.XBut Go.Proofs.YtfpbapffdnochaaDoorW.PrintWords Go.Proofs.YtfpbapffdnochaaDoorW.PrintLast Go.Proofs.YtfpbapffdnochaaDoor.LexM
theorem laid4 {W : World} {g : Nat} {a0 a1 a2 a3 : Value} {t : TypeId} (h : W.heap[g]? = some (.cells #[a0, a1, a2, a3] t (0, 0))) :
    (∀ a, (W.setCell ⟨g, 0, none⟩ a).cell? ⟨g, 0, none⟩ = some a) ∧ (∀ a b, ((W.setCell ⟨g, 0, none⟩ a).setCell ⟨g, 1, none⟩ b).cell? ⟨g, 1, none⟩ = some b) ∧
    (∀ a b c, (((W.setCell ⟨g, 0, none⟩ a).setCell ⟨g, 1, none⟩ b).setCell ⟨g, 2, none⟩ c).cell? ⟨g, 2, none⟩ = some c) ∧
    (∀ a b c d, ((((W.setCell ⟨g, 0, none⟩ a).setCell ⟨g, 1, none⟩ b).setCell ⟨g, 2, none⟩ c).setCell ⟨g, 3, none⟩ d).cell? ⟨g, 3, none⟩ = some d) :=
  ⟨fun a => (blk_cell (blk_set h 0 a) 0).trans rfl, fun a b => (blk_cell (blk_set (blk_set h 0 a) 1 b) 1).trans rfl, fun a b c => (blk_cell (blk_set (blk_set (blk_set h 0 a) 1 b) 2 c) 2).trans rfl,
    fun a b c d => (blk_cell (blk_set (blk_set (blk_set (blk_set h 0 a) 1 b) 2 c) 3 d) 3).trans rfl⟩
def kindsA (n : Nat) : Array Value := #[.int .u8 0, .func (.func 57) #[] #[], .int .u8 1, .func (.func 15) #[] #[], .int .u8 2, .func (.func 75) #[] #[.pointer (some ⟨n + 1, 0, none⟩)], .int .u8 3, .func (.func 75) #[] #[.pointer (some ⟨n + 1 + 1, 0, none⟩)], .int .u8 4, .func (.func 75) #[] #[.pointer (some ⟨n + 1 + 1 + 1, 0, none⟩)]]
theorem blk_new_at {w : World} {n : Nat} (h : n = w.heap.size) (o : Obj) : (w.alloc o).heap[n]? = some o := by
  subst h
  exact blk_new w o
set_option maxHeartbeats 4000000 in
theorem kinds (w : World) : Calls Tryd.prog 39 #[] w fun e w' => e = .returned (.agg (kindsA w.heap.size)) ∧ Below w.heap.size w w' ∧ w'.heap[w.heap.size + 1]? = some (.cells #[.string ⟨#[40]⟩] 9 (0, 0)) ∧ w'.heap[w.heap.size + 1 + 1]? = some (.cells #[.string ⟨#[41]⟩] 9 (0, 0)) ∧ w'.heap[w.heap.size + 1 + 1 + 1]? = some (.cells #[.string ⟨#[58]⟩] 9 (0, 0)) := by
  go_enter Tryd.func39, Tryd.ntmps39
  go_wp2_with (go_at_call 58; refine (just _ _).mono ?_; rintro e w1 ⟨rfl, rfl⟩)
  refine bodyPost_ret (v := .agg (kindsA w.heap.size)) (by simp [results, Tryd.results39, go_sem]; rfl) rfl ⟨rfl, ?_, ?_, ?_, ?_⟩
  · exact below_alloc (below_alloc (below_alloc (below_alloc (Below.refl _ _) _) _) _) _
  · exact blk_alloc (blk_alloc (blk_new_at (by simp) _) _) _
  · exact blk_alloc (blk_new_at (by simp) _) _
  · exact blk_new_at (by simp) _
theorem idx0 (n : Nat) (w : World) : (Instr.index 88 (.agg (kindsA n)) (.int .i64 0)).run Tryd.prog w = .ok (.agg #[.int .u8 0, .func (.func 57) #[] #[]]) w := by
  simp [Instr.index, run_underlying Tryd.underlying88, asIntOf, part, kindsA, go_sem]
theorem idx1 (n : Nat) (w : World) : (Instr.index 88 (.agg (kindsA n)) (.int .i64 1)).run Tryd.prog w = .ok (.agg #[.int .u8 1, .func (.func 15) #[] #[]]) w := by
  simp [Instr.index, run_underlying Tryd.underlying88, asIntOf, part, kindsA, go_sem]
theorem idx2 (n : Nat) (w : World) : (Instr.index 88 (.agg (kindsA n)) (.int .i64 2)).run Tryd.prog w = .ok (.agg #[.int .u8 2, .func (.func 75) #[] #[.pointer (some ⟨n + 1, 0, none⟩)]]) w := by
  simp [Instr.index, run_underlying Tryd.underlying88, asIntOf, part, kindsA, go_sem]
theorem idx3 (n : Nat) (w : World) : (Instr.index 88 (.agg (kindsA n)) (.int .i64 3)).run Tryd.prog w = .ok (.agg #[.int .u8 3, .func (.func 75) #[] #[.pointer (some ⟨n + 1 + 1, 0, none⟩)]]) w := by
  simp [Instr.index, run_underlying Tryd.underlying88, asIntOf, part, kindsA, go_sem]
theorem idx4 (n : Nat) (w : World) : (Instr.index 88 (.agg (kindsA n)) (.int .i64 4)).run Tryd.prog w = .ok (.agg #[.int .u8 4, .func (.func 75) #[] #[.pointer (some ⟨n + 1 + 1 + 1, 0, none⟩)]]) w := by
  simp [Instr.index, run_underlying Tryd.underlying88, asIntOf, part, kindsA, go_sem]
/-- What is asked of bytes, one of the five. -/
def tokV (s : ByteArray) (num : Int × Bool) : Option (Int × Int) :=
  if wordF s.toList then some (0, 0) else if num.2 then some (1, num.1) else if s.toList = [40] then some (2, 0) else if s.toList = [41] then some (3, 0) else if s.toList = [58] then some (4, 0) else none
theorem kinds1 (s : ByteArray) (w : World) (hs : s.size ≤ maxLen) : Calls Tryd.prog 57 #[.string s] w fun e w' => e = .returned (.tuple #[.int .i64 0, .bool (wordF s.toList)]) ∧ Below w.heap.size w w' := by
  have H := Aside0.mk (word s w hs)
  clear hs
  go_enter Tryd.func57, Tryd.ntmps57
  go_wp2_with (go_at_call 16; refine H.out.mono ?_; rintro e w1 ⟨rfl, hB⟩; have HB := Aside0.mk hB; clear hB)
  go_ret2
  exact ⟨rfl, HB.out⟩
/-- What one of the five answers, in whatever world that lies behind w. -/
abbrev Says (f : FuncId) (args : Array Value) (w : World) (n : Int) (b : Bool) : Prop := Aside0 (∀ w', Below w.heap.size w w' → Calls Tryd.prog f args w' fun e w2 => e = .returned (.tuple #[.int .i64 n, .bool b]) ∧ Below w'.heap.size w' w2)
section
attribute [local go_sem] idx0 idx1 idx2 idx3 idx4
/-- The world behind kinds(), called in token. -/
def AtKinds (w W : World) : Prop := W.heap[w.heap.size + 1 + 1]? = some (.cells #[.string ⟨#[40]⟩] 9 (0, 0)) ∧ W.heap[w.heap.size + 1 + 1 + 1]? = some (.cells #[.string ⟨#[41]⟩] 9 (0, 0)) ∧ W.heap[w.heap.size + 1 + 1 + 1 + 1]? = some (.cells #[.string ⟨#[58]⟩] 9 (0, 0))
set_option maxHeartbeats 8000000 in
set_option maxRecDepth 100000 in
theorem tokenW (s : ByteArray) (p n1 : Int) (b0 b1 b2 b3 b4 : Bool) (w : World) (C0 : ∀ W, AtKinds w W → Says 57 #[.string s] W 0 b0) (C1 : ∀ W, AtKinds w W → Says 15 #[.string s] W n1 b1) (C2 : ∀ W, AtKinds w W → Says 75 #[.string s, .pointer (some ⟨w.heap.size + 1 + 1, 0, none⟩)] W 0 b2) (C3 : ∀ W, AtKinds w W → Says 75 #[.string s, .pointer (some ⟨w.heap.size + 1 + 1 + 1, 0, none⟩)] W 0 b3) (C4 : ∀ W, AtKinds w W → Says 75 #[.string s, .pointer (some ⟨w.heap.size + 1 + 1 + 1 + 1, 0, none⟩)] W 0 b4) :
    Calls Tryd.prog 25 #[.string s, .int .i64 p] w fun e w' => e = .returned (if b0 then .tuple #[.agg #[.int .u8 0, .string s, .int .i64 0, .int .i64 p], .bool true] else if b1 then .tuple #[.agg #[.int .u8 1, .string s, .int .i64 n1, .int .i64 p], .bool true] else if b2 then .tuple #[.agg #[.int .u8 2, .string s, .int .i64 0, .int .i64 p], .bool true] else if b3 then .tuple #[.agg #[.int .u8 3, .string s, .int .i64 0, .int .i64 p], .bool true] else if b4 then .tuple #[.agg #[.int .u8 4, .string s, .int .i64 0, .int .i64 p], .bool true] else .tuple #[.agg #[.int .u8 0, .string ⟨#[]⟩, .int .i64 0, .int .i64 0], .bool false]) ∧ Below w.heap.size w w' := by
  replace C0 := Aside0.mk C0
  replace C1 := Aside0.mk C1
  replace C2 := Aside0.mk C2
  replace C3 := Aside0.mk C3
  replace C4 := Aside0.mk C4
  go_enter Tryd.func25, Tryd.ntmps25
  go_wp2_with fail
  refine (kinds _).mono ?_
  rintro e w1 ⟨rfl, hB, c1, c2, c3⟩
  have hz := blk_below (blk_new w _) hB
  have hb0 := below_step (below_alloc (Below.refl _ _) _) hB
  simp only [World.size_alloc] at c1 c2 c3
  have HZ := Aside0.mk (And.intro hz (And.intro hb0 (show AtKinds w w1 from ⟨c1, c2, c3⟩)))
  clear hz hb0 c1 c2 c3 hB
  dsimp only
  simp only [World.size_alloc]
  go_wp2_with fail
  refine wp_loop_rounds 6 ?_
  simp only [Code.rounds]
  obtain ⟨hz, hb0, hat⟩ := HZ.out
  replace C0 := C0.out w1 hat
  replace C1 := C1.out w1 hat
  replace C2 := C2.out w1 hat
  replace C3 := C3.out w1 hat
  replace C4 := C4.out w1 hat
  clear hat HZ
  have HB0 := Aside0.mk hb0
  clear hb0
  have hb := Below.refl w1.heap.size w1
  go_wp2_with (first
    | (go_at_call 57; (with_reducible refine (C0.out _ (below_alloc hb _)).mono ?_); rintro e v0 ⟨rfl, hb2⟩; have q0 : v0.cell? ⟨_, 0, none⟩ = some (.int .u8 0) := (blk_cell (blk_below (blk_new _ _) hb2) 0).trans rfl; replace hz := blk_below (blk_alloc hz _) hb2; have z00 := (blk_cell hz 0).trans rfl; have z01 := (blk_cell hz 1).trans rfl; have z02 := (blk_cell hz 2).trans rfl; have z03 := (blk_cell hz 3).trans rfl; have y0 := blk_frozen hz; replace hb := below_step (below_alloc hb _) hb2; clear hb2)
    | (go_at_call 15; (with_reducible refine (C1.out _ (below_alloc hb _)).mono ?_); rintro e v1 ⟨rfl, hb2⟩; have q1 : v1.cell? ⟨_, 0, none⟩ = some (.int .u8 1) := (blk_cell (blk_below (blk_new _ _) hb2) 0).trans rfl; replace hz := blk_below (blk_alloc hz _) hb2; have z10 := (blk_cell hz 0).trans rfl; have z11 := (blk_cell hz 1).trans rfl; have z12 := (blk_cell hz 2).trans rfl; have z13 := (blk_cell hz 3).trans rfl; have y1 := blk_frozen hz; replace hb := below_step (below_alloc hb _) hb2; clear hb2)
    | (go_at_call 75; (with_reducible refine (C2.out _ (below_alloc hb _)).mono ?_); rintro e v2 ⟨rfl, hb2⟩; have q2 : v2.cell? ⟨_, 0, none⟩ = some (.int .u8 2) := (blk_cell (blk_below (blk_new _ _) hb2) 0).trans rfl; replace hz := blk_below (blk_alloc hz _) hb2; have z20 := (blk_cell hz 0).trans rfl; have z21 := (blk_cell hz 1).trans rfl; have z22 := (blk_cell hz 2).trans rfl; have z23 := (blk_cell hz 3).trans rfl; have y2 := blk_frozen hz; replace hb := below_step (below_alloc hb _) hb2; clear hb2)
    | (go_at_call 75; (with_reducible refine (C3.out _ (below_alloc hb _)).mono ?_); rintro e v3 ⟨rfl, hb2⟩; have q3 : v3.cell? ⟨_, 0, none⟩ = some (.int .u8 3) := (blk_cell (blk_below (blk_new _ _) hb2) 0).trans rfl; replace hz := blk_below (blk_alloc hz _) hb2; have z30 := (blk_cell hz 0).trans rfl; have z31 := (blk_cell hz 1).trans rfl; have z32 := (blk_cell hz 2).trans rfl; have z33 := (blk_cell hz 3).trans rfl; have y3 := blk_frozen hz; replace hb := below_step (below_alloc hb _) hb2; clear hb2)
    | (go_at_call 75; (with_reducible refine (C4.out _ (below_alloc hb _)).mono ?_); rintro e v4 ⟨rfl, hb2⟩; have q4 : v4.cell? ⟨_, 0, none⟩ = some (.int .u8 4) := (blk_cell (blk_below (blk_new _ _) hb2) 0).trans rfl; replace hz := blk_below (blk_alloc hz _) hb2; have z40 := (blk_cell hz 0).trans rfl; have z41 := (blk_cell hz 1).trans rfl; have z42 := (blk_cell hz 2).trans rfl; have z43 := (blk_cell hz 3).trans rfl; have y4 := blk_frozen hz; replace hb := below_step (below_alloc hb _) hb2; clear hb2))
  all_goals
    refine bodyPost_ret ?_ rfl ⟨rfl, ?_⟩
    · obtain ⟨s0, s1, s2, s3⟩ := laid4 hz
      simp [results, Tryd.results25, go_sem, s0, s1, s2, s3]; done
    · have hl := HB0.out.size
      exact below_set (below_set (below_set (below_set (below_step HB0.out hb) (Nat.le_refl _)) (Nat.le_refl _)) (Nat.le_refl _)) (Nat.le_refl _)
end
end Go.Proofs.YtfpbapffdnochaaDoor.LexH
