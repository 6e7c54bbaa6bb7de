/- Words on rows of numbers that a function sorts in place. No condition. -/
import Derived.Test.YthibppfdonepoaaCNodePlaysXBut
import Derived.Sort.Statements
import Derived.IntWalk
import Derived.Test.YthibppfdonepoaaProg
set_option linter.unusedVariables false
namespace Go.Proofs.Ythibppfdonepoaa.Srt
open Go.RowKit Go.Proofs.Ythibppfdonepoaa.XBut Go.Proofs.YthibppfdonepoaaW.PrintWords Go.Proofs.YthibppfdonepoaaW.PrintLast
/-- Block g holds the numbers d from its head on. -/
def Row (w : World) (g : Nat) (t : TypeId) (c : Nat) (d : Array Int) : Prop := ∃ cs : Array Value, cs.size = c ∧ w.heap[g]? = some (.cells cs t (0, 0)) ∧ d.size ≤ c ∧ ∀ j, j < d.size → cs[j]? = some (.int .u32 d[j]!)
theorem Row.lt {w : World} {g : Nat} {t : TypeId} {c : Nat} {d : Array Int} (h : Row w g t c d) : g < w.heap.size := by
  obtain ⟨cs, _, h1, _⟩ := h
  exact blk_lt h1
theorem Row.cell {w : World} {g : Nat} {t : TypeId} {c : Nat} {d : Array Int} (h : Row w g t c d) {j : Nat} (hj : j < d.size) : w.cell? ⟨g, j, none⟩ = some (.int .u32 d[j]!) := by
  obtain ⟨cs, _, h1, _, h2⟩ := h
  exact (blk_cell h1 j).trans (h2 j hj)
theorem Row.free {w : World} {g : Nat} {t : TypeId} {c : Nat} {d : Array Int} (h : Row w g t c d) (j : Nat) : w.frozen? ⟨g, j, none⟩ = false := by
  obtain ⟨cs, _, h1, _⟩ := h
  exact blk_frozen h1 j
theorem Row.but {w w' : World} {g : Nat} {t : TypeId} {c : Nat} {d : Array Int} {T : Nat → Prop} (h : Row w g t c d) (hb : But T w w') (hg : ¬ T g) : Row w' g t c d := by
  obtain ⟨cs, h0, h1, h2⟩ := h
  exact ⟨cs, h0, hb.heap h1 hg, h2⟩
theorem Row.drew {w : World} {g : Nat} {t : TypeId} {c : Nat} {d : Array Int} (h : Row w g t c d) : Row w.drew g t c d := h
theorem Row.set {w : World} {g : Nat} {t : TypeId} {c : Nat} {d : Array Int} (h : Row w g t c d) {j : Nat} (hj : j < d.size) (x : Int) : Row (w.setCell ⟨g, j, none⟩ (.int .u32 x)) g t c (d.setIfInBounds j x) := by
  obtain ⟨cs, h0, h1, h2, h3⟩ := h
  refine ⟨cs.setIfInBounds j (.int .u32 x), by simpa using h0, by simpa using blk_set h1 j (.int .u32 x), by simpa using h2, fun k hk => ?_⟩
  have hk' : k < d.size := by simpa using hk
  have hc : j < cs.size := by omega
  by_cases e : j = k
  · subst e
    rw [Array.getElem?_setIfInBounds_self_of_lt hc]
    simp [hj]
  · rw [Array.getElem?_setIfInBounds_ne e, h3 k hk']
    have : (d.setIfInBounds j x)[k]! = d[k]! := by
      rw [getElem!_pos _ k hk, getElem!_pos _ k hk', Array.getElem_setIfInBounds_ne hk' e]
    rw [this]
theorem Row.swp {w : World} {g : Nat} {t : TypeId} {c : Nat} {d : Array Int} (h : Row w g t c d) {i j : Nat} (hi : i < d.size) (hj : j < d.size) : Row ((w.setCell ⟨g, i, none⟩ (.int .u32 d[j]!)).setCell ⟨g, j, none⟩ (.int .u32 d[i]!)) g t c (Sort.swp d i j) :=
  (h.set hi _).set (by simpa using hj) _
theorem swp_comm (d : Array Int) (i j : Nat) (hi : i < d.size) (hj : j < d.size) : (d.setIfInBounds j d[i]!).setIfInBounds i d[j]! = Sort.swp d i j := by
  unfold Sort.swp
  by_cases e : i = j
  · subst e; rfl
  · exact Array.setIfInBounds_comm _ _ (fun h => e h.symm)
theorem Row.swp' {w : World} {g : Nat} {t : TypeId} {c : Nat} {d : Array Int} (h : Row w g t c d) {i j : Nat} (hi : i < d.size) (hj : j < d.size) : Row ((w.setCell ⟨g, j, none⟩ (.int .u32 d[i]!)).setCell ⟨g, i, none⟩ (.int .u32 d[j]!)) g t c (Sort.swp d i j) := by
  rw [← swp_comm d i j hi hj]
  exact (h.set hj _).set (by simpa using hi) _
theorem swp_size (d : Array Int) (i j : Nat) : (Sort.swp d i j).size = d.size := by simp [Sort.swp]
theorem But.two {g : Nat} (w : World) (i j : Nat) (x y : Value) : But (fun k => k = g) w ((w.setCell ⟨g, i, none⟩ x).setCell ⟨g, j, none⟩ y) := ((But.refl (fun k => k = g) w).setCell (b := g) rfl i x).setCell (b := g) rfl j y
theorem i64w {x : Int} (h : -9223372036854775808 ≤ x ∧ x ≤ 9223372036854775807) : IntKind.i64.wrap x = x := IntWalk.i64_in _ (by omega)
/-- A quiet call behind a quiet region. -/
theorem quiet2 {P : Program} {f : FuncId} {args : Array Value} {w : World} {a n : Nat} {v : Value} (h : Calls P f args (w.drewN (a + n)) fun e w' => e = .returned v ∧ w' = w.drewN (a + n)) :
    Calls P f args (w.drewN (a + n)) fun e w'' => e = .returned v ∧ ∃ m, w'' = w.drewN (a + m) := h.mono fun _ _ ⟨he, hm⟩ => ⟨he, n, hm⟩
/-- What a function that sorts in place leaves. -/
def Left (w : World) (g : Nat) (t : TypeId) (c : Nat) (d : Array Int) (e : Ending) (w' : World) : Prop := e = .returned (.tuple #[]) ∧ Row w' g t c d ∧ But (fun k => k = g) w w'
set_option maxHeartbeats 4000000 in
theorem isNaN (x : Int) (w : World) : Calls Try.prog 187 #[.int .u32 x] w fun e w' => e = .returned (.bool false) ∧ w' = w := by
  have h : (x != x) = false := by simp
  go_enter Try.func187, Try.ntmps187
  go_wp2
  go_ret
  exact ⟨rfl, rfl⟩
set_option maxHeartbeats 4000000 in
theorem less (x y : Int) (w : World) : Calls Try.prog 174 #[.int .u32 x, .int .u32 y] w fun e w' => e = .returned (.bool (Sort.ltInt x y)) ∧ w' = w := by
  obtain ⟨b, hb⟩ : ∃ b, decide (x < y) = b := ⟨_, rfl⟩
  have H := Aside0.mk hb
  have e : Sort.ltInt x y = b := hb
  rw [e]
  clear e
  cases b
  all_goals
    go_enter Try.func174, Try.ntmps174
    go_wp2_with (go_at_call 187; refine (isNaN _ _).mono ?_; rintro e w' ⟨rfl, rfl⟩)
    go_ret
    exact ⟨rfl, rfl⟩
theorem lessv {x y : Int} {l : Bool} (h : Sort.ltInt x y = l) (w : World) : Calls Try.prog 174 #[.int .u32 x, .int .u32 y] w fun e w' => e = .returned (.bool l) ∧ w' = w := by
  subst h
  exact less x y w
end Go.Proofs.Ythibppfdonepoaa.Srt
