-- printed by this session's own driver over the kit's printer: Lean checks it
import Derived.Test.YtkaokiiooakleaaCShapeOne0
import Derived.Test.YtkaokiiooakleaaCShapeOne1
namespace Go.Proofs.Ytkaokiiooakleaa.PShapeOne
open Go.RowKit Go.Proofs.YtkaokiiooakleaaW.PrintWords Go.Proofs.YtkaokiiooakleaaW.PrintLast Go.Proofs.YtkaokiiooakleaaW.PrintMore
attribute [local go_sem] max2_int min2_int max_two min_two max_three min_three max_four min_four   -- for this text's walks alone
set_option linter.unusedVariables false
set_option linter.unusedSimpArgs false

/-! GIVEN -/
/-! ### shape_tree: function 66 -/
namespace ShapeM
section
variable (E : Nat → Nat → Int → Int) (K : Nat → Nat) (C : Nat → Int)
/-- The kind of the part that a row stands in. -/
def kindP (p : Int) : Int := if p < 0 then 0 else C p.toNat
/-- k terms one behind the other, in a part, at a depth: where they end; what is met. -/
inductive Row : Nat → Nat → Int → Nat → Nat → List (Nat × Int × Nat) → Prop
  | nil (a : Nat) (p : Int) (d : Nat) : Row a 0 p d a []
  | cons {a k d mid b : Nat} {p : Int} {L M : List (Nat × Int × Nat)} : E a d (kindP C p) = 0 → Row (a + 1) (K a) a (d + 1) mid L → Row mid k p d b M → Row a (k + 1) p d b ((a, p, d) :: (L ++ M))
/-- Such terms that may not be: where, and why. -/
inductive Fail : Nat → Nat → Int → Nat → Nat → Int → Prop
  | here {a k d : Nat} {p : Int} : E a d (kindP C p) ≠ 0 → Fail a (k + 1) p d a (E a d (kindP C p))
  | kid {a k d wh : Nat} {p e : Int} : E a d (kindP C p) = 0 → Fail (a + 1) (K a) a (d + 1) wh e → Fail a (k + 1) p d wh e
  | next {a k d mid wh : Nat} {p e : Int} {L : List (Nat × Int × Nat)} : E a d (kindP C p) = 0 → Row E K C (a + 1) (K a) a (d + 1) mid L → Fail mid k p d wh e → Fail a (k + 1) p d wh e
def pops : List (Nat × Nat) → List (Nat × Nat)
  | [] => []
  | (p, x) :: T => if x = 0 then pops T else (p, x) :: T
def dec : List (Nat × Nat) → List (Nat × Nat)
  | [] => []
  | (p, x) :: T => (p, x - 1) :: T
def parS : List (Nat × Nat) → Int
  | [] => -1
  | (p, _) :: _ => p
/-- The walk from a place on: what is met; where it ends, and why. -/
def go : Nat → Nat → List (Nat × Nat) → List (Nat × Int × Nat) × Nat × Int
  | f, a, S => match f, pops S with
    | _, [] => ([], a, 0)
    | 0, _ :: _ => ([], a, 81)
    | f + 1, s :: T => if E a (T.length + 2) (kindP C s.1) = 0 then
        let r := go f (a + 1) ((a, K a) :: dec (s :: T))
        ((a, (s.1 : Int), T.length + 2) :: r.1, r.2)
      else ([], a, E a (T.length + 2) (kindP C s.1))
/-- The whole walk. -/
def walk (f : Nat) : List (Nat × Int × Nat) × Nat × Int :=
  if E 0 1 0 = 0 then
    let r := go E K C f 1 [(0, K 0)]
    ((0, -1, 1) :: r.1, r.2)
  else ([], 0, E 0 1 0)
variable {E K C}
theorem Row.le {a k d b : Nat} {p : Int} {L : List (Nat × Int × Nat)} (h : Row E K C a k p d b L) : a + k ≤ b := by
  induction h with
  | nil => omega
  | cons _ _ _ h1 h2 => omega
theorem Fail.le {a k d wh : Nat} {p e : Int} (h : Fail E K C a k p d wh e) : a ≤ wh := by
  induction h with
  | here _ => omega
  | kid _ _ h1 => omega
  | next _ h0 _ h1 => have := h0.le; omega
theorem go_pop (f a p : Nat) (T : List (Nat × Nat)) : go E K C f a ((p, 0) :: T) = go E K C f a T := by
  unfold go
  have : pops ((p, 0) :: T) = pops T := by simp [pops]
  rw [this]
theorem go_nil (f a : Nat) : go E K C f a [] = ([], a, 0) := by
  unfold go
  cases f <;> simp [pops]
theorem go_step (f a p k : Nat) (T : List (Nat × Nat)) (h : E a (T.length + 2) (kindP C p) = 0) : go E K C (f + 1) a ((p, k + 1) :: T) = ((a, (p : Int), T.length + 2) :: (go E K C f (a + 1) ((a, K a) :: (p, k) :: T)).1, (go E K C f (a + 1) ((a, K a) :: (p, k) :: T)).2) := by
  conv => lhs; unfold go
  simp [pops, dec, h]
theorem go_bad (f a p k : Nat) (T : List (Nat × Nat)) (h : E a (T.length + 2) (kindP C p) ≠ 0) : go E K C (f + 1) a ((p, k + 1) :: T) = ([], a, E a (T.length + 2) (kindP C p)) := by
  conv => lhs; unfold go
  simp [pops, h]
theorem go_row {a k d b : Nat} {p : Int} {L : List (Nat × Int × Nat)} (h : Row E K C a k p d b L) : ∀ (f q : Nat) (T : List (Nat × Nat)), p = q → d = T.length + 2 →
    go E K C (f + (b - a)) a ((q, k) :: T) = (L ++ (go E K C f b T).1, (go E K C f b T).2) := by
  induction h with
  | nil a p d => intro f q T hp hd; simp [go_pop]
  | @cons a k d mid b p L M he h1 h2 i1 i2 =>
    intro f q T hp hd
    subst hp hd
    have l1 := h1.le
    have l2 := h2.le
    have e : f + (b - a) = (f + (b - mid)) + (mid - (a + 1)) + 1 := by omega
    rw [e, go_step _ _ _ _ _ he, i1 (f + (b - mid)) a ((q, k) :: T) rfl (by simp), i2 f q T rfl rfl]
    simp
theorem go_fail {a k d wh : Nat} {p e : Int} (h : Fail E K C a k p d wh e) : ∀ (f q : Nat) (T : List (Nat × Nat)), p = q → d = T.length + 2 → wh < f + a →
    (go E K C f a ((q, k) :: T)).2 = (wh, e) := by
  induction h with
  | @here a k d p he =>
    intro f q T hp hd hf
    subst hp hd
    obtain ⟨f, rfl⟩ : ∃ f', f = f' + 1 := ⟨f - 1, by omega⟩
    rw [go_bad _ _ _ _ _ he]
  | @kid a k d wh p e he h1 i1 =>
    intro f q T hp hd hf
    subst hp hd
    have := h1.le
    obtain ⟨f, rfl⟩ : ∃ f', f = f' + 1 := ⟨f - 1, by omega⟩
    rw [go_step _ _ _ _ _ he]
    exact i1 f a ((q, k) :: T) rfl (by simp) (by omega)
  | @next a k d mid wh p e L he h1 h2 i2 =>
    intro f q T hp hd hf
    subst hp hd
    have l1 := h1.le
    have l2 := h2.le
    obtain ⟨f', hf'⟩ : ∃ f', f = f' + (mid - (a + 1)) + 1 := ⟨f - (mid - (a + 1)) - 1, by omega⟩
    subst hf'
    rw [go_step _ _ _ _ _ he, go_row h1 f' a ((q, k) :: T) rfl (by simp)]
    exact i2 f' q T rfl rfl (by omega)
/-- A whole walk that goes well. -/
theorem walk_row {b : Nat} {L : List (Nat × Int × Nat)} (h : Row E K C 0 1 (-1) 1 b L) {f : Nat} (hf : b ≤ f + 1) : walk E K C f = (L, b, 0) := by
  cases h with
  | cons he h1 h2 =>
    cases h2
    have he' : E 0 1 0 = 0 := he
    unfold walk
    have l1 := h1.le
    obtain ⟨f', hf'⟩ : ∃ f', f = f' + (b - 1) := ⟨f - (b - 1), by omega⟩
    rw [if_pos he', hf', go_row h1 f' 0 [] rfl rfl, go_nil]
/-- One that doesn't. -/
theorem walk_fail {wh : Nat} {e : Int} (h : Fail E K C 0 1 (-1) 1 wh e) {f : Nat} (hf : wh < f + 1) : (walk E K C f).2 = (wh, e) := by
  cases h with
  | here he =>
    have he' : E 0 1 0 ≠ 0 := he
    unfold walk
    rw [if_neg he']
    rfl
  | kid he h1 =>
    have he' : E 0 1 0 = 0 := he
    unfold walk
    rw [if_pos he']
    exact go_fail h1 f 0 [] rfl rfl (by omega)
  | next he h1 h2 => cases h2
/-- Terms behind each other, whatever stands around them. -/
inductive Span (K : Nat → Nat) : Nat → Nat → Nat → Prop
  | nil (a : Nat) : Span K a 0 a
  | cons {a k mid b : Nat} : Span K (a + 1) (K a) mid → Span K mid k b → Span K a (k + 1) b
theorem Row.span {a k d b : Nat} {p : Int} {L : List (Nat × Int × Nat)} (h : Row E K C a k p d b L) : Span K a k b := by
  induction h with
  | nil => exact .nil _
  | cons _ _ _ h1 h2 => exact .cons h1 h2
theorem Span.le {a k b : Nat} (h : Span K a k b) : a + k ≤ b := by
  induction h with
  | nil => omega
  | cons _ _ h1 h2 => omega
theorem Span.fix {a k b : Nat} (h : Span K a k b) : ∀ {c : Nat}, Span K a k c → b = c := by
  induction h with
  | nil => intro c h; cases h; rfl
  | cons _ _ i1 i2 =>
    intro c h
    cases h with
    | cons h1 h2 => have := i1 h1; subst this; exact i2 h2
/-- Where the terms of a row begin. -/
inductive Tops (K : Nat → Nat) : Nat → Nat → List Nat → Prop
  | nil (a : Nat) : Tops K a 0 []
  | cons {a k mid : Nat} {L : List Nat} : Span K (a + 1) (K a) mid → Tops K mid k L → Tops K a (k + 1) (a :: L)
theorem Tops.fix {a k : Nat} {L : List Nat} (h : Tops K a k L) : ∀ {M : List Nat}, Tops K a k M → L = M := by
  induction h with
  | nil => intro c h; cases h; rfl
  | cons h1 _ i2 =>
    intro c h
    cases h with
    | cons g1 g2 => have := h1.fix g1; subst this; rw [i2 g2]
theorem Row.places {a k d b : Nat} {p : Int} {L : List (Nat × Int × Nat)} (h : Row E K C a k p d b L) : L.map (·.1) = List.range' a (b - a) := by
  induction h with
  | nil => simp
  | @cons a k d mid b p L M he h1 h2 i1 i2 =>
    have l1 := h1.le
    have l2 := h2.le
    rw [List.map_cons, List.map_append, i1, i2]
    rw [show b - a = (mid - (a + 1) + (b - mid)) + 1 by omega, List.range'_succ, ← List.range'_append_1, show a + 1 + (mid - (a + 1)) = mid by omega]
theorem Row.mem {a k d b : Nat} {p : Int} {L : List (Nat × Int × Nat)} (h : Row E K C a k p d b L) {x : Nat × Int × Nat} (hx : x ∈ L) : a ≤ x.1 ∧ x.1 < b := by
  have : x.1 ∈ L.map (·.1) := List.mem_map_of_mem hx
  rw [h.places] at this
  have := List.mem_range'_1.1 this
  have := h.le
  omega
/-- The parent of what is met is the row's, or one of the row. -/
theorem Row.pars {a k d b : Nat} {p : Int} {L : List (Nat × Int × Nat)} (h : Row E K C a k p d b L) : ∀ x ∈ L, x.2.1 = p ∨ (a : Int) ≤ x.2.1 ∧ x.2.1 < b := by
  induction h with
  | nil => intro x hx; cases hx
  | @cons a k d mid b p L M he h1 h2 i1 i2 =>
    have l1 := h1.le
    have l2 := h2.le
    intro x hx
    rcases List.mem_cons.1 hx with rfl | hx
    · exact .inl rfl
    · rcases List.mem_append.1 hx with hx | hx
      · rcases i1 x hx with h | h
        · right; omega
        · right; omega
      · rcases i2 x hx with h | h
        · exact .inl h
        · right; omega
/-- The children of a part out of what is met. -/
def kidsOf (L : List (Nat × Int × Nat)) (q : Int) : List Nat := (L.filter fun x => x.2.1 == q).map (·.1)
theorem kidsOf_append (L M : List (Nat × Int × Nat)) (q : Int) : kidsOf (L ++ M) q = kidsOf L q ++ kidsOf M q := by simp [kidsOf]
theorem kidsOf_none {L : List (Nat × Int × Nat)} {q : Int} (h : ∀ x ∈ L, x.2.1 ≠ q) : kidsOf L q = [] := by
  unfold kidsOf
  rw [List.filter_eq_nil_iff.2 (fun x hx => by simpa using h x hx)]
  rfl
theorem Row.tops {a k d b : Nat} {p : Int} {L : List (Nat × Int × Nat)} (h : Row E K C a k p d b L) : p < a → Tops K a k (kidsOf L p) := by
  induction h with
  | nil => intro _; exact .nil _
  | @cons a k d mid b p L M he h1 h2 i1 i2 =>
    intro hp
    have l1 := h1.le
    have : kidsOf ((a, p, d) :: (L ++ M)) p = a :: kidsOf M p := by
      have e : kidsOf L p = [] := kidsOf_none fun x hx => by
        rcases h1.pars x hx with h | h <;> omega
      have := kidsOf_append L M p
      rw [e] at this
      unfold kidsOf at this ⊢
      rw [List.filter_cons_of_pos (by simp), List.map_cons, this]
      rfl
    rw [this]
    exact .cons h1.span (i2 (by omega))
/-- The children of a part of the row are the tops of its own row. -/
theorem Row.kids {a k d b : Nat} {p : Int} {L : List (Nat × Int × Nat)} (h : Row E K C a k p d b L) : p < a → ∀ q : Nat, a ≤ q → q < b → Tops K (q + 1) (K q) (kidsOf L q) := by
  induction h with
  | nil => intro _ q h1 h2; omega
  | @cons a k d mid b p L M he h1 h2 i1 i2 =>
    intro hp q ha hb
    have l1 := h1.le
    have l2 := h2.le
    have e0 : kidsOf ((a, p, d) :: (L ++ M)) q = kidsOf L q ++ kidsOf M q := by
      rw [← kidsOf_append]
      unfold kidsOf
      rw [List.filter_cons_of_neg (by simp; omega)]
    rw [e0]
    by_cases hq : q = a
    · subst hq
      rw [kidsOf_none (L := M) fun x hx => by rcases h2.pars x hx with h | h <;> omega, List.append_nil]
      exact h1.tops (by omega)
    · by_cases hm : q < mid
      · rw [kidsOf_none (L := M) fun x hx => by rcases h2.pars x hx with h | h <;> omega, List.append_nil]
        exact i1 (by omega) q (by omega) hm
      · rw [kidsOf_none (L := L) fun x hx => by rcases h1.pars x hx with h | h <;> omega, List.nil_append]
        exact i2 (by omega) q (by omega) hb
/-- Every part of a row is a term of its own, at its depth, in its part. -/
theorem Row.sub {a k d b : Nat} {p : Int} {L : List (Nat × Int × Nat)} (h : Row E K C a k p d b L) : ∀ x ∈ L, E x.1 x.2.2 (kindP C x.2.1) = 0 ∧ d ≤ x.2.2 ∧ ∃ e M, Row E K C (x.1 + 1) (K x.1) x.1 (x.2.2 + 1) e M ∧ e ≤ b := by
  induction h with
  | nil => intro x hx; cases hx
  | @cons a k d mid b p L M he h1 h2 i1 i2 =>
    have l2 := h2.le
    intro x hx
    rcases List.mem_cons.1 hx with rfl | hx
    · exact ⟨he, Nat.le_refl _, mid, L, h1, by omega⟩
    · rcases List.mem_append.1 hx with hx | hx
      · obtain ⟨h1, h2, e, M, h3, h4⟩ := i1 x hx
        exact ⟨h1, by omega, e, M, h3, by omega⟩
      · exact i2 x hx
/-- What may be deep in a part may be at the top. -/
theorem Row.rise {a k d b : Nat} {p : Int} {L : List (Nat × Int × Nat)} (h : Row E K C a k p d b L) (hE : ∀ a d d' p, d' ≤ d → E a d p = 0 → E a d' p = 0 ∧ E a d' 0 = 0) : ∀ d', d' ≤ d → (∃ M, Row E K C a k p d' b M) ∧ (k = 1 → ∃ M, Row E K C a k (-1) d' b M) := by
  induction h with
  | nil a p d => intro d' _; exact ⟨⟨_, .nil _ _ _⟩, fun h => by cases h⟩
  | @cons a k d mid b p L M he h1 h2 i1 i2 =>
    intro d' hd
    obtain ⟨M1, r1⟩ := (i1 (d' + 1) (by omega)).1
    obtain ⟨M2, r2⟩ := (i2 d' hd).1
    refine ⟨⟨_, .cons (hE _ _ _ _ hd he).1 r1 r2⟩, fun hk => ?_⟩
    obtain rfl : k = 0 := by omega
    cases r2
    exact ⟨_, .cons (hE _ _ _ _ hd he).2 r1 (.nil _ _ _)⟩
end
end ShapeM
namespace Sh
section
/-- The cells of a walk: the parts; the open ones, place and what is left; how many. -/
def wCells (s : Value) (os : List (Int × Int)) (n : Int) : List Value := s :: (os.flatMap fun p => [Value.int .i64 p.1, Value.int .i64 p.2]) ++ [.int .i64 n]
theorem flat_at {os : List (Int × Int)} {r : List Value} : ∀ {i : Nat} {p : Int × Int}, os[i]? = some p →
    ((os.flatMap fun p => [Value.int .i64 p.1, Value.int .i64 p.2]) ++ r)[2 * i]? = some (.int .i64 p.1) ∧ ((os.flatMap fun p => [Value.int .i64 p.1, Value.int .i64 p.2]) ++ r)[2 * i + 1]? = some (.int .i64 p.2) := by
  induction os with
  | nil => intro i p h; simp at h
  | cons q os ih =>
    intro i p h
    cases i with
    | zero => obtain rfl : q = p := by simpa using h
              simp
    | succ i =>
      have := ih (by simpa using h)
      have e1 : 2 * (i + 1) = 2 * i + 1 + 1 := by omega
      rw [e1]
      simpa [List.flatMap_cons] using this
theorem flat_len (os : List (Int × Int)) : (os.flatMap fun p => [Value.int .i64 p.1, Value.int .i64 p.2]).length = 2 * os.length := by
  induction os with
  | nil => rfl
  | cons q os ih => simp [List.flatMap_cons, ih]; omega
/-- A walk lies at block g. -/
def Lies (w : World) (g : Nat) (s : Value) (os : List (Int × Int)) (n : Int) : Prop := os.length = 9 ∧ 0 ≤ n ∧ n ≤ 8 ∧ w.heap[g]? = some (.cells (wCells s os n).toArray 131 (0, 0))
theorem Lies.s {w : World} {g : Nat} {s : Value} {os : List (Int × Int)} {n : Int} (h : Lies w g s os n) : w.cell? ⟨g, 0, none⟩ = some s := (blk_cell h.2.2.2 0).trans (by simp [wCells])
theorem Lies.n {w : World} {g : Nat} {s : Value} {os : List (Int × Int)} {n : Int} (h : Lies w g s os n) : w.cell? ⟨g, 19, none⟩ = some (.int .i64 n) := by
  refine (blk_cell h.2.2.2 19).trans ?_
  have e : (os.flatMap fun p => [Value.int .i64 p.1, Value.int .i64 p.2]).length = 18 := by rw [flat_len, h.1]
  simp only [wCells, List.getElem?_toArray, List.cons_append, List.getElem?_cons_succ]
  rw [List.getElem?_append_right (by omega), e]
  rfl
theorem Lies.at {w : World} {g : Nat} {s : Value} {os : List (Int × Int)} {n : Int} (h : Lies w g s os n) {i : Nat} {p : Int × Int} (hi : os[i]? = some p) : w.cell? ⟨g, 1 + i * 2, none⟩ = some (.int .i64 p.1) ∧ w.cell? ⟨g, 1 + i * 2 + 1, none⟩ = some (.int .i64 p.2) := by
  obtain ⟨h1, h2⟩ := flat_at (r := [.int .i64 n]) hi
  refine ⟨(blk_cell h.2.2.2 _).trans ?_, (blk_cell h.2.2.2 _).trans ?_⟩
  · have e : 1 + i * 2 = 2 * i + 1 := by omega
    rw [e]
    simpa [wCells] using h1
  · have e : 1 + i * 2 + 1 = 2 * i + 1 + 1 := by omega
    rw [e]
    simpa [wCells] using h2
theorem Lies.free {w : World} {g : Nat} {s : Value} {os : List (Int × Int)} {n : Int} (h : Lies w g s os n) (i : Nat) : w.frozen? ⟨g, i, none⟩ = false := blk_frozen h.2.2.2 i
/-- The place of the part that a new one stands in. -/
def par (os : List (Int × Int)) (n : Int) : Int := if n = 0 then -1 else ((os[(n - 1).toNat]?).getD (0, 0)).1
set_option maxHeartbeats 4000000 in
theorem parent (g : Nat) (s : Value) (os : List (Int × Int)) (n : Int) (w : World) (h : Lies w g s os n) :
    Calls Try.prog 82 #[.pointer (some ⟨g, 0, none⟩)] w fun e w' => e = .returned (.int .i64 (par os n)) ∧ Below w.heap.size w w' := by
  have hn := h.n
  obtain ⟨h1, h2, h3, h4⟩ := id h
  obtain ⟨r, hr⟩ : ∃ r, par os n = r := ⟨_, rfl⟩
  rw [hr]
  by_cases h0 : n = 0
  · have hr : r = -1 := by rw [← hr, par, if_pos h0]
    subst h0 hr
    clear h1 h2 h3 h4 h
    go_enter Try.func82, Try.ntmps82
    go_wp2
    go_ret
    exact ⟨rfl, Below.refl _ _⟩
  · have h0b : (n == 0) = false := by simp [h0]
    obtain ⟨j, hj⟩ : ∃ j : Nat, n = (j : Int) + 1 := ⟨(n - 1).toNat, by omega⟩
    have hw : IntKind.i64.wrap (n - 1) = (j : Int) := by rw [IntKind.wrap_i64]; omega
    obtain ⟨p, hp⟩ : ∃ p, os[j]? = some p := ⟨os[j]'(by omega), List.getElem?_eq_getElem (by omega)⟩
    have hc := (h.at hp).1
    have hr : p.1 = r := by rw [← hr, par, if_neg h0, show (n - 1).toNat = j by omega, hp]; rfl
    rw [hr] at hc
    have hj9 : (j : Int) < 9 := by omega
    have hj0 : (0 : Int) ≤ j := by omega
    clear h1 h2 h3 h4 h0 hj h hp hr
    go_enter Try.func82, Try.ntmps82
    go_wp2_with fail
    go_region_held3 (fun w' => w'.cell? ⟨g, 19, none⟩ = some (.int .i64 n) ∧ w'.cell? ⟨g, 1 + j * 2, none⟩ = some (.int .i64 r)) (go_keep) (fail)
    go_wp2
    go_ret
    exact ⟨rfl, below_drew (Below.refl _ _)⟩
end
section
def is1 (l : List S65) (at_ : Int) : Bool := decide ((l.length : Int) ≤ at_) || (decide (64 ≤ at_) || decide (4 < (rd_T65 l at_).f0))
set_option maxHeartbeats 4000000 in
theorem reasons1 (g : Nat) (A : Option Addr) (c : Nat) (l : List S65) (os : List (Int × Int)) (n at_ : Int) (w : World) (h : Lies w g (.slice A l.length c) os n) (hr : Kd.C k65 w A l.length l) (h0 : 0 ≤ at_) :
    Calls Try.prog 97 #[.pointer (some ⟨g, 0, none⟩), .int .i64 at_] w fun e w' => e = .returned (.bool (is1 l at_)) ∧ Below w.heap.size w w' := by
  have hs := h.s
  obtain ⟨r, hrr⟩ : ∃ r, is1 l at_ = r := ⟨_, rfl⟩
  rw [hrr]
  unfold is1 at hrr
  by_cases c1 : (l.length : Int) ≤ at_
  · have c1b : decide ((l.length : Int) ≤ at_) = true := decide_eq_true c1
    obtain rfl : true = r := by simpa [c1b] using hrr
    clear hrr c1 h
    go_enter Try.func97, Try.ntmps97
    go_wp2
    go_ret
    exact ⟨rfl, Below.refl _ _⟩
  · have c1b : decide ((l.length : Int) ≤ at_) = false := decide_eq_false c1
    have c1c : at_ < (l.length : Int) := by omega
    obtain ⟨ad, rfl, hk, _⟩ := at_T65 hr at_ h0 c1c
    by_cases c2 : 64 ≤ at_
    · have c2b : decide (64 ≤ at_) = true := decide_eq_true c2
      obtain rfl : true = r := by simpa [c1b, c2b] using hrr
      clear hrr c1 h c2
      go_enter Try.func97, Try.ntmps97
      go_wp2
      go_ret
      exact ⟨rfl, Below.refl _ _⟩
    · have c2b : decide (64 ≤ at_) = false := decide_eq_false c2
      obtain rfl : decide (4 < (rd_T65 l at_).f0) = r := by simpa [c1b, c2b] using hrr
      clear hrr c1 h c2
      go_enter Try.func97, Try.ntmps97
      go_wp2
      go_ret
      exact ⟨rfl, Below.refl _ _⟩
def is4 (n : Int) : Bool := decide (8 ≤ n)
set_option maxHeartbeats 4000000 in
theorem reasons4 (g : Nat) (s : Value) (os : List (Int × Int)) (n at_ : Int) (w : World) (h : Lies w g s os n) :
    Calls Try.prog 102 #[.pointer (some ⟨g, 0, none⟩), .int .i64 at_] w fun e w' => e = .returned (.bool (is4 n)) ∧ Below w.heap.size w w' := by
  have hn := h.n
  clear h
  unfold is4
  go_enter Try.func102, Try.ntmps102
  go_wp2
  go_ret
  exact ⟨rfl, Below.refl _ _⟩
def is3 (l : List S65) (p at_ : Int) : Bool := decide (0 ≤ p) && ((rd_T65 l p).f0 == 2 && !((rd_T65 l at_).f0 == 0))
set_option maxHeartbeats 4000000 in
theorem reasons3 (g : Nat) (A : Option Addr) (c : Nat) (l : List S65) (os : List (Int × Int)) (n at_ : Int) (w : World) (h : Lies w g (.slice A l.length c) os n) (hr : Kd.C k65 w A l.length l) (h0 : 0 ≤ at_) (h1 : at_ < l.length) (hp : par os n < l.length) :
    Calls Try.prog 101 #[.pointer (some ⟨g, 0, none⟩), .int .i64 at_] w fun e w' => e = .returned (.bool (is3 l (par os n) at_)) ∧ Below w.heap.size w w' := by
  have HP := Aside0.mk (parent g _ os n w h)
  obtain ⟨p, hpp⟩ : ∃ p, par os n = p := ⟨_, rfl⟩
  rw [hpp] at hp HP ⊢
  clear hpp
  obtain ⟨r, hrr⟩ : ∃ r, is3 l p at_ = r := ⟨_, rfl⟩
  rw [hrr]
  unfold is3 at hrr
  by_cases c1 : 0 ≤ p
  · obtain ⟨ad, rfl, hk, _⟩ := at_T65 hr p c1 hp
    obtain ⟨_, e, hk2, _⟩ := at_T65 hr at_ h0 h1
    cases e
    have c1b : decide (0 ≤ p) = true := decide_eq_true c1
    obtain ⟨x, hx⟩ : ∃ x, (rd_T65 l p).f0 = x := ⟨_, rfl⟩
    obtain ⟨y, hy⟩ : ∃ y, (rd_T65 l at_).f0 = y := ⟨_, rfl⟩
    rw [hx] at hk hrr
    rw [hy] at hk2 hrr
    clear hx hy
    have hb1 := World.block_lt_of_cell? w _ hk
    have hb2 := World.block_lt_of_cell? w _ hk2
    have hs := h.s
    have hb3 := World.block_lt_of_cell? w _ hs
    by_cases c2 : x = 2
    · have c2b : (x == 2) = true := by simp [c2]
      obtain rfl : (!(y == 0)) = r := by simpa [c1b, c2b] using hrr
      clear hrr c2 h
      go_enter Try.func101, Try.ntmps101
      go_wp2_with (go_at_call 82; refine HP.out.mono ?_; rintro e w1 ⟨rfl, hb⟩; have hk' := (hb.cell hb1).trans hk; have hk2' := (hb.cell hb2).trans hk2; have hs' := (hb.cell hb3).trans hs)
      go_ret
      exact ⟨rfl, hb⟩
    · have c2b : (x == 2) = false := by simp [c2]
      obtain rfl : false = r := by simpa [c1b, c2b] using hrr
      clear hrr c2 h
      go_enter Try.func101, Try.ntmps101
      go_wp2_with (go_at_call 82; refine HP.out.mono ?_; rintro e w1 ⟨rfl, hb⟩; have hk' := (hb.cell hb1).trans hk; have hk2' := (hb.cell hb2).trans hk2; have hs' := (hb.cell hb3).trans hs)
      go_ret
      exact ⟨rfl, hb⟩
  · have c1b : decide (0 ≤ p) = false := decide_eq_false c1
    obtain rfl : false = r := by simpa [c1b] using hrr
    clear hrr h c1
    go_enter Try.func101, Try.ntmps101
    go_wp2_with (go_at_call 82; refine HP.out.mono ?_; rintro e w1 ⟨rfl, hb⟩)
    go_ret
    exact ⟨rfl, hb⟩
end
section
def atomB (x : S65) : Bool := decide (x.f4 ≠ 0 ∨ x.f1 < 1 ∨ x.f1 > 4096 ∨ x.f2 < 1 ∨ x.f2 > x.f1 ∨ Int.tmod x.f1 x.f2 ≠ 0 ∨ x.f3 < 1 ∨ x.f3 > 4096)
def otherB (x : S65) : Bool := decide (x.f4 < 1 ∨ x.f4 > 16 ∨ x.f1 ≠ 0 ∨ x.f2 ≠ 0 ∨ x.f3 ≠ 0)
theorem atom_f (x : S65) : shape_atom.f x.f0 x.f1 x.f2 x.f3 x.f4 = some (atomB x) := by
  unfold shape_atom.f atomB
  by_cases h1 : x.f4 = 0
  · by_cases h2 : x.f1 < 1
    · simp [h1, h2]
    · by_cases h3 : x.f1 > 4096
      · simp [h1, h2, h3]
      · by_cases h4 : x.f2 < 1
        · simp [h1, h2, h3, h4]
        · by_cases h5 : x.f2 > x.f1
          · simp [h1, h2, h3, h4, h5]
          · by_cases h6 : Int.tmod x.f1 x.f2 = 0
            · by_cases h7 : x.f3 < 1
              · have h8 : ¬ x.f2 = 0 := by omega
                simp [h1, h2, h3, h4, h5, h6, h7, h8]
              · have h8 : ¬ x.f2 = 0 := by omega
                simp [h1, h2, h3, h4, h5, h6, h7, h8]
            · have h8 : ¬ x.f2 = 0 := by omega
              simp [h1, h2, h3, h4, h5, h6, h8]
  · simp [h1]
theorem other_f (x : S65) : shape_other.f x.f0 x.f1 x.f2 x.f3 x.f4 = some (otherB x) := by
  unfold shape_other.f otherB
  by_cases h1 : x.f4 < 1
  · simp [h1]
  · by_cases h2 : x.f4 > 16
    · simp [h1, h2]
    · by_cases h3 : x.f1 = 0
      · by_cases h4 : x.f2 = 0
        · by_cases h5 : x.f3 = 0 <;> simp [h1, h2, h3, h4, h5]
        · simp [h1, h2, h3, h4]
      · simp [h1, h2, h3]
def is2 (l : List S65) (at_ : Int) : Bool := if (rd_T65 l at_).f0 = 0 then atomB (rd_T65 l at_) else otherB (rd_T65 l at_)
set_option maxHeartbeats 4000000 in
set_option maxRecDepth 100000 in
theorem reasons2 (g : Nat) (A : Option Addr) (c : Nat) (l : List S65) (os : List (Int × Int)) (n at_ : Int) (w : World) (h : Lies w g (.slice A l.length c) os n) (hr : Kd.C k65 w A l.length l) (h0 : 0 ≤ at_) (h1 : at_ < l.length) :
    Calls Try.prog 98 #[.pointer (some ⟨g, 0, none⟩), .int .i64 at_] w fun e w' => e = .returned (.bool (is2 l at_)) ∧ Below w.heap.size w w' := by
  have hs := h.s
  have hu := Try.underlying65
  obtain ⟨ad, rfl, k0, k1, k2, k3, k4⟩ := at_T65 hr at_ h0 h1
  obtain ⟨r, hrr⟩ : ∃ r, is2 l at_ = r := ⟨_, rfl⟩
  rw [hrr]
  unfold is2 at hrr
  by_cases c1 : (rd_T65 l at_).f0 = 0
  · rw [if_pos c1] at hrr
    obtain ⟨x, hx⟩ : ∃ x, rd_T65 l at_ = x := ⟨_, rfl⟩
    rw [hx] at k0 k1 k2 k3 k4 c1 hrr
    have AF := Aside0.mk (atom_f x)
    rw [hrr] at AF
    have c1b : (x.f0 == 0) = true := by simp [c1]
    have c1d : (x.f0 != 0) = false := by simp [c1]
    clear hrr hx h hr c1
    cases r
    all_goals
      go_enter Try.func98, Try.ntmps98
      go_wp2_with (go_at_call 99; refine (shape_atom.calls _ _ _ _ _ _ _ AF.out).mono ?_; rintro e w1 ⟨rfl, hb⟩; have q0 : w1.cell? ⟨w.heap.size, 0, none⟩ = some (.int .u8 x.f0) := (blk_cell (blk_below (blk_new w _) hb) 0).trans rfl)
      go_ret
      exact ⟨rfl, below_step (below_alloc (Below.refl _ _) _) hb⟩
  · rw [if_neg c1] at hrr
    obtain ⟨x, hx⟩ : ∃ x, rd_T65 l at_ = x := ⟨_, rfl⟩
    rw [hx] at k0 k1 k2 k3 k4 c1 hrr
    have AF := Aside0.mk (other_f x)
    rw [hrr] at AF
    have c1b : (x.f0 == 0) = false := by simp [c1]
    have c1d : (x.f0 != 0) = true := by simp [c1]
    clear hrr hx h hr c1
    cases r
    all_goals
      go_enter Try.func98, Try.ntmps98
      go_wp2_with (go_at_call 100; refine (shape_other.calls _ _ _ _ _ _ _ AF.out).mono ?_; rintro e w1 ⟨rfl, hb⟩; have q0 : w1.cell? ⟨w.heap.size, 0, none⟩ = some (.int .u8 x.f0) := (blk_cell (blk_below (blk_new w _) hb) 0).trans rfl)
      go_ret
      exact ⟨rfl, below_step (below_alloc (Below.refl _ _) _) hb⟩
end
section
def reasonsV : Array Value := #[.int .i64 81, .func (.func 97) #[] #[], .int .i64 81, .func (.func 98) #[] #[], .int .i64 81, .func (.func 101) #[] #[], .int .i64 80, .func (.func 102) #[] #[]]
set_option maxHeartbeats 4000000 in
set_option maxRecDepth 100000 in
theorem reasons (w : World) : Calls Try.prog 94 #[] w fun e w' => e = .returned (.agg reasonsV) ∧ Below w.heap.size w w' := by
  have hu1 := Try.underlying147
  have hu2 := Try.underlying148
  go_enter Try.func94, Try.ntmps94
  go_wp2
  trace_state
  refine bodyPost_ret (v := .agg reasonsV) (by simp [results, Try.results94, go_sem, reasonsV]) rfl ⟨rfl, ?_⟩
  exact below_alloc (Below.refl _ _) _
end
section
theorem idx0 (w : World) : (Instr.index 148 (.agg reasonsV) (.int .i64 0)).run Try.prog w = .ok (.agg #[.int .i64 81, .func (.func 97) #[] #[]]) w := by
  simp [Instr.index, run_underlying Try.underlying148, asIntOf, part, reasonsV, go_sem]
theorem idx1 (w : World) : (Instr.index 148 (.agg reasonsV) (.int .i64 1)).run Try.prog w = .ok (.agg #[.int .i64 81, .func (.func 98) #[] #[]]) w := by
  simp [Instr.index, run_underlying Try.underlying148, asIntOf, part, reasonsV, go_sem]
theorem idx2 (w : World) : (Instr.index 148 (.agg reasonsV) (.int .i64 2)).run Try.prog w = .ok (.agg #[.int .i64 81, .func (.func 101) #[] #[]]) w := by
  simp [Instr.index, run_underlying Try.underlying148, asIntOf, part, reasonsV, go_sem]
theorem idx3 (w : World) : (Instr.index 148 (.agg reasonsV) (.int .i64 3)).run Try.prog w = .ok (.agg #[.int .i64 80, .func (.func 102) #[] #[]]) w := by
  simp [Instr.index, run_underlying Try.underlying148, asIntOf, part, reasonsV, go_sem]
attribute [local go_sem] idx0 idx1 idx2 idx3
theorem Lies.below {w w' : World} {g : Nat} {s : Value} {os : List (Int × Int)} {n : Int} (h : Lies w g s os n) (hb : Below w.heap.size w w') : Lies w' g s os n := ⟨h.1, h.2.1, h.2.2.1, blk_below h.2.2.2 hb⟩
/-- What a reason tells, in whatever world that lies behind w. -/
def Says (f : FuncId) (g : Nat) (at_ : Int) (w : World) (b : Bool) : Prop := Aside0 (∀ w', Below w.heap.size w w' → Calls Try.prog f #[.pointer (some ⟨g, 0, none⟩), .int .i64 at_] w' fun e w2 => e = .returned (.bool b) ∧ Below w'.heap.size w' w2)
set_option maxHeartbeats 4000000 in
set_option maxRecDepth 100000 in
theorem step1 (g : Nat) (at_ : Int) (w : World) (C1 : Says 97 g at_ w true) :
    Calls Try.prog 83 #[.pointer (some ⟨g, 0, none⟩), .int .i64 at_] w fun e w' => e = .returned (.int .i64 81) ∧ Below w.heap.size w w' := by
  have hu := Try.underlying147
  have hu2 := Try.underlying148
  have R := Aside0.mk (reasons w)
  go_enter Try.func83, Try.ntmps83
  go_wp2_with (go_at_call 94; refine R.out.mono ?_; rintro e w1 ⟨rfl, hb⟩)
  refine wp_loop_rounds 5 ?_
  simp only [Code.rounds]
  go_wp2_with (first | (go_at_call 97; refine (C1.out _ (below_step hb (below_alloc (Below.refl _ _) _))).mono ?_; rintro e w2 ⟨rfl, hb2⟩; have q1 : w2.cell? ⟨_, 0, none⟩ = some (.int .i64 81) := (blk_cell (blk_below (blk_new _ _) hb2) 0).trans rfl; replace hb := below_step (below_step hb (below_alloc (Below.refl _ _) _)) hb2; clear hb2))
  go_ret
  exact ⟨rfl, hb⟩
set_option maxHeartbeats 4000000 in
set_option maxRecDepth 100000 in
theorem step2 (g : Nat) (at_ : Int) (w : World) (C1 : Says 97 g at_ w false) (C2 : Says 98 g at_ w true) :
    Calls Try.prog 83 #[.pointer (some ⟨g, 0, none⟩), .int .i64 at_] w fun e w' => e = .returned (.int .i64 81) ∧ Below w.heap.size w w' := by
  have hu := Try.underlying147
  have hu2 := Try.underlying148
  have R := Aside0.mk (reasons w)
  go_enter Try.func83, Try.ntmps83
  go_wp2_with (go_at_call 94; refine R.out.mono ?_; rintro e w1 ⟨rfl, hb⟩)
  refine wp_loop_rounds 5 ?_
  simp only [Code.rounds]
  go_wp2_with (first | (go_at_call 97; refine (C1.out _ (below_step hb (below_alloc (Below.refl _ _) _))).mono ?_; rintro e w2 ⟨rfl, hb2⟩; have q1 : w2.cell? ⟨_, 0, none⟩ = some (.int .i64 81) := (blk_cell (blk_below (blk_new _ _) hb2) 0).trans rfl; replace hb := below_step (below_step hb (below_alloc (Below.refl _ _) _)) hb2; clear hb2) | (go_at_call 98; refine (C2.out _ (below_step hb (below_alloc (Below.refl _ _) _))).mono ?_; rintro e w3 ⟨rfl, hb2⟩; have q2 : w3.cell? ⟨_, 0, none⟩ = some (.int .i64 81) := (blk_cell (blk_below (blk_new _ _) hb2) 0).trans rfl; replace hb := below_step (below_step hb (below_alloc (Below.refl _ _) _)) hb2; clear hb2))
  go_ret
  exact ⟨rfl, hb⟩
set_option maxHeartbeats 4000000 in
set_option maxRecDepth 100000 in
theorem step3 (g : Nat) (at_ : Int) (w : World) (C1 : Says 97 g at_ w false) (C2 : Says 98 g at_ w false) (C3 : Says 101 g at_ w true) :
    Calls Try.prog 83 #[.pointer (some ⟨g, 0, none⟩), .int .i64 at_] w fun e w' => e = .returned (.int .i64 81) ∧ Below w.heap.size w w' := by
  have hu := Try.underlying147
  have hu2 := Try.underlying148
  have R := Aside0.mk (reasons w)
  go_enter Try.func83, Try.ntmps83
  go_wp2_with (go_at_call 94; refine R.out.mono ?_; rintro e w1 ⟨rfl, hb⟩)
  refine wp_loop_rounds 5 ?_
  simp only [Code.rounds]
  go_wp2_with (first | (go_at_call 97; refine (C1.out _ (below_step hb (below_alloc (Below.refl _ _) _))).mono ?_; rintro e w2 ⟨rfl, hb2⟩; have q1 : w2.cell? ⟨_, 0, none⟩ = some (.int .i64 81) := (blk_cell (blk_below (blk_new _ _) hb2) 0).trans rfl; replace hb := below_step (below_step hb (below_alloc (Below.refl _ _) _)) hb2; clear hb2) | (go_at_call 98; refine (C2.out _ (below_step hb (below_alloc (Below.refl _ _) _))).mono ?_; rintro e w3 ⟨rfl, hb2⟩; have q2 : w3.cell? ⟨_, 0, none⟩ = some (.int .i64 81) := (blk_cell (blk_below (blk_new _ _) hb2) 0).trans rfl; replace hb := below_step (below_step hb (below_alloc (Below.refl _ _) _)) hb2; clear hb2) | (go_at_call 101; refine (C3.out _ (below_step hb (below_alloc (Below.refl _ _) _))).mono ?_; rintro e w4 ⟨rfl, hb2⟩; have q3 : w4.cell? ⟨_, 0, none⟩ = some (.int .i64 81) := (blk_cell (blk_below (blk_new _ _) hb2) 0).trans rfl; replace hb := below_step (below_step hb (below_alloc (Below.refl _ _) _)) hb2; clear hb2))
  go_ret
  exact ⟨rfl, hb⟩
set_option maxHeartbeats 4000000 in
set_option maxRecDepth 100000 in
theorem step4 (g : Nat) (at_ : Int) (w : World) (C1 : Says 97 g at_ w false) (C2 : Says 98 g at_ w false) (C3 : Says 101 g at_ w false) (C4 : Says 102 g at_ w true) :
    Calls Try.prog 83 #[.pointer (some ⟨g, 0, none⟩), .int .i64 at_] w fun e w' => e = .returned (.int .i64 80) ∧ Below w.heap.size w w' := by
  have hu := Try.underlying147
  have hu2 := Try.underlying148
  have R := Aside0.mk (reasons w)
  go_enter Try.func83, Try.ntmps83
  go_wp2_with (go_at_call 94; refine R.out.mono ?_; rintro e w1 ⟨rfl, hb⟩)
  refine wp_loop_rounds 5 ?_
  simp only [Code.rounds]
  go_wp2_with (first | (go_at_call 97; refine (C1.out _ (below_step hb (below_alloc (Below.refl _ _) _))).mono ?_; rintro e w2 ⟨rfl, hb2⟩; have q1 : w2.cell? ⟨_, 0, none⟩ = some (.int .i64 81) := (blk_cell (blk_below (blk_new _ _) hb2) 0).trans rfl; replace hb := below_step (below_step hb (below_alloc (Below.refl _ _) _)) hb2; clear hb2) | (go_at_call 98; refine (C2.out _ (below_step hb (below_alloc (Below.refl _ _) _))).mono ?_; rintro e w3 ⟨rfl, hb2⟩; have q2 : w3.cell? ⟨_, 0, none⟩ = some (.int .i64 81) := (blk_cell (blk_below (blk_new _ _) hb2) 0).trans rfl; replace hb := below_step (below_step hb (below_alloc (Below.refl _ _) _)) hb2; clear hb2) | (go_at_call 101; refine (C3.out _ (below_step hb (below_alloc (Below.refl _ _) _))).mono ?_; rintro e w4 ⟨rfl, hb2⟩; have q3 : w4.cell? ⟨_, 0, none⟩ = some (.int .i64 81) := (blk_cell (blk_below (blk_new _ _) hb2) 0).trans rfl; replace hb := below_step (below_step hb (below_alloc (Below.refl _ _) _)) hb2; clear hb2) | (go_at_call 102; refine (C4.out _ (below_step hb (below_alloc (Below.refl _ _) _))).mono ?_; rintro e w5 ⟨rfl, hb2⟩; have q4 : w5.cell? ⟨_, 0, none⟩ = some (.int .i64 80) := (blk_cell (blk_below (blk_new _ _) hb2) 0).trans rfl; replace hb := below_step (below_step hb (below_alloc (Below.refl _ _) _)) hb2; clear hb2))
  go_ret
  exact ⟨rfl, hb⟩
end
section
attribute [local go_sem] idx0 idx1 idx2 idx3
theorem flat_set {r : List Value} : ∀ {os : List (Int × Int)} {i : Nat} {p : Int × Int} (v : Int), os[i]? = some p →
    ((os.flatMap fun p => [Value.int .i64 p.1, Value.int .i64 p.2]) ++ r).set (2 * i) (.int .i64 v) = (((os.set i (v, p.2)).flatMap fun p => [Value.int .i64 p.1, Value.int .i64 p.2]) ++ r) ∧
    ((os.flatMap fun p => [Value.int .i64 p.1, Value.int .i64 p.2]) ++ r).set (2 * i + 1) (.int .i64 v) = (((os.set i (p.1, v)).flatMap fun p => [Value.int .i64 p.1, Value.int .i64 p.2]) ++ r) := by
  intro os
  induction os with
  | nil => intro i p v h; simp at h
  | cons q os ih =>
    intro i p v h
    cases i with
    | zero => obtain rfl : q = p := by simpa using h
              simp
    | succ i =>
      have := ih v (by simpa using h)
      have e1 : 2 * (i + 1) = 2 * i + 1 + 1 := by omega
      rw [e1]
      simpa [List.flatMap_cons] using this
theorem Lies.setAt {w : World} {g : Nat} {s : Value} {os : List (Int × Int)} {n : Int} (h : Lies w g s os n) {i : Nat} {p : Int × Int} (hi : os[i]? = some p) (v : Int) : Lies (w.setCell ⟨g, 1 + i * 2, none⟩ (.int .i64 v)) g s (os.set i (v, p.2)) n := by
  refine ⟨by simp [h.1], h.2.1, h.2.2.1, blk_put h.2.2.2 _ _ ?_⟩
  have e : 1 + i * 2 = 2 * i + 1 := by omega
  have := (flat_set (r := [.int .i64 n]) v hi).1
  rw [e]
  simp only [wCells, List.setIfInBounds_toArray, List.cons_append, List.set_cons_succ, this]
theorem Lies.setLeft {w : World} {g : Nat} {s : Value} {os : List (Int × Int)} {n : Int} (h : Lies w g s os n) {i : Nat} {p : Int × Int} (hi : os[i]? = some p) (v : Int) : Lies (w.setCell ⟨g, 1 + i * 2 + 1, none⟩ (.int .i64 v)) g s (os.set i (p.1, v)) n := by
  refine ⟨by simp [h.1], h.2.1, h.2.2.1, blk_put h.2.2.2 _ _ ?_⟩
  have e : 1 + i * 2 + 1 = 2 * i + 1 + 1 := by omega
  have := (flat_set (r := [.int .i64 n]) v hi).2
  rw [e]
  simp only [wCells, List.setIfInBounds_toArray, List.cons_append, List.set_cons_succ, this]
theorem Lies.setN {w : World} {g : Nat} {s : Value} {os : List (Int × Int)} {n : Int} (h : Lies w g s os n) (v : Int) (h0 : 0 ≤ v) (h8 : v ≤ 8) : Lies (w.setCell ⟨g, 19, none⟩ (.int .i64 v)) g s os v := by
  refine ⟨h.1, h0, h8, blk_put h.2.2.2 _ _ ?_⟩
  have e : (os.flatMap fun p => [Value.int .i64 p.1, Value.int .i64 p.2]).length = 18 := by rw [flat_len, h.1]
  simp only [wCells, List.setIfInBounds_toArray, List.cons_append, List.set_cons_succ]
  rw [List.set_append_right _ _ (by omega), e]
  rfl
theorem Lies.drew {w : World} {g : Nat} {s : Value} {os : List (Int × Int)} {n : Int} (h : Lies w g s os n) : Lies w.drew g s os n := h
/-- What is left when parts that are done are left. -/
def popped (os : List (Int × Int)) : Nat → Nat
  | 0 => 0
  | m + 1 => if ((os[m]?).getD (0, 0)).2 = 0 then popped os m else m + 1
set_option maxHeartbeats 8000000 in
set_option maxRecDepth 100000 in
theorem step0 (g : Nat) (A : Option Addr) (c : Nat) (l : List S65) (os : List (Int × Int)) (at_ : Int) (w : World) (C1 : Says 97 g at_ w false) (C2 : Says 98 g at_ w false) (C3 : Says 101 g at_ w false) (C4 : Says 102 g at_ w false)
    (h : Lies w g (.slice A l.length c) os 0) (hr : Kd.C k65 w A l.length l) (h0 : 0 ≤ at_) (h1 : at_ < l.length) :
    Calls Try.prog 83 #[.pointer (some ⟨g, 0, none⟩), .int .i64 at_] w fun e w' => e = .returned (.int .i64 0) ∧ XPrint.ButB g w w' ∧ Lies w' g (.slice A l.length c) (os.set 0 (at_, (rd_T65 l at_).f4)) (popped (os.set 0 (at_, (rd_T65 l at_).f4)) 1) := by
  have hu := Try.underlying147
  have hu2 := Try.underlying148
  have R := Aside0.mk (reasons w)
  have H := Aside0.mk h
  obtain ⟨ad, rfl, _, _, _, _, k4⟩ := at_T65 hr at_ h0 h1
  have K4 := Aside0.mk k4
  obtain ⟨x, hx⟩ : ∃ x, (rd_T65 l at_).f4 = x := ⟨_, rfl⟩
  rw [hx] at k4 ⊢
  obtain ⟨os', ho⟩ : ∃ os', os.set 0 (at_, x) = os' := ⟨_, rfl⟩
  obtain ⟨M, hM⟩ : ∃ M, popped os' 1 = M := ⟨_, rfl⟩
  rw [ho, hM]
  have HM := Aside0.mk (And.intro ho hM)
  clear ho hM
  have hb4 := World.block_lt_of_cell? w _ k4
  clear h hr hx
  go_enter Try.func83, Try.ntmps83
  go_wp2_with (go_at_call 94; refine R.out.mono ?_; rintro e w1 ⟨rfl, hb⟩)
  refine wp_loop_rounds 5 ?_
  simp only [Code.rounds]
  go_wp2_with (first | (go_at_call 97; refine (C1.out _ (below_step hb (below_alloc (Below.refl _ _) _))).mono ?_; rintro e w2 ⟨rfl, hb2⟩; replace hb := below_step (below_step hb (below_alloc (Below.refl _ _) _)) hb2; clear hb2) | (go_at_call 98; refine (C2.out _ (below_step hb (below_alloc (Below.refl _ _) _))).mono ?_; rintro e w3 ⟨rfl, hb2⟩; replace hb := below_step (below_step hb (below_alloc (Below.refl _ _) _)) hb2; clear hb2) | (go_at_call 101; refine (C3.out _ (below_step hb (below_alloc (Below.refl _ _) _))).mono ?_; rintro e w4 ⟨rfl, hb2⟩; replace hb := below_step (below_step hb (below_alloc (Below.refl _ _) _)) hb2; clear hb2) | (go_at_call 102; refine (C4.out _ (below_step hb (below_alloc (Below.refl _ _) _))).mono ?_; rintro e w5 ⟨rfl, hb2⟩; replace hb := below_step (below_step hb (below_alloc (Below.refl _ _) _)) hb2; clear hb2; have L := Aside0.mk (H.out.below hb); have hn := L.out.n; have hs := L.out.s; have k4' := (hb.cell (p := ⟨(ad.add (at_.toNat * 5)).block, (ad.add (at_.toNat * 5)).off + 4, none⟩) hb4).trans k4))
  obtain ⟨p, hp⟩ : ∃ p, os[0]? = some p := ⟨os[0]'(by rw [H.out.1]; decide), List.getElem?_eq_getElem _⟩
  have c1 := (L.out.at hp).1
  have c2 := (L.out.at hp).2
  have f1 := L.out.free 1
  have f2 := L.out.free 2
  have f19 := L.out.free 19
  go_still_tail 18, (by kernel_rfl)
  change wpList _ _ _ _ _ w5.drew
  have c1' : w5.drew.cell? ⟨g, 1, none⟩ = some (.int .i64 p.1) := c1
  have c2' : w5.drew.cell? ⟨g, 2, none⟩ = some (.int .i64 p.2) := c2
  have f1' : w5.drew.frozen? ⟨g, 1, none⟩ = false := f1
  have f2' : w5.drew.frozen? ⟨g, 2, none⟩ = false := f2
  go_wp2
  have L1 : Lies ((w5.drew.setCell ⟨g, 1, none⟩ (.int .i64 at_)).setCell ⟨g, 2, none⟩ (.int .i64 x)) g (.slice (some ad) l.length c) ((os.set 0 (at_, p.2)).set 0 (at_, x)) 0 :=
    (L.out.drew.setAt hp at_).setLeft (i := 0) (p := (at_, p.2)) (by simp [H.out.1]) x
  have L2 := L1.setN 1 (by omega) (by omega)
  have B2 : XPrint.ButB g w ((((w5.drew.setCell ⟨g, 1, none⟩ (.int .i64 at_)).setCell ⟨g, 2, none⟩ (.int .i64 x))).setCell ⟨g, 19, none⟩ (.int .i64 1)) := ((((XPrint.ButB.of_below hb).drew).setCell _ _).setCell _ _).setCell _ _
  have E2 := Aside0.mk (And.intro L2 B2)
  clear L1 L2 B2
  rw [List.set_set] at E2
  obtain ⟨ho, hM⟩ := HM.out
  rw [ho] at E2
  clear ho HM
  go_loopg [] 1 (fun k wr => ∃ m : Nat, k = m ∧ m ≤ 8 ∧ popped os' m = M ∧ Lies wr g (.slice (some ad) l.length c) os' m ∧ XPrint.ButB g w wr)
  case atStart => exact ⟨1, rfl, by omega, hM, E2.out.1, E2.out.2⟩
  clear hM E2
  obtain ⟨_, rfl, hm, hM, hL, hB⟩ := hrel
  rcases gk with _ | j
  · have hn := hL.n
    have hn : wr.cell? ⟨g, 19, none⟩ = some (.int .i64 0) := hn
    have F := Aside0.mk (And.intro hM (And.intro hL hB))
    clear hM hL hB
    go_wp2_with fail
    have hn' : wr.drew.cell? ⟨g, 19, none⟩ = some (.int .i64 0) := hn
    go_region
    go_wp2
    go_ret
    exact ⟨rfl, F.out.2.2.drew, by rw [← F.out.1]; exact F.out.2.1⟩
  · have hn := hL.n
    obtain ⟨n1, hn1⟩ : ∃ n1 : Int, ((j + 1 : Nat) : Int) = n1 := ⟨_, rfl⟩
    rw [hn1] at hn
    obtain ⟨p, hp⟩ : ∃ p, os'[j]? = some p := ⟨os'[j]'(by rw [hL.1]; omega), List.getElem?_eq_getElem _⟩
    have hl := (hL.at hp).2
    have f19 := hL.free 19
    have hw : IntKind.i64.wrap (n1 - 1) = (j : Int) := by rw [IntKind.wrap_i64]; omega
    have hj9 : (j : Int) < 9 := by omega
    have hj0 : (0 : Int) ≤ j := by omega
    have hgt : decide (0 < n1) = true := decide_eq_true (by omega)
    have hgt' : 0 < n1 := by omega
    by_cases c0 : p.2 = 0
    · have c0b : (p.2 == 0) = true := by simp [c0]
      have hM2 : popped os' j = M := by rw [← hM]; unfold popped; rw [if_pos (by rw [hp]; exact c0)]; cases j <;> rfl
      have F := Aside0.mk (And.intro hM2 (And.intro (hL.setN (j : Int) (by omega) (by omega)) (hB.setCell 19 (.int .i64 j))))
      clear hM hM2 hL hB c0 hn1 hp
      go_wp2_with fail
      go_region_held3 (fun w' => w'.cell? ⟨g, 19, none⟩ = some (.int .i64 n1) ∧ w'.cell? ⟨g, 1 + j * 2 + 1, none⟩ = some (.int .i64 p.2)) (go_keep) (fail)
      go_wp2
      go_roundg j
      case measure => omega
      case rel => exact ⟨j, rfl, by omega, F.out.1, F.out.2.1, F.out.2.2.drew⟩
    · have c0b : (p.2 == 0) = false := by simp [c0]
      have hM2 : j + 1 = M := by rw [← hM]; unfold popped; rw [if_neg (by rw [hp]; exact c0)]
      have F := Aside0.mk (And.intro hM2 (And.intro hL hB))
      clear hM hM2 hL hB c0 hp
      go_wp2_with fail
      go_region_held3 (fun w' => w'.cell? ⟨g, 19, none⟩ = some (.int .i64 n1) ∧ w'.cell? ⟨g, 1 + j * 2 + 1, none⟩ = some (.int .i64 p.2)) (go_keep) (fail)
      go_wp2
      go_ret
      exact ⟨rfl, F.out.2.2.drew, by rw [← F.out.1]; exact F.out.2.1⟩
end
section
attribute [local go_sem] idx0 idx1 idx2 idx3
/-- The open parts when one more is gone to. -/
def nextOs (os : List (Int × Int)) (m : Nat) (at_ x : Int) : List (Int × Int) := (os.set (m - 1) (((os[m - 1]?).getD (0, 0)).1, IntKind.i64.wrap (((os[m - 1]?).getD (0, 0)).2 - 1))).set m (at_, x)
set_option maxHeartbeats 8000000 in
set_option maxRecDepth 100000 in
theorem stepP (g : Nat) (A : Option Addr) (c : Nat) (l : List S65) (os : List (Int × Int)) (m : Nat) (hm1 : 1 ≤ m) (hm7 : m ≤ 7) (at_ : Int) (w : World) (C1 : Says 97 g at_ w false) (C2 : Says 98 g at_ w false) (C3 : Says 101 g at_ w false) (C4 : Says 102 g at_ w false)
    (h : Lies w g (.slice A l.length c) os m) (hr : Kd.C k65 w A l.length l) (h0 : 0 ≤ at_) (h1 : at_ < l.length) (hA : ∀ a, A = some a → a.block ≠ g) :
    Calls Try.prog 83 #[.pointer (some ⟨g, 0, none⟩), .int .i64 at_] w fun e w' => e = .returned (.int .i64 0) ∧ XPrint.ButB g w w' ∧ Lies w' g (.slice A l.length c) (nextOs os m at_ (rd_T65 l at_).f4) (popped (nextOs os m at_ (rd_T65 l at_).f4) (m + 1)) := by
  have hu := Try.underlying147
  have hu2 := Try.underlying148
  have R := Aside0.mk (reasons w)
  have H := Aside0.mk h
  obtain ⟨ad, rfl, _, _, _, _, k4⟩ := at_T65 hr at_ h0 h1
  have K4 := Aside0.mk k4
  obtain ⟨x, hx⟩ : ∃ x, (rd_T65 l at_).f4 = x := ⟨_, rfl⟩
  rw [hx] at k4 ⊢
  have hne : (ad.add (at_.toNat * 5)).block ≠ g := by rw [add_block]; exact hA _ rfl
  have hne := Aside0.mk hne
  clear hA
  obtain ⟨os', ho⟩ : ∃ os', nextOs os m at_ x = os' := ⟨_, rfl⟩
  obtain ⟨M, hM⟩ : ∃ M, popped os' (m + 1) = M := ⟨_, rfl⟩
  rw [ho, hM]
  have HM := Aside0.mk (And.intro ho hM)
  clear ho hM
  have hb4 := World.block_lt_of_cell? w _ k4
  have hlen := H.out.1
  obtain ⟨j0, hj0m⟩ : ∃ j0 : Nat, m = j0 + 1 := ⟨m - 1, by omega⟩
  obtain ⟨p, hp⟩ : ∃ p, os[j0]? = some p := ⟨os[j0]'(by omega), List.getElem?_eq_getElem _⟩
  obtain ⟨q, hq⟩ : ∃ q, os[m]? = some q := ⟨os[m]'(by omega), List.getElem?_eq_getElem _⟩
  obtain ⟨n2, hn2⟩ : ∃ n2 : Int, ((m + 1 : Nat) : Int) = n2 := ⟨_, rfl⟩
  obtain ⟨y, hy⟩ : ∃ y, IntKind.i64.wrap (p.2 - 1) = y := ⟨_, rfl⟩
  have hw0 : IntKind.i64.wrap ((m : Int) - 1) = (j0 : Int) := by rw [IntKind.wrap_i64]; omega
  have hw1 : IntKind.i64.wrap ((m : Int) + 1) = n2 := by rw [IntKind.wrap_i64]; omega
  have hgt : decide (0 < (m : Int)) = true := decide_eq_true (by omega)
  have hgt2 : 0 < (m : Int) := by omega
  have b1 : (0 : Int) ≤ j0 := by omega
  have b2 : (j0 : Int) < 9 := by omega
  have b3 : (0 : Int) ≤ m := by omega
  have b4 : (m : Int) < 9 := by omega
  have MM := Aside0.mk (And.intro hj0m hn2)
  clear h hr hx hn2 hj0m
  go_enter Try.func83, Try.ntmps83
  go_wp2_with (go_at_call 94; refine R.out.mono ?_; rintro e w1 ⟨rfl, hb⟩)
  refine wp_loop_rounds 5 ?_
  simp only [Code.rounds]
  go_wp2_with (first | (go_at_call 97; refine (C1.out _ (below_step hb (below_alloc (Below.refl _ _) _))).mono ?_; rintro e w2 ⟨rfl, hb2⟩; replace hb := below_step (below_step hb (below_alloc (Below.refl _ _) _)) hb2; clear hb2) | (go_at_call 98; refine (C2.out _ (below_step hb (below_alloc (Below.refl _ _) _))).mono ?_; rintro e w3 ⟨rfl, hb2⟩; replace hb := below_step (below_step hb (below_alloc (Below.refl _ _) _)) hb2; clear hb2) | (go_at_call 101; refine (C3.out _ (below_step hb (below_alloc (Below.refl _ _) _))).mono ?_; rintro e w4 ⟨rfl, hb2⟩; replace hb := below_step (below_step hb (below_alloc (Below.refl _ _) _)) hb2; clear hb2) | (go_at_call 102; refine (C4.out _ (below_step hb (below_alloc (Below.refl _ _) _))).mono ?_; rintro e w5 ⟨rfl, hb2⟩; replace hb := below_step (below_step hb (below_alloc (Below.refl _ _) _)) hb2; clear hb2; have L := Aside0.mk (H.out.below hb); have hn := L.out.n; have hs := L.out.s; have k4' := (hb.cell (p := ⟨(ad.add (at_.toNat * 5)).block, (ad.add (at_.toNat * 5)).off + 4, none⟩) hb4).trans k4))
  have c1 := (L.out.at hp).2
  have f1 := L.out.free (1 + j0 * 2 + 1)
  go_still_tail 16, (by kernel_rfl)
  change wpList _ _ _ _ _ w5.drew
  have c1' : w5.drew.cell? ⟨g, 1 + j0 * 2 + 1, none⟩ = some (.int .i64 p.2) := c1
  have f1' : w5.drew.frozen? ⟨g, 1 + j0 * 2 + 1, none⟩ = false := f1
  go_wp2
  have L1 := L.out.setLeft hp y
  have B1 : XPrint.ButB g w (w5.setCell ⟨g, 1 + j0 * 2 + 1, none⟩ (.int .i64 y)) := (XPrint.ButB.of_below hb).setCell _ _
  have k5 := B1.cell k4 hne.out
  have E1 := Aside0.mk (And.intro L1 B1)
  clear L1 B1 c1 f1 c1' f1' hn hs k4' L hb
  generalize w5.setCell ⟨g, 1 + j0 * 2 + 1, none⟩ (.int .i64 y) = W2 at E1 k5 ⊢
  have k6 : W2.drew.cell? ⟨(ad.add (at_.toNat * 5)).block, (ad.add (at_.toNat * 5)).off + 4, none⟩ = some (.int .i64 x) := k5
  have E1 : Aside0 (Lies W2.drew g (.slice (some ad) l.length c) (os.set j0 (p.1, y)) m ∧ XPrint.ButB g w W2.drew) := ⟨⟨E1.out.1, E1.out.2.drew⟩⟩
  clear k5
  generalize W2.drew = W3 at E1 k6 ⊢
  have hn := E1.out.1.n
  have hs := E1.out.1.s
  have hq' : (os.set j0 (p.1, y))[m]? = some q := by have := MM.out.1; rw [List.getElem?_set_ne (by omega)]; exact hq
  have c1 := (E1.out.1.at hq').1
  have c2 := (E1.out.1.at hq').2
  have f1 := E1.out.1.free (1 + m * 2)
  have f2 := E1.out.1.free (1 + m * 2 + 1)
  have L2 : Lies ((W3.setCell ⟨g, 1 + m * 2, none⟩ (.int .i64 at_)).setCell ⟨g, 1 + m * 2 + 1, none⟩ (.int .i64 x)) g (.slice (some ad) l.length c) ((os.set j0 (p.1, y)).set m (at_, x)) m := by
    have := (E1.out.1.setAt hq' at_).setLeft (i := m) (p := (at_, q.2)) (List.getElem?_set_self (by rw [List.length_set]; omega)) x
    rwa [List.set_set] at this
  have hn3 := L2.n
  have f3 := L2.free 19
  have E2 := Aside0.mk (And.intro (L2.setN ((m + 1 : Nat) : Int) (by omega) (by omega)) (((E1.out.2.setCell (1 + m * 2) (.int .i64 at_)).setCell (1 + m * 2 + 1) (.int .i64 x)).setCell 19 (.int .i64 ((m + 1 : Nat) : Int))))
  rw [MM.out.2] at E2
  clear L2
  go_wp2_with fail
  go_still_tail 18, (by kernel_rfl)
  change wpList _ _ _ _ _ W3.drew
  have c1' : W3.drew.cell? ⟨g, 1 + m * 2, none⟩ = some (.int .i64 q.1) := c1
  have c2' : W3.drew.cell? ⟨g, 1 + m * 2 + 1, none⟩ = some (.int .i64 q.2) := c2
  have f1' : W3.drew.frozen? ⟨g, 1 + m * 2, none⟩ = false := f1
  have f2' : W3.drew.frozen? ⟨g, 1 + m * 2 + 1, none⟩ = false := f2
  go_wp2
  obtain ⟨ho, hM⟩ := HM.out
  rw [show (os.set j0 (p.1, y)).set m (at_, x) = os' by rw [← ho, nextOs, show m - 1 = j0 by have := MM.out.1; omega, hp, ← hy]; rfl] at E2
  clear ho HM hp hq hy
  go_loopg [] (m + 1) (fun k wr => ∃ i : Nat, k = i ∧ i ≤ 8 ∧ popped os' i = M ∧ Lies wr g (.slice (some ad) l.length c) os' i ∧ XPrint.ButB g w wr)
  case atStart => exact ⟨m + 1, rfl, by omega, hM, by rw [MM.out.2]; exact E2.out.1, E2.out.2.drew⟩
  clear hM E2
  obtain ⟨_, rfl, hm, hM, hL, hB⟩ := hrel
  rcases gk with _ | j
  · have hn := hL.n
    have hn : wr.cell? ⟨g, 19, none⟩ = some (.int .i64 0) := hn
    have F := Aside0.mk (And.intro hM (And.intro hL hB))
    clear hM hL hB
    go_wp2_with fail
    have hn' : wr.drew.cell? ⟨g, 19, none⟩ = some (.int .i64 0) := hn
    go_region
    go_wp2
    go_ret
    exact ⟨rfl, F.out.2.2.drew, by rw [← F.out.1]; exact F.out.2.1⟩
  · have hn := hL.n
    obtain ⟨n1, hn1⟩ : ∃ n1 : Int, ((j + 1 : Nat) : Int) = n1 := ⟨_, rfl⟩
    rw [hn1] at hn
    obtain ⟨p1, hp⟩ : ∃ p1, os'[j]? = some p1 := ⟨os'[j]'(by rw [hL.1]; omega), List.getElem?_eq_getElem _⟩
    have hl := (hL.at hp).2
    have f19 := hL.free 19
    have hw : IntKind.i64.wrap (n1 - 1) = (j : Int) := by rw [IntKind.wrap_i64]; omega
    have hj9 : (j : Int) < 9 := by omega
    have hj0 : (0 : Int) ≤ j := by omega
    have hgt : decide (0 < n1) = true := decide_eq_true (by omega)
    have hgt' : 0 < n1 := by omega
    by_cases c0 : p1.2 = 0
    · have c0b : (p1.2 == 0) = true := by simp [c0]
      have hM2 : popped os' j = M := by rw [← hM]; unfold popped; rw [if_pos (by rw [hp]; exact c0)]; cases j <;> rfl
      have F := Aside0.mk (And.intro hM2 (And.intro (hL.setN (j : Int) (by omega) (by omega)) (hB.setCell 19 (.int .i64 j))))
      clear hM hM2 hL hB c0 hn1 hp
      go_wp2_with fail
      go_region_held3 (fun w' => w'.cell? ⟨g, 19, none⟩ = some (.int .i64 n1) ∧ w'.cell? ⟨g, 1 + j * 2 + 1, none⟩ = some (.int .i64 p1.2)) (go_keep) (fail)
      go_wp2
      go_roundg j
      case measure => omega
      case rel => exact ⟨j, rfl, by omega, F.out.1, F.out.2.1, F.out.2.2.drew⟩
    · have c0b : (p1.2 == 0) = false := by simp [c0]
      have hM2 : j + 1 = M := by rw [← hM]; unfold popped; rw [if_neg (by rw [hp]; exact c0)]
      have F := Aside0.mk (And.intro hM2 (And.intro hL hB))
      clear hM hM2 hL hB c0 hp
      go_wp2_with fail
      go_region_held3 (fun w' => w'.cell? ⟨g, 19, none⟩ = some (.int .i64 n1) ∧ w'.cell? ⟨g, 1 + j * 2 + 1, none⟩ = some (.int .i64 p1.2)) (go_keep) (fail)
      go_wp2
      go_ret
      exact ⟨rfl, F.out.2.2.drew, by rw [← F.out.1]; exact F.out.2.1⟩
end
section
def stepE (l : List S65) (os : List (Int × Int)) (m : Nat) (at_ : Int) : Int := if is1 l at_ = true then 81 else if is2 l at_ = true then 81 else if is3 l (par os m) at_ = true then 81 else if is4 m = true then 80 else 0
def stepOs (l : List S65) (os : List (Int × Int)) (m : Nat) (at_ : Int) : List (Int × Int) := if m = 0 then os.set 0 (at_, (rd_T65 l at_).f4) else nextOs os m at_ (rd_T65 l at_).f4
/-- What step makes of a walk. -/
theorem wStep (g : Nat) (A : Option Addr) (c : Nat) (l : List S65) (os : List (Int × Int)) (m : Nat) (at_ : Int) (w : World) (h : Lies w g (.slice A l.length c) os m) (hr : Kd.C k65 w A l.length l) (h0 : 0 ≤ at_) (hp : par os m < l.length) (hA : 0 < l.length → ∀ a, A = some a → a.block ≠ g) :
    Calls Try.prog 83 #[.pointer (some ⟨g, 0, none⟩), .int .i64 at_] w fun e w' => e = .returned (.int .i64 (stepE l os m at_)) ∧ XPrint.ButB g w w' ∧
      Lies w' g (.slice A l.length c) (if stepE l os m at_ = 0 then stepOs l os m at_ else os) ((if stepE l os m at_ = 0 then popped (stepOs l os m at_) (m + 1) else m : Nat) : Int) := by
  have hm8 : m ≤ 8 := by have := h.2.2.1; omega
  have bad : ∀ v : Int, v ≠ 0 → stepE l os m at_ = v → (Calls Try.prog 83 #[.pointer (some ⟨g, 0, none⟩), .int .i64 at_] w fun e w' => e = .returned (.int .i64 v) ∧ Below w.heap.size w w') → Calls Try.prog 83 #[.pointer (some ⟨g, 0, none⟩), .int .i64 at_] w fun e w' => e = .returned (.int .i64 (stepE l os m at_)) ∧ XPrint.ButB g w w' ∧
      Lies w' g (.slice A l.length c) (if stepE l os m at_ = 0 then stepOs l os m at_ else os) ((if stepE l os m at_ = 0 then popped (stepOs l os m at_) (m + 1) else m : Nat) : Int) := by
    intro v hv he hc
    rw [he, if_neg hv, if_neg hv]
    exact hc.mono fun e w' ⟨h1, h2⟩ => ⟨h1, XPrint.ButB.of_below h2, h.below h2⟩
  have S1 : Says 97 g at_ w (is1 l at_) := ⟨fun w' hb => reasons1 g A c l os m at_ w' (h.below hb) (Kd.C_below hr hb) h0⟩
  by_cases e1 : is1 l at_ = true
  · rw [e1] at S1
    exact bad 81 (by decide) (by simp [stepE, e1]) (step1 g at_ w S1)
  · have h1 : at_ < l.length := by
      apply Int.not_le.1
      intro hc
      exact e1 (by simp [is1, hc])
    have S2 : Says 98 g at_ w (is2 l at_) := ⟨fun w' hb => reasons2 g A c l os m at_ w' (h.below hb) (Kd.C_below hr hb) h0 h1⟩
    have S3 : Says 101 g at_ w (is3 l (par os m) at_) := ⟨fun w' hb => reasons3 g A c l os m at_ w' (h.below hb) (Kd.C_below hr hb) h0 h1 hp⟩
    have S4 : Says 102 g at_ w (is4 m) := ⟨fun w' hb => reasons4 g _ os m at_ w' (h.below hb)⟩
    have f1 : is1 l at_ = false := by simpa using e1
    rw [f1] at S1
    by_cases e2 : is2 l at_ = true
    · rw [e2] at S2
      exact bad 81 (by decide) (by simp [stepE, e1, e2]) (step2 g at_ w S1 S2)
    · have f2 : is2 l at_ = false := by simpa using e2
      rw [f2] at S2
      by_cases e3 : is3 l (par os m) at_ = true
      · rw [e3] at S3
        exact bad 81 (by decide) (by simp [stepE, e1, e2, e3]) (step3 g at_ w S1 S2 S3)
      · have f3 : is3 l (par os m) at_ = false := by simpa using e3
        rw [f3] at S3
        by_cases e4 : is4 m = true
        · rw [e4] at S4
          exact bad 80 (by decide) (by simp [stepE, e1, e2, e3, e4]) (step4 g at_ w S1 S2 S3 S4)
        · have f4 : is4 m = false := by simpa using e4
          rw [f4] at S4
          have hm7 : m ≤ 7 := by
            have : ¬ (8 : Int) ≤ m := fun hc => e4 (by simp [is4, hc])
            omega
          have he : stepE l os m at_ = 0 := by simp [stepE, e1, e2, e3, e4]
          rw [he, if_pos rfl, if_pos rfl]
          by_cases m0 : m = 0
          · subst m0
            have := step0 g A c l os at_ w S1 S2 S3 S4 h hr h0 h1
            unfold stepOs
            rw [if_pos rfl]
            exact this
          · have := stepP g A c l os m (by omega) hm7 at_ w S1 S2 S3 S4 h hr h0 h1 (hA (by omega))
            unfold stepOs
            rw [if_neg m0]
            exact this
end
section
set_option maxHeartbeats 4000000 in
theorem parts (ga ge : Nat) (A : Option Addr) (n c : Nat) (w : World) :
    Calls Try.prog 69 #[.slice A n c, .pointer (some ⟨ga, 0, none⟩), .pointer (some ⟨ge, 0, none⟩)] w fun e w' => e = .returned (.func (.func 81) #[] #[.pointer (some ⟨w.heap.size, 0, none⟩), .pointer (some ⟨w.heap.size + 1, 0, none⟩), .pointer (some ⟨w.heap.size + 2, 0, none⟩)]) ∧ Below w.heap.size w w' ∧
      w'.heap[w.heap.size]? = some (.cells #[.slice A n c] 48 (0, 0)) ∧ w'.heap[w.heap.size + 1]? = some (.cells #[.pointer (some ⟨ga, 0, none⟩)] 102 (0, 0)) ∧ w'.heap[w.heap.size + 2]? = some (.cells #[.pointer (some ⟨ge, 0, none⟩)] 103 (0, 0)) := by
  go_enter Try.func69, Try.ntmps69
  go_wp2
  go_ret
  exact ⟨rfl, below_alloc (below_alloc (below_alloc (Below.refl _ _) _) _) _, blk_alloc (blk_alloc (blk_new _ _) _) _, by simpa using blk_alloc (blk_new (w.alloc _) _) _, by simpa using blk_new ((w.alloc _).alloc _) _⟩
end
section
/-- Only blocks of T may have changed (and new ones are there). -/
structure But (T : Nat → Prop) (w w' : World) : Prop where
  os : w'.os = w.os
  tape : w'.tape = w.tape
  output : w'.output = w.output
  size : w.heap.size ≤ w'.heap.size
  block : ∀ k, k < w.heap.size → ¬ T k → w'.heap[k]? = w.heap[k]?
theorem But.refl (T : Nat → Prop) (w : World) : But T w w := ⟨rfl, rfl, rfl, Nat.le_refl _, fun _ _ _ => rfl⟩
theorem But.trans {T : Nat → Prop} {a b c : World} (h : But T a b) (k : But T b c) : But T a c :=
  ⟨k.os.trans h.os, k.tape.trans h.tape, k.output.trans h.output, Nat.le_trans h.size k.size, fun i hi hn => (k.block i (Nat.lt_of_lt_of_le hi h.size) hn).trans (h.block i hi hn)⟩
theorem But.mono {T T' : Nat → Prop} {a b : World} (h : But T a b) (hT : ∀ k, T k → T' k) : But T' a b := ⟨h.os, h.tape, h.output, h.size, fun i hi hn => h.block i hi fun hk => hn (hT i hk)⟩
theorem But.of_below {T : Nat → Prop} {w w' : World} (h : Below w.heap.size w w') : But T w w' := ⟨h.os, h.tape, h.output, h.size, fun k hk _ => h.block k hk⟩
theorem But.of_one {T : Nat → Prop} {b : Nat} {w w' : World} (h : XPrint.ButB b w w') (hb : T b) : But T w w' := ⟨h.os, h.tape, h.output, h.size, fun k hk hn => h.block k hk fun e => hn (e ▸ hb)⟩
theorem But.setCell {T : Nat → Prop} {w w' : World} (h : But T w w') {b : Nat} (hb : T b) (j : Nat) (v : Value) : But T w (w'.setCell ⟨b, j, none⟩ v) :=
  h.trans (But.of_one ((XPrint.ButB.refl b w').setCell j v) hb)
theorem But.drew {T : Nat → Prop} {w w' : World} (h : But T w w') : But T w w'.drew := ⟨h.os, h.tape, h.output, h.size, h.block⟩
theorem But.alloc {T : Nat → Prop} {w w' : World} (h : But T w w') (o : Obj) : But T w (w'.alloc o) := h.trans (But.of_below (below_alloc (Below.refl _ _) o))
theorem But.putObj {T : Nat → Prop} {w w' : World} (h : But T w w') {b : Nat} (hb : T b) (o : Obj) : But T w (w'.putObj b o) :=
  h.trans ⟨rfl, rfl, rfl, by simp, fun k hk hn => World.putObj_heap_other fun e => hn (e ▸ hb)⟩
theorem But.heap {T : Nat → Prop} {w w' : World} (h : But T w w') {b : Nat} {o : Obj} (hc : w.heap[b]? = some o) (hn : ¬ T b) : w'.heap[b]? = some o := (h.block b (Array.getElem?_eq_some_iff.1 hc).1 hn).trans hc
theorem But.below {T : Nat → Prop} {B : Nat} {w0 w w' : World} (h0 : Below B w0 w) (hB : B ≤ w0.heap.size) (h : But T w w') (hT : ∀ k, T k → B ≤ k) : Below B w0 w' :=
  h0.trans ⟨h.os, h.tape, h.output, h.size, fun k hk => h.block k (Nat.lt_of_lt_of_le hk (Nat.le_trans hB h0.size)) fun hk' => by have := hT k hk'; omega⟩
/-- The array and the count as the row of the open parts, the newest first. -/
def Rel (os : List (Int × Int)) (m : Nat) (S : List (Nat × Nat)) : Prop := m = S.length ∧ (∀ (i : Nat) (p : Nat × Nat), S.reverse[i]? = some p → os[i]? = some ((p.1 : Int), (p.2 : Int))) ∧ ∀ p ∈ S, p.2 ≤ 16
def errE (l : List S65) (a d : Nat) (i : Int) : Int := if (is1 l a || is2 l a || (i == 2 && !((rd_T65 l a).f0 == 0))) = true then 81 else if 8 < d then 80 else 0
def K65 (l : List S65) (a : Nat) : Nat := (rd_T65 l a).f4.toNat
def C65 (l : List S65) (a : Nat) : Int := (rd_T65 l a).f0
theorem rel_par {os : List (Int × Int)} {m : Nat} {S : List (Nat × Nat)} (h : Rel os m S) : par os m = ShapeM.parS S := by
  obtain ⟨hm, h, _⟩ := h
  cases S with
  | nil => simp at hm; subst hm; rfl
  | cons p T =>
    have hm' : m = T.length + 1 := by simpa using hm
    have := h T.length p (by simp)
    subst hm'
    unfold par ShapeM.parS
    rw [if_neg (by omega), show ((T.length + 1 : Nat) - 1 : Int).toNat = T.length by omega, this]
    rfl
theorem rel_err {l : List S65} {os : List (Int × Int)} {m : Nat} {S : List (Nat × Nat)} (h : Rel os m S) (a : Nat) : stepE l os m a = errE l a (S.length + 1) (ShapeM.kindP (C65 l) (ShapeM.parS S)) := by
  have hm := h.1
  unfold stepE errE is3 is4
  rw [rel_par h]
  have : (decide (0 ≤ ShapeM.parS S) && ((rd_T65 l (ShapeM.parS S)).f0 == 2 && !((rd_T65 l a).f0 == 0))) = (ShapeM.kindP (C65 l) (ShapeM.parS S) == 2 && !((rd_T65 l a).f0 == 0)) := by
    unfold ShapeM.kindP ShapeM.parS C65
    cases S with
    | nil => simp
    | cons p T => simp; rfl
  rw [this]
  by_cases h1 : is1 l a = true
  · simp [h1]
  · by_cases h2 : is2 l a = true
    · simp [h1, h2]
    · by_cases h3 : (ShapeM.kindP (C65 l) (ShapeM.parS S) == 2 && !((rd_T65 l a).f0 == 0)) = true
      · simp only [h1, h2, h3]; simp
      · by_cases h4 : 8 ≤ m
        · rw [if_neg h1, if_neg h2, if_neg h3, if_pos (show decide ((8 : Int) ≤ (m : Int)) = true from decide_eq_true (by omega)), if_neg (by simp only [Bool.or_eq_true, not_or]; exact ⟨⟨h1, h2⟩, h3⟩), if_pos (by omega)]
        · rw [if_neg h1, if_neg h2, if_neg h3, if_neg (show ¬ decide ((8 : Int) ≤ (m : Int)) = true from fun hc => h4 (by have := of_decide_eq_true hc; omega)), if_neg (by simp only [Bool.or_eq_true, not_or]; exact ⟨⟨h1, h2⟩, h3⟩), if_neg (by omega)]
theorem rel_pops {os : List (Int × Int)} : ∀ {S : List (Nat × Nat)} {m : Nat}, Rel os m S → Rel os (popped os m) (ShapeM.pops S)
  | [], m, h => by
    have : m = 0 := h.1
    subst this
    exact h
  | (p, x) :: T, m, h => by
    obtain ⟨hm, hS, hb⟩ := id h
    have hm' : m = T.length + 1 := by simpa using hm
    subst hm'
    have hx := hS T.length (p, x) (by simp)
    unfold popped ShapeM.pops
    rw [hx]
    by_cases hx0 : x = 0
    · subst hx0
      simp only [Option.getD_some, if_true]
      refine rel_pops (S := T) ⟨rfl, fun i q hi => hS i q ?_, fun q hq => hb q (List.mem_cons_of_mem _ hq)⟩
      rw [List.reverse_cons, List.getElem?_append_left (by simpa using (List.getElem?_eq_some_iff.1 hi).1)]
      exact hi
    · rw [if_neg (by simpa using hx0), if_neg hx0]
      exact h
theorem rel_push {l : List S65} {os : List (Int × Int)} {m : Nat} {S : List (Nat × Nat)} (h : Rel os m S) (hlen : os.length = 9) (hm8 : m ≤ 7) (hS : S = ShapeM.pops S) (a : Nat) (hk0 : 0 ≤ (rd_T65 l a).f4) (hk : (rd_T65 l a).f4 ≤ 16) :
    Rel (stepOs l os m a) (m + 1) ((a, K65 l a) :: ShapeM.dec S) := by
  obtain ⟨hm, hR, hb⟩ := h
  have hkk : ((K65 l a : Nat) : Int) = (rd_T65 l a).f4 := by unfold K65; omega
  cases S with
  | nil =>
    have : m = 0 := by simpa using hm
    subst this
    refine ⟨rfl, fun i p hi => ?_, fun p hp => ?_⟩
    · unfold stepOs
      rw [if_pos rfl]
      have hi' : ([(a, K65 l a)] : List (Nat × Nat))[i]? = some p := by simpa [ShapeM.dec] using hi
      cases i with
      | zero =>
        obtain rfl : (a, K65 l a) = p := by simpa using hi'
        rw [List.getElem?_set_self (by omega), hkk]
      | succ i => simp at hi'
    · obtain rfl : p = (a, K65 l a) := by simpa [ShapeM.dec] using hp
      have : K65 l a ≤ 16 := by omega
      exact this
  | cons q T =>
    obtain ⟨q, x⟩ := q
    have hm' : m = T.length + 1 := by simpa using hm
    subst hm'
    have hx0 : x ≠ 0 := by
      intro hx
      subst hx
      have hl : (ShapeM.pops ((q, 0) :: T)).length ≤ T.length := by
        simp only [ShapeM.pops, if_true]
        clear hS hR hb hm
        induction T with
        | nil => simp [ShapeM.pops]
        | cons r T ih => 
          obtain ⟨r, y⟩ := r
          unfold ShapeM.pops
          split
          · exact Nat.le_trans (ih (by simp at hm8; omega)) (by simp)
          · simp
      rw [← hS] at hl
      simp only [List.length_cons] at hl
      omega
    have hx16 : x ≤ 16 := hb (q, x) List.mem_cons_self
    have hq := hR T.length (q, x) (by simp)
    have e0 : stepOs l os (T.length + 1) a = (os.set T.length ((q : Int), ((x - 1 : Nat) : Int))).set (T.length + 1) ((a : Int), (rd_T65 l a).f4) := by
      unfold stepOs
      rw [if_neg (by omega)]
      unfold nextOs
      rw [Nat.add_sub_cancel, hq]
      have : IntKind.i64.wrap ((x : Int) - 1) = ((x - 1 : Nat) : Int) := by rw [IntKind.wrap_i64]; omega
      simp only [Option.getD_some]
      rw [this]
    rw [e0]
    refine ⟨by simp [ShapeM.dec], fun i p hi => ?_, fun p hp => ?_⟩
    · have hi' : (T.reverse ++ [(q, x - 1), (a, K65 l a)])[i]? = some p := by simpa [ShapeM.dec] using hi
      rcases Nat.lt_trichotomy i T.length with h1 | h1 | h1
      · rw [List.getElem?_append_left (by simpa using h1)] at hi'
        rw [List.getElem?_set_ne (by omega), List.getElem?_set_ne (by omega)]
        refine hR i p ?_
        rw [List.reverse_cons, List.getElem?_append_left (by simpa using h1)]
        exact hi'
      · subst h1
        rw [List.getElem?_append_right (by simp)] at hi'
        obtain rfl : (q, x - 1) = p := by simpa using hi'
        rw [List.getElem?_set_ne (by omega), List.getElem?_set_self (by omega)]
      · rw [List.getElem?_append_right (by simp; omega)] at hi'
        obtain ⟨j, hj⟩ : ∃ j, i = T.length + 1 + j := ⟨i - (T.length + 1), by omega⟩
        subst hj
        cases j with
        | zero =>
          have : T.length + 1 + 0 - T.reverse.length = 1 := by simp
          rw [this] at hi'
          obtain rfl : (a, K65 l a) = p := by simpa using hi'
          rw [Nat.add_zero, List.getElem?_set_self (by simp; omega), hkk]
        | succ j =>
          have : T.length + 1 + (j + 1) - T.reverse.length = j + 2 := by simp; omega
          rw [this] at hi'
          simp at hi'
    · simp only [ShapeM.dec, List.mem_cons] at hp
      rcases hp with rfl | rfl | hp
      · show K65 l a ≤ 16; omega
      · show x - 1 ≤ 16; omega
      · exact hb p (List.mem_cons_of_mem _ hp)
theorem rel_step {l : List S65} {os : List (Int × Int)} {m : Nat} {S : List (Nat × Nat)} (h : Rel os m S) (hlen : os.length = 9) (hm8 : m ≤ 7) (hS : S = ShapeM.pops S) (a : Nat) (hk0 : 0 ≤ (rd_T65 l a).f4) (hk : (rd_T65 l a).f4 ≤ 16) :
    Rel (stepOs l os m a) (popped (stepOs l os m a) (m + 1)) (ShapeM.pops ((a, K65 l a) :: ShapeM.dec S)) := rel_pops (rel_push h hlen hm8 hS a hk0 hk)
end
section
abbrev Met := Nat × Int × Nat
/-- What the walk meets, where it ends, and why. -/
def walk65 (l : List S65) : List Met × Nat × Int := ShapeM.walk (errE l) (K65 l) (C65 l) 64
def frameV (x : Met) : Value := .agg #[.int .i64 x.2.1, .int .i64 x.2.2]
/-- What is left of the walk. -/
def cont (l : List S65) (i : Nat) (S : List (Nat × Nat)) : List Met × Nat × Int := if i = 0 then walk65 l else ShapeM.go (errE l) (K65 l) (C65 l) (65 - i) i S
theorem pops_pops : ∀ S : List (Nat × Nat), ShapeM.pops (ShapeM.pops S) = ShapeM.pops S
  | [] => rfl
  | (p, x) :: T => by
    by_cases h : x = 0
    · have e : ShapeM.pops ((p, x) :: T) = ShapeM.pops T := by simp [ShapeM.pops, h]
      rw [e]
      exact pops_pops T
    · have e : ShapeM.pops ((p, x) :: T) = (p, x) :: T := by simp [ShapeM.pops, h]
      rw [e, e]
theorem go_pops (l : List S65) (f a : Nat) (S : List (Nat × Nat)) : ShapeM.go (errE l) (K65 l) (C65 l) f a (ShapeM.pops S) = ShapeM.go (errE l) (K65 l) (C65 l) f a S := by
  unfold ShapeM.go
  rw [pops_pops]
theorem pops_mem : ∀ {S : List (Nat × Nat)} {p : Nat × Nat}, p ∈ ShapeM.pops S → p ∈ S
  | (q, x) :: T, p, h => by
    unfold ShapeM.pops at h
    split at h
    · exact List.mem_cons_of_mem _ (pops_mem h)
    · exact h
theorem pops_head {S : List (Nat × Nat)} {p x : Nat} {T : List (Nat × Nat)} (h : (p, x) :: T = ShapeM.pops S) : x ≠ 0 := by
  induction S with
  | nil => simp [ShapeM.pops] at h
  | cons q S ih =>
    obtain ⟨q, y⟩ := q
    unfold ShapeM.pops at h
    split at h
    · exact ih h
    · rename_i hy
      injection h with h1 h2
      injection h1 with h3 h4
      omega
theorem cont_end {l : List S65} {i : Nat} (hi : i ≠ 0) : cont l i [] = ([], i, 0) := by
  unfold cont
  rw [if_neg hi, ShapeM.go_nil]
theorem cont_bad {l : List S65} {i : Nat} {S : List (Nat × Nat)} (hi : i ≤ 64) (h0 : i = 0 → S = []) (h1 : i ≠ 0 → S ≠ []) (hS : S = ShapeM.pops S) (he : errE l i (S.length + 1) (ShapeM.kindP (C65 l) (ShapeM.parS S)) ≠ 0) :
    cont l i S = ([], i, errE l i (S.length + 1) (ShapeM.kindP (C65 l) (ShapeM.parS S))) := by
  unfold cont
  by_cases hz : i = 0
  · subst hz
    obtain rfl := h0 rfl
    have he' : errE l 0 1 0 ≠ 0 := he
    rw [if_pos rfl]
    unfold walk65 ShapeM.walk
    rw [if_neg he']
    rfl
  · rw [if_neg hz]
    cases S with
    | nil => exact absurd rfl (h1 hz)
    | cons p T =>
      obtain ⟨p, x⟩ := p
      have hx := pops_head hS
      obtain ⟨x, rfl⟩ : ∃ y, x = y + 1 := ⟨x - 1, by omega⟩
      rw [show 65 - i = (64 - i) + 1 by omega]
      exact ShapeM.go_bad _ _ _ _ _ he
theorem cont_good {l : List S65} {i : Nat} {S : List (Nat × Nat)} (hi : i ≤ 64) (h0 : i = 0 → S = []) (h1 : i ≠ 0 → S ≠ []) (hS : S = ShapeM.pops S) (he : errE l i (S.length + 1) (ShapeM.kindP (C65 l) (ShapeM.parS S)) = 0) :
    cont l i S = ((i, ShapeM.parS S, S.length + 1) :: (cont l (i + 1) (ShapeM.pops ((i, K65 l i) :: ShapeM.dec S))).1, (cont l (i + 1) (ShapeM.pops ((i, K65 l i) :: ShapeM.dec S))).2) := by
  unfold cont
  rw [if_neg (Nat.succ_ne_zero i), go_pops]
  by_cases hz : i = 0
  · subst hz
    obtain rfl := h0 rfl
    have he' : errE l 0 1 0 = 0 := he
    rw [if_pos rfl]
    unfold walk65 ShapeM.walk
    rw [if_pos he']
    rfl
  · rw [if_neg hz]
    cases S with
    | nil => exact absurd rfl (h1 hz)
    | cons p T =>
      obtain ⟨p, x⟩ := p
      have hx := pops_head hS
      obtain ⟨x, rfl⟩ : ∃ y, x = y + 1 := ⟨x - 1, by omega⟩
      rw [show 65 - i = (65 - (i + 1)) + 1 by omega]
      exact ShapeM.go_step _ _ _ _ _ he
theorem errE_ok {l : List S65} {i d : Nat} {p : Int} (he : errE l i d p = 0) : i < l.length ∧ i < 64 ∧ d ≤ 8 ∧ 0 ≤ (rd_T65 l i).f4 ∧ (rd_T65 l i).f4 ≤ 16 := by
  unfold errE at he
  split at he
  · cases he
  · rename_i h
    split at he
    · cases he
    · rename_i h8
      simp only [Bool.or_eq_true, not_or, Bool.not_eq_true] at h
      obtain ⟨⟨h1, h2⟩, h3⟩ := h
      unfold is1 at h1
      simp only [Bool.or_eq_false_iff, decide_eq_false_iff_not] at h1
      refine ⟨by omega, by omega, by omega, ?_⟩
      unfold is2 at h2
      split at h2
      · unfold atomB at h2
        simp only [decide_eq_false_iff_not] at h2
        omega
      · unfold otherB at h2
        simp only [decide_eq_false_iff_not] at h2
        omega
theorem push_mem {l : List S65} {i : Nat} {S : List (Nat × Nat)} (h : ∀ p ∈ S, p.1 < l.length) (hi : i < l.length) : ∀ p ∈ ShapeM.pops ((i, K65 l i) :: ShapeM.dec S), p.1 < l.length := by
  intro p hp
  have := pops_mem hp
  rcases List.mem_cons.1 this with rfl | hp
  · exact hi
  · cases S with
    | nil => cases hp
    | cons q T =>
      rcases List.mem_cons.1 hp with rfl | hp
      · exact h q List.mem_cons_self
      · exact h p (List.mem_cons_of_mem _ hp)
theorem parS_lt {l : List S65} {S : List (Nat × Nat)} (h : ∀ p ∈ S, p.1 < l.length) : ShapeM.parS S < l.length := by
  cases S with
  | nil => show (-1 : Int) < _; omega
  | cons q T => have := h q List.mem_cons_self; unfold ShapeM.parS; simp; omega
end
section
def os0 : List (Int × Int) := List.replicate 9 (0, 0)
structure Mid (w0 : World) (bl ba be ga ge g : Nat) (A : Option Addr) (c : Nat) (l : List S65) (J : List Met → World → Prop) (i : Nat) (pre : List Met) (S : List (Nat × Nat)) (W : World) : Prop where
  below : Below w0.heap.size w0 W
  b1 : W.heap[bl]? = some (.cells #[.slice A l.length c] 48 (0, 0))
  b2 : W.heap[ba]? = some (.cells #[.pointer (some ⟨ga, 0, none⟩)] 102 (0, 0))
  b3 : W.heap[be]? = some (.cells #[.pointer (some ⟨ge, 0, none⟩)] 103 (0, 0))
  walk : ∃ os m, Lies W g (.slice A l.length c) os (m : Nat) ∧ Rel os m S
  j : J pre W
  left : ((pre ++ (cont l i S).1), (cont l i S).2) = walk65 l
  top : S = ShapeM.pops S
  plc : ∀ p ∈ S, p.1 < l.length
  hzero : i = 0 → S = []
  g1 : ∃ v, W.heap[ga]? = some (.cells #[.int .i64 v] 3 (0, 0)) ∧ (i ≠ 0 → v = i)
  g2 : ∃ v, W.heap[ge]? = some (.cells #[.int .i64 v] 24 (0, 0)) ∧ (i ≠ 0 → v = 0)
  low : i ≤ l.length
set_option maxHeartbeats 8000000 in
set_option maxRecDepth 100000 in
theorem parts1 (n : Nat) (w0 : World) (lr bl ba be ga ge : Nat) (A : Option Addr) (c : Nat) (l : List S65) (mine : Nat → Prop) (J Jx : List Met → World → Prop) (W : World)
    (hw : Below w0.heap.size w0 W) (hC : Kd.C k65 w0 A l.length l)
    (b1 : W.heap[bl]? = some (.cells #[.slice A l.length c] 48 (0, 0))) (b2 : W.heap[ba]? = some (.cells #[.pointer (some ⟨ga, 0, none⟩)] 102 (0, 0))) (b3 : W.heap[be]? = some (.cells #[.pointer (some ⟨ge, 0, none⟩)] 103 (0, 0)))
    (g1 : ∃ v, W.heap[ga]? = some (.cells #[.int .i64 v] 3 (0, 0))) (g2 : ∃ v, W.heap[ge]? = some (.cells #[.int .i64 v] 24 (0, 0)))
    (hga : w0.heap.size ≤ ga) (hge : w0.heap.size ≤ ge)
    (hm : ∀ k, mine k → w0.heap.size ≤ k ∧ k ≠ bl ∧ k ≠ ba ∧ k ≠ be ∧ k ≠ ga ∧ k ≠ ge ∧ k ≠ W.heap.size)
    (hJ : ∀ s W1 W2, J s W1 → But (fun k => k = ga ∨ k = ge ∨ k = W.heap.size) W1 W2 → J s W2)
    (hJx : ∀ s W1 W2, Jx s W1 → But (fun k => k = ga ∨ k = ge ∨ k = W.heap.size) W1 W2 → Jx s W2)
    (hY : ∀ pre x post W1, (walk65 l).1 = pre ++ x :: post → J pre W1 → W.heap.size < W1.heap.size → YieldAt Fence.wide (n - 1) Try.prog lr #[.int .i64 x.1, frameV x] W1 fun e W' => (e = .returned (.bool true) ∧ J (pre ++ [x]) W' ∧ But mine W1 W') ∨ (e = .returned (.bool false) ∧ Jx (pre ++ [x]) W'))
    (h0 : J [] W) :
    CallsIn Fence.wide n Try.prog 81 #[.func (.yield lr) #[] #[], .pointer (some ⟨bl, 0, none⟩), .pointer (some ⟨ba, 0, none⟩), .pointer (some ⟨be, 0, none⟩)] W fun e W' => (∃ v, e = .returned v) ∧
      ((J (walk65 l).1 W' ∧ Below w0.heap.size w0 W' ∧ W'.heap[ga]? = some (.cells #[.int .i64 (walk65 l).2.1] 3 (0, 0)) ∧ W'.heap[ge]? = some (.cells #[.int .i64 (walk65 l).2.2] 24 (0, 0))) ∨ ∃ pre x post, (walk65 l).1 = pre ++ x :: post ∧ Jx (pre ++ [x]) W') := by
  refine callsIn_wide.2 ?_
  have c1 := blk_cell b1 0
  have H := Aside0.mk b1
  have hga0 := Aside0.mk hga
  go_enter Try.func81, Try.ntmps81
  go_wp2
  go_loopg [6] 66 (fun k p wr => ∃ (i : Nat) (pre : List Met) (S : List (Nat × Nat)), p = .int .i64 i ∧ k = 66 - i ∧ i ≤ 64 ∧ Mid w0 bl ba be ga ge W.heap.size A c l J i pre S wr)
  case atStart =>
    obtain ⟨v1, g1⟩ := g1
    obtain ⟨v2, g2⟩ := g2
    exact ⟨0, [], [], rfl, rfl, by omega, { below := (hw.alloc hw.size _), b1 := blk_alloc b1 _, b2 := blk_alloc b2 _, b3 := blk_alloc b3 _, walk := ⟨os0, 0, ⟨rfl, by omega, by omega, blk_new _ _⟩, rfl, fun i p h => by simp at h, fun p h => (by cases h)⟩, j := hJ _ _ _ h0 ((But.refl _ _).alloc _), left := rfl, top := rfl, plc := fun p h => (by cases h), hzero := fun _ => rfl, g1 := ⟨v1, blk_alloc g1 _, fun h => absurd rfl h⟩, g2 := ⟨v2, blk_alloc g2 _, fun h => absurd rfl h⟩, low := Nat.zero_le _ }⟩
  obtain ⟨i, pre, S, rfl, rfl, hi, M⟩ := hrel
  obtain ⟨os, m, L, R⟩ := M.walk
  have hn := L.n
  have hcase : ((i : Int) == 0) = true ∨ ((i : Int) == 0) = false ∧ decide (0 < (m : Int)) = true ∨ ((i : Int) == 0) = false ∧ decide (0 < (m : Int)) = false := by
    by_cases h1 : i = 0
    · exact .inl (by simp [h1])
    · by_cases h2 : 0 < m
      · exact .inr (.inl ⟨by simpa using h1, decide_eq_true (by omega)⟩)
      · exact .inr (.inr ⟨by simpa using h1, decide_eq_false (by omega)⟩)
  obtain ⟨z, hz⟩ : ∃ z : Int, (i : Int) = z := ⟨_, rfl⟩
  rw [hz] at hcase ⊢
  obtain ⟨mi, hmi⟩ : ∃ mi : Int, (m : Int) = mi := ⟨_, rfl⟩
  rw [hmi] at hn hcase
  have M := Aside0.mk (And.intro M (And.intro L (And.intro R (And.intro hz (And.intro hmi (And.intro hi (And.intro hga (And.intro hge h0))))))))
  clear L R hz hmi hi hga hge h0 g1 g2
  have hcase : (((z == 0) = false) ∧ decide (0 < mi) = false) ∨ ((z == 0) = true ∨ (z == 0) = false ∧ decide (0 < mi) = true) := by
    rcases hcase with h | h | h
    · exact .inr (.inl h)
    · exact .inr (.inr h)
    · exact .inl h
  rcases hcase with ⟨hc1, hc2⟩ | hcase
  · go_wp2_with fail
    go_end0
    obtain ⟨M, L, R, hz, hmi, hi, hga, hge, h0⟩ := M.out
    have hi0 : i ≠ 0 := by
      rintro rfl
      simp at hz
      subst hz
      simp at hc1
    have hm0 : m = 0 := by
      have := of_decide_eq_false hc2
      omega
    have hS : S = [] := by
      have := R.1
      cases S with
      | nil => rfl
      | cons => simp at this; omega
    subst hS
    have hl := M.left
    rw [cont_end hi0] at hl
    simp only [List.append_nil] at hl
    obtain ⟨v1, hg1, hv1⟩ := M.g1
    obtain ⟨v2, hg2, hv2⟩ := M.g2
    rw [hv1 hi0] at hg1
    rw [hv2 hi0] at hg2
    refine ⟨⟨_, rfl⟩, .inl ⟨?_, M.below, ?_, ?_⟩⟩
    · rw [← hl]; exact M.j
    · rw [← hl]; exact hg1
    · rw [← hl]; exact hg2
  rcases hcase with hc1 | ⟨hc1, hc2⟩ <;> go_wp2_with fail
  all_goals
    refine XInv.region_inv [9] (fun b j => match j with
      | 0 => .pointer (some ⟨W.heap.size, 0, none⟩)
      | 1 => .int .i64 (par os mi)
      | 2 => .pointer (some ⟨W.heap.size, 0, none⟩)
      | 3 => .pointer (some ⟨W.heap.size, 0, none⟩)
      | 4 => .pointer (some ⟨W.heap.size, 19, none⟩)
      | 5 => .int .i64 mi
      | 6 => .int .i64 (IntKind.i64.wrap (mi + 1))
      | 7 => .agg #[.int .i64 (par os mi), .int .i64 (IntKind.i64.wrap (mi + 1))]
      | 8 => .pointer (some ⟨b 8, 0, none⟩)
      | _ => undef)
      (fun b l w' => Below wr.heap.size wr w' ∧ (l 8 = true → wr.heap.size ≤ b 8 ∧ w'.heap[b 8]? = some (.cells #[.int .i64 0, .int .i64 0] 105 (0, 0))))
      (by kernel_rfl) rfl (by kernel_rfl) (by kernel_rfl) ⟨fun _ => 0, below_drew (Below.refl _ _), fun h => (by cases h)⟩ ?_ ?_
    · intro i1 hi1 hds oi hoi b lb w' hW hlb hneed hcl
      have hi1 : i1 < 10 := hi1
      have hcs : i1 = 0 ∨ i1 = 1 ∨ i1 = 2 ∨ i1 = 3 ∨ i1 = 4 ∨ i1 = 5 ∨ i1 = 6 ∨ i1 = 7 ∨ i1 = 8 ∨ i1 = 9 := by omega
      clear hi1
      have hU : ∀ j, j ≠ 8 → XInv.up lb j 8 = true → lb 8 = true := fun j hj h => by
        unfold XInv.up at h
        rwa [if_neg (Ne.symm hj)] at h
      have hn' : w'.cell? ⟨W.heap.size, 19, none⟩ = some (.int .i64 mi) := (hW.1.cell (p := ⟨W.heap.size, 19, none⟩) (blk_lt M.out.2.1.2.2.2)).trans hn
      rcases hcs with rfl | rfl | rfl | rfl | rfl | rfl | rfl | rfl | rfl | rfl
      all_goals simp only [List.getElem?_toArray, List.getElem?_cons_succ, List.getElem?_cons_zero, Option.some.injEq] at hoi
      all_goals subst hoi
      · refine XInv.yes_of [] (by kernel_rfl) ?_
        intro Q2 K2 hK2
        simp only [XInv.puts, XPrint.pw]
        go_simp
        exact hK2.out (.pointer (some ⟨W.heap.size, 0, none⟩)) w' ⟨b, rfl, fun _ _ _ => rfl, hW.1, fun h => hW.2 (hU _ (by decide) h)⟩
      · refine XInv.yes_of [(22, 0)] (by kernel_rfl) ?_
        intro Q2 K2 hK2
        simp only [XInv.puts, XPrint.pw]
        go_simp
        refine (parent W.heap.size (.slice A l.length c) os mi w' (by rw [← M.out.2.2.2.2.1]; exact M.out.2.1.below hW.1)).mono ?_
        rintro e w2 ⟨rfl, hb2⟩
        exact hK2.out (.int .i64 (par os mi)) w2 ⟨b, rfl, fun _ _ _ => rfl, below_step hW.1 hb2, fun h => ⟨(hW.2 (hU _ (by decide) h)).1, blk_below (hW.2 (hU _ (by decide) h)).2 hb2⟩⟩
      · refine XInv.yes_of [] (by kernel_rfl) ?_
        intro Q2 K2 hK2
        simp only [XInv.puts, XPrint.pw]
        go_simp
        exact hK2.out (.pointer (some ⟨W.heap.size, 0, none⟩)) w' ⟨b, rfl, fun _ _ _ => rfl, hW.1, fun h => hW.2 (hU _ (by decide) h)⟩
      · refine XInv.yes_of [(24, 2)] (by kernel_rfl) ?_
        intro Q2 K2 hK2
        simp only [XInv.puts, XPrint.pw]
        go_simp
        exact hK2.out (.pointer (some ⟨W.heap.size, 0, none⟩)) w' ⟨b, rfl, fun _ _ _ => rfl, hW.1, fun h => hW.2 (hU _ (by decide) h)⟩
      · refine XInv.yes_of [(25, 3)] (by kernel_rfl) ?_
        intro Q2 K2 hK2
        simp only [XInv.puts, XPrint.pw]
        go_simp
        exact hK2.out (.pointer (some ⟨W.heap.size, 19, none⟩)) w' ⟨b, rfl, fun _ _ _ => rfl, hW.1, fun h => hW.2 (hU _ (by decide) h)⟩
      · refine XInv.yes_of [(26, 4)] (by kernel_rfl) ?_
        intro Q2 K2 hK2
        simp only [XInv.puts, XPrint.pw]
        go_simp
        exact hK2.out (.int .i64 mi) w' ⟨b, rfl, fun _ _ _ => rfl, hW.1, fun h => hW.2 (hU _ (by decide) h)⟩
      · refine XInv.yes_of [(27, 5)] (by kernel_rfl) ?_
        intro Q2 K2 hK2
        simp only [XInv.puts, XPrint.pw]
        go_simp
        exact hK2.out (.int .i64 (IntKind.i64.wrap (mi + 1))) w' ⟨b, rfl, fun _ _ _ => rfl, hW.1, fun h => hW.2 (hU _ (by decide) h)⟩
      · refine XInv.yes_of [(28, 6), (23, 1)] (by kernel_rfl) ?_
        intro Q2 K2 hK2
        simp only [XInv.puts, XPrint.pw]
        go_simp
        exact hK2.out (.agg #[.int .i64 (par os mi), .int .i64 (IntKind.i64.wrap (mi + 1))]) w' ⟨b, rfl, fun _ _ _ => rfl, hW.1, fun h => hW.2 (hU _ (by decide) h)⟩
      · refine XInv.yes_of [] (by kernel_rfl) ?_
        intro Q2 K2 hK2
        simp only [XInv.puts, XPrint.pw]
        go_simp
        exact hK2.out (.pointer (some ⟨w'.heap.size, 0, none⟩)) _ ⟨fun _ => w'.heap.size, rfl, fun j hj h => by
          have : j ≠ 8 := fun e => by subst e; rw [hlb] at h; cases h
          have hcs : j = 0 ∨ j = 1 ∨ j = 2 ∨ j = 3 ∨ j = 4 ∨ j = 5 ∨ j = 6 ∨ j = 7 ∨ j = 9 := by
            have : j < 10 := hj
            omega
          rcases hcs with rfl | rfl | rfl | rfl | rfl | rfl | rfl | rfl | rfl <;> rfl, below_alloc hW.1 _, fun _ => ⟨hW.1.size, blk_new _ _⟩⟩
      · cases hds
    · intro b w' hW
      refine XInv.end_of [(7, 8), (29, 7), (28, 6), (27, 5), (26, 4), (25, 3), (24, 2), (23, 1), (22, 0)] (by kernel_rfl) ?_
      refine XInv.end_seq _ 9 rfl rfl (by kernel_rfl) ?_
      simp only [XInv.puts, XPrint.pw]
      obtain ⟨hb, h8⟩ := hW
      obtain ⟨hb8, hblk⟩ := h8 rfl
      have q0 := (blk_cell hblk 0).trans rfl
      have q1 := (blk_cell hblk 1).trans rfl
      have f0 := blk_frozen hblk 0
      have f1 := blk_frozen hblk 1
      generalize b 8 = fb at *
      obtain ⟨pv, hpv⟩ : ∃ pv, par os mi = pv := ⟨_, rfl⟩
      obtain ⟨d, hd⟩ : ∃ d, wrap64 (mi + 1) = d := ⟨_, rfl⟩
      go_wp2_with fail
      rw [hd]
      have B4 : Below wr.heap.size wr ((w'.setCell ⟨fb, 0, none⟩ (.int .i64 pv)).setCell ⟨fb, 1, none⟩ (.int .i64 d)) := below_set (below_set hb hb8) hb8
      have hf4 : ((w'.setCell ⟨fb, 0, none⟩ (.int .i64 pv)).setCell ⟨fb, 1, none⟩ (.int .i64 d)).heap[fb]? = some (.cells #[.int .i64 pv, .int .i64 d] 105 (0, 0)) := by
        have := blk_set (blk_set hblk 0 (.int .i64 pv)) 1 (.int .i64 d)
        simpa using this
      generalize ((w'.setCell ⟨fb, 0, none⟩ (.int .i64 pv)).setCell ⟨fb, 1, none⟩ (.int .i64 d)) = W4 at B4 hf4 ⊢
      clear hblk q0 q1 f0 f1 h8 hb hb8 hn
      have X := Aside0.mk (And.intro hpv (And.intro hd (And.intro B4 hf4)))
      have L4 := M.out.2.1.below B4
      have D4 := M.out.1.below.trans (B4.mono M.out.1.below.size)
      have e1 := blk_below M.out.1.b1 B4
      have e2 := blk_below M.out.1.b2 B4
      have e3 := blk_below M.out.1.b3 B4
      obtain ⟨v1, g1, hv1⟩ := M.out.1.g1
      obtain ⟨v2, g2, hv2⟩ := M.out.1.g2
      have g1 := blk_below g1 B4
      have g2 := blk_below g2 B4
      have n1 : ga ≠ W.heap.size := blk_ne g1 L4.2.2.2 (by decide)
      have n2 : ge ≠ W.heap.size := blk_ne g2 L4.2.2.2 (by decide)
      have n3 : ge ≠ ga := blk_ne g2 g1 (by decide)
      have n4 : ba ≠ ga := blk_ne e2 g1 (by decide)
      have n5 : ba ≠ W.heap.size := blk_ne e2 L4.2.2.2 (by decide)
      have n6 : be ≠ ga := blk_ne e3 g1 (by decide)
      have n7 : be ≠ W.heap.size := blk_ne e3 L4.2.2.2 (by decide)
      have n8 : fb ≠ ga := blk_ne hf4 g1 (by decide)
      have n9 : fb ≠ W.heap.size := blk_ne hf4 L4.2.2.2 (by decide)
      have n10 : bl ≠ ga := blk_ne e1 g1 (by decide)
      have n11 : bl ≠ W.heap.size := blk_ne e1 L4.2.2.2 (by decide)
      have n12 : bl ≠ ge := blk_ne e1 g2 (by decide)
      have n13 : ba ≠ ge := blk_ne e2 g2 (by decide)
      have n14 : be ≠ ge := blk_ne e3 g2 (by decide)
      have n15 : fb ≠ ge := blk_ne hf4 g2 (by decide)
      obtain ⟨e, he⟩ : ∃ e, stepE l os m z = e := ⟨_, rfl⟩
      obtain ⟨os', hos⟩ : ∃ os', (if e = 0 then stepOs l os m z else os) = os' := ⟨_, rfl⟩
      obtain ⟨m', hm'⟩ : ∃ m', (if e = 0 then popped (stepOs l os m z) (m + 1) else m) = m' := ⟨_, rfl⟩
      have Y := Aside0.mk (And.intro he (And.intro hos hm'))
      have ST : ∀ w5, Below w0.heap.size w0 w5 → Lies w5 W.heap.size (.slice A l.length c) os (m : Nat) → Calls Try.prog 83 #[.pointer (some ⟨W.heap.size, 0, none⟩), .int .i64 z] w5 fun e' w' => e' = .returned (.int .i64 e) ∧ XPrint.ButB W.heap.size w5 w' ∧ Lies w' W.heap.size (.slice A l.length c) os' (m' : Nat) := by
        intro w5 hb5 hL5
        have := wStep W.heap.size A c l os m z w5 hL5 (Kd.C_below hC hb5) (by rw [← M.out.2.2.2.1]; omega) (by rw [rel_par M.out.2.2.1]; exact parS_lt M.out.1.plc) (fun hl a ha => by
          obtain ⟨ad, hA, hk, _⟩ := at_T65 hC 0 (by omega) (by omega)
          rw [hA] at ha
          cases ha
          have := World.block_lt_of_cell? w0 _ hk
          rw [add_block] at this
          have := hw.size
          omega)
        rw [he, hos, hm'] at this
        exact this
      have ST := Aside0.mk ST
      clear he hos hm' hv1 hv2 B4 hpv hd
      refine XInv.region_inv [8, 9] (fun b j => match j with
        | 0 => .pointer (some ⟨ga, 0, none⟩)
        | 1 => .pointer (some ⟨ge, 0, none⟩)
        | 2 => .int .i64 z
        | 3 => .pointer (some ⟨W.heap.size, 0, none⟩)
        | 4 => .int .i64 z
        | 5 => .int .i64 e
        | 6 => .pointer (some ⟨ga, 0, none⟩)
        | _ => undef)
        (fun b l1 w' => But (fun k => k = ga ∨ k = W.heap.size) W4 w' ∧ Lies w' W.heap.size (.slice A l.length c) (if l1 5 = true then os' else os) ((if l1 5 = true then m' else m : Nat) : Int) ∧ ∃ v, w'.heap[ga]? = some (.cells #[.int .i64 v] 3 (0, 0)) ∧ (l1 7 = true → v = z))
        (by kernel_rfl) rfl (by kernel_rfl) (by kernel_rfl) ⟨fun _ => 0, (But.refl _ _).drew, L4, v1, g1, fun h => (by cases h)⟩ ?_ ?_
      · intro i1 hi1 hds oi hoi b lb w' hW hlb hneed hcl
        have hi1 : i1 < 10 := hi1
        have hcs : i1 = 0 ∨ i1 = 1 ∨ i1 = 2 ∨ i1 = 3 ∨ i1 = 4 ∨ i1 = 5 ∨ i1 = 6 ∨ i1 = 7 ∨ i1 = 8 ∨ i1 = 9 := by omega
        clear hi1
        have hU5 : ∀ j, j ≠ 5 → XInv.up lb j 5 = lb 5 := fun j hj => by
          unfold XInv.up
          rw [if_neg (Ne.symm hj)]
        have hU7 : ∀ j, j ≠ 7 → XInv.up lb j 7 = lb 7 := fun j hj => by
          unfold XInv.up
          rw [if_neg (Ne.symm hj)]
        have r2 := (blk_cell (hW.1.heap e2 (fun h => h.elim n4 n5)) 0).trans rfl
        have r3 := (blk_cell (hW.1.heap e3 (fun h => h.elim n6 n7)) 0).trans rfl
        rcases hcs with rfl | rfl | rfl | rfl | rfl | rfl | rfl | rfl | rfl | rfl
        all_goals simp only [List.getElem?_toArray, List.getElem?_cons_succ, List.getElem?_cons_zero, Option.some.injEq] at hoi
        all_goals subst hoi
        · refine XInv.yes_of [] (by kernel_rfl) ?_
          intro Q2 K2 hK2
          simp only [XInv.puts, XPrint.pw]
          go_simp
          exact hK2.out (.pointer (some ⟨ga, 0, none⟩)) w' ⟨b, rfl, fun _ _ _ => rfl, hW.1, by rw [hU5 _ (by decide)]; exact hW.2.1, by rw [hU7 _ (by decide)]; exact hW.2.2⟩
        · refine XInv.yes_of [] (by kernel_rfl) ?_
          intro Q2 K2 hK2
          simp only [XInv.puts, XPrint.pw]
          go_simp
          exact hK2.out (.pointer (some ⟨ge, 0, none⟩)) w' ⟨b, rfl, fun _ _ _ => rfl, hW.1, by rw [hU5 _ (by decide)]; exact hW.2.1, by rw [hU7 _ (by decide)]; exact hW.2.2⟩
        · refine XInv.yes_of [] (by kernel_rfl) ?_
          intro Q2 K2 hK2
          simp only [XInv.puts, XPrint.pw]
          go_simp
          exact hK2.out (.int .i64 z) w' ⟨b, rfl, fun _ _ _ => rfl, hW.1, by rw [hU5 _ (by decide)]; exact hW.2.1, by rw [hU7 _ (by decide)]; exact hW.2.2⟩
        · refine XInv.yes_of [] (by kernel_rfl) ?_
          intro Q2 K2 hK2
          simp only [XInv.puts, XPrint.pw]
          go_simp
          exact hK2.out (.pointer (some ⟨W.heap.size, 0, none⟩)) w' ⟨b, rfl, fun _ _ _ => rfl, hW.1, by rw [hU5 _ (by decide)]; exact hW.2.1, by rw [hU7 _ (by decide)]; exact hW.2.2⟩
        · refine XInv.yes_of [] (by kernel_rfl) ?_
          intro Q2 K2 hK2
          simp only [XInv.puts, XPrint.pw]
          go_simp
          exact hK2.out (.int .i64 z) w' ⟨b, rfl, fun _ _ _ => rfl, hW.1, by rw [hU5 _ (by decide)]; exact hW.2.1, by rw [hU7 _ (by decide)]; exact hW.2.2⟩
        · refine XInv.yes_of [(34, 4), (33, 3)] (by kernel_rfl) ?_
          intro Q2 K2 hK2
          simp only [XInv.puts, XPrint.pw]
          have hL5 := hW.2.1
          rw [hlb] at hL5
          simp only [Bool.false_eq_true, if_false] at hL5
          go_simp
          refine (ST.out w' (But.below D4 (Nat.le_refl _) hW.1 (fun k h => h.elim (fun q => by rw [q]; exact M.out.2.2.2.2.2.2.1) (fun q => by rw [q]; exact hw.size))) hL5).mono ?_
          rintro e w2 ⟨rfl, hb2, hL2⟩
          obtain ⟨v, hv, hv7⟩ := hW.2.2
          have h5 : XInv.up lb 5 5 = true := by unfold XInv.up; rw [if_pos rfl]
          exact hK2.out (.int .i64 e) w2 ⟨b, rfl, fun _ _ _ => rfl, hW.1.trans (But.of_one hb2 (.inr rfl)), by rw [h5]; exact hL2, v, (hb2.block ga (blk_lt hv) n1).trans hv, by rw [hU7 _ (by decide)]; exact hv7⟩
        · refine XInv.yes_of [(35, 5), (32, 2), (30, 0)] (by kernel_rfl) ?_
          intro Q2 K2 hK2
          simp only [XInv.puts, XPrint.pw]
          go_simp
          exact hK2.out (.pointer (some ⟨ga, 0, none⟩)) w' ⟨b, rfl, fun _ _ _ => rfl, hW.1, by rw [hU5 _ (by decide)]; exact hW.2.1, by rw [hU7 _ (by decide)]; exact hW.2.2⟩
        · refine XInv.yes_of [(36, 6), (35, 5), (32, 2), (30, 0)] (by kernel_rfl) ?_
          intro Q2 K2 hK2
          simp only [XInv.puts, XPrint.pw]
          obtain ⟨v, hv, hv7⟩ := hW.2.2
          have c3 := (blk_cell hv 0).trans rfl
          have f3 := blk_frozen hv 0
          go_simp
          exact hK2.out undef _ ⟨b, rfl, fun _ _ _ => rfl, hW.1.setCell (.inl rfl) 0 _, by rw [hU5 _ (by decide)]; exact ⟨hW.2.1.1, hW.2.1.2.1, hW.2.1.2.2.1, blk_far hW.2.1.2.2.2 (p := ⟨ga, 0, none⟩) (Ne.symm n1) _⟩, z, by simpa using blk_set hv 0 (.int .i64 z), fun _ => rfl⟩
        · cases hds
        · cases hds
      · intro b w' hW
        refine XInv.end_of [(36, 6), (35, 5), (34, 4), (33, 3), (32, 2), (31, 1), (30, 0)] (by kernel_rfl) ?_
        refine XInv.end_seq _ 8 rfl rfl (by kernel_rfl) ?_
        simp only [XInv.puts, XPrint.pw]
        obtain ⟨hB, hL, v, hv, hv7⟩ := hW
        have hL : Lies w' W.heap.size (.slice A l.length c) os' (m' : Nat) := hL
        obtain rfl : v = z := hv7 rfl
        have k2 := hB.heap e2 (fun h => h.elim n4 n5)
        have k3 := hB.heap e3 (fun h => h.elim n6 n7)
        have k1 := hB.heap e1 (fun h => h.elim n10 n11)
        have kf := hB.heap hf4 (fun h => h.elim n8 n9)
        have kg := hB.heap g2 (fun h => h.elim n3 n2)
        have c3 := (blk_cell kg 0).trans rfl
        have f3 := blk_frozen kg 0
        iterate 6 (first | go_values | go_skip | go_guarded | go_step | go_upon)
        have hB6 : But (fun k => k = ga ∨ k = ge ∨ k = W.heap.size) wr (w'.setCell ⟨ge, 0, none⟩ (.int .i64 e)) :=
          ((But.of_below X.out.2.2.1).trans (hB.mono (fun k h => h.elim .inl (fun h => .inr (.inr h))))).setCell (.inr (.inl rfl)) 0 _
        have a1 := blk_far k1 (p := ⟨ge, 0, none⟩) n12 (.int .i64 e)
        have a2 := blk_far k2 (p := ⟨ge, 0, none⟩) n13 (.int .i64 e)
        have a3 := blk_far k3 (p := ⟨ge, 0, none⟩) n14 (.int .i64 e)
        have a4 := blk_far kf (p := ⟨ge, 0, none⟩) n15 (.int .i64 e)
        have a5 := blk_far hv (p := ⟨ge, 0, none⟩) (Ne.symm n3) (.int .i64 e)
        have a6 : (w'.setCell ⟨ge, 0, none⟩ (.int .i64 e)).heap[ge]? = some (.cells #[.int .i64 e] 24 (0, 0)) := by simpa using blk_set kg 0 (.int .i64 e)
        have a7 : Lies (w'.setCell ⟨ge, 0, none⟩ (.int .i64 e)) W.heap.size (.slice A l.length c) os' (m' : Nat) := ⟨hL.1, hL.2.1, hL.2.2.1, blk_far hL.2.2.2 (p := ⟨ge, 0, none⟩) (Ne.symm n2) _⟩
        generalize w'.setCell ⟨ge, 0, none⟩ (.int .i64 e) = W6 at a1 a2 a3 a4 a5 a6 a7 hB6 ⊢
        go_step
        go_step
        go_step
        clear c3 f3 kg kf k1 k2 k3 hv hL hB hv7 e1 e2 e3 g1 g2 hf4 L4 D4 ST
        obtain ⟨M, L, R, hz, hmi, hi, hga, hge, h0⟩ := M.out
        obtain ⟨hpv, hd, B4, _⟩ := X.out
        have J6 := hJ pre wr W6 M.j hB6
        have hzi : stepE l os m v = errE l i (S.length + 1) (ShapeM.kindP (C65 l) (ShapeM.parS S)) := by rw [← hz]; exact rel_err R i
        have hS0 : i = 0 → S = [] := M.hzero
        have hS1 : i ≠ 0 → S ≠ [] := by
          intro hi0 hS
          subst hS
          have hm0 := R.1
          have : mi = 0 := by rw [← hmi, hm0]; rfl
          subst this
          first
            | (simp at hc2; done)
            | (have := of_decide_eq_true hc2; omega)
            | (exact hi0 (by simp at hc1; omega))
        have D6 : Below w0.heap.size w0 W6 := But.below M.below (Nat.le_refl _) hB6 (by
          rintro k (rfl | rfl | rfl)
          · exact hga
          · exact hge
          · exact hw.size)
        have k3 := (blk_cell a3 0).trans rfl
        have k4 := (blk_cell a6 0).trans rfl
        by_cases he0 : e = 0
        · subst he0
          have hne : errE l i (S.length + 1) (ShapeM.kindP (C65 l) (ShapeM.parS S)) = 0 := by rw [← hzi]; exact Y.out.1
          have hl := M.left
          rw [cont_good hi hS0 hS1 M.top hne] at hl
          have hrest := congrArg Prod.fst hl
          have hlast := congrArg Prod.snd hl
          simp only at hrest hlast
          have hpar : pv = ShapeM.parS S := by rw [← hpv, ← hmi]; exact rel_par R
          have hR1 := R.1
          have hok := errE_ok hne
          have hlen := L.1
          have hdd : d = ((S.length + 1 : Nat) : Int) := by rw [← hd, ← hmi, hR1]; unfold wrap64; omega
          have hyy := hY pre (i, ShapeM.parS S, S.length + 1) _ W6 hrest.symm J6 (blk_lt a7.2.2.2)
          unfold frameV at hyy
          simp only at hyy
          rw [hz, ← hpar, ← hdd] at hyy
          obtain ⟨fn, tmps, assign, body, hy, hR⟩ := hyy
          obtain ⟨v', hv'⟩ : ∃ v', wrap64 (v + 1) = v' := ⟨_, rfl⟩
          have hvv : v' = ((i + 1 : Nat) : Int) := by rw [← hv', ← hz]; unfold wrap64; omega
          have q0 := (blk_cell a4 0).trans rfl
          have q1 := (blk_cell a4 1).trans rfl
          have hRR := Aside0.mk hR
          have F := Aside0.mk (And.intro Y.out (And.intro D6 (And.intro a1 (And.intro a2 (And.intro a3 (And.intro a5 (And.intro a6 (And.intro a7 (And.intro hi (And.intro M (And.intro R (And.intro hrest (And.intro hlast (And.intro hok (And.intro hvv (And.intro hpar hlen))))))))))))))))
          clear a1 a2 a3 a4 a5 a6 a7 J6 D6 M L R hi B4 hB6 hga hge h0 hS1 hmi hpv hd Y X hne hl hrest hlast hpar hR1 hok hdd hR hvv hzi hlen
          refine (wpIn_wide (n := n)).1 (wpIn_region_lit ?_)
          gi_wp2
          refine ⟨fun h => (by cases h), hRR.out.mono ?_⟩
          rintro e W7 (⟨rfl, hJ7, hk7⟩ | ⟨rfl, hJx7⟩)
          · have c2 := hk7.heap F.out.2.2.2.1 (fun h => (hm _ h).2.2.1 rfl)
            have c3 := hk7.heap F.out.2.2.2.2.2.1 (fun h => (hm _ h).2.2.2.2.1 rfl)
            have r2 := (blk_cell c2 0).trans rfl
            have r3 := (blk_cell c3 0).trans rfl
            have r4 := blk_frozen c3 0
            clear q0 q1 k3 k4 hy hRR
            gi_wp2
            go_wp2
            go_roundg (66 - (i + 1))
            case measure => have := F.out; omega
            case rel =>
              obtain ⟨⟨_, hos, hm'⟩, D6, a1, a2, a3, a5, a6, a7, hi, M, R, hrest, hlast, hok, hvv, hpar, hlen⟩ := F.out
              rw [hpar] at hJ7
              simp only [if_true] at hos hm'
              have d1 := hk7.heap a1 (fun h => (hm _ h).2.1 rfl)
              have d3 := hk7.heap a3 (fun h => (hm _ h).2.2.2.1 rfl)
              have d6 := hk7.heap a6 (fun h => (hm _ h).2.2.2.2.2.1 rfl)
              have d7 := hk7.heap a7.2.2.2 (fun h => (hm _ h).2.2.2.2.2.2 rfl)
              have hT : Rel os' m' (ShapeM.pops ((i, K65 l i) :: ShapeM.dec S)) := by
                have := rel_step (l := l) R hlen (by have := R.1; omega) M.top i hok.2.2.2.1 hok.2.2.2.2
                rw [← hos, ← hm', ← hz]
                exact this
              exact ⟨i + 1, pre ++ [(i, ShapeM.parS S, S.length + 1)], ShapeM.pops ((i, K65 l i) :: ShapeM.dec S), by rw [hv', hvv], rfl, by omega,
                { below := But.below D6 (Nat.le_refl _) ((hk7.mono (T' := fun k => w0.heap.size ≤ k) (fun k h => (hm k h).1)).setCell hga0.out 0 _) (fun k h => h)
                  b1 := blk_far d1 (p := ⟨ga, 0, none⟩) n10 _
                  b2 := blk_far c2 (p := ⟨ga, 0, none⟩) n4 _
                  b3 := blk_far d3 (p := ⟨ga, 0, none⟩) n6 _
                  walk := ⟨os', m', ⟨a7.1, a7.2.1, a7.2.2.1, blk_far d7 (p := ⟨ga, 0, none⟩) (Ne.symm n1) _⟩, hT⟩
                  j := hJ _ _ _ hJ7 ((But.refl _ _).setCell (.inl rfl) 0 _)
                  left := Prod.ext (by simpa using hrest) hlast
                  top := (pops_pops _).symm
                  plc := push_mem M.plc hok.1
                  hzero := fun h => absurd h (Nat.succ_ne_zero i)
                  g1 := ⟨v', by simpa using blk_set c3 0 (.int .i64 v'), fun _ => hvv⟩
                  g2 := ⟨0, blk_far d6 (p := ⟨ga, 0, none⟩) n3 _, fun _ => rfl⟩
                  low := hok.1 }⟩
          · clear q0 q1 k3 k4 hy hRR
            gi_wp2
            go_wp2
            refine bodyPost_ret (results_none rfl _ _ _) rfl ?_
            rw [F.out.2.2.2.2.2.2.2.2.2.2.2.2.2.2.2.1] at hJx7
            exact ⟨⟨_, rfl⟩, .inr ⟨pre, _, _, F.out.2.2.2.2.2.2.2.2.2.2.2.1.symm, hJx7⟩⟩
        · have heb : (e != 0) = true := by simpa using he0
          have F := Aside0.mk (And.intro Y.out.1 (And.intro J6 (And.intro D6 (And.intro a5 (And.intro a6 (And.intro hS1 (And.intro hi M)))))))
          clear a1 a2 a3 a4 a5 a6 a7 J6 D6 M L R hi B4 hB6 hga hge h0 hS1 hmi hpv hd Y X
          go_wp2
          refine bodyPost_ret (results_none rfl _ _ _) rfl ?_
          obtain ⟨he, J6, D6, a5, a6, hS1, hi, M⟩ := F.out
          have hne : errE l i (S.length + 1) (ShapeM.kindP (C65 l) (ShapeM.parS S)) ≠ 0 := by rw [← hzi, he]; exact he0
          have hl := M.left
          rw [cont_bad hi hS0 hS1 M.top hne] at hl
          simp only [List.append_nil] at hl
          refine ⟨⟨_, rfl⟩, .inl ⟨?_, D6, ?_, ?_⟩⟩
          · rw [← hl]; exact J6
          · rw [← hl]; rw [hz]; exact a5
          · rw [← hl, ← hzi, he]; exact a6
end
section
theorem But.put1 (b : Nat) (W : World) (o : Obj) : But (fun k => k = b) W (W.putObj b o) := (But.refl (fun k => k = b) W).putObj (b := b) rfl o
/-- How a round's body may be left. -/
def bodyQ (own : Nat → Prop) (I : List Met → World → Prop) (Ix : Code → List Met → World → Prop) (pre : List Met) (W : World) : Exit → Act → World → Prop
  | .normal, _, W' => But own W W' ∧ I pre W'
  | .ret, _, W' => But own W W' ∧ Ix .ret pre W'
  | .exit id, _, W' => But own W W' ∧ Ix (.exit id) pre W'
  | .goto _, _, _ => False
  | .panic _, _, _ => False
  | .outgrown, _, _ => False
/-- 'for i, f := range parts(l, &at, &e)'. -/
theorem range_parts {n : Nat} {g : Operand} {p0 p1 : Tmp} {assign body : Code} {Q : Exit → Act → World → Prop} {a : Act} {w : World} (w0 : World) {bl ba be ga ge : Nat} {A : Option Addr} {c : Nat} {l : List S65}
    (hg : a.eval g = .func (.func 81) #[] #[.pointer (some ⟨bl, 0, none⟩), .pointer (some ⟨ba, 0, none⟩), .pointer (some ⟨be, 0, none⟩)])
    (hw : Below w0.heap.size w0 w) (hC : Kd.C k65 w0 A l.length l)
    (b1 : w.heap[bl]? = some (.cells #[.slice A l.length c] 48 (0, 0))) (b2 : w.heap[ba]? = some (.cells #[.pointer (some ⟨ga, 0, none⟩)] 102 (0, 0))) (b3 : w.heap[be]? = some (.cells #[.pointer (some ⟨ge, 0, none⟩)] 103 (0, 0)))
    (g1 : ∃ v, w.heap[ga]? = some (.cells #[.int .i64 v] 3 (0, 0))) (g2 : ∃ v, w.heap[ge]? = some (.cells #[.int .i64 v] 24 (0, 0)))
    (hga : w0.heap.size ≤ ga) (hge : w0.heap.size ≤ ge)
    (own : Nat → Prop) (hown : ∀ k, own k → w0.heap.size ≤ k ∧ k ≠ bl ∧ k ≠ ba ∧ k ≠ be ∧ k ≠ ga ∧ k ≠ ge ∧ k ≠ w.heap.size ∧ k ≠ w.heap.size + 1 ∧ k ≠ w.heap.size + 2)
    (I : List Met → World → Prop) (Ix : Code → List Met → World → Prop)
    (hI : ∀ s W W', I s W → But (fun k => k = ga ∨ k = ge ∨ k = w.heap.size ∨ k = w.heap.size + 1 ∨ k = w.heap.size + 2) W W' → I s W')
    (hIx : ∀ x s W W', Ix x s W → But (fun k => k = ga ∨ k = ge ∨ k = w.heap.size ∨ k = w.heap.size + 1 ∨ k = w.heap.size + 2) W W' → Ix x s W')
    (h0 : I [] w)
    (hbody : ∀ (pre : List Met) (x : Met) (post : List Met) (W : World), (walk65 l).1 = pre ++ x :: post → I pre W → Below w0.heap.size w0 W → w.heap.size + 3 ≤ W.heap.size →
      assign.wpIn (Fence.wide.inRound (w.heap.size + 1)) (n - 1 - 1) Try.prog (Exit.then (fun a₁ W1 => But own W W1 ∧ ∀ W2, But (fun k => k = w.heap.size + 1) W1 W2 →
          body.wpIn (Fence.wide.inRound (w.heap.size + 1)) (n - 1 - 1) Try.prog (bodyQ own I Ix (pre ++ [x]) W2) a₁ W2) (fun _ _ _ => False))
        { tmps := (a.tmps.setIfInBounds p0 (.int .i64 x.1)).setIfInBounds p1 (frameV x), defers := [] } W)
    (hdone : ∀ W, I (walk65 l).1 W → Below w0.heap.size w0 W → W.heap[ga]? = some (.cells #[.int .i64 (walk65 l).2.1] 3 (0, 0)) → W.heap[ge]? = some (.cells #[.int .i64 (walk65 l).2.2] 24 (0, 0)) → W.heap[w.heap.size]? = some (.deferred (some [])) →
      Q .normal { a with defers := { target := .collected w.heap.size, args := #[] } :: a.defers } W)
    (hstop : ∀ x pre W, Ix x pre W → Below w0.heap.size w0 W → W.heap[w.heap.size]? = some (.deferred (some [])) → x.wpIn Fence.wide n Try.prog Q { a with defers := { target := .collected w.heap.size, args := #[] } :: a.defers } W) :
    (Code.rangeFunc g #[p0, p1] assign body).wpIn Fence.wide n Try.prog Q a w := by
  refine wpIn_rangeFunc ?_
  intro fn hfn
  obtain ⟨rec, hrec⟩ : ∃ rec : LoopState → Option Code → Loop, rec = fun st pe => { state := st, pending := pe, fn, tmps := a.tmps, params := #[p0, p1], assign, body, defers := w.heap.size } := ⟨_, rfl⟩
  obtain ⟨W1, hW1⟩ : ∃ W1, (w.alloc (.deferred (some []))).alloc (.loop (rec .ready none)) = W1 := ⟨_, rfl⟩
  have hs1 : W1.heap.size = w.heap.size + 2 := by rw [← hW1]; simp
  have hB1 : Below w.heap.size w W1 := by rw [← hW1]; exact below_alloc (below_alloc (Below.refl _ _) _) _
  have hL1 : W1.heap[w.heap.size + 1]? = some (.loop (rec .ready none)) := by
    rw [← hW1]; have := World.alloc_heap_new (w.alloc (.deferred (some []))) (.loop (rec .ready none)); rwa [World.size_alloc] at this
  have hK1 : W1.heap[w.heap.size]? = some (.deferred (some [])) := by
    rw [← hW1]; exact (Below.heap_alloc _ _ _ (by simp)).trans (World.alloc_heap_new w _)
  have lga : ga < w.heap.size := by obtain ⟨_, h⟩ := g1; exact blk_lt h
  have lge : ge < w.heap.size := by obtain ⟨_, h⟩ := g2; exact blk_lt h
  have lw := hw.size
  refine ⟨w.heap.size + 1, [{ target := .collected w.heap.size, args := #[] }], W1, { target := .fn (.func 81) #[.pointer (some ⟨bl, 0, none⟩), .pointer (some ⟨ba, 0, none⟩), .pointer (some ⟨be, 0, none⟩)], args := #[.func (.yield (w.heap.size + 1)) #[] #[]] }, W1, 81,
    #[.func (.yield (w.heap.size + 1)) #[] #[], .pointer (some ⟨bl, 0, none⟩), .pointer (some ⟨ba, 0, none⟩), .pointer (some ⟨be, 0, none⟩)], W1, ?_, ?_, ?_, ?_, fun h => (by cases h), ?_⟩
  · rw [← hW1, hrec]; exact run_enterLoop_outer _ _ _ _ _
  · simp only [resolve, hg]
    simp [go_sem]
  · intro f' hf'; trivial
  · have := enters_ Try.func81 (by kernel_rfl) rfl #[.func (.yield (w.heap.size + 1)) #[] #[], .pointer (some ⟨bl, 0, none⟩), .pointer (some ⟨ba, 0, none⟩), .pointer (some ⟨be, 0, none⟩)] W1
    simp [invoke, go_sem, this]
  · refine (parts1 (n - 1) w0 (w.heap.size + 1) bl ba be ga ge A c l (fun k => own k ∨ k = w.heap.size + 1)
      (fun pre W => I pre W ∧ Below w0.heap.size w0 W ∧ W.heap[w.heap.size + 1]? = some (.loop (rec .ready none)) ∧ W.heap[w.heap.size]? = some (.deferred (some [])))
      (fun pre W => ∃ x, Ix x pre W ∧ Below w0.heap.size w0 W ∧ W.heap[w.heap.size + 1]? = some (.loop (rec .done (some x))) ∧ W.heap[w.heap.size]? = some (.deferred (some [])))
      W1 (hw.trans (hB1.mono hw.size)) hC (blk_below b1 hB1) (blk_below b2 hB1) (blk_below b3 hB1) (g1.imp fun _ h => blk_below h hB1) (g2.imp fun _ h => blk_below h hB1) hga hge ?_ ?_ ?_ ?_ ?_).mono ?_
    · rintro k (h | rfl)
      · obtain ⟨h1, h2, h3, h4, h5, h6, h7, h8, h9⟩ := hown k h
        exact ⟨h1, h2, h3, h4, h5, h6, by rw [hs1]; exact h9⟩
      · have l1 := blk_lt b1
        have l2 := blk_lt b2
        have l3 := blk_lt b3
        refine ⟨?_, ?_, ?_, ?_, ?_, ?_, ?_⟩ <;> omega
    · rintro s Wa Wb ⟨h1, h2, h3, h4⟩ hb
      have hne : ∀ k, k = w.heap.size ∨ k = w.heap.size + 1 → ¬ (k = ga ∨ k = ge ∨ k = W1.heap.size) := fun k hk => by omega
      exact ⟨hI s Wa Wb h1 (hb.mono fun k h => by omega), But.below h2 (Nat.le_refl _) hb (fun k h => by omega), hb.heap h3 (hne _ (.inr rfl)), hb.heap h4 (hne _ (.inl rfl))⟩
    · rintro s Wa Wb ⟨x, h1, h2, h3, h4⟩ hb
      have hne : ∀ k, k = w.heap.size ∨ k = w.heap.size + 1 → ¬ (k = ga ∨ k = ge ∨ k = W1.heap.size) := fun k hk => by omega
      exact ⟨x, hIx x s Wa Wb h1 (hb.mono fun k h => by omega), But.below h2 (Nat.le_refl _) hb (fun k h => by omega), hb.heap h3 (hne _ (.inr rfl)), hb.heap h4 (hne _ (.inl rfl))⟩
    · rintro pre x post W hwk ⟨hi, hbw, hl, hk⟩ hlt
      have hy : (Instr.yield (w.heap.size + 1) #[.int .i64 x.1, frameV x]).run Try.prog W = .ok (.round (w.heap.size + 1) fn ((a.tmps.setIfInBounds p0 (.int .i64 x.1)).setIfInBounds p1 (frameV x)) assign body) W := by
        have hy := run_yield (P := Try.prog) (args := #[.int .i64 x.1, frameV x]) hl (by rw [hrec]; rfl)
        rw [hrec] at hy
        simpa using hy
      refine ⟨fn, _, assign, body, hy, roundIn_of_wpIn trivial (wpIn_mono (hbody pre x post W hwk hi hbw (by omega)) ?_)⟩
      rintro e a1 Wa hq
      cases e with
      | normal =>
        obtain ⟨hba, hq⟩ := hq
        have no1 : ¬ own (w.heap.size + 1) := fun h => (hown _ h).2.2.2.2.2.2.2.1 rfl
        have no2 : ¬ own w.heap.size := fun h => (hown _ h).2.2.2.2.2.2.1 rfl
        have hla := hba.heap hl no1
        have hka := hba.heap hk no2
        refine ⟨_, run_beginRound hla (by rw [hrec]), ?_⟩
        have hput : But (fun k => k = w.heap.size + 1) Wa (Wa.putObj (w.heap.size + 1) (.loop { rec .ready none with state := .busy })) := But.put1 _ _ _
        have hlb : (Wa.putObj (w.heap.size + 1) (.loop { rec .ready none with state := .busy })).heap[w.heap.size + 1]? = some (.loop { rec .ready none with state := .busy }) := World.putObj_heap_same (blk_lt hla)
        have hkb : (Wa.putObj (w.heap.size + 1) (.loop { rec .ready none with state := .busy })).heap[w.heap.size]? = some (.deferred (some [])) := hput.heap hka (by omega)
        have hall : But (fun k => own k ∨ k = w.heap.size + 1) W (Wa.putObj (w.heap.size + 1) (.loop { rec .ready none with state := .busy })) := (hba.mono fun _ => .inl).trans (hput.mono fun _ => .inr)
        refine wpIn_mono (hq _ hput) ?_
        generalize Wa.putObj (w.heap.size + 1) (.loop { rec .ready none with state := .busy }) = Wb at hput hlb hkb hall
        have fin : ∀ (jump : Option Code) (W3 : World), But own Wb W3 →
            (Instr.endRound (w.heap.size + 1) jump).run Try.prog W3 = .ok (.bool jump.isNone) (W3.putObj (w.heap.size + 1) (.loop (rec (if jump.isNone then .ready else .done) jump))) ∧
            (W3.putObj (w.heap.size + 1) (.loop (rec (if jump.isNone then .ready else .done) jump))).heap[w.heap.size + 1]? = some (.loop (rec (if jump.isNone then .ready else .done) jump)) ∧
            (W3.putObj (w.heap.size + 1) (.loop (rec (if jump.isNone then .ready else .done) jump))).heap[w.heap.size]? = some (.deferred (some [])) ∧
            But (fun k => own k ∨ k = w.heap.size + 1) W (W3.putObj (w.heap.size + 1) (.loop (rec (if jump.isNone then .ready else .done) jump))) ∧
            But (fun k => k = ga ∨ k = ge ∨ k = w.heap.size ∨ k = w.heap.size + 1 ∨ k = w.heap.size + 2) W3 (W3.putObj (w.heap.size + 1) (.loop (rec (if jump.isNone then .ready else .done) jump))) ∧
            Below w0.heap.size w0 (W3.putObj (w.heap.size + 1) (.loop (rec (if jump.isNone then .ready else .done) jump))) := fun jump W3 h3 => by
          have hl3 := h3.heap hlb no1
          have hk3 := h3.heap hkb no2
          have := run_endRound (P := Try.prog) jump hl3
          have hp3 : But (fun k => k = w.heap.size + 1) W3 (W3.putObj (w.heap.size + 1) (.loop (rec (if jump.isNone then .ready else .done) jump))) := But.put1 _ _ _
          have hA := (hall.trans (h3.mono fun _ => .inl)).trans (hp3.mono fun _ => .inr)
          rw [hrec] at this ⊢
          rw [hrec] at hl3 hp3 hA
          exact ⟨this, World.putObj_heap_same (blk_lt hl3), hp3.heap hk3 (by omega), hA, hp3.mono fun k h => by omega, But.below hbw (Nat.le_refl _) hA fun k h => h.elim (fun h => (hown k h).1) (fun h => by omega)⟩
        rintro e a3 W3 hp
        cases e with
        | normal =>
          obtain ⟨h3, hi3⟩ := hp
          obtain ⟨q1, q2, q3, q4, q5, q6⟩ := fin none W3 h3
          exact ⟨_, _, q1, .inl ⟨rfl, ⟨hI _ _ _ hi3 q5, q6, q2, q3⟩, q4⟩⟩
        | ret =>
          obtain ⟨h3, hi3⟩ := hp
          obtain ⟨q1, q2, q3, q4, q5, q6⟩ := fin (some .ret) W3 h3
          exact ⟨_, _, q1, .inr ⟨rfl, .ret, hIx _ _ _ _ hi3 q5, q6, q2, q3⟩⟩
        | exit id =>
          obtain ⟨h3, hi3⟩ := hp
          obtain ⟨q1, q2, q3, q4, q5, q6⟩ := fin (some (.exit id)) W3 h3
          exact ⟨_, _, q1, .inr ⟨rfl, .exit id, hIx _ _ _ _ hi3 q5, q6, q2, q3⟩⟩
        | goto t => exact hp.elim
        | panic ch => exact hp.elim
        | outgrown => exact hp.elim
      | exit id => exact hq.elim
      | goto t => exact hq.elim
      | ret => exact hq.elim
      | panic ch => exact hq.elim
      | outgrown => exact hq.elim
    · exact ⟨hI _ _ _ h0 (But.of_below hB1), hw.trans (hB1.mono hw.size), hL1, hK1⟩
    · rintro e W2 ⟨⟨v, rfl⟩, (⟨⟨hi, hb, hl, hk⟩, _, c1, c2⟩ | ⟨pre, x, post, _, y, hi, hb, hl, hk⟩)⟩
      · have hp3 : But (fun k => k = w.heap.size + 1) W2 (W2.putObj (w.heap.size + 1) (.loop { rec .ready none with state := .exhausted })) := But.put1 _ _ _
        exact ⟨none, _, by have := run_endLoop (P := Try.prog) hl (by rw [hrec]; simp); rw [hrec] at this ⊢; exact this,
          hdone _ (hI _ _ _ hi (hp3.mono fun k h => by omega)) (But.below hb (Nat.le_refl _) hp3 fun k h => by omega) (hp3.heap c1 (by omega)) (hp3.heap c2 (by omega)) (hp3.heap hk (by omega))⟩
      · have hp3 : But (fun k => k = w.heap.size + 1) W2 (W2.putObj (w.heap.size + 1) (.loop { rec .done (some y) with state := .exhausted })) := But.put1 _ _ _
        exact ⟨some y, _, by have := run_endLoop (P := Try.prog) hl (by rw [hrec]; simp); rw [hrec] at this ⊢; exact this,
          hstop _ _ _ (hIx _ _ _ _ hi (hp3.mono fun k h => by omega)) (But.below hb (Nat.le_refl _) hp3 fun k h => by omega) (hp3.heap hk (by omega))⟩
/-- A function that held such a loop returns. -/
theorem leave_mark {n : Nat} {fn : Func} {tmps : Array Value} {d : Nat} {R : Ending → World → Prop} {W : World} (v : Value) (hK : W.heap[d]? = some (.deferred (some [])))
    (hv : (results fn tmps).run Try.prog (W.putObj d (.deferred none)) = .ok v (W.putObj d (.deferred none))) (hR : R (.returned v) (W.putObj d (.deferred none))) :
    bodyPostM Fence.wide n Try.prog fn R .ret { tmps := tmps, defers := [{ target := .collected d, args := #[] }] } W :=
  ⟨by simp, .inl ⟨d, _, rfl, run_takeDeferred hK, v, hv, hR⟩⟩
end
section
def treeF (l : List S65) : Int × Int := if (walk65 l).2.2 = 0 then (if ((walk65 l).2.1 : Int) < l.length then ((walk65 l).2.1, 81) else (0, 0)) else ((walk65 l).2.1, (walk65 l).2.2)
set_option maxHeartbeats 8000000 in
set_option maxRecDepth 100000 in
theorem tree (A0 : Option Addr) (c0 : Nat) (l0 : List S65) (w : World) (hr0 : Kd.C k65 w A0 l0.length l0) (hc0 : l0.length ≤ c0) :
    Calls Try.prog 66 #[.slice A0 l0.length c0] w fun e w' => e = .returned (.tuple #[.int .i64 (treeF l0).1, .int .i64 (treeF l0).2]) ∧ Below w.heap.size w w' := by
  have hq1 : ∃ r1, (treeF l0).1 = r1 := ⟨_, rfl⟩
  obtain ⟨r1, hr1⟩ := hq1
  have hq2 : ∃ r2, (treeF l0).2 = r2 := ⟨_, rfl⟩
  obtain ⟨r2, hr2⟩ := hq2
  rw [hr1, hr2]
  have HR := Aside0.mk (And.intro hr1 hr2)
  clear hr1 hr2
  refine callsIn_wide.1 (callsIn_of_wp_marks (F := Fence.wide) (n := 5) Try.func66 rfl trivial ?_)
  simp only [Try.ntmps66, List.size_toArray, List.length_cons, List.length_nil, Nat.reduceAdd, Nat.reduceSub, Array.replicate_succ, Array.replicate_zero, List.push_toArray, List.append_toArray, List.nil_append, List.cons_append]
  refine wpIn_wide.2 ?_
  go_wp2_with (go_at_call 69; refine (parts w.heap.size (w.heap.size + 1) A0 l0.length c0 _).mono ?_; rintro e w1 ⟨rfl, hb, e1, e2, e3⟩)
  have hz : ((w.alloc (Obj.cells #[Value.int IntKind.i64 0] 3)).alloc (Obj.cells #[Value.int IntKind.i64 0] 24)).heap.size = w.heap.size + 2 := by simp
  have hb0 : Below w.heap.size w w1 := below_step (below_alloc (below_alloc (Below.refl _ _) _) _) hb
  have k1 : w1.heap[w.heap.size]? = some (.cells #[.int .i64 0] 3 (0, 0)) := blk_below (blk_alloc (blk_new _ _) _) hb
  have k2 : w1.heap[w.heap.size + 1]? = some (.cells #[.int .i64 0] 24 (0, 0)) := blk_below (by simpa using blk_new (w.alloc (Obj.cells #[Value.int IntKind.i64 0] 3)) (Obj.cells #[Value.int IntKind.i64 0] 24)) hb
  rw [hz] at e1 e2 e3
  clear hb hz
  refine (wpIn_wide (n := 5)).1 (range_parts w (l := l0) (A := A0) (c := c0) rfl hb0 hr0 e1 e2 e3 ⟨0, k1⟩ ⟨0, k2⟩ (Nat.le_refl _) (Nat.le_succ _) (fun _ => False) (fun k h => h.elim) (fun _ _ => True) (fun _ _ _ => False) (fun _ _ _ _ _ => trivial) (fun _ _ _ _ h _ => h) trivial ?_ ?_ (fun _ _ _ h => h.elim))
  · intro pre x post W _ _ _ _
    simp only [XPrint.pw]
    gi_wp2
    refine ⟨But.refl _ _, fun W2 _ => ?_⟩
    gi_wp2
    exact ⟨But.refl _ _, trivial⟩
  · intro W _ hB h1 h2 h3
    have c1 := (blk_cell h1 0).trans rfl
    have c2 := (blk_cell h2 0).trans rfl
    obtain ⟨h4, h5⟩ := HR.out
    unfold treeF at h4 h5
    generalize (((walk65 l0).2.1 : Nat) : Int) = at_ at *
    generalize (walk65 l0).2.2 = ee at *
    dsimp only
    by_cases q1 : ee = 0
    · have q1b : (ee == 0) = true := by simpa using q1
      rw [if_pos q1] at h4 h5
      by_cases q2 : at_ < l0.length
      · have q2b : decide (at_ < (l0.length : Int)) = true := decide_eq_true q2
        rw [if_pos q2] at h4 h5
        have e4 : at_ = r1 := h4
        have e5 : 81 = r2 := h5
        clear h4 h5
        subst e4 e5
        clear q1 q2
        go_wp2
        refine leave_mark _ h3 (by simp [results, Try.f66, go_sem]) ⟨rfl, ?_⟩
        exact But.below (hB) (Nat.le_refl _) (But.put1 _ _ _) fun k h => by have := hb0.size; omega
      · have q2b : decide (at_ < (l0.length : Int)) = false := decide_eq_false q2
        rw [if_neg q2] at h4 h5
        have e4 : 0 = r1 := h4
        have e5 : 0 = r2 := h5
        clear h4 h5
        subst e4 e5
        have q1c : (ee != 0) = false := by simp [q1]
        clear q1 q2
        go_wp2
        refine leave_mark _ h3 (by simp [results, Try.f66, go_sem]) ⟨rfl, ?_⟩
        exact But.below (hB) (Nat.le_refl _) (But.put1 _ _ _) fun k h => by have := hb0.size; omega
    · have q1b : (ee == 0) = false := by simpa using q1
      have q1c : (ee != 0) = true := by simp [q1]
      rw [if_neg q1] at h4 h5
      have e4 : at_ = r1 := h4
      have e5 : ee = r2 := h5
      clear h4 h5
      subst e4 e5
      clear q1
      go_wp2_with fail
      go_region_held3 (fun w' => w'.cell? ⟨w.heap.size, 0, none⟩ = some (.int .i64 at_) ∧ w'.cell? ⟨w.heap.size + 1, 0, none⟩ = some (.int .i64 ee)) (go_keep) (fail)
      go_wp2
      refine leave_mark _ h3 (by simp [results, Try.f66, go_sem]) ⟨rfl, ?_⟩
      exact But.below (below_drew hB) (Nat.le_refl _) (But.put1 _ _ _) fun k h => by have := hb0.size; omega
end
end Sh
def shape_tree.f (l0 : List S65) : Option (Int × Int) := some (Sh.treeF l0)
theorem shape_tree.calls (A0 : Option Addr) (c0 : Nat) (l0 : List S65) (r1 r2 : Int) (w : World) (hr0 : Kd.C k65 w A0 l0.length l0) (hc0 : l0.length ≤ c0) (h : shape_tree.f l0 = some (r1, r2)) :
    Calls Try.prog 66 #[.slice A0 l0.length c0] w fun e w' => e = .returned (.tuple #[.int .i64 r1, .int .i64 r2]) ∧ Below w.heap.size w w' := by
  have h1 : Sh.treeF l0 = (r1, r2) := by simpa [shape_tree.f] using h
  have h2 := Sh.tree A0 c0 l0 w hr0 hc0
  rw [h1] at h2
  exact h2


end Go.Proofs.Ytkaokiiooakleaa.PShapeOne
