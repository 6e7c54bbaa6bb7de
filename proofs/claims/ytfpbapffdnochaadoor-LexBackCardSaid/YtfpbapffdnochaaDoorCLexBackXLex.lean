/- Bytes as pieces and tokens: plain Lean, of no program. No condition. -/
namespace Go.Proofs.YtfpbapffdnochaaDoor.LexM
def isLow (c : UInt8) : Bool := 97 ≤ c && c ≤ 122
def isDig (c : UInt8) : Bool := 48 ≤ c && c ≤ 57
def isRun (c : UInt8) : Bool := isLow c || isDig c
def isWhite (c : UInt8) : Bool := c == 32 || c == 9 || c == 10 || c == 13
/-- The pieces of bytes, from place p on: where each begins, what it is (at most so many steps). -/
def pcsN : Nat → Nat → List UInt8 → List (Nat × List UInt8)
  | 0, _, _ => []
  | _ + 1, _, [] => []
  | f + 1, p, c :: t => if isRun c then (p, c :: t.takeWhile isRun) :: pcsN f (p + 1 + (t.takeWhile isRun).length) (t.dropWhile isRun) else if isWhite c then pcsN f (p + 1) t else (p, [c]) :: pcsN f (p + 1) t
def pcs (p : Nat) (l : List UInt8) : List (Nat × List UInt8) := pcsN l.length p l
theorem dropWhile_len (f : UInt8 → Bool) (l : List UInt8) : (l.dropWhile f).length ≤ l.length := by
  induction l with
  | nil => simp
  | cons a l ih => rw [List.dropWhile_cons]; split <;> simp; omega
theorem pcsN_ge : ∀ (n : Nat) (l : List UInt8) (p f : Nat), l.length ≤ n → l.length ≤ f → pcsN f p l = pcsN l.length p l := by
  intro n
  induction n with
  | zero =>
    intro l p f h1 h2
    obtain rfl : l = [] := List.length_eq_zero_iff.1 (by omega)
    cases f <;> rfl
  | succ n ih =>
    intro l p f h1 h2
    cases l with
    | nil => cases f <;> rfl
    | cons c t =>
      simp only [List.length_cons] at h1 h2 ⊢
      obtain ⟨f, rfl⟩ : ∃ f', f = f' + 1 := ⟨f - 1, by omega⟩
      have hd := dropWhile_len isRun t
      unfold pcsN
      rw [ih _ (p + 1 + (t.takeWhile isRun).length) f (by omega) (by omega), ih t (p + 1) f (by omega) (by omega), ih _ (p + 1 + (t.takeWhile isRun).length) t.length (by omega) (by omega)]
theorem pcs_nil (p : Nat) : pcs p [] = [] := rfl
theorem pcs_run {p : Nat} {c : UInt8} {t : List UInt8} (h : isRun c = true) : pcs p (c :: t) = (p, c :: t.takeWhile isRun) :: pcs (p + 1 + (t.takeWhile isRun).length) (t.dropWhile isRun) := by
  unfold pcs
  simp only [List.length_cons]
  conv => lhs; unfold pcsN
  rw [if_pos h, pcsN_ge _ _ _ t.length (Nat.le_refl _) (dropWhile_len _ _)]
theorem pcs_white {p : Nat} {c : UInt8} {t : List UInt8} (h : isRun c = false) (h2 : isWhite c = true) : pcs p (c :: t) = pcs (p + 1) t := by
  unfold pcs
  simp only [List.length_cons]
  conv => lhs; unfold pcsN
  rw [if_neg (by simp [h]), if_pos h2]
theorem pcs_other {p : Nat} {c : UInt8} {t : List UInt8} (h : isRun c = false) (h2 : isWhite c = false) : pcs p (c :: t) = (p, [c]) :: pcs (p + 1) t := by
  unfold pcs
  simp only [List.length_cons]
  conv => lhs; unfold pcsN
  rw [if_neg (by simp [h]), if_neg (by simp [h2])]
theorem run_not_white {c : UInt8} (h : isWhite c = true) : isRun c = false := by
  unfold isWhite at h
  simp only [Bool.or_eq_true, beq_iff_eq] at h
  rcases h with ((h | h) | h) | h <;> subst h <;> decide
/-- Pieces by a rule of induction: over the bytes, step by step. -/
theorem steps {Q : Nat → List UInt8 → Prop} (h0 : ∀ p, Q p []) (h1 : ∀ p c t, isRun c = true → Q (p + 1 + (t.takeWhile isRun).length) (t.dropWhile isRun) → Q p (c :: t)) (h2 : ∀ p c t, isRun c = false → isWhite c = true → Q (p + 1) t → Q p (c :: t)) (h3 : ∀ p c t, isRun c = false → isWhite c = false → Q (p + 1) t → Q p (c :: t)) : ∀ (l : List UInt8) (p : Nat), Q p l := by
  have H : ∀ (n : Nat) (l : List UInt8) (p : Nat), l.length ≤ n → Q p l := by
    intro n
    induction n with
    | zero =>
      intro l p h
      obtain rfl : l = [] := List.length_eq_zero_iff.1 (by omega)
      exact h0 p
    | succ n ih =>
      intro l p h
      cases l with
      | nil => exact h0 p
      | cons c t =>
        simp only [List.length_cons] at h
        have hd := dropWhile_len isRun t
        cases hr : isRun c with
        | true => exact h1 p c t hr (ih _ _ (by omega))
        | false =>
          cases hw : isWhite c with
          | true => exact h2 p c t hr hw (ih _ _ (by omega))
          | false => exact h3 p c t hr hw (ih _ _ (by omega))
  exact fun l p => H l.length l p (Nat.le_refl _)
theorem takeWhile_append_stop {f : UInt8 → Bool} {a b : List UInt8} (ha : ∀ c ∈ a, f c = true) (hb : ∀ c, b.head? = some c → f c = false) : (a ++ b).takeWhile f = a ∧ (a ++ b).dropWhile f = b := by
  induction a with
  | nil =>
    cases b with
    | nil => simp
    | cons c b => have := hb c rfl; simp [this]
  | cons x a ih =>
    obtain ⟨h1, h2⟩ := ih (fun c hc => ha c (by simp [hc]))
    have := ha x (by simp)
    simp [this, h1, h2]
/-- A run ahead of something else is a piece. -/
theorem pcs_run_ahead {p : Nat} {a b : List UInt8} (hne : a ≠ []) (ha : ∀ c ∈ a, isRun c = true) (hb : ∀ c, b.head? = some c → isRun c = false) : pcs p (a ++ b) = (p, a) :: pcs (p + a.length) b := by
  cases a with
  | nil => exact absurd rfl hne
  | cons x a =>
    obtain ⟨h1, h2⟩ := takeWhile_append_stop (f := isRun) (a := a) (b := b) (fun c hc => ha c (by simp [hc])) hb
    rw [List.cons_append, pcs_run (ha x (by simp)), h1, h2]
    congr 2
    simp
    omega
theorem pcs_whites {p : Nat} {a b : List UInt8} (ha : ∀ c ∈ a, isWhite c = true) : pcs p (a ++ b) = pcs (p + a.length) b := by
  induction a generalizing p with
  | nil => simp
  | cons x a ih =>
    have hx := ha x (by simp)
    rw [List.cons_append, pcs_white (run_not_white hx) hx, ih (fun c hc => ha c (by simp [hc]))]
    congr 1
    simp
    omega
def shift (d : Nat) (l : List (Nat × List UInt8)) : List (Nat × List UInt8) := l.map fun x => (x.1 + d, x.2)
theorem pcs_shift (d : Nat) : ∀ (l : List UInt8) (p : Nat), pcs (p + d) l = shift d (pcs p l) := by
  intro l p
  refine steps (Q := fun p l => pcs (p + d) l = shift d (pcs p l)) (fun p => rfl) ?_ ?_ ?_ l p
  · intro p c t h ih
    rw [pcs_run h, pcs_run h]
    have e : p + d + 1 + (t.takeWhile isRun).length = p + 1 + (t.takeWhile isRun).length + d := by omega
    rw [e, ih]
    rfl
  · intro p c t h h2 ih
    rw [pcs_white h h2, pcs_white h h2]
    have e : p + d + 1 = p + 1 + d := by omega
    rw [e, ih]
  · intro p c t h h2 ih
    rw [pcs_other h h2, pcs_other h h2]
    have e : p + d + 1 = p + 1 + d := by omega
    rw [e, ih]
    rfl
theorem tw_all (t : List UInt8) : ∀ c ∈ t.takeWhile isRun, isRun c = true := fun c hc => by
  induction t with
  | nil => simp at hc
  | cons a t ih =>
    rw [List.takeWhile_cons] at hc
    split at hc
    · rename_i h
      rcases List.mem_cons.1 hc with rfl | hc
      · exact h
      · exact ih hc
    · simp at hc
theorem dw_head (t : List UInt8) : ∀ c, (t.dropWhile isRun).head? = some c → isRun c = false := by
  intro c hc
  induction t with
  | nil => simp at hc
  | cons a t ih =>
    rw [List.dropWhile_cons] at hc
    split at hc
    · exact ih hc
    · rename_i h
      obtain rfl : a = c := by simpa using hc
      simpa using h
/-- Ahead of a piece there may stand white. -/
theorem pcs_split : ∀ (s : List UInt8) (p : Nat) (A : List (Nat × List UInt8)) (q : Nat) (b : List UInt8) (B : List (Nat × List UInt8)), pcs p s = A ++ (q, b) :: B →
    ∃ s1 s2, s = s1 ++ s2 ∧ q = p + s1.length ∧ pcs q s2 = (q, b) :: B ∧ ∀ W : List UInt8, (∀ c ∈ W, isWhite c = true) → W ≠ [] → pcs p (s1 ++ (W ++ s2)) = A ++ pcs (q + W.length) s2 := by
  intro s p
  refine steps (Q := fun p s => ∀ (A : List (Nat × List UInt8)) (q : Nat) (b : List UInt8) (B : List (Nat × List UInt8)), pcs p s = A ++ (q, b) :: B →
    ∃ s1 s2, s = s1 ++ s2 ∧ q = p + s1.length ∧ pcs q s2 = (q, b) :: B ∧ ∀ W : List UInt8, (∀ c ∈ W, isWhite c = true) → W ≠ [] → pcs p (s1 ++ (W ++ s2)) = A ++ pcs (q + W.length) s2) ?_ ?_ ?_ ?_ s p
  · intro p A q b B h
    rw [pcs_nil] at h
    cases A <;> cases h
  · intro p c t hr ih A q b B h
    have h0 := h
    rw [pcs_run hr] at h
    cases A with
    | nil =>
      rw [List.nil_append] at h
      have hq : p = q := by injection h with h _; injection h
      subst hq
      exact ⟨[], c :: t, rfl, by simp, by rw [h0]; rfl, fun W hW _ => by rw [List.nil_append, pcs_whites hW]; rfl⟩
    | cons a A =>
      obtain ⟨h1, h2⟩ : (p, c :: t.takeWhile isRun) = a ∧ _ := by injection h with h1 h2; exact ⟨h1, h2⟩
      obtain ⟨s1, s2, e1, e2, e3, e4⟩ := ih A q b B h2
      refine ⟨c :: t.takeWhile isRun ++ s1, s2, ?_, ?_, e3, fun W hW hn => ?_⟩
      · rw [List.append_assoc, ← e1, List.cons_append, List.takeWhile_append_dropWhile]
      · rw [e2]; simp; omega
      · have hall : ∀ x ∈ c :: t.takeWhile isRun, isRun x = true := fun x hx => by
          rcases List.mem_cons.1 hx with rfl | hx
          · exact hr
          · exact tw_all t x hx
        have hst : ∀ x, (s1 ++ (W ++ s2)).head? = some x → isRun x = false := fun x hx => by
          cases s1 with
          | nil =>
            cases W with
            | nil => exact absurd rfl hn
            | cons y W =>
              obtain rfl : y = x := by simpa using hx
              exact run_not_white (hW y (by simp))
          | cons y s1 =>
            obtain rfl : y = x := by simpa using hx
            exact dw_head t y (by rw [e1]; rfl)
        rw [List.append_assoc, pcs_run_ahead (by simp) hall hst, ← h1]
        have := e4 W hW hn
        have e : p + 1 + (t.takeWhile isRun).length = p + (c :: t.takeWhile isRun).length := by simp; omega
        rw [e] at this
        rw [this]
        rfl
  · intro p c t hr hw ih A q b B h
    rw [pcs_white hr hw] at h
    obtain ⟨s1, s2, e1, e2, e3, e4⟩ := ih A q b B h
    refine ⟨c :: s1, s2, by rw [e1]; rfl, by rw [e2]; simp; omega, e3, fun W hW hn => ?_⟩
    rw [List.cons_append, pcs_white hr hw, e4 W hW hn]
  · intro p c t hr hw ih A q b B h
    have h0 := h
    rw [pcs_other hr hw] at h
    cases A with
    | nil =>
      rw [List.nil_append] at h
      have hq : p = q := by injection h with h _; injection h
      subst hq
      exact ⟨[], c :: t, rfl, by simp, by rw [h0]; rfl, fun W hW _ => by rw [List.nil_append, pcs_whites hW]; rfl⟩
    | cons a A =>
      obtain ⟨h1, h2⟩ : (p, [c]) = a ∧ _ := by injection h with h1 h2; exact ⟨h1, h2⟩
      obtain ⟨s1, s2, e1, e2, e3, e4⟩ := ih A q b B h2
      refine ⟨c :: s1, s2, by rw [e1]; rfl, by rw [e2]; simp; omega, e3, fun W hW hn => ?_⟩
      rw [List.cons_append, pcs_other hr hw, e4 W hW hn, ← h1]
      rfl
/-- The pieces cover all but white, in their order. -/
inductive Cover : Nat → List UInt8 → List (Nat × List UInt8) → Prop
  | last (p : Nat) (W : List UInt8) : (∀ c ∈ W, isWhite c = true) → Cover p W []
  | piece (p : Nat) (W b t : List UInt8) (B : List (Nat × List UInt8)) : (∀ c ∈ W, isWhite c = true) → b ≠ [] → Cover (p + W.length + b.length) t B → Cover p (W ++ (b ++ t)) ((p + W.length, b) :: B)
theorem Cover.white {p : Nat} {c : UInt8} {t : List UInt8} {B : List (Nat × List UInt8)} (hc : isWhite c = true) (h : Cover (p + 1) t B) : Cover p (c :: t) B := by
  generalize hq : p + 1 = q at h
  cases h with
  | last _ W hW =>
    subst hq
    exact .last _ _ fun x hx => by rcases List.mem_cons.1 hx with rfl | hx; exact hc; exact hW x hx
  | piece _ W b t B hW hb h =>
    subst hq
    have e : p + 1 + W.length = p + (c :: W).length := by simp; omega
    rw [e] at h ⊢
    exact .piece p (c :: W) b t B (fun x hx => by rcases List.mem_cons.1 hx with rfl | hx; exact hc; exact hW x hx) hb h
theorem cover : ∀ (l : List UInt8) (p : Nat), Cover p l (pcs p l) := by
  intro l p
  refine steps (Q := fun p l => Cover p l (pcs p l)) (fun p => .last _ _ (by simp)) ?_ ?_ ?_ l p
  · intro p c t h ih
    rw [pcs_run h]
    have e : p + ([] : List UInt8).length + (c :: t.takeWhile isRun).length = p + 1 + (t.takeWhile isRun).length := by simp; omega
    have hc := Cover.piece p [] (c :: t.takeWhile isRun) (t.dropWhile isRun) (pcs (p + 1 + (t.takeWhile isRun).length) (t.dropWhile isRun)) (by simp) (by simp) (by rw [e]; exact ih)
    simpa [List.takeWhile_append_dropWhile] using hc
  · intro p c t h h2 ih
    rw [pcs_white h h2]
    exact .white h2 ih
  · intro p c t h h2 ih
    rw [pcs_other h h2]
    simpa using Cover.piece p [] [c] t _ (by simp) (by simp) (by simpa using ih)
structure Tk where
  kind : Nat
  text : List UInt8
  n : Nat
  place : Nat
def dec (l : List UInt8) : Nat := l.foldl (fun n c => 10 * n + (c.toNat - 48)) 0
def num (l : List UInt8) : Option Nat :=
  if l = [] ∨ (1 < l.length ∧ l.head? = some 48) ∨ 13 < l.length ∨ l.all isDig = false then none else if 1099511627776 < dec l then none else some (dec l)
def tok (p : Nat) (b : List UInt8) : Option Tk :=
  if b ≠ [] ∧ b.all isLow = true then some ⟨0, b, 0, p⟩ else
  match num b with
  | some n => some ⟨1, b, n, p⟩
  | none => if b = [40] then some ⟨2, b, 0, p⟩ else if b = [41] then some ⟨3, b, 0, p⟩ else if b = [58] then some ⟨4, b, 0, p⟩ else none
/-- The tokens, and (where there is one) the place of what is none. -/
def toks : List (Nat × List UInt8) → List Tk × Option Nat
  | [] => ([], none)
  | (p, b) :: r => match tok p b with
    | none => ([], some p)
    | some x => (x :: (toks r).1, (toks r).2)
def textB : Bool → List Tk → List UInt8
  | _, [] => []
  | g, x :: l => (if g = true ∨ x.kind = 3 ∨ x.kind = 4 then [] else [32]) ++ (x.text ++ textB (x.kind == 2) l)
def mv (q : Nat) (x : Tk) : Tk := { x with place := q }
/-- What a token is. -/
inductive Is : Tk → Prop
  | word (x : Tk) : x.kind = 0 → x.text ≠ [] → x.text.all isLow = true → x.n = 0 → Is x
  | number (x : Tk) : x.kind = 1 → x.text.all isLow = false → num x.text = some x.n → Is x
  | opens (x : Tk) : x.kind = 2 → x.text = [40] → x.n = 0 → Is x
  | closes (x : Tk) : x.kind = 3 → x.text = [41] → x.n = 0 → Is x
  | colon (x : Tk) : x.kind = 4 → x.text = [58] → x.n = 0 → Is x
theorem num_some {l : List UInt8} {n : Nat} (h : num l = some n) : l ≠ [] ∧ l.all isDig = true ∧ n = dec l ∧ n ≤ 1099511627776 ∧ l.length ≤ 13 := by
  unfold num at h
  split at h
  · cases h
  · rename_i h1
    split at h
    · cases h
    · rename_i h2
      injection h with h
      refine ⟨fun e => h1 (.inl e), ?_, h.symm, by omega, ?_⟩
      · cases hd : l.all isDig with
        | true => rfl
        | false => exact absurd (.inr (.inr (.inr hd))) h1
      · exact Nat.le_of_not_lt fun e => h1 (.inr (.inr (.inl e)))
theorem tok_is {p : Nat} {b : List UInt8} {x : Tk} (h : tok p b = some x) : x.text = b ∧ x.place = p ∧ Is x := by
  unfold tok at h
  split at h
  · rename_i h1
    injection h with h
    subst h
    exact ⟨rfl, rfl, .word _ rfl h1.1 h1.2 rfl⟩
  · rename_i h1
    split at h
    · rename_i n hn
      injection h with h
      subst h
      refine ⟨rfl, rfl, .number _ rfl ?_ hn⟩
      cases hd : b.all isLow with
      | true => exact absurd ⟨(num_some hn).1, hd⟩ h1
      | false => rfl
    · split at h
      · rename_i e
        injection h with h
        subst h
        exact ⟨rfl, rfl, .opens _ rfl e rfl⟩
      · split at h
        · rename_i e
          injection h with h
          subst h
          exact ⟨rfl, rfl, .closes _ rfl e rfl⟩
        · split at h
          · rename_i e
            injection h with h
            subst h
            exact ⟨rfl, rfl, .colon _ rfl e rfl⟩
          · cases h
theorem is_tok {x : Tk} (h : Is x) (q : Nat) : tok q x.text = some (mv q x) := by
  obtain ⟨k, b, n, p⟩ := x
  unfold mv
  cases h with
  | word h1 h2 h3 h4 =>
    simp only at h1 h2 h3 h4 ⊢
    subst h1 h4
    unfold tok
    rw [if_pos ⟨h2, h3⟩]
  | number h1 h2 h3 =>
    simp only at h1 h2 h3 ⊢
    subst h1
    unfold tok
    rw [if_neg (by simp [h2])]
    simp only [h3]
  | opens h1 h2 h3 => simp only at h1 h2 h3 ⊢; subst h1 h2 h3; rfl
  | closes h1 h2 h3 => simp only at h1 h2 h3 ⊢; subst h1 h2 h3; rfl
  | colon h1 h2 h3 => simp only at h1 h2 h3 ⊢; subst h1 h2 h3; rfl
theorem low_run {c : UInt8} (h : isLow c = true) : isRun c = true := by unfold isRun; rw [h]; rfl
theorem dig_run {c : UInt8} (h : isDig c = true) : isRun c = true := by unfold isRun; rw [h, Bool.or_true]
theorem Is.ne {x : Tk} (h : Is x) : x.text ≠ [] := by
  cases h with
  | word h1 h2 h3 h4 => exact h2
  | number h1 h2 h3 => exact (num_some h3).1
  | opens h1 h2 h3 => rw [h2]; simp
  | closes h1 h2 h3 => rw [h2]; simp
  | colon h1 h2 h3 => rw [h2]; simp
theorem Is.run {x : Tk} (h : Is x) (hk : x.kind = 0 ∨ x.kind = 1) : ∀ c ∈ x.text, isRun c = true := by
  intro c hc
  cases h with
  | word h1 h2 h3 h4 => exact low_run (List.all_eq_true.1 h3 c hc)
  | number h1 h2 h3 => exact dig_run (List.all_eq_true.1 (num_some h3).2.1 c hc)
  | opens h1 h2 h3 => omega
  | closes h1 h2 h3 => omega
  | colon h1 h2 h3 => omega
theorem Is.cases {x : Tk} (h : Is x) : ((x.kind = 0 ∨ x.kind = 1) ∧ ∀ c ∈ x.text, isRun c = true) ∨ (x.kind = 2 ∧ x.text = [40]) ∨ (x.kind = 3 ∧ x.text = [41]) ∨ (x.kind = 4 ∧ x.text = [58]) := by
  cases h with
  | word h1 h2 h3 h4 => exact .inl ⟨.inl h1, fun c hc => low_run (List.all_eq_true.1 h3 c hc)⟩
  | number h1 h2 h3 => exact .inl ⟨.inr h1, fun c hc => dig_run (List.all_eq_true.1 (num_some h3).2.1 c hc)⟩
  | opens h1 h2 h3 => exact .inr (.inl ⟨h1, h2⟩)
  | closes h1 h2 h3 => exact .inr (.inr (.inl ⟨h1, h2⟩))
  | colon h1 h2 h3 => exact .inr (.inr (.inr ⟨h1, h2⟩))
theorem toks_is : ∀ {r : List (Nat × List UInt8)} {l : List Tk}, toks r = (l, none) → l.map (fun x => (x.place, x.text)) = r ∧ ∀ x ∈ l, Is x := by
  intro r
  induction r with
  | nil =>
    intro l h
    unfold toks at h
    injection h with h _
    subst h
    exact ⟨rfl, by simp⟩
  | cons a r ih =>
    obtain ⟨p, b⟩ := a
    intro l h
    unfold toks at h
    cases ht : tok p b with
    | none => simp only [ht] at h; injection h with _ h; cases h
    | some x =>
      simp only [ht] at h
      injection h with h1 h2
      obtain ⟨i1, i2⟩ := ih (l := (toks r).1) (by rw [← h2])
      obtain ⟨j1, j2, j3⟩ := tok_is ht
      subst h1
      refine ⟨by rw [List.map_cons, i1, j1, j2], fun y hy => ?_⟩
      rcases List.mem_cons.1 hy with rfl | hy
      · exact j3
      · exact i2 y hy
theorem toks_of : ∀ {l : List Tk}, (∀ x ∈ l, Is x) → toks (l.map fun x => (x.place, x.text)) = (l, none) := by
  intro l
  induction l with
  | nil => intro _; rfl
  | cons x l ih =>
    intro h
    rw [List.map_cons]
    unfold toks
    have hx := is_tok (h x (by simp)) x.place
    simp only [hx]
    rw [ih (fun y hy => h y (by simp [hy]))]
    rfl
def bare (x : Tk) : Nat × List UInt8 × Nat := (x.kind, x.text, x.n)
theorem textB_head {g : Bool} {l : List Tk} (hl : ∀ x ∈ l, Is x) (hg : g = false) : ∀ c, (textB g l).head? = some c → isRun c = false := by
  subst hg
  intro c hc
  cases l with
  | nil => simp [textB] at hc
  | cons x l =>
    have hx := hl x (by simp)
    unfold textB at hc
    by_cases hk : x.kind = 3 ∨ x.kind = 4
    · rw [if_pos (.inr hk)] at hc
      rcases hx.cases with ⟨h, _⟩ | ⟨h, _⟩ | ⟨h, h2⟩ | ⟨h, h2⟩
      · omega
      · omega
      · rw [h2] at hc; obtain rfl : 41 = c := by simpa using hc
        decide
      · rw [h2] at hc; obtain rfl : 58 = c := by simpa using hc
        decide
    · rw [if_neg (by simpa using hk)] at hc
      obtain rfl : 32 = c := by simpa using hc
      decide
/-- The text of tokens has their pieces. -/
theorem pcs_text : ∀ (l : List Tk) (g : Bool) (q : Nat), (∀ x ∈ l, Is x) → (pcs q (textB g l)).map (·.2) = l.map (·.text) := by
  intro l
  induction l with
  | nil => intros; rfl
  | cons x l ih =>
    intro g q hl
    have hx := hl x (by simp)
    have hl2 : ∀ y ∈ l, Is y := fun y hy => hl y (by simp [hy])
    have H : ∀ p, (pcs p (x.text ++ textB (x.kind == 2) l)).map (·.2) = (x :: l).map (·.text) := by
      intro p
      rcases hx.cases with ⟨h, h2⟩ | ⟨h, h2⟩ | ⟨h, h2⟩ | ⟨h, h2⟩
      · have hk : (x.kind == 2) = false := by simp; omega
        rw [pcs_run_ahead hx.ne h2 (textB_head hl2 hk), List.map_cons, ih _ _ hl2]
        rfl
      · rw [h2, List.singleton_append, pcs_other (by decide) (by decide), List.map_cons, ih _ _ hl2, List.map_cons, h2]
      · rw [h2, List.singleton_append, pcs_other (by decide) (by decide), List.map_cons, ih _ _ hl2, List.map_cons, h2]
      · rw [h2, List.singleton_append, pcs_other (by decide) (by decide), List.map_cons, ih _ _ hl2, List.map_cons, h2]
    unfold textB
    split
    · exact H q
    · rw [List.singleton_append, pcs_white (by decide) (by decide)]
      exact H _
/-- Pieces that bear the texts of tokens are tokens, the same but for their places. -/
theorem toks_same : ∀ {r : List (Nat × List UInt8)} {l : List Tk}, r.map (·.2) = l.map (·.text) → (∀ x ∈ l, Is x) → ∃ m, toks r = (m, none) ∧ m.map bare = l.map bare ∧ m.map (·.place) = r.map (·.1) := by
  intro r
  induction r with
  | nil =>
    intro l h hl
    cases l with
    | nil => exact ⟨[], rfl, rfl, rfl⟩
    | cons x l => simp at h
  | cons a r ih =>
    obtain ⟨p, b⟩ := a
    intro l h hl
    cases l with
    | nil => simp at h
    | cons x l =>
      simp only [List.map_cons, List.cons.injEq] at h
      obtain ⟨rfl, h⟩ := h
      obtain ⟨m, h1, h2, h3⟩ := ih h (fun y hy => hl y (by simp [hy]))
      refine ⟨mv p x :: m, ?_, ?_, ?_⟩
      · unfold toks
        simp only [is_tok (hl x (by simp)) p, h1]
      · rw [List.map_cons, List.map_cons, h2]; rfl
      · rw [List.map_cons, List.map_cons, h3]; rfl
theorem text_bare : ∀ {l m : List Tk} (g : Bool), l.map bare = m.map bare → textB g l = textB g m := by
  intro l
  induction l with
  | nil =>
    intro m g h
    cases m with
    | nil => rfl
    | cons => simp at h
  | cons x l ih =>
    intro m g h
    cases m with
    | nil => simp at h
    | cons y m =>
      simp only [List.map_cons, List.cons.injEq] at h
      obtain ⟨h1, h2⟩ := h
      unfold bare at h1
      simp only [Prod.mk.injEq] at h1
      unfold textB
      rw [h1.1, h1.2.1, ih _ h2]
/-- Lexed again, of its text, tokens are the same but for their places. -/
theorem relex {s : List UInt8} {l : List Tk} (h : toks (pcs 0 s) = (l, none)) : ∃ m, toks (pcs 0 (textB true l)) = (m, none) ∧ m.map bare = l.map bare := by
  obtain ⟨m, h1, h2, _⟩ := toks_same (pcs_text l true 0 (toks_is h).2) (toks_is h).2
  exact ⟨m, h1, h2⟩
theorem white {s : List UInt8} {l : List Tk} (h : toks (pcs 0 s) = (l, none)) (k : Nat) (hk : k < l.length) (W : List UInt8) (hW : ∀ c ∈ W, isWhite c = true) :
    ∃ m, toks (pcs 0 (s.take l[k].place ++ (W ++ s.drop l[k].place))) = (m, none) ∧ m.map bare = l.map bare ∧ m.map (·.place) = (l.take k).map (·.place) ++ (l.drop k).map fun x => x.place + W.length := by
  obtain ⟨h1, h2⟩ := toks_is h
  have hsp : pcs 0 s = (l.take k).map (fun x => (x.place, x.text)) ++ (l[k].place, l[k].text) :: (l.drop (k + 1)).map (fun x => (x.place, x.text)) := by
    rw [← h1, ← List.map_cons (f := fun x : Tk => (x.place, x.text)), ← List.map_append, ← List.drop_eq_getElem_cons, List.take_append_drop]
  obtain ⟨s1, s2, e1, e2, e3, e4⟩ := pcs_split s 0 _ _ _ _ hsp
  have hq : l[k].place = s1.length := by omega
  have ht : s.take l[k].place = s1 := by rw [hq, e1]; simp
  have hd : s.drop l[k].place = s2 := by rw [hq, e1]; simp
  have hr : pcs 0 (s.take l[k].place ++ (W ++ s.drop l[k].place)) = (l.take k).map (fun x => (x.place, x.text)) ++ shift W.length ((l.drop k).map (fun x => (x.place, x.text))) := by
    have hdk : (l.drop k).map (fun x => (x.place, x.text)) = pcs l[k].place s2 := by rw [List.drop_eq_getElem_cons hk, List.map_cons, e3]
    rw [ht, hd, hdk, ← pcs_shift]
    by_cases hn : W = []
    · subst hn
      rw [List.nil_append, ← e1, hsp, ← e3]
      rfl
    · exact e4 W hW hn
  rw [hr]
  obtain ⟨m, m1, m2, m3⟩ := toks_same (r := (l.take k).map (fun x => (x.place, x.text)) ++ shift W.length ((l.drop k).map (fun x => (x.place, x.text)))) (l := l) (by
    rw [List.map_append]
    unfold shift
    rw [List.map_map, List.map_map, List.map_map]
    conv => rhs; rw [← List.take_append_drop k l, List.map_append]
    rfl) h2
  refine ⟨m, m1, m2, ?_⟩
  rw [m3, List.map_append]
  unfold shift
  rw [List.map_map, List.map_map, List.map_map]
  rfl
def digs : Nat → Nat → List UInt8
  | 0, _ => []
  | f + 1, n => if n < 10 then [UInt8.ofNat (48 + n)] else digs f (n / 10) ++ [UInt8.ofNat (48 + n % 10)]
theorem dec_snoc (l : List UInt8) (c : UInt8) : dec (l ++ [c]) = 10 * dec l + (c.toNat - 48) := by unfold dec; rw [List.foldl_append]; rfl
theorem dig_nat {d : Nat} (h : d < 10) : (UInt8.ofNat (48 + d)).toNat = 48 + d := by
  rw [UInt8.toNat_ofNat']
  omega
theorem dig_is {d : Nat} (h : d < 10) : isDig (UInt8.ofNat (48 + d)) = true := by
  have := dig_nat h
  unfold isDig
  simp only [Bool.and_eq_true, decide_eq_true_eq, UInt8.le_iff_toNat_le, this]
  exact ⟨by show 48 ≤ _; omega, by show _ ≤ 57; omega⟩
theorem digs_spec : ∀ (f n : Nat), n < 10 ^ f → 0 < f → dec (digs f n) = n ∧ (digs f n).all isDig = true ∧ digs f n ≠ [] ∧ (digs f n).length ≤ f ∧ (1 < (digs f n).length → (digs f n).head? ≠ some 48) := by
  intro f
  induction f with
  | zero => intro n h h0; omega
  | succ f ih =>
    intro n h _
    unfold digs
    by_cases hn : n < 10
    · rw [if_pos hn]
      refine ⟨?_, by rw [List.all_cons, dig_is hn]; rfl, by simp, by simp, by simp⟩
      show 10 * 0 + ((UInt8.ofNat (48 + n)).toNat - 48) = n
      rw [dig_nat hn]
      omega
    · rw [if_neg hn]
      have hf : 0 < f := by
        cases f with
        | zero => simp at h; omega
        | succ f => omega
      have hp : n / 10 < 10 ^ f := by
        rw [Nat.pow_succ] at h
        exact Nat.div_lt_of_lt_mul (by omega)
      obtain ⟨h1, h2, h3, h4, h5⟩ := ih (n / 10) hp hf
      have hd : n % 10 < 10 := Nat.mod_lt _ (by omega)
      refine ⟨?_, ?_, by simp, by simp; omega, fun _ => ?_⟩
      · rw [dec_snoc, h1, dig_nat hd]
        omega
      · rw [List.all_append, h2, List.all_cons, dig_is hd]
        rfl
      · have hh : (digs f (n / 10) ++ [UInt8.ofNat (48 + n % 10)]).head? = (digs f (n / 10)).head? := by
          cases hx : digs f (n / 10) with
          | nil => exact absurd hx h3
          | cons a b => rfl
        rw [hh]
        by_cases hl : 1 < (digs f (n / 10)).length
        · exact h5 hl
        · have h6 : (digs f (n / 10)).length = 1 := by
            have := List.length_pos_iff.2 h3
            omega
          obtain ⟨c, hc⟩ := List.length_eq_one_iff.1 h6
          rw [hc] at h1 ⊢
          intro e
          obtain rfl : c = 48 := by simpa using e
          have : dec [48] = 0 := rfl
          omega
theorem digs_fuel : ∀ (f g n : Nat), n < 10 ^ f → n < 10 ^ g → 0 < f → 0 < g → digs f n = digs g n := by
  intro f
  induction f with
  | zero => intro g n h h2 h3; omega
  | succ f ih =>
    intro g n h h2 _ h4
    obtain ⟨g, rfl⟩ : ∃ g', g = g' + 1 := ⟨g - 1, by omega⟩
    unfold digs
    by_cases hn : n < 10
    · rw [if_pos hn, if_pos hn]
    · rw [if_neg hn, if_neg hn]
      have hp : n / 10 < 10 ^ f := by rw [Nat.pow_succ] at h; exact Nat.div_lt_of_lt_mul (by omega)
      have hp2 : n / 10 < 10 ^ g := by rw [Nat.pow_succ] at h2; exact Nat.div_lt_of_lt_mul (by omega)
      have hf : 0 < f := by cases f with | zero => simp at hp; omega | succ f => omega
      have hg : 0 < g := by cases g with | zero => simp at hp2; omega | succ g => omega
      rw [ih g (n / 10) hp hp2 hf hg]
theorem num_digs {n : Nat} (h : n ≤ 1099511627776) : num (digs 13 n) = some n := by
  obtain ⟨h1, h2, h3, h4, h5⟩ := digs_spec 13 n (by omega) (by omega)
  unfold num
  rw [if_neg, if_neg (by omega), h1]
  rintro (e | e | e | e)
  · exact h3 e
  · exact h5 e.1 e.2
  · omega
  · rw [h2] at e; cases e
theorem num_zero {n : Nat} (h : n ≤ 1099511627776) : num (48 :: digs 13 n) = none := by
  obtain ⟨h1, h2, h3, h4, h5⟩ := digs_spec 13 n (by omega) (by omega)
  unfold num
  rw [if_pos]
  refine .inr (.inl ⟨?_, rfl⟩)
  have := List.length_pos_iff.2 h3
  simp only [List.length_cons]
  omega
theorem digs_low {n : Nat} (h : n ≤ 1099511627776) : (digs 13 n).all isLow = false := by
  obtain ⟨h1, h2, h3, h4, h5⟩ := digs_spec 13 n (by omega) (by omega)
  generalize digs 13 n = l at h2 h3
  cases l with
  | nil => exact absurd rfl h3
  | cons c l =>
    rw [List.all_cons, Bool.and_eq_true] at h2
    rw [List.all_cons, Bool.and_eq_false_iff]
    refine .inl ?_
    have := h2.1
    unfold isDig at this
    unfold isLow
    simp only [Bool.and_eq_true, decide_eq_true_eq, UInt8.le_iff_toNat_le] at this
    simp only [Bool.and_eq_false_iff, decide_eq_false_iff_not, UInt8.le_iff_toNat_le]
    have e1 : (97 : UInt8).toNat = 97 := rfl
    have e2 : (57 : UInt8).toNat = 57 := rfl
    omega
def row (l : List Nat) : List UInt8 := l.flatMap fun n => digs 13 n ++ [32]
/-- A row of numbers, each with a blank behind it, is these. -/
theorem row_toks : ∀ (l : List Nat) (p : Nat), (∀ n ∈ l, n ≤ 1099511627776) → ∃ m, toks (pcs p (row l)) = (m, none) ∧ m.map (fun x => (x.kind, x.n)) = l.map fun n => (1, n) := by
  intro l
  induction l with
  | nil => intro p _; exact ⟨[], rfl, rfl⟩
  | cons n l ih =>
    intro p h
    have hn := h n (by simp)
    obtain ⟨h1, h2, h3, h4, h5⟩ := digs_spec 13 n (by omega) (by omega)
    obtain ⟨m, e1, e2⟩ := ih (p + (digs 13 n).length + 1) (fun x hx => h x (by simp [hx]))
    have hr : row (n :: l) = digs 13 n ++ (32 :: row l) := by unfold row; simp
    have ht : tok p (digs 13 n) = some ⟨1, digs 13 n, n, p⟩ := by
      unfold tok
      rw [if_neg (by simp [digs_low hn])]
      simp only [num_digs hn]
    refine ⟨⟨1, digs 13 n, n, p⟩ :: m, ?_, by simp [e2]⟩
    rw [hr, pcs_run_ahead h3 (fun c hc => dig_run (List.all_eq_true.1 h2 c hc)) (fun c hc => (by
      obtain rfl : 32 = c := by simpa using hc
      decide)), pcs_white (by decide) (by decide)]
    unfold toks
    simp only [ht, e1]
end Go.Proofs.YtfpbapffdnochaaDoor.LexM
