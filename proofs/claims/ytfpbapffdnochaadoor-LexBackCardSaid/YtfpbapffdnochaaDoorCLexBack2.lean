-- printed by this session's own driver over the kit's printer: Lean checks it
import Derived.Test.YtfpbapffdnochaaDoorCLexBack0
import Derived.Test.YtfpbapffdnochaaDoorCLexBack1
namespace Go.Proofs.YtfpbapffdnochaaDoor.PLexBack
open Go.RowKit Go.Proofs.YtfpbapffdnochaaDoorW.PrintWords Go.Proofs.YtfpbapffdnochaaDoorW.PrintLast Go.Proofs.YtfpbapffdnochaaDoorW.PrintMore
attribute [local go_sem] max2_int min2_int max_two min_two max_three min_three max_four min_four   -- for this text's walks alone
set_option linter.unusedVariables false
set_option linter.unusedSimpArgs false

/-! GIVEN -/
/-! ### lex_Lex: function 9 -/
namespace LexG
open Go.Proofs.YtfpbapffdnochaaDoor.LexM Go.Proofs.YtfpbapffdnochaaDoor.LexH
def numI (t : ByteArray) : Int × Bool := match num t.data.toList with
  | some n => ((n : Int), true)
  | none => (0, false)
theorem bt_list (s : ByteArray) (i : Nat) (h : i < s.size) : bt s (i : Int) = ((s.data.toList[i]'(by rw [data_length]; exact h)).toNat : Int) := by
  have := bt_at s (i : Int) (by simpa using h)
  rw [← this]
  simp only [Int.toNat_natCast]
  rfl
theorem snoc_ind {α : Type} {Q : List α → Prop} (h0 : Q []) (h1 : ∀ l x, Q l → Q (l ++ [x])) : ∀ l, Q l := by
  intro l
  rw [← List.reverse_reverse l]
  induction l.reverse with
  | nil => exact h0
  | cons x l ih => rw [List.reverse_cons]; exact h1 _ _ ih
theorem dec_take (l : List UInt8) (i : Nat) (h : i < l.length) : dec (l.take (i + 1)) = 10 * dec (l.take i) + (l[i].toNat - 48) := by
  rw [List.take_succ_eq_append_getElem h, dec_snoc]
theorem dec_lt : ∀ (l : List UInt8), l.all isDig = true → dec l < 10 ^ l.length := by
  refine snoc_ind (Q := fun l => l.all isDig = true → dec l < 10 ^ l.length) (fun _ => by decide) ?_
  · intro l c ih h
    rw [List.all_append, Bool.and_eq_true] at h
    have h1 := ih h.1
    have h2 : isDig c = true := by simpa using h.2
    unfold isDig at h2
    simp only [Bool.and_eq_true, decide_eq_true_eq, UInt8.le_iff_toNat_le] at h2
    have e2 : (57 : UInt8).toNat = 57 := rfl
    rw [dec_snoc, List.length_append, List.length_singleton, Nat.pow_succ]
    omega
theorem dec_small (l : List UInt8) (h : l.all isDig = true) (hl : l.length ≤ 13) : dec l < 10000000000000 :=
  Nat.lt_of_lt_of_le (dec_lt l h) (Nat.pow_le_pow_right (n := 10) (by decide) hl)
theorem dig_iff (c : UInt8) : isDig c = true ↔ ¬ ((c.toNat : Int) < 48) ∧ ¬ ((c.toNat : Int) > 57) := by
  unfold isDig
  simp only [Bool.and_eq_true, decide_eq_true_eq, UInt8.le_iff_toNat_le]
  have e1 : (48 : UInt8).toNat = 48 := rfl
  have e2 : (57 : UInt8).toNat = 57 := rfl
  omega
theorem step_num (z q : Nat) (hz : z < 10000000000000) (h1 : 48 ≤ q) (h2 : q ≤ 57) : wrap64 (wrap64 ((z : Int) * 10) + ((q : Int) - 48) % 256) = ((10 * z + (q - 48) : Nat) : Int) := by
  have e1 : wrap64 ((z : Int) * 10) = z * 10 := by unfold wrap64; omega
  have e2 : ((q : Int) - 48) % 256 = (q : Int) - 48 := by omega
  rw [e1, e2]
  have e3 : wrap64 ((z : Int) * 10 + ((q : Int) - 48)) = (z : Int) * 10 + ((q : Int) - 48) := by unfold wrap64; omega
  rw [e3]
  omega
/-- The loop of Number, from a place on. -/
theorem loop (s : ByteArray) (hs : s.size ≤ 13) : ∀ (d i k : Nat), i ≤ s.size → s.size - i = d → d < k → (s.data.toList.take i).all isDig = true →
    lex_Number.l0 k s (dec (s.data.toList.take i) : Int) (s.size : Int) (i : Int) = some (if (s.data.toList.drop i).all isDig = true ∧ dec s.data.toList ≤ 1099511627776 then ((dec s.data.toList : Int), true) else (0, false)) := by
  have hl : s.data.toList.length = s.size := data_length s
  intro d
  induction d with
  | zero =>
    intro i k hi hd hk hall
    obtain ⟨k, rfl⟩ : ∃ m, k = m + 1 := ⟨k - 1, by omega⟩
    obtain rfl : i = s.size := by omega
    unfold lex_Number.l0
    rw [if_neg (by omega)]
    have e1 : s.data.toList.take s.size = s.data.toList := List.take_of_length_le (by omega)
    have e2 : s.data.toList.drop s.size = [] := List.drop_eq_nil_of_le (by omega)
    rw [e1, e2]
    by_cases h : dec s.data.toList ≤ 1099511627776
    · rw [if_neg (by omega), if_pos ⟨rfl, h⟩]
    · rw [if_pos (by omega), if_neg (fun h2 => h h2.2)]
  | succ d ih =>
    intro i k hi hd hk hall
    obtain ⟨k, rfl⟩ : ∃ m, k = m + 1 := ⟨k - 1, by omega⟩
    have hlt : i < s.size := by omega
    have hli : i < s.data.toList.length := by omega
    unfold lex_Number.l0
    rw [if_pos (by omega), if_pos (by omega), if_pos (by omega), bt_list s i hlt]
    have hdr : s.data.toList.drop i = s.data.toList[i] :: s.data.toList.drop (i + 1) := List.drop_eq_getElem_cons hli
    rw [hdr, List.all_cons]
    by_cases hd2 : isDig s.data.toList[i] = true
    · have h3 := (dig_iff _).1 hd2
      rw [if_neg h3.1, if_neg h3.2]
      have hall2 : (s.data.toList.take (i + 1)).all isDig = true := by rw [List.take_succ_eq_append_getElem hli, List.all_append, hall, List.all_cons, hd2]; rfl
      have hq1 : 48 ≤ s.data.toList[i].toNat := by have := h3.1; omega
      have hq2 : s.data.toList[i].toNat ≤ 57 := by have := h3.2; omega
      have hz : dec (s.data.toList.take i) < 10000000000000 := dec_small _ hall (by rw [List.length_take]; omega)
      have hdt := dec_take s.data.toList i hli
      have g1 : i + 1 ≤ s.size := by omega
      have g2 : s.size - (i + 1) = d := by omega
      have g3 : d < k := by omega
      have e2 : wrap64 ((i : Int) + 1) = ((i + 1 : Nat) : Int) := by unfold wrap64; omega
      have e : wrap64 (wrap64 ((dec (s.data.toList.take i) : Int) * 10) + ((s.data.toList[i].toNat : Int) - 48) % 256) = (dec (s.data.toList.take (i + 1)) : Int) := by
        rw [hdt]
        exact step_num _ _ hz hq1 hq2
      rw [e, e2, ih (i + 1) k g1 g2 g3 hall2, hd2, Bool.true_and]
    · have hno : ¬ ((isDig s.data.toList[i] && (s.data.toList.drop (i + 1)).all isDig) = true ∧ dec s.data.toList ≤ 1099511627776) := fun h => hd2 (by have := h.1; rw [Bool.and_eq_true] at this; exact this.1)
      rw [if_neg hno]
      by_cases h48 : (s.data.toList[i].toNat : Int) < 48
      · rw [if_pos h48]
      · rw [if_neg h48, if_pos]
        rcases Int.lt_or_le 57 (s.data.toList[i].toNat : Int) with h | h
        · exact h
        · exact absurd ((dig_iff _).2 ⟨h48, by omega⟩) hd2
theorem number (s : ByteArray) : lex_Number.f 16 s = some (numI s) := by
  have hl : s.data.toList.length = s.size := data_length s
  have ht : s.toList = s.data.toList := Lib.toList_data s
  unfold lex_Number.f
  rw [ht]
  have hj : ∀ b, lex_Number.j0 16 s b = if b = true then some (0, false) else lex_Number.l0 15 s 0 (s.size : Int) 0 := fun b => by unfold lex_Number.j0; rfl
  have hnum : ∀ r, num s.data.toList = r → numI s = (match r with
    | some n => ((n : Int), true)
    | none => (0, false)) := fun r h => by unfold numI; rw [h]
  by_cases h0 : s.data.toList = []
  · rw [if_pos h0, hj, if_pos rfl, hnum none (by unfold num; rw [if_pos (.inl h0)])]
  · rw [if_neg h0]
    have hpos : 0 < s.size := by have := List.length_pos_iff.2 h0; omega
    have H : ∀ b : Bool, (b = true ↔ 13 < s.size) → (1 < s.size → s.data.toList.head? ≠ some 48) → lex_Number.j0 16 s b = some (numI s) := by
      intro b hb hh
      rw [hj]
      by_cases h13 : 13 < s.size
      · rw [if_pos (hb.2 h13), hnum none (by unfold num; rw [if_pos (.inr (.inr (.inl (by omega))))])]
      · rw [if_neg (fun h => h13 (hb.1 h))]
        have := loop s (by omega) s.size 0 15 (by omega) (by omega) (by omega) (by simp)
        simp only [List.take_zero, List.drop_zero] at this
        have e0 : ((dec [] : Nat) : Int) = 0 := rfl
        rw [e0] at this
        have e1 : ((0 : Nat) : Int) = 0 := rfl
        rw [e1] at this
        rw [this]
        congr 1
        by_cases ha : s.data.toList.all isDig = true
        · have hc : ¬ (s.data.toList = [] ∨ (1 < s.data.toList.length ∧ s.data.toList.head? = some 48) ∨ 13 < s.data.toList.length ∨ s.data.toList.all isDig = false) := by
            rintro (h | h | h | h)
            · exact h0 h
            · exact hh (by omega) h.2
            · omega
            · rw [ha] at h; cases h
          by_cases hd : dec s.data.toList ≤ 1099511627776
          · rw [if_pos ⟨ha, hd⟩, hnum (some (dec s.data.toList)) (by unfold num; rw [if_neg hc, if_neg (by omega)])]
          · rw [if_neg (fun h => hd h.2), hnum none (by unfold num; rw [if_neg hc, if_pos (by omega)])]
        · rw [if_neg (fun h => ha h.1), hnum none (by unfold num; rw [if_pos (.inr (.inr (.inr (by simpa using ha))))])]
    by_cases h1 : (s.size : Int) > 1
    · rw [if_pos h1, if_pos (by omega)]
      have e : bt s 0 = (s.data.toList[0]'(by omega) |>.toNat : Int) := bt_list s 0 hpos
      by_cases h48 : bt s 0 = 48
      · rw [if_pos h48, hj, if_pos rfl]
        have hh : s.data.toList.head? = some 48 := by
          rw [List.head?_eq_getElem?, List.getElem?_eq_getElem (by omega)]
          rw [e] at h48
          congr 1
          exact UInt8.toNat_inj.1 (by show _ = 48; omega)
        rw [hnum none (by unfold num; rw [if_pos (.inr (.inl ⟨by omega, hh⟩))])]
      · rw [if_neg h48]
        refine H _ (by simp; omega) (fun _ hh => h48 ?_)
        rw [e]
        rw [List.head?_eq_getElem?, List.getElem?_eq_getElem (by omega)] at hh
        injection hh with hh
        rw [hh]
        rfl
    · rw [if_neg h1]
      exact H _ (by simp; omega) (fun h => by omega)
theorem number_calls (t : ByteArray) (w : World) : Calls Tryd.prog 15 #[.string t] w fun e w' => e = .returned (.tuple #[.int .i64 (numI t).1, .bool (numI t).2]) ∧ Below w.heap.size w w' :=
  (lex_Number.calls 16 t (numI t).1 (numI t).2 w (number t)).mono fun e w' ⟨he, hd⟩ => ⟨he, by obtain ⟨n, rfl⟩ := hd; exact pw_below_drewN (Below.refl _ _) n⟩
/-- What the program asks of bytes is what the plain law says. -/
theorem tokV_tok (p : Nat) (b : List UInt8) : tokV ⟨b.toArray⟩ (numI ⟨b.toArray⟩) = (LexM.tok p b).map fun x => ((x.kind : Int), (x.n : Int)) := by
  have e : (⟨b.toArray⟩ : ByteArray).toList = b := by rw [Lib.toList_data]
  have e2 : (⟨b.toArray⟩ : ByteArray).data.toList = b := rfl
  unfold tokV LexM.tok numI
  rw [e, e2]
  have hw : wordF b = true ↔ b ≠ [] ∧ b.all isLow = true := by unfold wordF; simp
  by_cases h0 : b ≠ [] ∧ b.all isLow = true
  · rw [if_pos (hw.2 h0), if_pos h0]; rfl
  · rw [if_neg (fun h => h0 (hw.1 h)), if_neg h0]
    cases hn : num b with
    | some n => rfl
    | none =>
      simp only [Bool.false_eq_true, if_false]
      split
      · rfl
      · split
        · rfl
        · split <;> rfl
def S := S30
def tk (x : Tk) : S30 := ⟨(x.kind : Int), ⟨x.text.toArray⟩, (x.n : Int), (x.place : Int)⟩
theorem reps_all (w : World) (base : Nat) (ok : Nat → Prop) : ∀ (r : List (Nat × List UInt8)) (l : List Tk), toks r = (l, none) →
    Reps (k30.M w base ok) 4 (l.map tk) (cellsOf numI r) := by
  refine snoc_ind (Q := fun r => ∀ (l : List Tk), toks r = (l, none) → Reps (k30.M w base ok) 4 (l.map tk) (cellsOf numI r)) ?_ ?_
  · intro l h; unfold toks at h; injection h with h _; subst h; exact Reps.none _ _
  · intro r x ih l h
    obtain ⟨p, b⟩ := x
    have hs : ∀ (r : List (Nat × List UInt8)) (l : List Tk), toks (r ++ [(p, b)]) = (l, none) → ∃ l' y, toks r = (l', none) ∧ LexM.tok p b = some y ∧ l = l' ++ [y] := by
      intro r
      induction r with
      | nil =>
        intro l h
        rw [List.nil_append] at h
        unfold toks at h
        cases ht : LexM.tok p b with
        | none => simp only [ht] at h; injection h with _ h; cases h
        | some y =>
          simp only [ht, toks] at h
          injection h with h _
          exact ⟨[], y, rfl, rfl, by rw [← h]; rfl⟩
      | cons a r ih2 =>
        obtain ⟨q, c⟩ := a
        intro l h
        rw [List.cons_append] at h
        unfold toks at h
        cases ht : LexM.tok q c with
        | none => simp only [ht] at h; injection h with _ h; cases h
        | some y =>
          simp only [ht] at h
          injection h with h1 h2
          obtain ⟨l', z, g1, g2, g3⟩ := ih2 (toks (r ++ [(p, b)])).1 (by rw [← h2])
          refine ⟨y :: l', z, ?_, g2, by rw [← h1, g3]; rfl⟩
          unfold toks
          simp only [ht, g1]
    obtain ⟨l', y, h1, h2, rfl⟩ := hs r l h
    have hv : tokV ⟨b.toArray⟩ (numI ⟨b.toArray⟩) = some ((y.kind : Int), (y.n : Int)) := by rw [tokV_tok p b, h2]; rfl
    rw [cells_snoc numI r (p, b) hv, List.map_append]
    obtain ⟨ht1, ht2, _⟩ := tok_is h2
    refine Reps.snoc (ih l' h1) ?_ rfl
    have := k30_mkM w base ok (tk y)
    unfold tk at this
    rw [ht1, ht2] at this
    unfold tk
    rw [ht1, ht2]
    exact this
theorem good_toks : ∀ (r : List (Nat × List UInt8)), (∀ x ∈ r, goodV numI x = true) → ∃ l, toks r = (l, none) := by
  intro r
  induction r with
  | nil => intro _; exact ⟨[], rfl⟩
  | cons x r ih =>
    obtain ⟨p, b⟩ := x
    intro h
    obtain ⟨l, hl⟩ := ih (fun y hy => h y (by simp [hy]))
    have h0 := h (p, b) (by simp)
    unfold goodV at h0
    rw [tokV_tok p b] at h0
    cases ht : LexM.tok p b with
    | none => rw [ht] at h0; cases h0
    | some y => exact ⟨y :: l, by unfold toks; simp only [ht, hl]⟩
theorem bad_toks : ∀ (pre : List (Nat × List UInt8)) (x : Nat × List UInt8) (post : List (Nat × List UInt8)), (∀ y ∈ pre, goodV numI y = true) → goodV numI x = false → (toks (pre ++ x :: post)).2 = some x.1 := by
  intro pre
  induction pre with
  | nil =>
    intro x post _ hx
    obtain ⟨p, b⟩ := x
    unfold goodV at hx
    rw [tokV_tok p b] at hx
    rw [List.nil_append]
    unfold toks
    cases ht : LexM.tok p b with
    | none => rfl
    | some y => rw [ht] at hx; cases hx
  | cons a pre ih =>
    intro x post h hx
    obtain ⟨p, b⟩ := a
    have h0 := h (p, b) (by simp)
    unfold goodV at h0
    rw [tokV_tok p b] at h0
    rw [List.cons_append]
    unfold toks
    cases ht : LexM.tok p b with
    | none => rw [ht] at h0; cases h0
    | some y => exact ih x post (fun y hy => h y (by simp [hy])) hx
theorem toks_len : ∀ {r : List (Nat × List UInt8)} {l : List Tk}, toks r = (l, none) → l.length = r.length := by
  intro r l h
  have := (toks_is h).1
  rw [← this, List.length_map]
end LexG
/-- The tokens of a text; where it is none. -/
def lex_Lex.f (a0 : ByteArray) : Option (List S30 × Int × Int) :=
  if 9223372036854775807 < a0.size then none else if 4096 < a0.size then some ([], 0, 3) else
  match LexM.toks (LexM.pcs 0 a0.data.toList) with
  | (l, none) => some (l.map LexG.tk, 0, 0)
  | (_, some p) => some ([], (p : Int), 60)
theorem lex_Lex.calls (a0 : ByteArray) (r1 : List S30) (r2 r3 : Int) (w : World) (h : lex_Lex.f a0 = some (r1, r2, r3)) :
    Calls Tryd.prog 9 #[.string a0] w fun e w' => ∃ v0_ : Value, e = .returned (.tuple #[v0_, .int .i64 r2, .int .i64 r3]) ∧ Kd.R k30 30 w' w.heap.size (fun _ => True) v0_ r1 ∧ Below w.heap.size w w' := by
  unfold lex_Lex.f at h
  split at h
  · cases h
  · rename_i h0
    have hs : a0.size ≤ maxLen := by unfold maxLen; omega
    refine (LexH.lexW LexG.numI a0 w hs (fun t w _ => LexG.number_calls t w)).mono fun e w' ⟨he, hB⟩ => ?_
    split at h
    · rename_i h1
      rw [if_pos h1] at he
      injection h with h
      injection h with h2 h3
      injection h3 with h3 h4
      subst h2 h3 h4
      exact ⟨_, he, Kd.R_nil _ _ _ _ _, hB⟩
    · rename_i h1
      rw [if_neg h1] at he
      have hp : LexH.piecesFrom a0 0 = LexM.pcs 0 a0.data.toList := rfl
      rcases he with ⟨hg, v, he, hrow⟩ | ⟨pre, x, post, e1, e2, e3, he⟩
      · obtain ⟨l, hl⟩ := LexG.good_toks _ hg
        rw [hp] at hl hrow
        rw [hl] at h
        injection h with h
        injection h with h2 h3
        injection h3 with h3 h4
        subst h2 h3 h4
        refine ⟨v, he, ⟨fun _ _ => trivial, _, ?_, LexG.reps_all w' w.heap.size _ _ l hl⟩, hB⟩
        rw [List.length_map, LexG.toks_len hl]
        exact hrow
      · have hb := LexG.bad_toks pre x post e2 e3
        rw [← e1, hp] at hb
        have hx : LexM.toks (LexM.pcs 0 a0.data.toList) = ((LexM.toks (LexM.pcs 0 a0.data.toList)).1, some x.1) := by rw [← hb]
        rw [hx] at h
        injection h with h
        injection h with h2 h3
        injection h3 with h3 h4
        subst h2 h3 h4
        exact ⟨_, he, Kd.R_nil _ _ _ _ _, hB⟩


end Go.Proofs.YtfpbapffdnochaaDoor.PLexBack
