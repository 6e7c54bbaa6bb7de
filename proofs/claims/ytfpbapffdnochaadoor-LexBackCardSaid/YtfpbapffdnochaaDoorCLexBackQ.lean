/- The statement LexBack over numbers and lists alone: of every input. No condition but that numbers are of their kind. -/
import Derived.Test.YtfpbapffdnochaaDoorCLexBack0
import Derived.Test.YtfpbapffdnochaaDoorCLexBack1
import Derived.Test.YtfpbapffdnochaaDoorCLexBack2
import Derived.Test.YtfpbapffdnochaaDoorCLexBack3
import Derived.Test.YtfpbapffdnochaaDoorCLexBack4
import Derived.Test.YtfpbapffdnochaaDoorCLexBack5
import Derived.Test.YtfpbapffdnochaaDoorCLexBack6
import Derived.Test.YtfpbapffdnochaaDoorCLexBackW
set_option linter.unusedVariables false
namespace Go.Proofs.YtfpbapffdnochaaDoor.PLexBack
open Go.RowKit Go.Proofs.YtfpbapffdnochaaDoorW.PrintWords Go.Proofs.YtfpbapffdnochaaDoorW.PrintLast Go.Proofs.YtfpbapffdnochaaDoorW.PrintMore
/-! Lexing, of lists. -/
theorem tl (l : List UInt8) : (⟨l.toArray⟩ : ByteArray).toList = l := by rw [Lib.toList_data]
theorem lex_ok {s : ByteArray} {l : List LexM.Tk} (hs : s.size ≤ 4096) (h : LexM.toks (LexM.pcs 0 s.data.toList) = (l, none)) : lex_Lex.f s = some (l.map LexG.tk, 0, 0) := by
  unfold lex_Lex.f
  rw [if_neg (by omega), if_neg (by omega), h]
set_option maxRecDepth 100000 in
theorem lex1 : lex_Lex.f (⟨#[40, 97, 116, 111, 109, 32, 50, 32, 49, 32, 49, 48, 41]⟩ : ByteArray) = some ([⟨2, ⟨#[40]⟩, 0, 0⟩, ⟨0, ⟨#[97, 116, 111, 109]⟩, 0, 1⟩, ⟨1, ⟨#[50]⟩, 2, 6⟩, ⟨1, ⟨#[49]⟩, 1, 8⟩, ⟨1, ⟨#[49, 48]⟩, 10, 10⟩, ⟨3, ⟨#[41]⟩, 0, 12⟩], 0, 0) := by kernel_rfl
set_option maxRecDepth 100000 in
theorem lex2 : lex_Lex.f (⟨#[102, 114, 111, 109, 32, 48, 32, 116, 111, 32, 57, 58, 32, 120]⟩ : ByteArray) = some ([⟨0, ⟨#[102, 114, 111, 109]⟩, 0, 0⟩, ⟨1, ⟨#[48]⟩, 0, 5⟩, ⟨0, ⟨#[116, 111]⟩, 0, 7⟩, ⟨1, ⟨#[57]⟩, 9, 10⟩, ⟨4, ⟨#[58]⟩, 0, 11⟩, ⟨0, ⟨#[120]⟩, 0, 13⟩], 0, 0) := by kernel_rfl
theorem lex3 : lex_Lex.f (⟨#[]⟩ : ByteArray) = some ([], 0, 0) := by kernel_rfl
theorem text1 : lex_Text.f [⟨2, ⟨#[40]⟩, 0, 0⟩, ⟨0, ⟨#[97, 116, 111, 109]⟩, 0, 1⟩, ⟨1, ⟨#[50]⟩, 2, 6⟩, ⟨1, ⟨#[49]⟩, 1, 8⟩, ⟨1, ⟨#[49, 48]⟩, 10, 10⟩, ⟨3, ⟨#[41]⟩, 0, 12⟩] = some (⟨#[40, 97, 116, 111, 109, 32, 50, 32, 49, 32, 49, 48, 41]⟩ : ByteArray) := by kernel_rfl
theorem text2 : lex_Text.f [⟨0, ⟨#[102, 114, 111, 109]⟩, 0, 0⟩, ⟨1, ⟨#[48]⟩, 0, 5⟩, ⟨0, ⟨#[116, 111]⟩, 0, 7⟩, ⟨1, ⟨#[57]⟩, 9, 10⟩, ⟨4, ⟨#[58]⟩, 0, 11⟩, ⟨0, ⟨#[120]⟩, 0, 13⟩] = some (⟨#[102, 114, 111, 109, 32, 48, 32, 116, 111, 32, 57, 58, 32, 120]⟩ : ByteArray) := by kernel_rfl
theorem bad1 : liverylaw06_bad.f (⟨#[97, 49]⟩ : ByteArray) 0 = some true := by kernel_rfl
theorem bad2 : liverylaw06_bad.f (⟨#[48, 55]⟩ : ByteArray) 0 = some true := by kernel_rfl
set_option maxRecDepth 100000 in
theorem bad3 : liverylaw06_bad.f (⟨#[49, 48, 57, 57, 53, 49, 49, 54, 50, 55, 55, 55, 55]⟩ : ByteArray) 0 = some true := by kernel_rfl
theorem bad4 : liverylaw06_bad.f (⟨#[97, 32, 45, 32, 98]⟩ : ByteArray) 2 = some true := by kernel_rfl
theorem sameAll_refl (p : Bool) : ∀ l : List LexH.T4, LexH.sameAll p l l = true := by
  intro l
  induction l with
  | nil => rfl
  | cons x l ih => unfold LexH.sameAll LexH.same1; rw [ih]; simp
theorem same_refl (l : List S30) (p : Bool) (h : l.length ≤ 9223372036854775807) : liveryref06_Same.f l l p = some true := by
  unfold liveryref06_Same.f
  rw [if_neg (by omega), sameAll_refl]
theorem head_true : liverylaw06_head.f = some true := by
  unfold liverylaw06_head.f
  rw [lex1, lex2, lex3]
  simp only [Option.bind_some]
  rw [same_refl _ _ (by decide)]
  simp only [Option.bind_some, if_true]
  rw [text1, text2]
  simp only [Option.bind_some]
  rw [if_pos (tl _), if_pos (by decide), if_pos (tl _), if_pos (by decide), bad1]
  simp only [Option.bind_some, if_true]
  rw [bad2]
  simp only [Option.bind_some, if_true]
  rw [bad3]
  simp only [Option.bind_some, if_true]
  rw [bad4]
  rfl
open LexM
theorem lex_cases (s : ByteArray) (hs : s.size ≤ maxLen) : (∃ p e : Int, lex_Lex.f s = some ([], p, e) ∧ e ≠ 0) ∨ (s.size ≤ 4096 ∧ ∃ l, toks (pcs 0 s.data.toList) = (l, none) ∧ lex_Lex.f s = some (l.map LexG.tk, 0, 0)) := by
  have hs2 := hs
  unfold maxLen at hs2
  by_cases h : 4096 < s.size
  · refine .inl ⟨0, 3, ?_, by decide⟩
    unfold lex_Lex.f
    rw [if_neg (by omega), if_pos h]
  · cases hp : (toks (pcs 0 s.data.toList)).2 with
    | none =>
      have e : toks (pcs 0 s.data.toList) = ((toks (pcs 0 s.data.toList)).1, none) := by rw [← hp]
      exact .inr ⟨by omega, _, e, lex_ok (by omega) e⟩
    | some p =>
      have e : toks (pcs 0 s.data.toList) = ((toks (pcs 0 s.data.toList)).1, some p) := by rw [← hp]
      refine .inl ⟨p, 60, ?_, by decide⟩
      unfold lex_Lex.f
      rw [if_neg (by omega), if_neg h, e]
theorem same_bare (l m : List Tk) (h : m.map bare = l.map bare) (hl : l.length ≤ 9223372036854775807) : liveryref06_Same.f (l.map LexG.tk) (m.map LexG.tk) false = some true := by
  unfold liveryref06_Same.f
  rw [if_neg (by rw [List.length_map]; omega)]
  congr 1
  clear hl
  induction l generalizing m with
  | nil =>
    cases m with
    | nil => rfl
    | cons => simp at h
  | cons x l ih =>
    cases m with
    | nil => simp at h
    | cons y m =>
      simp only [List.map_cons, List.cons.injEq] at h
      obtain ⟨h1, h2⟩ := h
      unfold bare at h1
      simp only [Prod.mk.injEq] at h1
      simp only [List.map_cons]
      unfold LexH.sameAll
      rw [ih m h2]
      unfold LexH.same1 LexG.tk
      rw [h1.1, h1.2.1, h1.2.2]
      simp
theorem rd_tok (l : List Tk) (j : Nat) (h : j < l.length) : rd_T30 (l.map LexG.tk) (j : Int) = LexG.tk l[j] := by
  unfold rd_T30
  rw [Int.toNat_natCast, List.getD_eq_getElem?_getD, List.getElem?_eq_getElem (by rw [List.length_map]; exact h), List.getElem_map]
  rfl
theorem tok_bound {s : ByteArray} {l : List Tk} (h : toks (pcs 0 s.data.toList) = (l, none)) : ∀ x ∈ l, x.place + x.text.length ≤ s.size := by
  intro x hx
  have h1 := (toks_is h).1
  have h2 : (x.place, x.text) ∈ pcs 0 s.data.toList := by rw [← h1]; exact List.mem_map.2 ⟨x, hx, rfl⟩
  exact (LexH.piece_at s (x.place, x.text) h2).1
theorem tok_count {s : ByteArray} {l : List Tk} (h : toks (pcs 0 s.data.toList) = (l, none)) : l.length ≤ s.size := by
  have h1 := LexG.toks_len h
  have h2 := LexH.pieces_len s
  have h3 : (LexH.piecesFrom s 0).length = (pcs 0 s.data.toList).length := rfl
  omega
theorem cover_nil {p : Nat} {D : List UInt8} {B : List (Nat × List UInt8)} (h : LexM.Cover p D B) : B = [] → ∀ c ∈ D, isWhite c = true := by
  induction h with
  | last p W hW => exact fun _ => hW
  | piece p W b t B h1 h2 h3 ih => exact fun h => by cases h
theorem cover_cons {p : Nat} {D : List UInt8} {B : List (Nat × List UInt8)} (h : LexM.Cover p D B) : ∀ q b B', B = (q, b) :: B' → ∃ W t, D = W ++ (b ++ t) ∧ (∀ c ∈ W, isWhite c = true) ∧ q = p + W.length ∧ LexM.Cover (p + W.length + b.length) t B' := by
  induction h with
  | last p W hW => intro q b B' h; cases h
  | piece p W b t B h1 h2 h3 ih =>
    intro q b' B' h
    injection h with g1 g2
    injection g1 with g3 g4
    subst g4
    subst g2
    exact ⟨W, t, rfl, h1, g3.symm, h3⟩
theorem textK_eq (l : List Tk) : ∀ (d k : Nat), k + d = l.length → LexH.textK (l.map fun x => ((x.kind : Int), (⟨x.text.toArray⟩ : ByteArray))) l.length = LexH.textK (l.map fun x => ((x.kind : Int), (⟨x.text.toArray⟩ : ByteArray))) k ++ textB (decide (k = 0) || (((l.map (·.kind)).getD (k - 1) 0) == 2)) (l.drop k) := by
  intro d
  induction d with
  | zero =>
    intro k hk
    obtain rfl : k = l.length := by omega
    rw [List.drop_length]
    simp [textB]
  | succ d ih =>
    intro k hk
    have hkl : k < l.length := by omega
    rw [ih (k + 1) (by omega)]
    have hg : (l.map fun x => ((x.kind : Int), (⟨x.text.toArray⟩ : ByteArray))).getD k (0, ⟨#[]⟩) = ((l[k].kind : Int), ⟨l[k].text.toArray⟩) := by
      rw [List.getD_eq_getElem?_getD, List.getElem?_eq_getElem (by rw [List.length_map]; exact hkl), List.getElem_map]; rfl
    conv => lhs; arg 1; unfold LexH.textK
    rw [hg, List.append_assoc]
    congr 1
    rw [List.drop_eq_getElem_cons hkl]
    conv => rhs; unfold textB
    have hk1 : (l.map (·.kind)).getD (k + 1 - 1) 0 = l[k].kind := by
      rw [Nat.add_sub_cancel, List.getD_eq_getElem?_getD, List.getElem?_eq_getElem (by rw [List.length_map]; exact hkl), List.getElem_map]; rfl
    have h0 : decide (k + 1 = 0) = false := by simp
    rw [hk1, h0, Bool.false_or, List.append_assoc]
    have hbl : LexH.blank (l.map fun x => ((x.kind : Int), (⟨x.text.toArray⟩ : ByteArray))) k = !(((decide (k = 0) || (((l.map (·.kind)).getD (k - 1) 0) == 2)) || (l[k].kind == 3)) || (l[k].kind == 4)) := by
      unfold LexH.blank
      rw [hg]
      have c3 : (((l[k].kind : Nat) : Int) != 3) = !(l[k].kind == 3) := by
        rw [Bool.eq_iff_iff]; simp; omega
      have c4 : (((l[k].kind : Nat) : Int) != 4) = !(l[k].kind == 4) := by
        rw [Bool.eq_iff_iff]; simp; omega
      simp only [c3, c4]
      rcases Nat.eq_zero_or_pos k with hz | hz
      · subst hz; simp
      · have hgp : (l.map fun x => ((x.kind : Int), (⟨x.text.toArray⟩ : ByteArray))).getD (k - 1) (0, ⟨#[]⟩) = ((l[k - 1].kind : Int), ⟨l[k - 1].text.toArray⟩) := by
          rw [List.getD_eq_getElem?_getD, List.getElem?_eq_getElem (by rw [List.length_map]; omega), List.getElem_map]; rfl
        have hgk : (l.map (·.kind)).getD (k - 1) 0 = l[k - 1].kind := by
          rw [List.getD_eq_getElem?_getD, List.getElem?_eq_getElem (by rw [List.length_map]; omega), List.getElem_map]; rfl
        have c2 : (((l[k - 1].kind : Nat) : Int) != 2) = !(l[k - 1].kind == 2) := by
          rw [Bool.eq_iff_iff]; simp; omega
        have d0 : decide (0 < k) = true := by simp [hz]
        have d1 : decide (k = 0) = false := by simp; omega
        simp only [hgp, hgk, c2, d0, d1]
        simp
    rw [hbl]
    congr 1
    generalize (decide (k = 0) || (((l.map (·.kind)).getD (k - 1) 0) == 2)) = g
    by_cases h3 : l[k].kind = 3
    · simp [h3]
    · by_cases h4 : l[k].kind = 4
      · simp [h4]
      · have e3 : (l[k].kind == 3) = false := by simp [h3]
        have e4 : (l[k].kind == 4) = false := by simp [h4]
        rw [e3, e4]
        cases g <;> simp [h3, h4]
theorem text_f {l : List Tk} (hl : l.length ≤ 4096) (hx : ∀ x ∈ l, x.text.length ≤ 4096) : lex_Text.f (l.map LexG.tk) = some ⟨(textB true l).toArray⟩ := by
  have hsum : ∀ (l : List Tk), (∀ x ∈ l, x.text.length ≤ 4096) → ((l.map LexG.tk).map fun x => x.f1.size + 1).sum ≤ 4097 * l.length := by
    intro l
    induction l with
    | nil => intro _; simp
    | cons x l ih =>
      intro h
      have h1 := ih fun y hy => h y (by simp [hy])
      have h2 := h x (by simp)
      have h3 : (LexG.tk x).f1.size = x.text.length := by unfold LexG.tk; simp [ByteArray.size]
      simp only [List.map_cons, List.sum_cons, List.length_cons, h3]
      omega
  have hs := hsum l hx
  unfold lex_Text.f
  rw [if_neg (by rw [List.length_map]; omega)]
  congr 2
  rw [List.map_map, List.length_map]
  have := textK_eq l l.length 0 (by omega)
  simp only [List.drop_zero, decide_true, Bool.true_or] at this
  have e : (l.map ((fun x => (x.f0, x.f1)) ∘ LexG.tk)) = l.map fun x => ((x.kind : Int), (⟨x.text.toArray⟩ : ByteArray)) := rfl
  rw [e, this]
  rfl
theorem white_f (c : UInt8) (h : isWhite c = true) : liveryref06_White.f ((c.toNat : Nat) : Int) = some true := by
  unfold isWhite at h
  simp only [Bool.or_eq_true, beq_iff_eq] at h
  rcases h with ((h | h) | h) | h <;> subst h <;> rfl
/-- The inner loop goes over white. -/
theorem loop1 (s : ByteArray) (hs : s.size ≤ 4096) (L : List S30) (i : Nat) (p : Nat) (hp : p ≤ s.size) (r : Bool) (hev : Ev (fun q => liverylaw06_LexBack.l1 q s L (p : Int) (i : Int) (p : Int)) r) : ∀ (d a : Nat), a + d = p → (∀ j (h : j < s.data.toList.length), a ≤ j → j < p → isWhite s.data.toList[j] = true) →
    Ev (fun q => liverylaw06_LexBack.l1 q s L (a : Int) (i : Int) (p : Int)) r := by
  have hl : s.data.toList.length = s.size := data_length s
  intro d
  induction d with
  | zero =>
    intro a ha _
    obtain rfl : a = p := by omega
    exact hev
  | succ d ih =>
    intro a ha hw
    have hal : a < s.data.toList.length := by omega
    have h1 := hw a hal (by omega) (by omega)
    refine Ev.step (f := fun q => liverylaw06_LexBack.l1 q s L ((a + 1 : Nat) : Int) (i : Int) (p : Int)) (fun q => ?_) (ih (a + 1) (by omega) (fun j h h2 h3 => hw j h (by omega) h3))
    have E3 : Aside0 (wrap64 ((a : Int) + 1) = ((a + 1 : Nat) : Int)) := ⟨by unfold wrap64; omega⟩
    show liverylaw06_LexBack.l1 (q + 1) _ _ _ _ _ = _
    simp only [liverylaw06_LexBack.l1]
    rw [if_pos (by omega), if_pos (by omega), if_pos (by omega), LexG.bt_list s a (by omega), white_f _ h1]
    simp only [Option.bind_some, if_true]
    rw [E3.out]
theorem loop0 (s : ByteArray) (hs : s.size ≤ 4096) (l : List Tk) (hll : l.length ≤ 4096) (hx : ∀ x ∈ l, x.text ≠ [] ∧ x.place + x.text.length ≤ s.size) : ∀ (d i a : Nat), i + d = l.length → a ≤ s.size → LexM.Cover a (s.data.toList.drop a) ((l.drop i).map fun x => (x.place, x.text)) →
    Ev (fun q => liverylaw06_LexBack.l0 q s (l.map LexG.tk) (a : Int) (i : Int)) true := by
  have hl : s.data.toList.length = s.size := data_length s
  have hL : (l.map LexG.tk).length = l.length := List.length_map ..
  intro d
  induction d with
  | zero =>
    intro i a hi ha hc
    obtain rfl : i = l.length := by omega
    rw [List.drop_length, List.map_nil] at hc
    have hw := cover_nil hc rfl
    have hend : Ev (fun q => liverylaw06_LexBack.l1 q s (l.map LexG.tk) (s.size : Int) (l.length : Int) (s.size : Int)) true := by
      refine Ev.step (f := fun q => liverylaw06_LexBack.l0 q s (l.map LexG.tk) (s.size : Int) ((l.length + 1 : Nat) : Int)) (fun q => ?_) ?_
      · have E3 : Aside0 (wrap64 ((l.length : Int) + 1) = ((l.length + 1 : Nat) : Int)) := ⟨by unfold wrap64; omega⟩
        show liverylaw06_LexBack.l1 (q + 1) _ _ _ _ _ = _
        simp only [liverylaw06_LexBack.l1]
        rw [if_neg (by omega), hL, if_neg (by omega), E3.out]
      · refine Ev.step (f := fun _ => some true) (fun q => ?_) (Ev.now true)
        show liverylaw06_LexBack.l0 (q + 1) _ _ _ _ = _
        simp only [liverylaw06_LexBack.l0]
        rw [hL, if_neg (by omega), head_true]
        rfl
    have h1 := loop1 s hs (l.map LexG.tk) l.length s.size (Nat.le_refl _) true hend (s.size - a) a (by omega) (fun j h h2 h3 => hw _ (by
      have : s.data.toList[j] = (s.data.toList.drop a)[j - a]'(by rw [List.length_drop]; omega) := by
        rw [List.getElem_drop]; congr 1; omega
      rw [this]
      exact List.getElem_mem _))
    refine Ev.step (f := fun q => liverylaw06_LexBack.j2 q s (l.map LexG.tk) (a : Int) (l.length : Int) (s.size : Int)) (fun q => ?_) ?_
    · show liverylaw06_LexBack.l0 (q + 1) _ _ _ _ = _
      simp only [liverylaw06_LexBack.l0]
      rw [hL, if_pos (by omega), if_neg (by omega)]
    · refine Ev.step (f := fun q => liverylaw06_LexBack.j3 q s (l.map LexG.tk) (a : Int) (l.length : Int) (s.size : Int) false) (fun q => ?_) ?_
      · show liverylaw06_LexBack.j2 (q + 1) _ _ _ _ _ = _
        simp only [liverylaw06_LexBack.j2]
        have : decide ((s.size : Int) > (s.size : Int)) = false := by simp
        rw [if_neg (by omega), this]
      · refine Ev.step (fun q => ?_) h1
        show liverylaw06_LexBack.j3 (q + 1) _ _ _ _ _ _ = _
        simp only [liverylaw06_LexBack.j3]
        rfl
  | succ d ih =>
    intro i a hi ha hc
    have hil : i < l.length := by omega
    obtain ⟨hx1, hx2⟩ := hx _ (List.getElem_mem hil)
    rw [List.drop_eq_getElem_cons hil, List.map_cons] at hc
    obtain ⟨W, t, e1, e2, e3, e4⟩ := cover_cons hc _ _ _ rfl
    have hlen := congrArg List.length e1
    simp only [List.length_drop, List.length_append] at hlen
    obtain ⟨p, hp⟩ : ∃ p : Nat, p = a + W.length := ⟨_, rfl⟩
    obtain ⟨n, hn⟩ : ∃ n : Nat, n = l[i].text.length := ⟨_, rfl⟩
    have hn0 : 0 < n := by rw [hn]; exact List.length_pos_iff.2 hx1
    have hpn : p + n ≤ s.size := by omega
    have hdp : s.data.toList.drop p = l[i].text ++ t := by
      rw [hp, ← List.drop_drop, e1, List.drop_left]
    have hdn : s.data.toList.drop (p + n) = t := by
      rw [← List.drop_drop, hdp, hn, List.drop_left]
    have hext : (s.extract p (p + n)).toList = l[i].text := by
      rw [Lib.extract_toList, hdp]
      have : p + n - p = l[i].text.length := by omega
      rw [this, List.take_left]
    have hrt := rd_tok l i hil
    have hf1 : (LexG.tk l[i]).f1.toList = l[i].text := tl _
    have hfs : ((LexG.tk l[i]).f1.size : Int) = (n : Int) := by rw [hn]; unfold LexG.tk; simp [ByteArray.size]
    have hf3 : (LexG.tk l[i]).f3 = (p : Int) := by unfold LexG.tk; simp only; rw [e3, hp]
    have ih2 := ih (i + 1) (p + n) (by omega) hpn (by rw [hdn, hp, hn]; exact e4)
    have hend : Ev (fun q => liverylaw06_LexBack.l1 q s (l.map LexG.tk) (p : Int) (i : Int) (p : Int)) true := by
      refine Ev.step (f := fun q => liverylaw06_LexBack.l0 q s (l.map LexG.tk) ((p + n : Nat) : Int) ((i + 1 : Nat) : Int)) (fun q => ?_) ih2
      have E3 : Aside0 (wrap64 ((i : Int) + 1) = ((i + 1 : Nat) : Int)) := ⟨by unfold wrap64; omega⟩
      have E4 : Aside0 (wrap64 ((p : Int) + (n : Int)) = ((p + n : Nat) : Int)) := ⟨by unfold wrap64; omega⟩
      show liverylaw06_LexBack.l1 (q + 1) _ _ _ _ _ = _
      simp only [liverylaw06_LexBack.l1]
      rw [if_neg (by omega), hL, if_pos (by omega), if_pos (by omega), hrt, hfs, if_neg (by omega), E4.out, E3.out, if_neg (by omega), if_pos (by omega), if_pos (by omega), if_pos (by omega)]
      rw [Int.toNat_natCast, Int.toNat_natCast, hext, hf1, if_pos rfl]
    have h1 := loop1 s hs (l.map LexG.tk) i p (by omega) true hend W.length a (by omega) (fun j h h2 h3 => e2 _ (by
      have g1 : j - a < W.length := by omega
      have : s.data.toList[j] = W[j - a] := by
        have g2 : s.data.toList[j] = (s.data.toList.drop a)[j - a]'(by rw [List.length_drop]; omega) := by
          rw [List.getElem_drop]; congr 1; omega
        rw [g2]
        simp only [e1]
        rw [List.getElem_append_left g1]
      rw [this]
      exact List.getElem_mem _))
    refine Ev.step (f := fun q => liverylaw06_LexBack.j2 q s (l.map LexG.tk) (a : Int) (i : Int) (p : Int)) (fun q => ?_) ?_
    · show liverylaw06_LexBack.l0 (q + 1) _ _ _ _ = _
      simp only [liverylaw06_LexBack.l0]
      rw [hL, if_pos (by omega), if_pos (by omega), if_pos (by omega), hrt, hf3]
    · refine Ev.step (f := fun q => liverylaw06_LexBack.j3 q s (l.map LexG.tk) (a : Int) (i : Int) (p : Int) false) (fun q => ?_) ?_
      · show liverylaw06_LexBack.j2 (q + 1) _ _ _ _ _ = _
        simp only [liverylaw06_LexBack.j2]
        have : decide ((p : Int) > (s.size : Int)) = false := by simp; omega
        rw [if_neg (by omega), this]
      · refine Ev.step (fun q => ?_) h1
        show liverylaw06_LexBack.j3 (q + 1) _ _ _ _ _ _ = _
        simp only [liverylaw06_LexBack.j3]
        rfl
theorem LexBack (a0 : ByteArray) (w0 : a0.size ≤ maxLen) : ∃ k, liverylaw06_LexBack.f k a0 = some true := by
  rcases lex_cases a0 w0 with ⟨p, e, h1, h2⟩ | ⟨hs, l, h1, h2⟩
  · refine ⟨0, ?_⟩
    unfold liverylaw06_LexBack.f
    rw [h1]
    simp only [Option.bind_some]
    rw [if_neg h2, if_pos (by rfl), head_true]
    rfl
  · have hcnt := tok_count h1
    have hb := tok_bound h1
    have ht := text_f (l := l) (by omega) (fun x hx => by have := hb x hx; omega)
    have htd : (⟨(textB true l).toArray⟩ : ByteArray).data.toList = textB true l := rfl
    by_cases h4 : 4096 < (⟨(textB true l).toArray⟩ : ByteArray).size
    · refine ⟨0, ?_⟩
      unfold liverylaw06_LexBack.f
      rw [h2]
      simp only [Option.bind_some, if_true]
      rw [ht]
      simp only [Option.bind_some]
      rw [if_pos (by omega), head_true]
      rfl
    · obtain ⟨m, m1, m2⟩ := relex h1
      have hlm : m.length = l.length := by have := congrArg List.length m2; simpa using this
      have hlex := lex_ok (s := ⟨(textB true l).toArray⟩) (l := m) (by omega) (by rw [htd]; exact m1)
      have hmt : ∀ x ∈ m, x.text.length ≤ 4096 := by
        intro x hx
        have g1 := tok_bound (s := ⟨(textB true l).toArray⟩) (l := m) (by rw [htd]; exact m1) x hx
        omega
      have htm := text_f (l := m) (by omega) hmt
      rw [text_bare (m := l) true m2] at htm
      have hcov : LexM.Cover 0 (a0.data.toList.drop 0) ((l.drop 0).map fun x => (x.place, x.text)) := by
        rw [List.drop_zero, List.drop_zero, (toks_is h1).1]
        exact LexM.cover _ _
      have ev := loop0 a0 hs l (by omega) (fun x hx => ⟨((toks_is h1).2 x hx).ne, hb x hx⟩) l.length 0 0 (by omega) (Nat.zero_le _) hcov
      have ev2 : Ev (fun k => liverylaw06_LexBack.f k a0) true := by
        refine Ev.congr (f := fun k => liverylaw06_LexBack.j0 k a0 (l.map LexG.tk) false) (fun k => ?_) ?_
        · unfold liverylaw06_LexBack.f
          rw [h2]
          simp only [Option.bind_some, if_true]
          rw [ht]
          simp only [Option.bind_some]
          rw [if_neg (by omega), hlex]
          simp only [Option.bind_some, if_true]
          rw [same_bare l m m2 (by omega)]
          simp only [Option.bind_some, if_true]
          rw [htm]
          simp only [Option.bind_some, bne_self_eq_false]
        · refine Ev.step (fun q => ?_) ev
          show liverylaw06_LexBack.j0 (q + 1) _ _ _ = _
          simp only [liverylaw06_LexBack.j0]
          rfl
      exact ev2.rounds
end Go.Proofs.YtfpbapffdnochaaDoor.PLexBack
