/- The statement LexWhite over numbers and lists alone: of every input. No condition but that numbers are of their kind. -/
import Derived.Test.YtfpbapffdnochaaDoorCLexWhite0
import Derived.Test.YtfpbapffdnochaaDoorCLexWhite1
import Derived.Test.YtfpbapffdnochaaDoorCLexWhite2
import Derived.Test.YtfpbapffdnochaaDoorCLexWhite3
import Derived.Test.YtfpbapffdnochaaDoorCLexWhite4
import Derived.Test.YtfpbapffdnochaaDoorCLexWhite5
import Derived.Test.YtfpbapffdnochaaDoorCLexWhite6
import Derived.Test.YtfpbapffdnochaaDoorCLexWhiteW
set_option linter.unusedVariables false
namespace Go.Proofs.YtfpbapffdnochaaDoor.PLexWhite
open Go.RowKit Go.Proofs.YtfpbapffdnochaaDoorW.PrintWords Go.Proofs.YtfpbapffdnochaaDoorW.PrintLast Go.Proofs.YtfpbapffdnochaaDoorW.PrintMore
/-! Lexing, of lists. -/
theorem tl (l : List UInt8) : (⟨l.toArray⟩ : ByteArray).toList = l := by rw [Lib.toList_data]
theorem lex_ok {s : ByteArray} {l : List LexM.Tk} (hs : s.size ≤ 4096) (h : LexM.toks (LexM.pcs 0 s.data.toList) = (l, none)) : lex_Lex.f s = some (l.map LexG.tk, 0, 0) := by
  unfold lex_Lex.f
  rw [if_neg (by omega), if_neg (by omega), h]
set_option maxRecDepth 100000 in
theorem lex1 : lex_Lex.f (⟨#[40, 97, 116, 111, 109, 32, 50, 32, 49, 32, 49, 48, 41]⟩ : ByteArray) = some ([⟨2, ⟨#[40]⟩, 0, 0⟩, ⟨0, ⟨#[97, 116, 111, 109]⟩, 0, 1⟩, ⟨1, ⟨#[50]⟩, 2, 6⟩, ⟨1, ⟨#[49]⟩, 1, 8⟩, ⟨1, ⟨#[49, 48]⟩, 10, 10⟩, ⟨3, ⟨#[41]⟩, 0, 12⟩], 0, 0) := by kernel_rfl
set_option maxRecDepth 100000 in
theorem lex2 : lex_Lex.f (⟨#[102, 114, 111, 109, 32, 48, 32, 116, 111, 32, 57, 58, 32, 120]⟩ : ByteArray) = some ([⟨0, ⟨#[102, 114, 111, 109]⟩, 0, 0⟩, ⟨1, ⟨#[48]⟩, 0, 5⟩, ⟨0, ⟨#[116, 111]⟩, 0, 7⟩, ⟨1, ⟨#[57]⟩, 9, 10⟩, ⟨4, ⟨#[58]⟩, 0, 11⟩, ⟨0, ⟨#[120]⟩, 0, 13⟩], 0, 0) := by kernel_rfl
theorem lex3 : lex_Lex.f (⟨#[]⟩ : ByteArray) = some ([], 0, 0) := by kernel_rfl
theorem text1 : lex_Text.f [⟨2, ⟨#[40]⟩, 0, 0⟩, ⟨0, ⟨#[97, 116, 111, 109]⟩, 0, 1⟩, ⟨1, ⟨#[50]⟩, 2, 6⟩, ⟨1, ⟨#[49]⟩, 1, 8⟩, ⟨1, ⟨#[49, 48]⟩, 10, 10⟩, ⟨3, ⟨#[41]⟩, 0, 12⟩] = some (⟨#[40, 97, 116, 111, 109, 32, 50, 32, 49, 32, 49, 48, 41]⟩ : ByteArray) := by kernel_rfl
theorem text2 : lex_Text.f [⟨0, ⟨#[102, 114, 111, 109]⟩, 0, 0⟩, ⟨1, ⟨#[48]⟩, 0, 5⟩, ⟨0, ⟨#[116, 111]⟩, 0, 7⟩, ⟨1, ⟨#[57]⟩, 9, 10⟩, ⟨4, ⟨#[58]⟩, 0, 11⟩, ⟨0, ⟨#[120]⟩, 0, 13⟩] = some (⟨#[102, 114, 111, 109, 32, 48, 32, 116, 111, 32, 57, 58, 32, 120]⟩ : ByteArray) := by kernel_rfl
theorem bad1 : liverylaw06_bad.f (⟨#[97, 49]⟩ : ByteArray) 0 = some true := by kernel_rfl
theorem bad2 : liverylaw06_bad.f (⟨#[48, 55]⟩ : ByteArray) 0 = some true := by kernel_rfl
set_option maxRecDepth 100000 in
theorem bad3 : liverylaw06_bad.f (⟨#[49, 48, 57, 57, 53, 49, 49, 54, 50, 55, 55, 55, 55]⟩ : ByteArray) 0 = some true := by kernel_rfl
theorem bad4 : liverylaw06_bad.f (⟨#[97, 32, 45, 32, 98]⟩ : ByteArray) 2 = some true := by kernel_rfl
theorem sameAll_refl (p : Bool) : ∀ l : List LexH.T4, LexH.sameAll p l l = true := by
  intro l
  induction l with
  | nil => rfl
  | cons x l ih => unfold LexH.sameAll LexH.same1; rw [ih]; simp
theorem same_refl (l : List S30) (p : Bool) (h : l.length ≤ 9223372036854775807) : liveryref06_Same.f l l p = some true := by
  unfold liveryref06_Same.f
  rw [if_neg (by omega), sameAll_refl]
theorem head_true : liverylaw06_head.f = some true := by
  unfold liverylaw06_head.f
  rw [lex1, lex2, lex3]
  simp only [Option.bind_some]
  rw [same_refl _ _ (by decide)]
  simp only [Option.bind_some, if_true]
  rw [text1, text2]
  simp only [Option.bind_some]
  rw [if_pos (tl _), if_pos (by decide), if_pos (tl _), if_pos (by decide), bad1]
  simp only [Option.bind_some, if_true]
  rw [bad2]
  simp only [Option.bind_some, if_true]
  rw [bad3]
  simp only [Option.bind_some, if_true]
  rw [bad4]
  rfl
open LexM
theorem lex_cases (s : ByteArray) (hs : s.size ≤ maxLen) : (∃ p e : Int, lex_Lex.f s = some ([], p, e) ∧ e ≠ 0) ∨ (s.size ≤ 4096 ∧ ∃ l, toks (pcs 0 s.data.toList) = (l, none) ∧ lex_Lex.f s = some (l.map LexG.tk, 0, 0)) := by
  have hs2 := hs
  unfold maxLen at hs2
  by_cases h : 4096 < s.size
  · refine .inl ⟨0, 3, ?_, by decide⟩
    unfold lex_Lex.f
    rw [if_neg (by omega), if_pos h]
  · cases hp : (toks (pcs 0 s.data.toList)).2 with
    | none =>
      have e : toks (pcs 0 s.data.toList) = ((toks (pcs 0 s.data.toList)).1, none) := by rw [← hp]
      exact .inr ⟨by omega, _, e, lex_ok (by omega) e⟩
    | some p =>
      have e : toks (pcs 0 s.data.toList) = ((toks (pcs 0 s.data.toList)).1, some p) := by rw [← hp]
      refine .inl ⟨p, 60, ?_, by decide⟩
      unfold lex_Lex.f
      rw [if_neg (by omega), if_neg h, e]
theorem same_bare (l m : List Tk) (h : m.map bare = l.map bare) (hl : l.length ≤ 9223372036854775807) : liveryref06_Same.f (l.map LexG.tk) (m.map LexG.tk) false = some true := by
  unfold liveryref06_Same.f
  rw [if_neg (by rw [List.length_map]; omega)]
  congr 1
  clear hl
  induction l generalizing m with
  | nil =>
    cases m with
    | nil => rfl
    | cons => simp at h
  | cons x l ih =>
    cases m with
    | nil => simp at h
    | cons y m =>
      simp only [List.map_cons, List.cons.injEq] at h
      obtain ⟨h1, h2⟩ := h
      unfold bare at h1
      simp only [Prod.mk.injEq] at h1
      simp only [List.map_cons]
      unfold LexH.sameAll
      rw [ih m h2]
      unfold LexH.same1 LexG.tk
      rw [h1.1, h1.2.1, h1.2.2]
      simp
theorem rd_tok (l : List Tk) (j : Nat) (h : j < l.length) : rd_T30 (l.map LexG.tk) (j : Int) = LexG.tk l[j] := by
  unfold rd_T30
  rw [Int.toNat_natCast, List.getD_eq_getElem?_getD, List.getElem?_eq_getElem (by rw [List.length_map]; exact h), List.getElem_map]
  rfl
theorem tok_bound {s : ByteArray} {l : List Tk} (h : toks (pcs 0 s.data.toList) = (l, none)) : ∀ x ∈ l, x.place + x.text.length ≤ s.size := by
  intro x hx
  have h1 := (toks_is h).1
  have h2 : (x.place, x.text) ∈ pcs 0 s.data.toList := by rw [← h1]; exact List.mem_map.2 ⟨x, hx, rfl⟩
  exact (LexH.piece_at s (x.place, x.text) h2).1
theorem tok_count {s : ByteArray} {l : List Tk} (h : toks (pcs 0 s.data.toList) = (l, none)) : l.length ≤ s.size := by
  have h1 := LexG.toks_len h
  have h2 := LexH.pieces_len s
  have h3 : (LexH.piecesFrom s 0).length = (pcs 0 s.data.toList).length := rfl
  omega
/-- The bytes of white that the law makes. -/
def whites (l : List Int) : List UInt8 := l.map fun x => if x % 4 = 0 then 32 else if x % 4 = 1 then 9 else if x % 4 = 2 then 10 else 13
theorem whites_white (l : List Int) : ∀ c ∈ whites l, isWhite c = true := by
  intro c hc
  obtain ⟨x, _, rfl⟩ := List.mem_map.1 hc
  split
  · rfl
  · split
    · rfl
    · split <;> rfl
theorem white_one (x : Int) (h0 : 0 ≤ x) : 0 ≤ Int.tmod x 4 ∧ Int.tmod x 4 < 4 ∧ strOfNums [rd [32, 9, 10, 13] (Int.tmod x 4)] = ⟨[if x % 4 = 0 then 32 else if x % 4 = 1 then 9 else if x % 4 = 2 then 10 else (13 : UInt8)].toArray⟩ := by
  rw [Int.tmod_eq_emod_of_nonneg h0]
  have h1 : 0 ≤ x % 4 := Int.emod_nonneg _ (by omega)
  have h2 : x % 4 < 4 := Int.emod_lt_of_pos _ (by omega)
  refine ⟨h1, h2, ?_⟩
  obtain h | h | h | h : x % 4 = 0 ∨ x % 4 = 1 ∨ x % 4 = 2 ∨ x % 4 = 3 := by omega
  all_goals rw [h]; rfl
theorem places {l m : List Tk} {k d : Nat} (h : m.map (·.place) = (l.take k).map (·.place) ++ (l.drop k).map fun x => x.place + d) (hk : k < l.length) :
    m.length = l.length ∧ ∀ j (h1 : j < m.length) (h2 : j < l.length), m[j].place = if k ≤ j then l[j].place + d else l[j].place := by
  have hl : m.length = l.length := by
    have := congrArg List.length h
    simp only [List.length_map, List.length_append, List.length_take, List.length_drop] at this
    omega
  refine ⟨hl, fun j h1 h2 => ?_⟩
  have h3 := congrArg (fun z => z[j]?) h
  simp only [List.getElem?_map, List.getElem?_eq_getElem h1, Option.map_some] at h3
  by_cases hj : k ≤ j
  · rw [if_pos hj]
    rw [List.getElem?_append_right (by rw [List.length_map, List.length_take]; omega)] at h3
    have e : j - ((l.take k).map (·.place)).length = j - k := by rw [List.length_map, List.length_take]; omega
    rw [e, List.getElem?_map, List.getElem?_drop] at h3
    have e2 : k + (j - k) = j := by omega
    rw [e2, List.getElem?_eq_getElem h2] at h3
    simpa using h3
  · rw [if_neg hj]
    rw [List.getElem?_append_left (by rw [List.length_map, List.length_take]; omega), List.getElem?_map, List.getElem?_take_of_lt (by omega), List.getElem?_eq_getElem h2] at h3
    simpa using h3
theorem loop1 (l m : List Tk) (k d : Nat) (x10 : ByteArray) (hx : x10.size = d) (hd : d ≤ 90) (hb : ∀ x ∈ l, x.place ≤ 4096) (hll : l.length ≤ 4096) (h : m.length = l.length) (hp : ∀ j (h1 : j < m.length) (h2 : j < l.length), m[j].place = if k ≤ j then l[j].place + d else l[j].place) :
    ∀ (r j : Nat), j + r = m.length → Ev (fun q => liverylaw06_LexWhite.l1 q (l.map LexG.tk) x10 (k : Int) (m.map LexG.tk) (j : Int)) true := by
  intro r
  induction r with
  | zero =>
    intro j hj
    refine Ev.step (f := fun _ => some true) (fun q => ?_) (Ev.now true)
    show liverylaw06_LexWhite.l1 (q + 1) _ _ _ _ _ = _
    simp only [liverylaw06_LexWhite.l1]
    rw [if_neg (by rw [List.length_map]; omega), head_true]
    rfl
  | succ r ih =>
    intro j hj
    have h1 : j < m.length := by omega
    have h2 : j < l.length := by omega
    have hpj := hp j h1 h2
    have hbj := hb _ (List.getElem_mem h2)
    refine Ev.step (f := fun q => liverylaw06_LexWhite.l1 q (l.map LexG.tk) x10 (k : Int) (m.map LexG.tk) ((j + 1 : Nat) : Int)) (fun q => ?_) (ih (j + 1) (by omega))
    have E3 : Aside0 (wrap64 ((j : Int) + 1) = ((j + 1 : Nat) : Int)) := ⟨by unfold wrap64; omega⟩
    show liverylaw06_LexWhite.l1 (q + 1) _ _ _ _ _ = _
    simp only [liverylaw06_LexWhite.l1]
    rw [if_pos (by rw [List.length_map]; omega), if_pos (by omega), if_pos (by rw [List.length_map]; omega), rd_tok m j h1, rd_tok l j h2, E3.out]
    by_cases hkj : k ≤ j
    · rw [if_pos hkj] at hpj
      rw [if_pos (by omega), if_pos]
      unfold LexG.tk
      simp only
      rw [hpj, hx]
      unfold wrap64
      omega
    · rw [if_neg hkj] at hpj
      rw [if_neg (by omega), if_pos]
      unfold LexG.tk
      simp only
      rw [hpj]
set_option maxHeartbeats 4000000 in
theorem loop0 (s : ByteArray) (a1 : Int) (l2 : List Int) (l : List Tk) (hl : toks (pcs 0 s.data.toList) = (l, none)) (hne : l ≠ []) (hs : s.size ≤ 4000) (h90 : l2.length ≤ 90) (h0 : ∀ x ∈ l2, 0 ≤ x) (ha : 0 ≤ a1 ∧ a1 ≤ 255) : ∀ (r j : Nat), j + r = l2.length →
    Ev (fun q => liverylaw06_LexWhite.l0 q s a1 l2 (l.map LexG.tk) ⟨(whites (l2.take j)).toArray⟩ (j : Int)) true := by
  intro r
  induction r with
  | zero =>
    intro j hj
    have ht : l2.take j = l2 := List.take_of_length_le (by omega)
    rw [ht]
    have hlp := List.length_pos_iff.2 hne
    have hcnt := tok_count hl
    obtain ⟨k, hk⟩ : ∃ k : Nat, k = a1.toNat % l.length := ⟨_, rfl⟩
    have hkl : k < l.length := by rw [hk]; exact Nat.mod_lt _ hlp
    have e1 : Int.tmod (wrap64 a1) ((l.map LexG.tk).length : Int) = (k : Int) := by
      have : wrap64 a1 = a1 := by unfold wrap64; omega
      rw [this, List.length_map, Int.tmod_eq_emod_of_nonneg ha.1, hk, Int.natCast_emod, Int.toNat_of_nonneg ha.1]
    have E1 := Aside0.mk e1
    clear e1
    have hpk := tok_bound hl _ (List.getElem_mem hkl)
    obtain ⟨m, m1, m2, m3⟩ := white hl k hkl (whites l2) (whites_white l2)
    obtain ⟨g1, g2⟩ := places m3 hkl
    have hwl : (whites l2).length = l2.length := by unfold whites; rw [List.length_map]
    have hcat : ((s.extract 0 (l[k].place)) ++ (⟨(whites l2).toArray⟩ : ByteArray)) ++ (s.extract l[k].place s.size) = ⟨(s.data.toList.take l[k].place ++ (whites l2 ++ s.data.toList.drop l[k].place)).toArray⟩ := by
      apply ByteArray.ext
      apply Array.toList_inj.1
      have e1 : (s.extract 0 l[k].place).data.toList = s.data.toList.take l[k].place := by rw [Lib.extract_data]; simp
      have e2 : (s.extract l[k].place s.size).data.toList = s.data.toList.drop l[k].place := by rw [Lib.extract_data, List.take_of_length_le]; rw [List.length_drop, data_length]; omega
      simp only [ByteArray.data_append, Array.toList_append, e1, e2, List.append_assoc]
    have hsz1 : (s.extract 0 l[k].place).size = l[k].place := by rw [ByteArray.size_extract]; omega
    have hsz2 : (s.extract l[k].place s.size).size = s.size - l[k].place := by rw [ByteArray.size_extract]; omega
    have hsw : (⟨(whites l2).toArray⟩ : ByteArray).size = l2.length := by rw [← hwl]; simp [ByteArray.size]
    have hd : (⟨(s.data.toList.take l[k].place ++ (whites l2 ++ s.data.toList.drop l[k].place)).toArray⟩ : ByteArray).data.toList = s.data.toList.take l[k].place ++ (whites l2 ++ s.data.toList.drop l[k].place) := rfl
    have hsz3 : (⟨(s.data.toList.take l[k].place ++ (whites l2 ++ s.data.toList.drop l[k].place)).toArray⟩ : ByteArray).size ≤ 4096 := by
      rw [← hcat, ByteArray.size_append, ByteArray.size_append, hsz1, hsz2, hsw]
      omega
    have hlex := lex_ok hsz3 (l := m) (by rw [hd]; exact m1)
    have hf3 : (rd_T30 (l.map LexG.tk) (k : Int)).f3 = (l[k].place : Int) := by rw [rd_tok l k hkl]; rfl
    have ev1 := loop1 l m k (whites l2).length ⟨(whites l2).toArray⟩ (by rw [hsw, hwl]) (by omega) (fun x hx => by have := tok_bound hl x hx; omega) (by omega) g1 g2 m.length 0 (by omega)
    refine Ev.step (f := fun q => liverylaw06_LexWhite.j2 q (l.map LexG.tk) ⟨(whites l2).toArray⟩ (k : Int) (m.map LexG.tk) false) (fun q => ?_) ?_
    · show liverylaw06_LexWhite.l0 (q + 1) _ _ _ _ _ _ = _
      simp only [liverylaw06_LexWhite.l0]
      rw [if_neg (by omega), E1.out, hf3]
      have h1 : ¬ ((l.map LexG.tk).length : Int) = 0 := by rw [List.length_map]; omega
      have h2 : (k : Int) < ((l.map LexG.tk).length : Int) := by rw [List.length_map]; omega
      rw [if_neg h1, if_pos (by omega), if_pos h2, if_pos (by omega), if_pos (by omega), Int.toNat_natCast]
      rw [if_pos (by rw [hsz1, hsw]; omega), if_pos (by rw [ByteArray.size_append, hsz1, hsz2, hsw]; omega), hcat, hlex]
      simp only [Option.bind_some, if_true]
      rw [same_bare l m m2 (by omega)]
      rfl
    · refine Ev.step (f := fun q => liverylaw06_LexWhite.l1 q (l.map LexG.tk) ⟨(whites l2).toArray⟩ (k : Int) (m.map LexG.tk) ((0 : Nat) : Int)) (fun q => ?_) ev1
      show liverylaw06_LexWhite.j2 (q + 1) _ _ _ _ _ = _
      simp only [liverylaw06_LexWhite.j2]
      rfl
  | succ r ih =>
    intro j hj
    have hja : j < l2.length := by omega
    obtain ⟨w1, w2, w3⟩ := white_one l2[j] (h0 _ (List.getElem_mem hja))
    have ih2 := ih (j + 1) (by omega)
    have hrd : rd l2 (j : Int) = l2[j] := by
      unfold rd
      rw [Int.toNat_natCast, List.getD_eq_getElem?_getD, List.getElem?_eq_getElem hja]
      rfl
    have hcat : (⟨(whites (l2.take j)).toArray⟩ : ByteArray) ++ ⟨[if l2[j] % 4 = 0 then 32 else if l2[j] % 4 = 1 then 9 else if l2[j] % 4 = 2 then 10 else (13 : UInt8)].toArray⟩ = ⟨(whites (l2.take (j + 1))).toArray⟩ := by
      rw [List.take_succ_eq_append_getElem hja]
      have e : whites (l2.take j ++ [l2[j]]) = whites (l2.take j) ++ [if l2[j] % 4 = 0 then 32 else if l2[j] % 4 = 1 then 9 else if l2[j] % 4 = 2 then 10 else (13 : UInt8)] := by unfold whites; rw [List.map_append]; rfl
      rw [e]
      generalize whites (l2.take j) = A
      generalize [if l2[j] % 4 = 0 then 32 else if l2[j] % 4 = 1 then 9 else if l2[j] % 4 = 2 then 10 else (13 : UInt8)] = B
      apply ByteArray.ext
      simp
    have hsz : (⟨(whites (l2.take j)).toArray⟩ : ByteArray).size = j := by
      have : (whites (l2.take j)).length = j := by unfold whites; rw [List.length_map, List.length_take]; omega
      have h2 : (⟨(whites (l2.take j)).toArray⟩ : ByteArray).size = (whites (l2.take j)).length := by simp [ByteArray.size]
      rw [h2, this]
    have hone : ∀ c : UInt8, (⟨[c].toArray⟩ : ByteArray).size = 1 := fun c => rfl
    have E3 : Aside0 (wrap64 ((j : Int) + 1) = ((j + 1 : Nat) : Int)) := ⟨by unfold wrap64; omega⟩
    refine Ev.step (f := fun q => liverylaw06_LexWhite.l0 q s a1 l2 (l.map LexG.tk) ⟨(whites (l2.take (j + 1))).toArray⟩ ((j + 1 : Nat) : Int)) (fun q => ?_) ih2
    show liverylaw06_LexWhite.l0 (q + 1) _ _ _ _ _ _ = _
    simp only [liverylaw06_LexWhite.l0]
    rw [if_pos (by omega)]
    simp only [Option.bind_some]
    rw [hrd, if_pos (by omega), if_pos w1, if_pos (by exact w2), w3, E3.out, if_pos (by rw [hsz, hone]; omega), hcat]
theorem LexWhite (a0 : ByteArray) (a1 : Int) (a2 : List Int) (w0 : a0.size ≤ maxLen) (w1 : (Lit.int .u8 a1).wf = true) (w2 : (a2.length ≤ maxLen ∧ ∀ x ∈ a2, (Lit.int .u8 x).wf = true)) : ∃ k, liverylaw06_LexWhite.f k a0 a1 a2 = some true := by
  have hj0 : ∀ q s x x2 x7, liverylaw06_LexWhite.j0 (q + 1) s x x2 x7 true = some true := by
    intro q s x x2 x7
    simp only [liverylaw06_LexWhite.j0, if_true, head_true]
    rfl
  rcases lex_cases a0 w0 with ⟨p, e, h1, h2⟩ | ⟨hs, l, h1, h2⟩
  · refine ⟨1, ?_⟩
    unfold liverylaw06_LexWhite.f
    rw [h1]
    simp only [Option.bind_some]
    rw [if_neg h2]
    exact hj0 0 _ _ _ _
  · by_cases hne : l = []
    · subst hne
      refine ⟨1, ?_⟩
      unfold liverylaw06_LexWhite.f
      rw [h2]
      exact hj0 0 a0 a1 a2 []
    · have hlp := List.length_pos_iff.2 hne
      by_cases h4 : 4000 < a0.size
      · refine ⟨1, ?_⟩
        unfold liverylaw06_LexWhite.f
        rw [h2]
        simp only [Option.bind_some, if_true]
        rw [if_neg (by rw [List.length_map]; omega), if_pos (by omega)]
        exact hj0 0 _ _ _ _
      · by_cases h9 : 90 < a2.length
        · refine ⟨1, ?_⟩
          unfold liverylaw06_LexWhite.f
          rw [h2]
          simp only [Option.bind_some, if_true]
          have : decide ((a2.length : Int) > 90) = true := by simp; omega
          rw [if_neg (by rw [List.length_map]; omega), if_neg (by omega), this]
          exact hj0 0 _ _ _ _
        · have ev := loop0 a0 a1 a2 l h1 hne (by omega) (by omega) (fun x hx => (XOpen.u8_of (w2.2 x hx)).1) (XOpen.u8_of w1) a2.length 0 (by omega)
          have ev2 : Ev (fun k => liverylaw06_LexWhite.f k a0 a1 a2) true := by
            refine Ev.congr (f := fun k => liverylaw06_LexWhite.j0 k a0 a1 a2 (l.map LexG.tk) false) (fun k => ?_) ?_
            · unfold liverylaw06_LexWhite.f
              rw [h2]
              simp only [Option.bind_some, if_true]
              have : decide ((a2.length : Int) > 90) = false := by simp; omega
              rw [if_neg (by rw [List.length_map]; omega), if_neg (by omega), this]
            · refine Ev.step (f := fun q => liverylaw06_LexWhite.l0 q a0 a1 a2 (l.map LexG.tk) ⟨(whites (a2.take 0)).toArray⟩ ((0 : Nat) : Int)) (fun q => ?_) ev
              show liverylaw06_LexWhite.j0 (q + 1) _ _ _ _ _ = _
              simp only [liverylaw06_LexWhite.j0]
              rfl
          exact ev2.rounds
end Go.Proofs.YtfpbapffdnochaaDoor.PLexWhite
