/- The statement LexNumbers over numbers and lists alone: of every input. No condition but that numbers are of their kind. -/
import Derived.Test.YtfpbapffdnochaaDoorCLexNumbers0
import Derived.Test.YtfpbapffdnochaaDoorCLexNumbers1
import Derived.Test.YtfpbapffdnochaaDoorCLexNumbers2
import Derived.Test.YtfpbapffdnochaaDoorCLexNumbers3
import Derived.Test.YtfpbapffdnochaaDoorCLexNumbers4
import Derived.Test.YtfpbapffdnochaaDoorCLexNumbers5
import Derived.Test.YtfpbapffdnochaaDoorCLexNumbers6
import Derived.Test.YtfpbapffdnochaaDoorCLexNumbers7
import Derived.Test.YtfpbapffdnochaaDoorCLexNumbersW
set_option linter.unusedVariables false
namespace Go.Proofs.YtfpbapffdnochaaDoor.PLexNumbers
open Go.RowKit Go.Proofs.YtfpbapffdnochaaDoorW.PrintWords Go.Proofs.YtfpbapffdnochaaDoorW.PrintLast Go.Proofs.YtfpbapffdnochaaDoorW.PrintMore
/-! Lexing, of lists. -/
theorem tl (l : List UInt8) : (⟨l.toArray⟩ : ByteArray).toList = l := by rw [Lib.toList_data]
theorem lex_ok {s : ByteArray} {l : List LexM.Tk} (hs : s.size ≤ 4096) (h : LexM.toks (LexM.pcs 0 s.data.toList) = (l, none)) : lex_Lex.f s = some (l.map LexG.tk, 0, 0) := by
  unfold lex_Lex.f
  rw [if_neg (by omega), if_neg (by omega), h]
set_option maxRecDepth 100000 in
theorem lex1 : lex_Lex.f (⟨#[40, 97, 116, 111, 109, 32, 50, 32, 49, 32, 49, 48, 41]⟩ : ByteArray) = some ([⟨2, ⟨#[40]⟩, 0, 0⟩, ⟨0, ⟨#[97, 116, 111, 109]⟩, 0, 1⟩, ⟨1, ⟨#[50]⟩, 2, 6⟩, ⟨1, ⟨#[49]⟩, 1, 8⟩, ⟨1, ⟨#[49, 48]⟩, 10, 10⟩, ⟨3, ⟨#[41]⟩, 0, 12⟩], 0, 0) := by kernel_rfl
set_option maxRecDepth 100000 in
theorem lex2 : lex_Lex.f (⟨#[102, 114, 111, 109, 32, 48, 32, 116, 111, 32, 57, 58, 32, 120]⟩ : ByteArray) = some ([⟨0, ⟨#[102, 114, 111, 109]⟩, 0, 0⟩, ⟨1, ⟨#[48]⟩, 0, 5⟩, ⟨0, ⟨#[116, 111]⟩, 0, 7⟩, ⟨1, ⟨#[57]⟩, 9, 10⟩, ⟨4, ⟨#[58]⟩, 0, 11⟩, ⟨0, ⟨#[120]⟩, 0, 13⟩], 0, 0) := by kernel_rfl
theorem lex3 : lex_Lex.f (⟨#[]⟩ : ByteArray) = some ([], 0, 0) := by kernel_rfl
theorem text1 : lex_Text.f [⟨2, ⟨#[40]⟩, 0, 0⟩, ⟨0, ⟨#[97, 116, 111, 109]⟩, 0, 1⟩, ⟨1, ⟨#[50]⟩, 2, 6⟩, ⟨1, ⟨#[49]⟩, 1, 8⟩, ⟨1, ⟨#[49, 48]⟩, 10, 10⟩, ⟨3, ⟨#[41]⟩, 0, 12⟩] = some (⟨#[40, 97, 116, 111, 109, 32, 50, 32, 49, 32, 49, 48, 41]⟩ : ByteArray) := by kernel_rfl
theorem text2 : lex_Text.f [⟨0, ⟨#[102, 114, 111, 109]⟩, 0, 0⟩, ⟨1, ⟨#[48]⟩, 0, 5⟩, ⟨0, ⟨#[116, 111]⟩, 0, 7⟩, ⟨1, ⟨#[57]⟩, 9, 10⟩, ⟨4, ⟨#[58]⟩, 0, 11⟩, ⟨0, ⟨#[120]⟩, 0, 13⟩] = some (⟨#[102, 114, 111, 109, 32, 48, 32, 116, 111, 32, 57, 58, 32, 120]⟩ : ByteArray) := by kernel_rfl
theorem bad1 : liverylaw06_bad.f (⟨#[97, 49]⟩ : ByteArray) 0 = some true := by kernel_rfl
theorem bad2 : liverylaw06_bad.f (⟨#[48, 55]⟩ : ByteArray) 0 = some true := by kernel_rfl
set_option maxRecDepth 100000 in
theorem bad3 : liverylaw06_bad.f (⟨#[49, 48, 57, 57, 53, 49, 49, 54, 50, 55, 55, 55, 55]⟩ : ByteArray) 0 = some true := by kernel_rfl
theorem bad4 : liverylaw06_bad.f (⟨#[97, 32, 45, 32, 98]⟩ : ByteArray) 2 = some true := by kernel_rfl
theorem sameAll_refl (p : Bool) : ∀ l : List LexH.T4, LexH.sameAll p l l = true := by
  intro l
  induction l with
  | nil => rfl
  | cons x l ih => unfold LexH.sameAll LexH.same1; rw [ih]; simp
theorem same_refl (l : List S30) (p : Bool) (h : l.length ≤ 9223372036854775807) : liveryref06_Same.f l l p = some true := by
  unfold liveryref06_Same.f
  rw [if_neg (by omega), sameAll_refl]
theorem head_true : liverylaw06_head.f = some true := by
  unfold liverylaw06_head.f
  rw [lex1, lex2, lex3]
  simp only [Option.bind_some]
  rw [same_refl _ _ (by decide)]
  simp only [Option.bind_some, if_true]
  rw [text1, text2]
  simp only [Option.bind_some]
  rw [if_pos (tl _), if_pos (by decide), if_pos (tl _), if_pos (by decide), bad1]
  simp only [Option.bind_some, if_true]
  rw [bad2]
  simp only [Option.bind_some, if_true]
  rw [bad3]
  simp only [Option.bind_some, if_true]
  rw [bad4]
  rfl
open LexM in
theorem digits_ev : ∀ (f n : Nat), n < 10 ^ f → 0 < f → n ≤ 10000000000000 → ∀ k, f ≤ k → liverylaw06_digits.f k (n : Int) = some ⟨(digs f n).toArray⟩ := by
  intro f
  induction f with
  | zero => intro n h h0; omega
  | succ f ih =>
    intro n h _ hn k hk
    obtain ⟨k, rfl⟩ : ∃ m, k = m + 1 := ⟨k - 1, by omega⟩
    have hb : n % 10 < 10 := Nat.mod_lt _ (by omega)
    have e1 : (wrap64 (48 + (Int.tmod (n : Int) 10))) % 256 = ((48 + n % 10 : Nat) : Int) := by
      rw [Int.tmod_eq_emod_of_nonneg (by omega)]
      have : wrap64 (48 + (n : Int) % 10) = 48 + (n : Int) % 10 := by unfold wrap64; omega
      rw [this]
      omega
    have e2 : strOfNums [((48 + n % 10 : Nat) : Int)] = ⟨[UInt8.ofNat (48 + n % 10)].toArray⟩ := by
      unfold strOfNums
      simp [UInt8.ofNat]
      congr 1
    unfold liverylaw06_digits.f
    rw [e1]
    simp only [Option.bind_some]
    rw [e2]
    unfold digs
    by_cases h10 : n < 10
    · rw [if_pos (by omega), if_pos h10]
      have : n % 10 = n := Nat.mod_eq_of_lt h10
      rw [this]
    · rw [if_neg (by omega), if_neg h10]
      have hf : 0 < f := by
        cases f with
        | zero => simp at h; omega
        | succ f => omega
      have hp : n / 10 < 10 ^ f := by
        rw [Nat.pow_succ] at h
        exact Nat.div_lt_of_lt_mul (by omega)
      have e3 : wrap64 (Int.tdiv (n : Int) 10) = ((n / 10 : Nat) : Int) := by
        rw [Int.tdiv_eq_ediv_of_nonneg (by omega)]
        unfold wrap64
        omega
      have hl := (digs_spec f (n / 10) hp hf).2.2.2.1
      rw [e3, ih (n / 10) hp hf (by omega) k (by omega)]
      simp only [Option.bind_some]
      rw [if_pos]
      · congr 1
      · have hk2 : f ≤ 100 ∨ 100 < f := by omega
        have hs : (⟨(digs f (n / 10)).toArray⟩ : ByteArray).size = (digs f (n / 10)).length := by simp [ByteArray.size]
        have hs2 : (⟨[UInt8.ofNat (48 + n % 10)].toArray⟩ : ByteArray).size = 1 := rfl
        rw [hs, hs2]
        have e13 : digs f (n / 10) = digs 14 (n / 10) := digs_fuel f 14 (n / 10) hp (by omega) hf (by omega)
        have := (digs_spec 14 (n / 10) (by omega) (by omega)).2.2.2.1
        rw [e13]
        omega
open LexM
/-- The numbers that the law makes of its input. -/
def nums (a0 : List Int) : List Nat := a0.map fun x => (x.toNat % 1099511627777)
theorem nums_le (a0 : List Int) : ∀ n ∈ nums a0, n ≤ 1099511627776 := by
  intro n hn
  obtain ⟨x, _, rfl⟩ := List.mem_map.1 hn
  have : x.toNat % 1099511627777 < 1099511627777 := Nat.mod_lt _ (by omega)
  omega
theorem row_len : ∀ (l : List Nat), (∀ n ∈ l, n ≤ 1099511627776) → (row l).length ≤ 14 * l.length := by
  intro l
  induction l with
  | nil => intro _; simp [row]
  | cons n l ih =>
    intro h
    have h1 := ih fun x hx => h x (by simp [hx])
    have hn := h n (by simp)
    have h2 := (digs_spec 13 n (by omega) (by omega)).2.2.2.1
    have e : row (n :: l) = digs 13 n ++ [32] ++ row l := by unfold row; simp
    rw [e]
    simp only [List.length_append, List.length_cons, List.length_nil]
    omega
theorem row_snoc (l : List Nat) (n : Nat) : row (l ++ [n]) = row l ++ (digs 13 n ++ [32]) := by unfold row; simp
theorem rd_at (a0 : List Int) (j : Nat) (h : j < a0.length) : rd a0 (j : Int) = a0[j] := by
  unfold rd
  rw [Int.toNat_natCast, List.getD_eq_getElem?_getD, List.getElem?_eq_getElem h]
  rfl
theorem number_of (n : Nat) (h : n ≤ 1099511627776) : Ev (fun k => lex_Number.f k ⟨(digs 13 n).toArray⟩) ((n : Int), true) := by
  refine Ev.of (lex_Number.mono _) (k := 16) ?_
  rw [LexG.number]
  unfold LexG.numI
  rw [show (⟨(digs 13 n).toArray⟩ : ByteArray).data.toList = digs 13 n from rfl, num_digs h]
theorem number_zero (n : Nat) (h : n ≤ 1099511627776) : Ev (fun k => lex_Number.f k ((⟨#[48]⟩ : ByteArray) ++ ⟨(digs 13 n).toArray⟩)) (0, false) := by
  refine Ev.of (lex_Number.mono _) (k := 16) ?_
  rw [LexG.number]
  unfold LexG.numI
  have e : ((⟨#[48]⟩ : ByteArray) ++ ⟨(digs 13 n).toArray⟩).data.toList = 48 :: digs 13 n := by simp
  rw [e, num_zero h]
theorem tok_list {m : List Tk} {l : List Nat} (h : m.map (fun x => (x.kind, x.n)) = l.map fun n => (1, n)) : ∀ j, (hj : j < m.length) → ∃ h2 : j < l.length, m[j].kind = 1 ∧ m[j].n = l[j] := by
  intro j hj
  have hl : m.length = l.length := by have := congrArg List.length h; simpa using this
  refine ⟨by omega, ?_⟩
  have h3 := congrArg (fun z => z[j]?) h
  simp only [List.getElem?_map, List.getElem?_eq_getElem hj, List.getElem?_eq_getElem (show j < l.length by omega), Option.map_some, Option.some.injEq, Prod.mk.injEq] at h3
  exact h3
/-- The last loop: each token is the number. -/
theorem loop1 (l : List Nat) (m : List Tk) (h : m.map (fun x => (x.kind, x.n)) = l.map fun n => (1, n)) (hl : l.length ≤ 40) : ∀ (d j : Nat), j + d = m.length →
    Ev (fun k => liverylaw06_LexNumbers.l1 k (l.map fun n : Nat => (n : Int)) (m.map LexG.tk) (j : Int)) true := by
  have hlm : m.length = l.length := by have := congrArg List.length h; simpa using this
  intro d
  induction d with
  | zero =>
    intro j hj
    refine Ev.step (f := fun k => (liverylaw06_digits.f k 1099511627777).bind fun t154 => ((lex_Number.f k t154).bind fun bt155 => (if bt155.2 = true then (none) else ((liverylaw06_head.f).bind fun t157 => (some t157))))) (fun k => ?_) ?_
    · show liverylaw06_LexNumbers.l1 (k + 1) _ _ _ = _
      simp only [liverylaw06_LexNumbers.l1]
      rw [if_neg (by rw [List.length_map]; omega)]
    · have hd : Ev (fun k => liverylaw06_digits.f k 1099511627777) ⟨(digs 13 1099511627777).toArray⟩ := Ev.of (liverylaw06_digits.mono _) (k := 13) (digits_ev 13 1099511627777 (by omega) (by omega) (by omega) 13 (by omega))
      refine Ev.bind hd ?_
      have hn : Ev (fun k => lex_Number.f k ⟨(digs 13 1099511627777).toArray⟩) (0, false) := by
        refine Ev.of (lex_Number.mono _) (k := 16) ?_
        rw [LexG.number]
        kernel_rfl
      refine Ev.bind hn ?_
      refine ⟨0, fun k _ => ?_⟩
      simp only [Bool.false_eq_true, if_false, head_true, Option.bind_some]
  | succ d ih =>
    intro j hj
    have hjm : j < m.length := by omega
    obtain ⟨hjl, h1, h2⟩ := tok_list h j hjm
    refine Ev.step (f := fun k => liverylaw06_LexNumbers.l1 k (l.map fun n : Nat => (n : Int)) (m.map LexG.tk) ((j + 1 : Nat) : Int)) (fun k => ?_) (ih (j + 1) (by omega))
    show liverylaw06_LexNumbers.l1 (k + 1) _ _ _ = _
    simp only [liverylaw06_LexNumbers.l1]
    have e1 : rd_T30 (m.map LexG.tk) (j : Int) = LexG.tk m[j] := by
      unfold rd_T30
      rw [Int.toNat_natCast, List.getD_eq_getElem?_getD, List.getElem?_eq_getElem (by rw [List.length_map]; exact hjm), List.getElem_map]
      rfl
    have e2 : rd (l.map fun n : Nat => (n : Int)) (j : Int) = (l[j] : Int) := by rw [rd_at _ j (by rw [List.length_map]; exact hjl), List.getElem_map]
    have e3 : wrap64 ((j : Int) + 1) = ((j + 1 : Nat) : Int) := by unfold wrap64; omega
    rw [if_pos (by rw [List.length_map]; omega), if_pos (by omega), e1, e2, e3]
    have e4 : (LexG.tk m[j]).f0 = 1 := by unfold LexG.tk; rw [h1]; rfl
    have e5 : (LexG.tk m[j]).f2 = (l[j] : Int) := by unfold LexG.tk; rw [h2]
    rw [if_pos e4, if_pos (by rw [List.length_map]; omega), if_pos e5]
set_option maxHeartbeats 4000000 in
theorem loop0 (a0 : List Int) (hl : a0.length ≤ 40) (h0 : ∀ x ∈ a0, 0 ≤ x) : ∀ (d j : Nat), j + d = a0.length →
    Ev (fun k => liverylaw06_LexNumbers.l0 k a0 ⟨(row ((nums a0).take j)).toArray⟩ (((nums a0).take j).map fun n : Nat => (n : Int)) (j : Int)) true := by
  have hnl : (nums a0).length = a0.length := by unfold nums; rw [List.length_map]
  intro d
  induction d with
  | zero =>
    intro j hj
    have ht : (nums a0).take j = nums a0 := List.take_of_length_le (by omega)
    rw [ht]
    obtain ⟨m, g1, g2⟩ := row_toks (nums a0) 0 (nums_le a0)
    have hlen := row_len (nums a0) (nums_le a0)
    have hsz : (⟨(row (nums a0)).toArray⟩ : ByteArray).size = (row (nums a0)).length := by simp [ByteArray.size]
    have hlex := lex_ok (s := ⟨(row (nums a0)).toArray⟩) (l := m) (by rw [hsz]; omega) g1
    have hml : m.length = (nums a0).length := by have := congrArg List.length g2; simpa using this
    refine Ev.step (f := fun k => liverylaw06_LexNumbers.j1 k ((nums a0).map fun n : Nat => (n : Int)) (m.map LexG.tk) false) (fun k => ?_) ?_
    · show liverylaw06_LexNumbers.l0 (k + 1) _ _ _ _ = _
      simp only [liverylaw06_LexNumbers.l0]
      rw [if_neg (by omega), hlex]
      simp only [Option.bind_some, if_true]
      have : (((m.map LexG.tk).length : Int) != (((nums a0).map fun n : Nat => (n : Int)).length : Int)) = false := by simp [hml]
      rw [this]
    · refine Ev.step (f := fun k => liverylaw06_LexNumbers.l1 k ((nums a0).map fun n : Nat => (n : Int)) (m.map LexG.tk) ((0 : Nat) : Int)) (fun k => ?_) (loop1 (nums a0) m g2 (by omega) m.length 0 (by omega))
      show liverylaw06_LexNumbers.j1 (k + 1) _ _ _ = _
      simp only [liverylaw06_LexNumbers.j1]
      rfl
  | succ d ih =>
    intro j hj
    have hja : j < a0.length := by omega
    have hjn : j < (nums a0).length := by omega
    have hx := h0 a0[j] (List.getElem_mem hja)
    have hnj : (nums a0)[j] = a0[j].toNat % 1099511627777 := by simp [nums]
    have hle := nums_le a0 _ (List.getElem_mem hjn)
    have e0 : wrap64 (Int.tmod (rd a0 (j : Int)) 1099511627777) = ((nums a0)[j] : Int) := by
      rw [rd_at a0 j hja, Int.tmod_eq_emod_of_nonneg hx, hnj]
      unfold wrap64
      omega
    have E0 := Aside0.mk e0
    clear e0
    have htk : (nums a0).take (j + 1) = (nums a0).take j ++ [(nums a0)[j]] := List.take_succ_eq_append_getElem hjn
    have ih2 := ih (j + 1) (by omega)
    rw [htk, row_snoc, List.map_append] at ih2
    have hrl := row_len ((nums a0).take j) (fun n hn => nums_le a0 n (List.mem_of_mem_take hn))
    have htl : ((nums a0).take j).length = j := by rw [List.length_take]; omega
    have hdl := (digs_spec 13 (nums a0)[j] (by omega) (by omega)).2.2.2.1
    generalize (nums a0)[j] = n at *
    generalize (nums a0).take j = T at *
    have hd : Ev (fun k => liverylaw06_digits.f k (n : Int)) ⟨(digs 13 n).toArray⟩ := Ev.of (liverylaw06_digits.mono _) (k := 13) (digits_ev 13 n (by omega) (by omega) (by omega) 13 (by omega))
    have s1 : (⟨(digs 13 n).toArray⟩ : ByteArray).size = (digs 13 n).length := by simp [ByteArray.size]
    have s2 : (⟨(row T).toArray⟩ : ByteArray).size = (row T).length := by simp [ByteArray.size]
    have hword : lex_Word.f ⟨(digs 13 n).toArray⟩ = some false := by
      unfold lex_Word.f
      rw [if_neg (by omega), tl]
      unfold LexH.wordF
      rw [digs_low hle, Bool.and_false]
    have hcat : ((⟨(row T).toArray⟩ : ByteArray) ++ ⟨(digs 13 n).toArray⟩) ++ (⟨#[32]⟩ : ByteArray) = ⟨(row T ++ (digs 13 n ++ [32])).toArray⟩ := by
      apply ByteArray.ext
      simp
    have E3 : Aside0 (wrap64 ((j : Int) + 1) = ((j + 1 : Nat) : Int)) := ⟨by unfold wrap64; omega⟩
    have hzs : ((⟨(row T).toArray⟩ : ByteArray) ++ ⟨(digs 13 n).toArray⟩).size = (row T).length + (digs 13 n).length := by rw [ByteArray.size_append, s1, s2]
    refine Ev.step (f := fun k => (liverylaw06_digits.f k (n : Int)).bind fun t140 => ((lex_Number.f k t140).bind fun bt141 => (if 1 + t140.size ≤ 9223372036854775807 then ((lex_Number.f k ((⟨#[48]⟩ : ByteArray) ++ t140)).bind fun bt143 => (if bt141.2 = true then (if bt141.1 = (n : Int) then (if bt143.2 = true then (none) else ((lex_Word.f t140).bind fun t145 => (if t145 = true then (none) else (if (⟨(row T).toArray⟩ : ByteArray).size + t140.size ≤ 9223372036854775807 then (if ((⟨(row T).toArray⟩ : ByteArray) ++ t140).size + 1 ≤ 9223372036854775807 then (liverylaw06_LexNumbers.l0 k a0 (((⟨(row T).toArray⟩ : ByteArray) ++ t140) ++ (⟨#[32]⟩ : ByteArray)) ((T.map fun n : Nat => (n : Int)) ++ [(n : Int)]) ((j + 1 : Nat) : Int)) else (none)) else (none))))) else (none)) else (none))) else (none)))) (fun k => ?_) ?_
    · show liverylaw06_LexNumbers.l0 (k + 1) _ _ _ _ = _
      simp only [liverylaw06_LexNumbers.l0]
      rw [if_pos (by omega), if_pos (by omega), if_pos (by rw [List.length_map]; omega), E0.out, E3.out]
    · refine Ev.bind hd ?_
      refine Ev.bind (number_of n hle) ?_
      have h1 : 1 + (⟨(digs 13 n).toArray⟩ : ByteArray).size ≤ 9223372036854775807 := by rw [s1]; omega
      simp only [if_pos h1]
      refine Ev.bind (number_zero n hle) ?_
      simp only [if_true, Bool.false_eq_true, if_false, hword, Option.bind_some]
      have h2 : (⟨(row T).toArray⟩ : ByteArray).size + (⟨(digs 13 n).toArray⟩ : ByteArray).size ≤ 9223372036854775807 := by rw [s1, s2]; omega
      have h3 : ((⟨(row T).toArray⟩ : ByteArray) ++ ⟨(digs 13 n).toArray⟩).size + 1 ≤ 9223372036854775807 := by rw [hzs]; omega
      simp only [if_pos h2, if_pos h3, hcat]
      exact ih2
theorem LexNumbers (a0 : List Int) (w0 : (a0.length ≤ maxLen ∧ ∀ x ∈ a0, (Lit.int .u64 x).wf = true)) : ∃ k, liverylaw06_LexNumbers.f k a0 = some true := by
  by_cases h40 : a0.length ≤ 40
  · have := loop0 a0 h40 (fun x hx => (XOpen.u64_of (w0.2 x hx)).1) a0.length 0 (by omega)
    obtain ⟨k, hk⟩ := this.rounds
    refine ⟨k, ?_⟩
    unfold liverylaw06_LexNumbers.f
    rw [if_neg (by omega)]
    exact hk
  · refine ⟨0, ?_⟩
    unfold liverylaw06_LexNumbers.f
    rw [if_pos (by omega), head_true]
    rfl
end Go.Proofs.YtfpbapffdnochaaDoor.PLexNumbers
