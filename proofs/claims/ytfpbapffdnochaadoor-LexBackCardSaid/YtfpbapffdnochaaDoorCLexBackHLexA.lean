/- lex: what a byte is; the closures that ask for a text; whether a run is a word. -/
import Derived.Test.YtfpbapffdnochaaDoorCLexBackXBut
import Derived.Test.YtfpbapffdnochaaDoorCLexBackXLex
import Derived.Test.YtfpbapffdnochaaDoorCLexBackXShelf
import Derived.IntWalk
set_option linter.unusedVariables false
set_option linter.unusedSimpArgs false
namespace Go.Proofs.YtfpbapffdnochaaDoor.LexH
open Go.RowKit Go.Proofs.YtfpbapffdnochaaDoor.XBut Go.Proofs.YtfpbapffdnochaaDoorW.PrintWords Go.Proofs.YtfpbapffdnochaaDoorW.PrintLast Go.Proofs.YtfpbapffdnochaaDoor.LexM
def sortF (c : UInt8) : Int := if isRun c then 1 else if isWhite c then 2 else if c = 40 ∨ c = 41 ∨ c = 58 then 3 else 0
theorem ib_pos : ∀ (l : List UInt8) (c : UInt8), 0 ≤ Lib.indexByte l c ↔ c ∈ l := by
  intro l
  induction l with
  | nil => intro c; unfold Lib.indexByte; simp
  | cons b l ih =>
    intro c
    unfold Lib.indexByte
    by_cases h : b = c
    · subst h; simp
    · rw [if_neg (by simpa using h)]
      have hn : ∀ l, -1 ≤ Lib.indexByte l c := by
        intro l
        induction l with
        | nil => unfold Lib.indexByte; omega
        | cons x l ih2 =>
          unfold Lib.indexByte
          split
          · omega
          · split
            · omega
            · omega
      have h2 := hn l
      have h3 := ih c
      have hne : ¬ c = b := fun e => h e.symm
      split
      · rename_i h4
        have : Lib.indexByte l c = -1 := by simpa using h4
        simp only [List.mem_cons, hne, false_or, ← h3]
        omega
      · rename_i h4
        have : Lib.indexByte l c ≠ -1 := by simpa using h4
        simp only [List.mem_cons, hne, false_or, ← h3]
        omega
theorem run_iff (c : UInt8) : isRun c = true ↔ (97 ≤ c.toNat ∧ c.toNat ≤ 122) ∨ (48 ≤ c.toNat ∧ c.toNat ≤ 57) := by
  unfold isRun isLow isDig
  simp only [Bool.or_eq_true, Bool.and_eq_true, decide_eq_true_eq, UInt8.le_iff_toNat_le]
  exact Iff.rfl
theorem white_iff (c : UInt8) : isWhite c = true ↔ c ∈ [32, 9, 10, 13] := by
  unfold isWhite
  simp [or_assoc]
theorem sort_run {c : UInt8} (h : isRun c = true) : sortF c = 1 := by unfold sortF; rw [if_pos h]
theorem sort_white {c : UInt8} (h : isWhite c = true) : sortF c = 2 := by unfold sortF; rw [if_neg (by simp [run_not_white h]), if_pos h]
set_option maxHeartbeats 4000000 in
theorem of_any (c : UInt8) (w : World) : Calls Tryd.prog 38 #[.int .u8 (c.toNat : Int)] w fun e w' => e = .returned (.int .u8 (sortF c)) ∧ w' = w := by
  have hb := c.toNat_lt
  have HI1 := Shelf.strings_IndexByte ⟨#[32, 9, 10, 13]⟩ (c.toNat : Int) w
  have HI2 := Shelf.strings_IndexByte ⟨#[40, 41, 58]⟩ (c.toNat : Int) w
  have hc : (c.toNat : Int).toNat.toUInt8 = c := by simp
  rw [hc] at HI1 HI2
  obtain ⟨i1, hi1⟩ : ∃ i, Lib.indexByte [32, 9, 10, 13] c = i := ⟨_, rfl⟩
  obtain ⟨i2, hi2⟩ : ∃ i, Lib.indexByte [40, 41, 58] c = i := ⟨_, rfl⟩
  have g1 : 0 ≤ i1 ↔ isWhite c = true := by rw [← hi1, ib_pos, white_iff]
  have g2 : 0 ≤ i2 ↔ (c = 40 ∨ c = 41 ∨ c = 58) := by rw [← hi2, ib_pos]; simp
  simp only [hi1, hi2] at HI1 HI2
  have E1 : ((97 : Int) ≤ (c.toNat : Int) ∧ (c.toNat : Int) ≤ 122) ∨ ((48 : Int) ≤ (c.toNat : Int) ∧ (c.toNat : Int) ≤ 57) → sortF c = 1 := fun h => sort_run ((run_iff c).2 (by omega))
  have E0 : ¬ (((97 : Int) ≤ (c.toNat : Int) ∧ (c.toNat : Int) ≤ 122) ∨ ((48 : Int) ≤ (c.toNat : Int) ∧ (c.toNat : Int) ≤ 57)) → sortF c = if 0 ≤ i1 then 2 else if 0 ≤ i2 then 3 else 0 := fun h => by
    have h1 : isRun c = false := by
      cases hr : isRun c with
      | false => rfl
      | true => exact absurd ((run_iff c).1 hr) (by omega)
    unfold sortF
    rw [if_neg (by simp [h1])]
    by_cases w1 : 0 ≤ i1
    · rw [if_pos (g1.1 w1), if_pos w1]
    · rw [if_neg (fun h => w1 (g1.2 h)), if_neg w1]
      by_cases w2 : 0 ≤ i2
      · rw [if_pos (g2.1 w2), if_pos w2]
      · rw [if_neg (fun h => w2 (g2.2 h)), if_neg w2]
  have G := Aside0.mk (And.intro E0 E1)
  clear g1 g2 hi1 hi2 hc E0 E1
  generalize (c.toNat : Int) = n at HI1 HI2 G ⊢
  have HH := Aside0.mk (And.intro HI1 HI2)
  clear HI1 HI2 hb
  go_enter Tryd.func38, Tryd.ntmps38
  go_wp2_with (first | (go_at_call 56; ((with_reducible refine HH.out.1.mono ?_); rintro e w' ⟨rfl, rfl⟩)) | (go_at_call 56; ((with_reducible refine HH.out.2.mono ?_); rintro e w' ⟨rfl, rfl⟩)))
  all_goals
    go_ret
    refine ⟨?_, rfl⟩
    first
      | (rw [G.out.2 (by omega)]; rfl)
      | (rw [G.out.1 (by omega), if_pos (by omega)]; rfl)
      | (rw [G.out.1 (by omega), if_neg (by omega), if_pos (by omega)]; rfl)
      | (rw [G.out.1 (by omega), if_neg (by omega), if_neg (by omega)]; rfl)
/-- A closure that asks for one text. -/
theorem just1 (s t : ByteArray) (b : Nat) (w : World) (h : w.cell? ⟨b, 0, none⟩ = some (.string t)) : Calls Tryd.prog 75 #[.string s, .pointer (some ⟨b, 0, none⟩)] w fun e w' => e = .returned (.tuple #[.int .i64 0, .bool (s.toList == t.toList)]) ∧ ∃ n, w' = w.drewN n := by
  go_enter Tryd.func75, Tryd.ntmps75
  go_wp2_with fail
  go_quiet (fail)
  go_wp2_with fail
  go_ret2
  exact ⟨rfl, _, rfl⟩
theorem just (t : ByteArray) (w : World) : Calls Tryd.prog 58 #[.string t] w fun e w' => e = .returned (.func (.func 75) #[] #[.pointer (some ⟨w.heap.size, 0, none⟩)]) ∧ w' = w.alloc (.cells #[.string t] 9) := by
  go_enter Tryd.func58, Tryd.ntmps58
  go_wp2_with fail
  go_ret
  exact ⟨rfl, rfl⟩
theorem wordS (l : List UInt8) : Lib.trimS l [97, 98, 99, 100, 101, 102, 103, 104, 105, 106, 107, 108, 109, 110, 111, 112, 113, 114, 115, 116, 117, 118, 119, 120, 121, 122] = [] ↔ l.all isLow = true := by
  have hc : ∀ c : UInt8, [97, 98, 99, 100, 101, 102, 103, 104, 105, 106, 107, 108, 109, 110, 111, 112, 113, 114, 115, 116, 117, 118, 119, 120, 121, (122 : UInt8)].contains c = isLow c := by
    intro c
    rw [Bool.eq_iff_iff]
    unfold isLow
    simp only [List.contains_iff_mem, List.mem_cons, List.mem_nil_iff, or_false, Bool.and_eq_true, decide_eq_true_eq, UInt8.le_iff_toNat_le, ← UInt8.toNat_inj]
    have := c.toNat_lt
    simp
    omega
  have hf : ([97, 98, 99, 100, 101, 102, 103, 104, 105, 106, 107, 108, 109, 110, 111, 112, 113, 114, 115, 116, 117, 118, 119, 120, 121, (122 : UInt8)].contains ·) = isLow := funext hc
  have hd : ∀ l : List UInt8, l.dropWhile isLow = [] ↔ l.all isLow = true := by
    intro l
    induction l with
    | nil => simp
    | cons a l ih =>
      rw [List.dropWhile_cons, List.all_cons]
      split
      · rename_i h; rw [ih, h]; simp
      · rename_i h; simp [h]
  unfold Lib.trimS Lib.trimLeftS Lib.trimRightS
  rw [hf, hd]
  constructor
  · intro h
    cases ha : l.reverse.dropWhile isLow with
    | nil =>
      have := (hd _).1 ha
      simpa using this
    | cons a b =>
      rw [ha] at h
      have h2 := List.all_eq_true.1 h a (by simp)
      have h3 : ∀ (l : List UInt8) a b, l.dropWhile isLow = a :: b → isLow a = false := by
        intro l
        induction l with
        | nil => intro a b h; cases h
        | cons x l ih =>
          intro a b h
          rw [List.dropWhile_cons] at h
          split at h
          · exact ih a b h
          · rename_i h5
            injection h with h _
            subst h
            simpa using h5
      rw [h3 _ _ _ ha] at h2
      cases h2
  · intro h
    have : l.reverse.dropWhile isLow = [] := (hd _).2 (by simpa using h)
    rw [this]
    rfl
def wordF (l : List UInt8) : Bool := !l.isEmpty && l.all isLow
set_option maxHeartbeats 4000000 in
theorem word (s : ByteArray) (w : World) (hs : s.size ≤ maxLen) : Calls Tryd.prog 16 #[.string s] w fun e w' => e = .returned (.bool (wordF s.toList)) ∧ Below w.heap.size w w' := by
  have hcon := Any.strings_Trim_laid Shelf.lays160 (by kernel_rfl) s ⟨#[97, 98, 99, 100, 101, 102, 103, 104, 105, 106, 107, 108, 109, 110, 111, 112, 113, 114, 115, 116, 117, 118, 119, 120, 121, 122]⟩ w (by unfold maxLen at hs; exact hs) (by decide) (ascii_of_all (by decide))
  obtain ⟨r, hr⟩ : ∃ r, Lib.trimS s.data.toList [97, 98, 99, 100, 101, 102, 103, 104, 105, 106, 107, 108, 109, 110, 111, 112, 113, 114, 115, 116, 117, 118, 119, 120, 121, 122] = r := ⟨_, rfl⟩
  have hl : s.toList = s.data.toList := Lib.toList_data s
  have hw : r = [] ↔ s.toList.all isLow = true := by rw [← hr, hl]; exact wordS _
  have HC := Aside0.mk hcon
  clear hcon
  by_cases h0 : s.toList = []
  · clear hw hl hr HC
    go_enter Tryd.func16, Tryd.ntmps16
    go_wp2_with fail
    go_ret
    exact ⟨by rw [h0]; rfl, Below.refl _ _⟩
  · have h1 : s.toList.isEmpty = false := by simpa using h0
    have h3 : (!s.toList.isEmpty) = true := by simp [h1]
    by_cases h2 : r = []
    · have E : wordF s.toList = true := by unfold wordF; rw [h1, hw.1 h2]; rfl
      subst h2
      have HE := Aside0.mk (And.intro E hr)
      clear hw hl hr E
      go_enter Tryd.func16, Tryd.ntmps16
      go_wp2_with (go_at_call 30; refine HC.out.mono ?_; rintro e w1 ⟨rfl, hB⟩; rw [HE.out.2]; have HB := Aside0.mk hB; clear hB)
      go_ret
      exact ⟨by rw [HE.out.1]; rfl, HB.out⟩
    · have E : wordF s.toList = false := by unfold wordF; rw [h1]; simp only [Bool.not_false, Bool.true_and]; cases ha : s.toList.all isLow with | false => rfl | true => exact absurd (hw.2 ha) h2
      have h4 : r.isEmpty = false := by simpa using h2
      have h5 : (⟨r.toArray⟩ : ByteArray).toList = r := by rw [Lib.toList_data]
      have HE := Aside0.mk (And.intro E hr)
      clear hw hl hr E
      go_enter Tryd.func16, Tryd.ntmps16
      go_wp2_with (go_at_call 30; refine HC.out.mono ?_; rintro e w1 ⟨rfl, hB⟩; rw [HE.out.2]; have HB := Aside0.mk hB; clear hB)
      go_ret
      exact ⟨by rw [HE.out.1]; rfl, HB.out⟩
end Go.Proofs.YtfpbapffdnochaaDoor.LexH
