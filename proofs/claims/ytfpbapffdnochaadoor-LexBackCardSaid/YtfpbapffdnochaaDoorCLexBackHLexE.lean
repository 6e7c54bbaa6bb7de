/- lex.Text. -/
import Derived.Test.YtfpbapffdnochaaDoorCLexBackHLexD
set_option linter.unusedVariables false
set_option linter.unusedSimpArgs false
namespace Go.Proofs.YtfpbapffdnochaaDoor.LexH
open Go.RowKit Go.Proofs.YtfpbapffdnochaaDoor.XBut Go.Proofs.YtfpbapffdnochaaDoorW.PrintWords Go.Proofs.YtfpbapffdnochaaDoorW.PrintLast Go.Proofs.YtfpbapffdnochaaDoor.LexM
/-- Is there a blank ahead of token k? -/
def blank (l : List (Int × ByteArray)) (k : Nat) : Bool := decide (0 < k) && ((l.getD (k - 1) (0, ⟨#[]⟩)).1 != 2) && ((l.getD k (0, ⟨#[]⟩)).1 != 3) && ((l.getD k (0, ⟨#[]⟩)).1 != 4)
def textK (l : List (Int × ByteArray)) : Nat → List UInt8
  | 0 => []
  | k + 1 => textK l k ++ ((if blank l k then [32] else []) ++ (l.getD k (0, ⟨#[]⟩)).2.data.toList)
/-- Cells of a row of tokens. -/
def TokAt (w : World) (ad : Addr) (x : Int × ByteArray) : Prop := w.cell? ad = some (.int .u8 x.1) ∧ w.cell? ⟨ad.block, ad.off + 1, none⟩ = some (.string x.2) ∧ ∃ n p : Int, w.cell? ⟨ad.block, ad.off + 2, none⟩ = some (.int .i64 n) ∧ w.cell? ⟨ad.block, ad.off + 3, none⟩ = some (.int .i64 p)
theorem TokAt.below {w w' : World} {ad : Addr} {x : Int × ByteArray} (h : TokAt w ad x) (hb : Below w.heap.size w w') : TokAt w' ad x := by
  obtain ⟨h1, h2, n, p, h3, h4⟩ := h
  have l1 := World.block_lt_of_cell? w _ h1
  have l2 := World.block_lt_of_cell? w _ h2
  exact ⟨(hb.cell l1).trans h1, (hb.cell (p := ⟨ad.block, ad.off + 1, none⟩) l2).trans h2, n, p, (hb.cell (p := ⟨ad.block, ad.off + 2, none⟩) l2).trans h3, (hb.cell (p := ⟨ad.block, ad.off + 3, none⟩) l2).trans h4⟩
theorem textK_len (l : List (Int × ByteArray)) : ∀ k, k ≤ l.length → (textK l k).length ≤ ((l.take k).map fun x => x.2.size + 1).sum := by
  intro k
  induction k with
  | zero => intro _; simp [textK]
  | succ k ih =>
    intro hk
    have h1 := ih (by omega)
    have hk2 : k < l.length := by omega
    rw [List.take_succ_eq_append_getElem hk2]
    unfold textK
    have e : (l.getD k (0, ⟨#[]⟩)) = l[k] := by rw [List.getD_eq_getElem?_getD, List.getElem?_eq_getElem hk2]; rfl
    simp only [List.length_append, List.map_append, List.map_cons, List.map_nil, List.sum_append, List.sum_cons, List.sum_nil, e]
    have h3 : l[k].2.data.toList.length = l[k].2.size := data_length _
    split <;> simp only [List.length_cons, List.length_nil, h3] <;> omega
theorem box_kept {b g : Nat} {w w' : World} {cs : Array Value} (h : Lib.OthersKept 5 (some b) w w') (hg : w.heap[g]? = some (.cells cs 30 (0, 0))) (hne : g ≠ b) : w'.heap[g]? = some (.cells cs 30 (0, 0)) :=
  h g _ hg (fun e => hne (Option.some.inj e)) (fun c fz e => by injection e with _ e _; exact absurd e (by decide))
set_option maxHeartbeats 8000000 in
set_option maxRecDepth 100000 in
theorem textW (A : Option Addr) (c : Nat) (l : List (Int × ByteArray)) (w : World) (hl : l.length ≤ maxLen) (hR : ∀ j (h : j < l.length), ∃ ad, A = some ad ∧ TokAt w (ad.add (j * 4)) l[j])
    (hsum : (l.map fun x => x.2.size + 1).sum ≤ 140737488355328) :
    Calls Tryd.prog 11 #[.slice A l.length c] w fun e w' => e = .returned (.string ⟨(textK l l.length).toArray⟩) ∧ Below w.heap.size w w' := by
  unfold maxLen at hl
  have hs := fun k (hk : k ≤ l.length) => textK_len l k hk
  have HH := Aside0.mk (And.intro hR (And.intro hsum hs))
  clear hR hsum hs
  go_enter Tryd.func11, Tryd.ntmps11
  go_wp2_with fail
  go_loopg [8] l.length (fun kk i wr => ∃ k : Nat, kk = l.length - k ∧ i = .int .i64 k ∧ k ≤ l.length ∧ Lib.IsBuilderF 65 5 w.heap.size w.heap.size (Lib.byteCells (textK l k)) wr ∧ Below w.heap.size w wr)
  case atStart => exact ⟨0, rfl, rfl, Nat.zero_le _, Lib.IsBuilderF.of (Lib.fresh_isBuilder _ _ _), below_alloc (Below.refl _ _) _⟩
  obtain ⟨k, rfl, rfl, hk, hI, hB⟩ := hrel
  by_cases hlt : k < l.length
  · obtain ⟨ad, rfl, hT⟩ := HH.out.1 k hlt
    have X := Aside0.mk (And.intro hI hB)
    obtain ⟨t0, t1, n, p, t2, t3⟩ := hT.below hB
    clear hI hB hT
    obtain ⟨kx, hkx⟩ : ∃ kx, l[k].1 = kx := ⟨_, rfl⟩
    obtain ⟨sx, hsx⟩ : ∃ sx, l[k].2 = sx := ⟨_, rfl⟩
    rw [hkx] at t0
    rw [hsx] at t1
    have hgd : l.getD k (0, ⟨#[]⟩) = l[k] := by rw [List.getD_eq_getElem?_getD, List.getElem?_eq_getElem hlt]; rfl
    have hlen : (textK l (k + 1)).length ≤ 140737488355328 := by
      have h1 := HH.out.2.2 (k + 1) (by omega)
      have h2 : ((l.take (k + 1)).map fun x => x.2.size + 1).sum ≤ (l.map fun x => x.2.size + 1).sum := by
        conv => rhs; rw [← List.take_append_drop (k + 1) l]
        rw [List.map_append, List.sum_append]
        omega
      have h3 := HH.out.2.1
      omega
    have htk : textK l (k + 1) = textK l k ++ ((if blank l k then [32] else []) ++ sx.data.toList) := by
      conv => lhs; unfold textK
      rw [hgd, hsx]
    have hlt' : (k : Int) < (l.length : Int) := by omega
    rcases Nat.eq_zero_or_pos k with h0 | h0
    · have hbl : blank l k = false := by unfold blank; simp [h0]
      have htk : textK l (k + 1) = textK l k ++ sx.data.toList := by rw [htk, hbl]; rfl
      have Y := Aside0.mk (And.intro htk hlen)
      have h0' : (k : Int) ≤ 0 := by omega
      clear htk hlen hbl hkx hsx hgd h0
      go_wp2_with (fail)
      · refine (Shelf.Builder_WriteString_k _ _ _ _ _ (X.out.1.alloc _) (by have := Y.out.2; rw [Y.out.1] at this; simp only [List.length_append, data_length] at this; rw [Lib.byteCells_length]; omega) (by have := X.out.2.size; simp only [World.size_alloc]; omega)).mono ?_
        rintro e w5 ⟨rfl, hI5, hB5, hK5⟩
        have V := Aside0.mk (And.intro hI5 hB5)
        clear hI5 hB5 hK5
        go_wp2
        go_roundg (l.length - (k + 1))
        case measure => omega
        case rel =>
          refine ⟨k + 1, rfl, by go_num, by omega, .inr ?_, ?_⟩
          · have e : Lib.byteCells (textK l (k + 1)) = Lib.byteCells (textK l k) ++ Lib.strCells sx := by rw [Y.out.1, Lib.byteCells_append]; rfl
            rw [e]
            exact V.out.1
          · exact (below_alloc X.out.2 _).trans V.out.2
    · obtain ⟨ad2, e2, hT2⟩ := HH.out.1 (k - 1) (by omega)
      obtain rfl : ad = ad2 := by injection e2
      obtain ⟨p0, p0r⟩ := hT2.below X.out.2
      obtain ⟨kp, hkp⟩ : ∃ kp, l[k - 1].1 = kp := ⟨_, rfl⟩
      rw [hkp] at p0
      have hgd2 : l.getD (k - 1) (0, ⟨#[]⟩) = l[k - 1] := by rw [List.getD_eq_getElem?_getD, List.getElem?_eq_getElem (by omega)]; rfl
      have hbl : blank l k = (((kp != 2) && (kx != 3)) && (kx != 4)) := by
        unfold blank
        rw [hgd, hgd2, hkx, hkp]
        simp [h0]
      have p2 : ∀ o, (wr.alloc o).cell? (ad.add ((k - 1) * 4)) = some (.int .u8 kp) := fun o => ((below_alloc (Below.refl wr.heap.size wr) o).cell (World.block_lt_of_cell? wr _ p0)).trans p0
      have k1 : (1 : Int) ≤ (k : Int) := by omega
      have k2 : (0 : Int) < (k : Int) := by omega
      clear p0r; clear hgd hgd2 hkx hkp hsx e2 hT2 h0
      by_cases a1 : kp = 2
      · have a1b : (kp != 2) = false := by simp [a1]
        have htk : textK l (k + 1) = textK l k ++ sx.data.toList := by rw [htk, hbl, a1b]; rfl
        have Y := Aside0.mk (And.intro htk hlen)
        clear htk hlen hbl a1
        go_wp2_with (fail)
        refine (Shelf.Builder_WriteString_k _ _ _ _ _ (X.out.1.alloc _) (by have := Y.out.2; rw [Y.out.1] at this; simp only [List.length_append, data_length] at this; rw [Lib.byteCells_length]; omega) (by have := X.out.2.size; simp only [World.size_alloc]; omega)).mono ?_
        rintro e w5 ⟨rfl, hI5, hB5, hK5⟩
        have V := Aside0.mk (And.intro hI5 hB5)
        clear hI5 hB5 hK5
        go_wp2
        go_roundg (l.length - (k + 1))
        case measure => omega
        case rel =>
          refine ⟨k + 1, rfl, by go_num, by omega, .inr ?_, ?_⟩
          · have e : Lib.byteCells (textK l (k + 1)) = Lib.byteCells (textK l k) ++ Lib.strCells sx := by rw [Y.out.1, Lib.byteCells_append]; rfl
            rw [e]
            exact V.out.1
          · exact (below_alloc X.out.2 _).trans V.out.2
      · have a1b : (kp != 2) = true := by simpa using a1
        by_cases a2 : kx = 3
        · have a2b : (kx != 3) = false := by simp [a2]
          have htk : textK l (k + 1) = textK l k ++ sx.data.toList := by rw [htk, hbl, a1b, a2b]; rfl
          have Y := Aside0.mk (And.intro htk hlen)
          clear htk hlen hbl a1 a2
          go_wp2_with (fail)
          refine (Shelf.Builder_WriteString_k _ _ _ _ _ (X.out.1.alloc _) (by have := Y.out.2; rw [Y.out.1] at this; simp only [List.length_append, data_length] at this; rw [Lib.byteCells_length]; omega) (by have := X.out.2.size; simp only [World.size_alloc]; omega)).mono ?_
          rintro e w5 ⟨rfl, hI5, hB5, hK5⟩
          have V := Aside0.mk (And.intro hI5 hB5)
          clear hI5 hB5 hK5
          go_wp2
          go_roundg (l.length - (k + 1))
          case measure => omega
          case rel =>
            refine ⟨k + 1, rfl, by go_num, by omega, .inr ?_, ?_⟩
            · have e : Lib.byteCells (textK l (k + 1)) = Lib.byteCells (textK l k) ++ Lib.strCells sx := by rw [Y.out.1, Lib.byteCells_append]; rfl
              rw [e]
              exact V.out.1
            · exact (below_alloc X.out.2 _).trans V.out.2
        · have a2b : (kx != 3) = true := by simpa using a2
          by_cases a3 : kx = 4
          · have a3b : (kx != 4) = false := by simp [a3]
            have htk : textK l (k + 1) = textK l k ++ sx.data.toList := by rw [htk, hbl, a1b, a2b, a3b]; rfl
            have Y := Aside0.mk (And.intro htk hlen)
            clear htk hlen hbl a1 a2 a3
            go_wp2_with (fail)
            refine (Shelf.Builder_WriteString_k _ _ _ _ _ (X.out.1.alloc _) (by have := Y.out.2; rw [Y.out.1] at this; simp only [List.length_append, data_length] at this; rw [Lib.byteCells_length]; omega) (by have := X.out.2.size; simp only [World.size_alloc]; omega)).mono ?_
            rintro e w5 ⟨rfl, hI5, hB5, hK5⟩
            have V := Aside0.mk (And.intro hI5 hB5)
            clear hI5 hB5 hK5
            go_wp2
            go_roundg (l.length - (k + 1))
            case measure => omega
            case rel =>
              refine ⟨k + 1, rfl, by go_num, by omega, .inr ?_, ?_⟩
              · have e : Lib.byteCells (textK l (k + 1)) = Lib.byteCells (textK l k) ++ Lib.strCells sx := by rw [Y.out.1, Lib.byteCells_append]; rfl
                rw [e]
                exact V.out.1
              · exact (below_alloc X.out.2 _).trans V.out.2
          · have a3b : (kx != 4) = true := by simpa using a3
            have htk : textK l (k + 1) = textK l k ++ ([32] ++ sx.data.toList) := by rw [htk, hbl, a1b, a2b, a3b]; rfl
            have Y := Aside0.mk (And.intro htk hlen)
            clear htk hlen hbl a1 a2 a3
            go_wp2_with (fail)
            refine (Shelf.Builder_WriteByte_k _ _ _ _ _ (X.out.1.alloc _) (by have := Y.out.2; rw [Y.out.1] at this; simp only [List.length_append, List.length_cons, List.length_nil, data_length] at this; rw [Lib.byteCells_length]; omega) (by have := X.out.2.size; simp only [World.size_alloc]; omega)).mono ?_
            rintro e w4 ⟨rfl, hI4, hB4, hK4⟩
            have hbx := box_kept hK4 (blk_new wr _) (by have hlB : w.heap.size < wr.heap.size := (by rcases X.out.1 with h | h <;> (obtain ⟨_, v, hb, _⟩ := h; exact blk_lt hb)); omega)
            have cb := (blk_cell hbx 1).trans rfl
            have V4 := Aside0.mk (And.intro hI4 hB4)
            clear hI4 hB4 hK4 hbx
            go_wp2_with (fail)
            refine (Shelf.Builder_WriteString_k _ _ _ _ _ (.inr V4.out.1) (by have := Y.out.2; rw [Y.out.1] at this; simp only [List.length_append, List.length_cons, List.length_nil, data_length] at this; simp only [List.length_append, List.length_cons, List.length_nil, Lib.byteCells_length]; omega) (by have h1 := V4.out.2.size; have h2 := X.out.2.size; simp only [World.size_alloc] at h1; omega)).mono ?_
            rintro e w5 ⟨rfl, hI5, hB5, hK5⟩
            have V := Aside0.mk (And.intro hI5 hB5)
            clear hI5 hB5 hK5
            go_wp2
            go_roundg (l.length - (k + 1))
            case measure => omega
            case rel =>
              refine ⟨k + 1, rfl, by go_num, by omega, .inr ?_, ?_⟩
              · have e : Lib.byteCells (textK l (k + 1)) = Lib.byteCells (textK l k) ++ [.int .u8 32] ++ Lib.strCells sx := by rw [Y.out.1, Lib.byteCells_append, Lib.byteCells_append, List.append_assoc]; rfl
                rw [e]
                exact V.out.1
              · exact ((below_alloc X.out.2 _).trans V4.out.2).trans V.out.2
  · have hke : k = l.length := by omega
    have X := Aside0.mk (And.intro hI (And.intro hB hke))
    clear hI hB hke
    go_wp2_with (go_at_call 29; refine (Shelf.Builder_String_any_k _ _ _ _ X.out.1 X.out.2.1.size).mono ?_; rintro e w' ⟨rfl, _, hb, _⟩; have Y := Aside0.mk hb; clear hb)
    go_ret
    exact ⟨by rw [X.out.2.2]; rfl, X.out.2.1.trans Y.out⟩
end Go.Proofs.YtfpbapffdnochaaDoor.LexH
