/- lex: what pieces' iterator hands over. -/
import Derived.Test.YtfpbapffdnochaaDoorCLexBackHLexB
set_option linter.unusedVariables false
set_option linter.unusedSimpArgs false
namespace Go.Proofs.YtfpbapffdnochaaDoor.LexH
open Go.RowKit Go.Proofs.YtfpbapffdnochaaDoor.XBut Go.Proofs.YtfpbapffdnochaaDoorW.PrintWords Go.Proofs.YtfpbapffdnochaaDoorW.PrintLast Go.Proofs.YtfpbapffdnochaaDoor.LexM
theorem token (s : ByteArray) (p : Int) (num : Int × Bool) (w : World) (hs : s.size ≤ maxLen)
    (hN : ∀ w, Calls Tryd.prog 15 #[.string s] w fun e w' => e = .returned (.tuple #[.int .i64 num.1, .bool num.2]) ∧ Below w.heap.size w w') :
    Calls Tryd.prog 25 #[.string s, .int .i64 p] w fun e w' => e = .returned (match tokV s num with
      | some (k, n) => .tuple #[.agg #[.int .u8 k, .string s, .int .i64 n, .int .i64 p], .bool true]
      | none => .tuple #[.agg #[.int .u8 0, .string ⟨#[]⟩, .int .i64 0, .int .i64 0], .bool false]) ∧ Below w.heap.size w w' := by
  have J : ∀ (t : ByteArray) (l : List UInt8) (b : Nat) (W : World), t.toList = l → W.heap[b]? = some (.cells #[.string t] 9 (0, 0)) → Says 75 #[.string s, .pointer (some ⟨b, 0, none⟩)] W 0 (s.toList == l) := fun t l b W hl hb =>
    ⟨fun w' hB => (just1 s t b w' ((blk_cell (blk_below hb hB) 0).trans rfl)).mono fun e w2 ⟨he, n, hw⟩ => ⟨by rw [he, hl], by rw [hw]; exact pw_below_drewN (Below.refl _ _) n⟩⟩
  have T := tokenW s p num.1 (wordF s.toList) num.2 (s.toList == [40]) (s.toList == [41]) (s.toList == [58]) w
    (fun W _ => ⟨fun w' _ => kinds1 s w' hs⟩) (fun W _ => ⟨fun w' _ => hN w'⟩) (fun W h => J _ _ _ W (Lib.toList_data _) h.1) (fun W h => J _ _ _ W (Lib.toList_data _) h.2.1) (fun W h => J _ _ _ W (Lib.toList_data _) h.2.2)
  refine T.mono fun e w' ⟨he, hB⟩ => ⟨?_, hB⟩
  rw [he]
  unfold tokV
  cases h0 : wordF s.toList
  · cases h1 : num.2
    · by_cases h2 : s.toList = [40]
      · simp [h2]
      · by_cases h3 : s.toList = [41]
        · simp [h3]
        · by_cases h4 : s.toList = [58]
          · simp [h4]
          · simp [h2, h3, h4]
    · simp
  · simp
/-- Where what begins at k ends. -/
def endAt (s : ByteArray) (k : Nat) : Nat := if isRun (s.data.toList.getD k 0) then k + 1 + ((s.data.toList.drop (k + 1)).takeWhile isRun).length else k + 1
theorem gd (s : ByteArray) (k : Nat) (h : k < s.size) : s.data.toList.getD k 0 = s[k] := by
  have h2 : k < s.data.toList.length := by simpa using h
  rw [List.getD_eq_getElem?_getD, List.getElem?_eq_getElem h2]
  rfl
theorem tw_in : ∀ (l : List UInt8) (i : Nat), i < (l.takeWhile isRun).length → ∃ h : i < l.length, isRun l[i] = true := by
  intro l
  induction l with
  | nil => intro i h; simp at h
  | cons a l ih =>
    intro i h
    rw [List.takeWhile_cons] at h
    split at h
    · rename_i ha
      cases i with
      | zero => exact ⟨by simp, ha⟩
      | succ i =>
        obtain ⟨h1, h2⟩ := ih i (by simpa using h)
        exact ⟨by simp; omega, by simpa using h2⟩
    · simp at h
theorem tw_out : ∀ (l : List UInt8) (h : (l.takeWhile isRun).length < l.length), isRun l[(l.takeWhile isRun).length] = false := by
  intro l
  induction l with
  | nil => intro h; simp at h
  | cons a l ih =>
    intro h
    by_cases ha : isRun a = true
    · have e : (List.takeWhile isRun (a :: l)).length = (l.takeWhile isRun).length + 1 := by rw [List.takeWhile_cons, if_pos ha]; rfl
      have h3 : (l.takeWhile isRun).length < l.length := by rw [e] at h; simpa using h
      have := ih h3
      simp only [e, List.getElem_cons_succ]
      exact this
    · have e : (List.takeWhile isRun (a :: l)).length = 0 := by rw [List.takeWhile_cons, if_neg ha]; rfl
      simp only [e, List.getElem_cons_zero]
      simpa using ha
theorem end_ge (s : ByteArray) (k : Nat) : k + 1 ≤ endAt s k := by unfold endAt; split <;> omega
theorem end_le (s : ByteArray) (k : Nat) (h : k < s.size) : endAt s k ≤ s.size := by
  unfold endAt
  split
  · have h1 : ∀ l : List UInt8, (l.takeWhile isRun).length ≤ l.length := fun l => (List.takeWhile_sublist isRun).length_le
    have h2 := h1 (s.data.toList.drop (k + 1))
    have h3 : (s.data.toList.drop (k + 1)).length = s.size - (k + 1) := by rw [List.length_drop, data_length]
    omega
  · omega
theorem end_lt (s : ByteArray) (k j : Nat) (hk : k < s.size) (h1 : k + 1 ≤ j) (h2 : j < endAt s k) : isRun s[k] = true ∧ ∃ h : j < s.size, isRun s[j] = true := by
  unfold endAt at h2
  rw [gd s k hk] at h2
  split at h2
  · rename_i hr
    obtain ⟨h3, h4⟩ := tw_in (s.data.toList.drop (k + 1)) (j - (k + 1)) (by omega)
    have h5 : (s.data.toList.drop (k + 1)).length = s.size - (k + 1) := by rw [List.length_drop, data_length]
    have h6 : j < s.size := by omega
    refine ⟨hr, h6, ?_⟩
    rw [List.getElem_drop] at h4
    have e : k + 1 + (j - (k + 1)) = j := by omega
    simp only [e] at h4
    exact h4
  · omega
theorem end_stop (s : ByteArray) (k : Nat) (hk : k < s.size) (hr : isRun s[k] = true) (h : endAt s k < s.size) : isRun s[endAt s k] = false := by
  have e : endAt s k = k + 1 + ((s.data.toList.drop (k + 1)).takeWhile isRun).length := by unfold endAt; rw [gd s k hk, if_pos hr]
  have h5 : (s.data.toList.drop (k + 1)).length = s.size - (k + 1) := by rw [List.length_drop, data_length]
  have h2 := tw_out (s.data.toList.drop (k + 1)) (by omega)
  rw [List.getElem_drop] at h2
  simp only [← e] at h2
  exact h2
def piecesFrom (s : ByteArray) (k : Nat) : List (Nat × List UInt8) := pcs k (s.data.toList.drop k)
theorem from_end (s : ByteArray) (k : Nat) (h : s.size ≤ k) : piecesFrom s k = [] := by
  unfold piecesFrom
  rw [List.drop_eq_nil_of_le (by rw [data_length]; exact h)]
  rfl
theorem drop_at (s : ByteArray) (k : Nat) (h : k < s.size) : s.data.toList.drop k = s[k] :: s.data.toList.drop (k + 1) := by
  have h2 : k < s.data.toList.length := by rw [data_length]; exact h
  rw [List.drop_eq_getElem_cons h2]
  rfl
theorem from_white (s : ByteArray) (k : Nat) (h : k < s.size) (hw : isWhite s[k] = true) : piecesFrom s k = piecesFrom s (k + 1) ∧ endAt s k = k + 1 := by
  unfold piecesFrom endAt
  rw [drop_at s k h, pcs_white (run_not_white hw) hw, gd s k h, if_neg (by simp [run_not_white hw])]
  exact ⟨rfl, rfl⟩
theorem from_piece (s : ByteArray) (k : Nat) (h : k < s.size) (hw : isWhite s[k] = false) : ∃ b : List UInt8, piecesFrom s k = (k, b) :: piecesFrom s (endAt s k) ∧ endAt s k = k + b.length ∧ b = (s.data.toList.drop k).take b.length := by
  by_cases hr : isRun s[k] = true
  · refine ⟨s[k] :: (s.data.toList.drop (k + 1)).takeWhile isRun, ?_, ?_, ?_⟩
    · have e : endAt s k = k + 1 + ((s.data.toList.drop (k + 1)).takeWhile isRun).length := by unfold endAt; rw [gd s k h, if_pos hr]
      unfold piecesFrom
      rw [drop_at s k h, pcs_run hr, e]
      congr 2
      have hd : ∀ t : List UInt8, t.dropWhile isRun = t.drop (t.takeWhile isRun).length := fun t => by
        conv => rhs; arg 2; rw [← List.takeWhile_append_dropWhile (p := isRun) (l := t)]
        rw [List.drop_left]
      rw [hd, List.drop_drop]
    · unfold endAt; rw [gd s k h, if_pos hr]; simp; omega
    · rw [drop_at s k h, List.length_cons, List.take_succ_cons]
      congr 1
      exact (List.prefix_iff_eq_take.1 (List.takeWhile_prefix isRun))
  · refine ⟨[s[k]], ?_, ?_, ?_⟩
    · unfold piecesFrom endAt
      rw [gd s k h, if_neg hr, drop_at s k h, pcs_other (by simpa using hr) hw]
    · unfold endAt; rw [gd s k h, if_neg hr]; rfl
    · rw [drop_at s k h]; rfl
set_option maxHeartbeats 8000000 in
set_option maxRecDepth 100000 in
theorem pieces1 (n : Nat) (lr bs : Nat) (t : TypeId) (s : ByteArray) (own : Nat → Prop) (W : World) (hs : s.size ≤ maxLen)
    (b1 : W.heap[bs]? = some (.cells #[.string s] t (0, 0))) (hown : ∀ k, own k ∨ k = lr → k ≠ bs) :
    Hands Tryd.prog n 37 #[.pointer (some ⟨bs, 0, none⟩)] lr (fun x : Nat × List UInt8 => #[.int .i64 (x.1 : Nat), .int .i64 ((x.1 + x.2.length : Nat) : Int)]) (fun pre => ∃ post, piecesFrom s 0 = pre ++ post) (fun pre => pre = piecesFrom s 0) (fun _ => False) own (fun _ => True) W := by
  intro J Jx hJ hY h0
  refine callsIn_wide.2 ?_
  have c1 := (blk_cell b1 0).trans rfl
  have HH := Aside0.mk (And.intro b1 (And.intro h0 (And.intro hY (And.intro hJ hs))))
  clear b1 h0 hY hJ hs
  go_enter Tryd.func37, Tryd.ntmps37
  go_wp2_with fail
  go_loopg [3] s.size (fun kk i wr => ∃ (k : Nat) (pre : List (Nat × List UInt8)), kk = s.size - k ∧ i = .int .i64 k ∧ k ≤ s.size ∧ piecesFrom s 0 = pre ++ piecesFrom s k ∧ wr.heap[bs]? = some (.cells #[.string s] t (0, 0)) ∧ J pre wr ∧ W.heap.size ≤ wr.heap.size)
  case atStart =>
    obtain ⟨b1, h0, hY, hJ, hs⟩ := HH.out
    exact ⟨0, [], rfl, rfl, Nat.zero_le _, rfl, b1, h0, Nat.le_refl _⟩
  obtain ⟨k, pre, rfl, rfl, hk, hp, hb, hj, hsz⟩ := hrel
  have hs2 := HH.out.2.2.2.2
  unfold maxLen at hs2
  have cw := (blk_cell hb 0).trans rfl
  by_cases hlt : k < s.size
  · have hge := end_ge s k
    have hle := end_le s k hlt
    have hin := fun j => end_lt s k j hlt
    have hout := end_stop s k hlt
    have X := Aside0.mk (And.intro hp (And.intro hb (And.intro hj (And.intro hin hout))))
    clear hp hb hj hin hout c1
    obtain ⟨E, hE⟩ : ∃ E, endAt s k = E := ⟨_, rfl⟩
    have XE := Aside0.mk hE
    rw [hE] at hge hle
    clear hE
    go_wp2_with fail
    go_loop [4] (fun e => ∃ j : Nat, k + 1 ≤ j ∧ j ≤ E ∧ e = .int .i64 j) (fun e => E - (intOf e).toNat)
    case atStart => exact ⟨k + 1, Nat.le_refl _, hge, by go_num⟩
    obtain ⟨j, hj1, hj2, rfl⟩ := hrel
    by_cases hje : j < E
    · obtain ⟨hr1, hr2, hr3⟩ := X.out.2.2.2.1 j hj1 (by rw [XE.out]; exact hje)
      have e1 := sort_run hr1
      have e2 := sort_run hr3
      clear hr1 hr3
      go_wp2_with (go_at_call 38; refine (of_any _ _).mono ?_; rintro e w' ⟨rfl, rfl⟩)
      go_round
      case rel => exact ⟨j + 1, by omega, by omega, by go_num⟩
      case measure => simp [intOf]; omega
    · obtain rfl : j = E := by omega
      by_cases hw : isWhite s[k] = true
      · have e1 := sort_white hw
        have G := Aside0.mk hw
        clear hw
        go_wp2_with (go_at_call 38; refine (of_any _ _).mono ?_; rintro e w' ⟨rfl, rfl⟩)
        go_roundg (s.size - j)
        case measure => omega
        case rel =>
          obtain ⟨hp, hb, hj, _⟩ := X.out
          obtain ⟨f1, f2⟩ := from_white s k hlt G.out
          rw [f1] at hp
          have f3 : k + 1 = j := by rw [← f2]; exact XE.out
          rw [f3] at hp
          exact ⟨j, pre, rfl, rfl, hle, hp, hb, hj, hsz⟩
      · have hw2 : isWhite s[k] = false := by simpa using hw
        obtain ⟨b, f1, f2, f3⟩ := from_piece s k hlt hw2
        rw [XE.out] at f1 f2
        have hsn : sortF s[k] ≠ 2 := by
          unfold sortF
          split
          · omega
          · split <;> omega
        have hyy := HH.out.2.2.1 pre (k, b) wr ⟨piecesFrom s j, by rw [X.out.1, f1]; simp⟩ X.out.2.2.1 hsz
        simp only [← f2] at hyy
        obtain ⟨fn, tmps, assign, body, hy, hR⟩ := hyy
        have RR := Aside0.mk (And.intro hR (And.intro f1 (And.intro f2 f3)))
        have HC : (isRun s[k] = true ∧ ((∃ h : j < s.size, isRun s[j] = false) ∨ j = s.size)) ∨ isRun s[k] = false := by
          cases hr : isRun s[k] with
          | false => exact .inr rfl
          | true =>
            refine .inl ⟨rfl, ?_⟩
            by_cases hjs : j < s.size
            · have := X.out.2.2.2.2 hr (by rw [XE.out]; exact hjs)
              simp only [XE.out] at this
              exact .inl ⟨hjs, this⟩
            · exact .inr (by omega)
        have s1 : ∀ c, isRun c = false → (sortF c == 1) = false := fun c h => by
          unfold sortF
          rw [if_neg (by simp [h])]
          split
          · rfl
          · split <;> rfl
        have hsn2 : (sortF s[k] != 2) = true := by simpa using hsn
        have SS : ((sortF s[k] == 1) = true ∧ ((∃ h : j < s.size, (sortF s[j] == 1) = false) ∨ decide (j < s.size) = false)) ∨ (sortF s[k] == 1) = false := by
          rcases HC with ⟨h1, ⟨h2, h3⟩ | h2⟩ | h1
          · exact .inl ⟨by rw [sort_run h1]; rfl, .inl ⟨h2, s1 _ h3⟩⟩
          · exact .inl ⟨by rw [sort_run h1]; rfl, .inr (by simp [h2])⟩
          · exact .inr (s1 _ h1)
        clear HC s1 hsn hw hw2 f1 f2 f3 hR XE
        rcases SS with ⟨g1, ⟨g2, g3⟩ | g2⟩ | g1
        all_goals
          go_upto_region 5 with (go_at_call 38; refine (of_any _ _).mono ?_; rintro e w' ⟨rfl, hw'⟩; obtain rfl := hw'.symm)
          refine (wpIn_wide (n := n)).1 (wpIn_region_lit ?_)
          gi_wp2_with (refine ⟨trivial, fun h => (by cases h), ?_⟩; gi_at_call 38; refine (callsIn_wide.2 (of_any _ _)).mono ?_; rintro e w' ⟨rfl, hw'⟩; obtain rfl := hw'.symm)
          refine ⟨fun h => (by cases h), RR.out.1.mono ?_⟩
          rintro e W7 (⟨rfl, hJ7, hk7⟩ | ⟨rfl, hJx7⟩)
          · have G := Aside0.mk (And.intro hJ7 hk7)
            clear hJ7 hk7 hy cw
            gi_wp2
            go_wp2
            go_roundg (s.size - j)
            case measure => omega
            case rel =>
              obtain ⟨hJ7, hk7⟩ := G.out
              have hb7 : W7.heap[bs]? = some (.cells #[.string s] t (0, 0)) := hk7.heap X.out.2.1 (fun h => hown _ h rfl)
              exact ⟨j, pre ++ [(k, b)], rfl, rfl, hle, by rw [X.out.1, RR.out.2.1]; simp, hb7, hJ7, Nat.le_trans hsz hk7.size⟩
          · have G := Aside0.mk hJx7
            clear hJx7 hy
            gi_wp2
            go_wp2
            refine bodyPost_ret (results_none rfl _ _ _) rfl ?_
            exact ⟨⟨_, rfl⟩, .inr ⟨pre, (k, b), ⟨piecesFrom s j, by rw [X.out.1, RR.out.2.1]; simp⟩, G.out⟩⟩
  · have hke : k = s.size := by omega
    have X := Aside0.mk (And.intro hp (And.intro hj hke))
    clear hp hb hj hke c1
    go_wp2
    go_end0
    obtain ⟨hp, hj, hke⟩ := X.out
    rw [from_end s k (by omega), List.append_nil] at hp
    exact ⟨⟨_, rfl⟩, .inl ⟨pre, hp.symm, hj, trivial⟩⟩
end Go.Proofs.YtfpbapffdnochaaDoor.LexH
