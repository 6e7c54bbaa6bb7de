/- slices.Sorted(maps.Keys(m)). -/
import Derived.Test.YthibppfdonepoaaCNodePlaysHMapSort
set_option linter.unusedVariables false
namespace Go.Proofs.Ythibppfdonepoaa.Keys
open Go.RowKit Go.MapKept Go.Maps Go.Proofs.Ythibppfdonepoaa.XBut Go.Proofs.Ythibppfdonepoaa.XMap Go.Proofs.Ythibppfdonepoaa.Srt Go.Proofs.YthibppfdonepoaaW.PrintWords Go.Proofs.YthibppfdonepoaaW.PrintLast
/-- A row that was appended is a row to sort. -/
theorem row_of {w : World} {base : Nat} {v : Value} {xs : List Int} (h : w.ownsRow base 37 1 v xs.length (xs.map (Value.int .u32))) : (v = .slice none 0 0 ∧ xs = []) ∨ ∃ g cap, v = .slice (some ⟨g, 0, none⟩) xs.length cap ∧ base ≤ g ∧ Row w g 37 cap xs.toArray := by
  rcases h.2 with ⟨h1, h2⟩ | ⟨g, cap, cur, h1, h2, h3, h4, h5, h6, h7⟩
  · exact .inl ⟨h1, List.length_eq_zero_iff.1 h2⟩
  · refine .inr ⟨g, cap, h1, h2, cur, by omega, h3, by simpa using h4, fun j hj => ?_⟩
    have hj2 : j < xs.length := by simpa using hj
    have h8 : (cur.toList.take (xs.length * 1))[j]? = (xs.map (Value.int .u32))[j]? := by rw [h7]
    rw [List.getElem?_take_of_lt (by omega), List.getElem?_map, List.getElem?_eq_getElem hj2] at h8
    rw [← Array.getElem?_toList, h8]
    simp [hj2]
set_option maxHeartbeats 8000000 in
theorem sorted (g bm : Nat) (t : TypeId) (m : List (Int × Value)) (w : World) (hm : MapAt w .u32 g m) (b1 : w.heap[bm]? = some (.cells #[.map (some g)] t (0, 0))) (hl : m.length ≤ 1152921504606) :
    Calls Try.prog 74 #[.func (.func 125) #[] #[.pointer (some ⟨bm, 0, none⟩)]] w fun e w' => Below w.heap.size w w' ∧ ((e = .returned (.slice none 0 0) ∧ m = []) ∨ ∃ (r cap : Nat) (d : Array Int), e = .returned (.slice (some ⟨r, 0, none⟩) d.size cap) ∧ w.heap.size ≤ r ∧ Row w' r 37 cap d ∧ d.toList.Perm (m.map (·.1)) ∧ Sort.SortedIn Sort.ltInt 0 d.size d) := by
  have H := Aside0.mk (collect g bm t m w hm b1 hl)
  clear hm b1
  go_enter Try.func74, Try.ntmps74
  go_wp2_with fail
  refine H.out.mono ?_
  rintro e w1 ⟨v, xs, hp, rfl, hR, hb⟩
  rcases row_of hR with ⟨rfl, rfl⟩ | ⟨r, cap, rfl, hr, hRow⟩
  · have HB := Aside0.mk hb
    have HE := Aside0.mk hp
    clear hb hp hR
    go_wp2_with fail
    refine (sort_nil _).mono ?_
    rintro e w2 ⟨rfl, hB⟩
    have HB2 := Aside0.mk (But.below HB.out (Nat.le_refl _) hB (fun _ h => h.elim))
    clear hB
    go_wp2
    go_ret
    exact ⟨HB2.out, .inl ⟨rfl, by have := HE.out.length_eq; simp at this; exact List.eq_nil_of_length_eq_zero this.symm⟩⟩
  · have HB := Aside0.mk hb
    have HE := Aside0.mk hp
    have hlen : xs.length = m.length := by simpa using hp.length_eq
    have hlx : xs.length ≤ 1152921504606846976 := by omega
    have HR := Aside0.mk (And.intro hRow hlx)
    clear hb hp hR hRow hlen hlx
    go_wp2_with fail
    refine (sort r 37 cap cap xs.length xs.toArray _ (by simp) HR.out.1 HR.out.2).mono ?_
    rintro e w2 ⟨d, hP, hS, rfl, hR2, hB2⟩
    have hsz : d.size = xs.length := by simpa using hP.length_eq
    have hS2 : Sort.SortedIn Sort.ltInt 0 d.size d := by rw [hsz]; simpa using hS
    have HD := Aside0.mk (And.intro (But.below HB.out (Nat.le_refl _) hB2 (fun k hk => by omega)) (And.intro hR2 (And.intro ((show d.toList.Perm xs from hP).trans HE.out) (And.intro hS2 hsz))))
    clear hP hS hR2 hB2 hsz hS2
    go_wp2
    go_ret
    exact ⟨HD.out.1, .inr ⟨r, cap, d, by rw [HD.out.2.2.2.2]; rfl, hr, HD.out.2.1, HD.out.2.2.1, HD.out.2.2.2.1⟩⟩
theorem keys_eq {m : List (Int × Value)} (hr : Rising m) {d : Array Int} (hp : d.toList.Perm (m.map (·.1))) (hs : Sort.SortedIn Sort.ltInt 0 d.size d) : d.toList = m.map (·.1) := by
  have h1 : d.toList.Pairwise (fun a b : Int => a ≤ b) := by
    rw [List.pairwise_iff_getElem]
    intro i j hi hj hij
    have hi2 : i < d.size := by simpa using hi
    have hj2 : j < d.size := by simpa using hj
    have := hs i j (Nat.zero_le _) hij hj2
    simp only [Sort.ltInt, decide_eq_false_iff_not] at this
    rw [getElem!_pos d j hj2, getElem!_pos d i hi2] at this
    simp only [Array.getElem_toList]
    omega
  have h2 : (m.map (·.1)).Pairwise (fun a b : Int => a ≤ b) := List.pairwise_map.2 (hr.imp fun h => by omega)
  exact List.Perm.eq_of_pairwise (fun a b _ _ h h' => by omega) h1 h2 hp
end Go.Proofs.Ythibppfdonepoaa.Keys
