/- Sorting in place: slices.Sort. -/
import Derived.Test.YthibppfdonepoaaCLedgerRoomsHSortH
import Derived.Test.YthibppfdonepoaaCLedgerRoomsHSortI
set_option linter.unusedVariables false
namespace Go.Proofs.Ythibppfdonepoaa.Srt
open Go.RowKit Go.Proofs.Ythibppfdonepoaa.XBut Go.Proofs.YthibppfdonepoaaW.PrintWords Go.Proofs.YthibppfdonepoaaW.PrintLast
/-- What slices.Sort leaves. -/
def Sorted (w : World) (g : Nat) (t : TypeId) (c : Nat) (d : Array Int) (e : Ending) (w' : World) : Prop := ∃ d' : Array Int, d'.toList.Perm d.toList ∧ Sort.SortedIn Sort.ltInt 0 d.size d' ∧ e = .returned (.tuple #[]) ∧ Row w' g t c d' ∧ But (fun k => k = g) w w'
theorem Sorted.of {w : World} {g : Nat} {t : TypeId} {c n : Nat} {d : Array Int} (hn : d.size = n) {e : Ending} {w' : World} (h : Sorts w g t c 0 n n d e w') : Sorted w g t c d e w' := by
  subst hn
  obtain ⟨d', h1, h2, h3, h4, h5, h6⟩ := h
  refine ⟨d', ?_, h3, h4, h5, h6⟩
  obtain ⟨q1, _, q3⟩ := h2
  have e1 : d'.extract 0 d.size = d' := by rw [← q1]; exact Array.extract_size
  rw [e1, Array.extract_size] at q3
  exact q3
set_option maxHeartbeats 16000000 in
set_option maxRecDepth 100000 in
theorem sort (g : Nat) (t : TypeId) (c cap n : Nat) (d : Array Int) (w : World) (hn : d.size = n) (hR : Row w g t c d) (hd : n ≤ 1152921504606846976) :
    Calls Try.prog 116 #[.slice (some ⟨g, 0, none⟩) n cap] w (Sorted w g t c d) := by
  have HR := Aside0.mk hR
  have HN := Aside0.mk hn
  clear hR hn
  have b1 : IntKind.u64.wrap (n : Int) = (n : Int) := by simp only [IntKind.wrap]; first | omega | (simp [IntKind.signed, IntKind.bits]; omega)
  have b2 : (0 : Int) ≤ (n : Int) := by omega
  go_enter Try.func116, Try.ntmps116
  go_wp2_with (go_at_call 151; refine (len n _ hd).mono ?_; rintro e w' ⟨r, hr, rfl, rfl⟩; clear hr)
  refine (pdq g t c cap n hd n 0 n _ d _ (by omega) HN.out HR.out (Nat.zero_le _) (Nat.le_refl _) (.inl rfl)).mono ?_
  rintro e w1 hS
  obtain ⟨d', h1, h2, h3, rfl, h4, h5⟩ := hS
  have HD := Aside0.mk (Sorted.of HN.out ⟨d', h1, h2, h3, rfl, h4, h5⟩)
  clear h1 h2 h3 h4 h5
  go_wp2
  go_end0
  exact HD.out
theorem insertion_nil (w : World) : Calls Try.prog 168 #[.slice none 0 0, .int .i64 0, .int .i64 0] w fun e w' => e = .returned (.tuple #[]) ∧ But (fun _ => False) w w' := by
  go_enter Try.func168, Try.ntmps168
  go_wp2
  refine wp_loop_rounds 2 ?_
  simp only [Code.rounds]
  go_wp2
  go_end0
  exact ⟨rfl, But.refl _ _⟩
set_option maxHeartbeats 16000000 in
set_option maxRecDepth 100000 in
theorem pdq_nil (lim : Int) (w : World) : Calls Try.prog 150 #[.slice none 0 0, .int .i64 0, .int .i64 0, .int .i64 lim] w fun e w' => e = .returned (.tuple #[]) ∧ But (fun _ => False) w w' := by
  go_enter Try.func150, Try.ntmps150
  go_wp2
  go_loopg [1, 2] 0 (fun kk v1 v2 wr => v1 = .int .i64 0 ∧ v2 = .int .i64 0 ∧ But (fun _ => False) w wr)
  case atStart => exact ⟨rfl, rfl, But.refl _ _⟩
  obtain ⟨rfl, rfl, hB0⟩ := hrel
  go_wp2_with fail
  refine (insertion_nil _).mono ?_
  rintro e w1 ⟨rfl, hB⟩
  have HD := Aside0.mk (hB0.trans hB)
  clear hB0 hB
  go_wp2
  refine bodyPost_ret (results_none rfl _ _ _) rfl ?_
  exact ⟨rfl, HD.out⟩
set_option maxHeartbeats 16000000 in
set_option maxRecDepth 100000 in
theorem sort_nil (w : World) : Calls Try.prog 116 #[.slice none 0 0] w fun e w' => e = .returned (.tuple #[]) ∧ But (fun _ => False) w w' := by
  go_enter Try.func116, Try.ntmps116
  go_wp2_with (go_at_call 151; refine (len 0 _ (by omega)).mono ?_; rintro e w' ⟨r, hr, rfl, rfl⟩; clear hr)
  refine (pdq_nil _ _).mono ?_
  rintro e w1 ⟨rfl, hB⟩
  go_wp2
  go_end0
  exact ⟨rfl, hB⟩
end Go.Proofs.Ythibppfdonepoaa.Srt
