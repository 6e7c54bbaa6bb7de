/- The row of the law LexWhite: for every input the call returns true and each argument reads as it read before. No condition. -/
import Derived.Test.YtfpbapffdnochaaDoorRows
import Derived.Test.YtfpbapffdnochaaDoorCLexWhiteW
import Derived.Test.YtfpbapffdnochaaDoorCLexWhite6
import Derived.Test.YtfpbapffdnochaaDoorCLexWhiteQ
import Derived.WalkKit
import Derived.ProofKit
import Derived.OpenShut
import Derived.ShutString
import Derived.ChangeOld
import Derived.Below
import Derived.SizedLaws
import Derived.Test.YtfpbapffdnochaaDoorTie
import Derived.Test.YtfpbapffdnochaaDoorCards
import Derived.LaidMore
import Derived.Lay
import Derived.SevenTiedAt
import Derived.Stop.Joined
namespace Go.Proofs.YtfpbapffdnochaaDoor.lexWhite
open Go.ChangeShapes Go.WideShapes Go.ChangeAt Go.RowKit Go.Proofs.YtfpbapffdnochaaDoor.PLexWhite Go.Proofs.YtfpbapffdnochaaDoorW.PrintWords
open Go.ChangeMaps (open_string shut_string)
set_option linter.unusedVariables false
theorem own : ownKnob Tryd.prog.godebug = none := by kernel_rfl
theorem laidOut : laidOutB Tryd.prog = true := by kernel_rfl
set_option maxRecDepth 100000 in
theorem lifted (os : Os) (started : os.Started) (H : Type) (enc : TypeId × Value → H) :
    ReturnsInHanded {} Tryd.checked os 4 .any (fun w args => (Rows.lexWhiteSpec.pre enc Tryd.prog Tryd.f4 Rows.lexWhiteRow.domain false w args ∧ laidMetH Tryd.prog Rows.lexWhiteRow.laid w) ∧ sizedMet enc Tryd.prog Tryd.f4 (OpenSpec.ofChange Rows.lexWhiteSpec) false w args) (Rows.lexWhiteSpec.post enc Tryd.prog Tryd.f4 false true false false) := by
  refine returnsInHanded_of_change_and (C := Tryd.checked) (X := fun w _ => laidMetH Tryd.prog Rows.lexWhiteRow.laid w) (fun _ _ _ hh h => h.of_heap hh) own started (by kernel_rfl) Tryd.func4
    (ChangeSpec.witness_shaped (enc := enc) (C := Tryd.checked) (os := os) (X := fun w _ => laidMetH Tryd.prog Rows.lexWhiteRow.laid w) false (World.laidAll Tryd.prog os Rows.lexWhiteRow.laid) #[.string ByteArray.empty, .int .u8 0, .slice none 0 0] 8 (World.laidAll_os _ _ _)
      (World.shaped_of_ZipB (by kernel_rfl) (by kernel_rfl)) (by kernel_rfl) (by kernel_rfl) (by kernel_rfl)
      (by rw [MakeChecks.laidMetH_plain _ _ _ (by kernel_rfl)]; exact laidMet_laidAll _ (by kernel_rfl) (by kernel_rfl))) ?_
  intro W base args ds gs before hval0 hW hcnd hsz0 hL _
  have hval : ∀ (j : Nat) t v, Tryd.f4.params[j]? = some t → args[j]? = some v → Value.okWide Tryd.prog W .any base t v := hval0
  have hW' := hW
  obtain ⟨p, q, hA0, hV, rfl, hfz, hnd⟩ := hW
  have hA : DataW.TrodAll enc Tryd.prog W 0 (fun _ => true) true Tryd.f4.params.toList args.toList ds p := hA0
  rw [Tryd.params4] at hA hval
  obtain ⟨v0, vs0, d0, ds0, p0, q0, hargs, rfl, rfl, h0, r0⟩ := trodAll_cons hA
  obtain ⟨v1, vs1, d1, ds1, p1, q1, rfl, rfl, rfl, h1, r1⟩ := trodAll_cons r0
  obtain ⟨v2, vs2, d2, ds2, p2, q2, rfl, rfl, rfl, h2, r2⟩ := trodAll_cons r1
  obtain ⟨rfl, rfl, rfl⟩ := trodAll_nil r2
  obtain rfl : args = #[v0, v1, v2] := by cases args; simp_all
  obtain ⟨rfl, rfl⟩ := trodVars_none hV
  obtain ⟨a0, rfl, rfl, rfl, hwf0⟩ := open_string Tryd.underlying9 (hval 0 9 v0 rfl rfl) h0
  obtain ⟨a1, rfl, rfl, rfl, hwf1⟩ := open_int Tryd.underlying5 (hval 1 5 v1 rfl rfl) h1
  have k2 := h2
  have lt2 : ∀ x ∈ p2, x.block < W.heap.size := by obtain ⟨m, hm⟩ := k2; exact DataW.trod_lt m _ _ _ hm
  obtain ⟨fu2, hf2⟩ := h2
  obtain ⟨A2, n2, c2, rfl⟩ := okWide_slice Tryd.underlying33 (hval 2 33 v2 rfl rfl)
  obtain ⟨l2, ⟨B2, b2, eK2, hc2, hr2⟩, hwf2⟩ := (show XOpen.Opens enc Tryd.prog W 33 (Kd.slice 5 (Kd.int .u8)) _ from XOpen.opens_slice Tryd.underlying33 (by kernel_rfl) (XOpen.opens_int Tryd.underlying5)) fu2 _ _ hf2
  simp only [Value.cells, List.cons.injEq, and_true, Value.slice.injEq] at eK2
  obtain ⟨rfl, rfl, rfl⟩ := eK2
  obtain ⟨k_, hp_⟩ := PLexWhite.LexWhite a0 a1 l2 hwf0 hwf1 hwf2
  refine (liverylaw06_LexWhite.calls k_ a0 a1 _ _ l2 true W hr2 hc2 hp_).mono fun e W' ⟨he, bel0⟩ => ?_
  have bel := bel0
  subst he
  exact ⟨_, rfl, _, _, _, [], _, [], hW', trodAll_mk1 (shut_bool Tryd.underlying4 _), (trodAll_cons_mk (shut_string Tryd.underlying9 hwf0) (trodAll_cons_mk (shut_int Tryd.underlying5 hwf1) (trodAll_cons_mk (Below.trod laidOut (by kernel_rfl) (of_decide_eq_true (by kernel_rfl)) k2 bel lt2) trodAll_mk0))), rfl, bel.frame _, fun h => by cases h⟩
theorem over : Rows.lexWhiteRow.holds Tryd.pinned (OpenSpec.ofChange Rows.lexWhiteSpec) :=
  OpenClaim.holds_of_wide 4 Tryd.f4 rfl rfl rfl rfl rfl rfl rfl ⟨rfl, rfl, rfl, rfl, rfl⟩ rfl rfl rfl rfl rfl (by kernel_rfl) Tryd.func4 (by kernel_rfl)
    (of_decide_eq_true (by kernel_rfl)) (by unfold Func.isWrapper; first | (rw [if_pos (by decide +kernel)]; kernel_rfl) | (rw [if_neg (by decide +kernel)]; exact ⟨rfl, rfl⟩))
    (fun os started H enc _ => lifted os started H enc)
theorem proved : Rows.LexWhiteSaid := over
set_option maxRecDepth 100000 in
theorem card : Rows.LexWhiteCardSaid :=
  Claim7.holds_tied_plain_at .later [] [.data, .pinned] true (true, "ff61a6236d20a28b2e203b85e734c697c472de71391ed62c67a90fcd8e97fc05") true over (fun _ h => by cases h) (by kernel_rfl) (fun _ h => by cases h) lexWhite_row_tie rfl ⟨rfl, rfl⟩ (by kernel_rfl) rfl
    (fun f fn hf hfn => by
      obtain rfl : f = 4 := Option.some.inj ((show Tryd.prog.funcNamed Rows.lexWhiteRow.func = some 4 by kernel_rfl).symm.trans hf) |>.symm
      obtain rfl : fn = Tryd.f4 := (Option.some.inj (Tryd.func4.symm.trans hfn)).symm
      exact ⟨by kernel_rfl, fun j t ht => by
        rw [Tryd.params4] at ht
        have hm : t ∈ [9, 5, 33] := by simpa using Array.mem_of_getElem? ht
        have hall : ([9, 5, 33].all fun u => !Tryd.prog.wantsStandIn u) = true := by kernel_rfl
        exact (show Tryd.prog.wantsStandIn t = false by simpa using List.all_eq_true.1 hall t hm)⟩)
    (by kernel_rfl)
#print axioms card
end Go.Proofs.YtfpbapffdnochaaDoor.lexWhite
namespace Go.Proofs.YtfpbapffdnochaaDoor
/-- The row, under a short name, for the claim. -/
theorem lexWhite_holds : Rows.LexWhiteCardSaid := lexWhite.card
end Go.Proofs.YtfpbapffdnochaaDoor
