/- The row of the law StageParts: for every input the call returns true and each argument reads as it read before. No condition. -/
import Derived.Test.YtkaokiiooakleaaRows
import Derived.Test.YtkaokiiooakleaaCStagePartsW
import Derived.Test.YtkaokiiooakleaaCStageParts13
import Derived.Test.YtkaokiiooakleaaCStagePartsQ
import Derived.WalkKit
import Derived.ProofKit
import Derived.OpenShut
import Derived.ShutString
import Derived.ChangeOld
import Derived.Below
import Derived.SizedLaws
namespace Go.Proofs.Ytkaokiiooakleaa.stageParts
open Go.ChangeShapes Go.WideShapes Go.ChangeAt Go.RowKit Go.Proofs.Ytkaokiiooakleaa.PStageParts Go.Proofs.YtkaokiiooakleaaW.PrintWords
open Go.ChangeMaps (open_string shut_string)
set_option linter.unusedVariables false
theorem own : ownKnob Try.prog.godebug = none := by kernel_rfl
theorem laidOut : laidOutB Try.prog = true := by kernel_rfl
theorem opens65 {H : Type} (enc : TypeId × Value → H) (W : World) : XOpen.Opens enc Try.prog W 65 k65 (fun a : S65 => ((Lit.int .u8 a.f0).wf = true) ∧ ((Lit.int .u32 a.f1).wf = true) ∧ ((Lit.int .u32 a.f2).wf = true) ∧ ((Lit.int .i64 a.f3).wf = true) ∧ ((Lit.int .i64 a.f4).wf = true)) :=
  XOpen.opens_struct (g := fun p => (⟨p.1, p.2.1, p.2.2.1, p.2.2.2.1, p.2.2.2.2⟩ : S65)) Try.underlying65 rfl (by kernel_rfl) (XOpen.opensF_cons rfl (by kernel_rfl) (XOpen.opens_int Try.underlying5) (XOpen.opensF_cons rfl (by kernel_rfl) (XOpen.opens_int Try.underlying45) (XOpen.opensF_cons rfl (by kernel_rfl) (XOpen.opens_int Try.underlying45) (XOpen.opensF_cons rfl (by kernel_rfl) (XOpen.opens_int Try.underlying2) (XOpen.opensF_one rfl (by kernel_rfl) (XOpen.opens_int Try.underlying3)))))) (fun _ => rfl)
theorem opens50 {H : Type} (enc : TypeId × Value → H) (W : World) : XOpen.Opens enc Try.prog W 50 k50 (fun a : S50 => ((Lit.int .i64 a.f0).wf = true) ∧ ((Lit.int .i64 a.f1).wf = true) ∧ ((a.f2.length ≤ maxLen ∧ ∀ x ∈ a.f2, ((Lit.int .u8 x.f0).wf = true) ∧ ((Lit.int .u32 x.f1).wf = true) ∧ ((Lit.int .u32 x.f2).wf = true) ∧ ((Lit.int .i64 x.f3).wf = true) ∧ ((Lit.int .i64 x.f4).wf = true)))) :=
  XOpen.opens_struct (g := fun p => (⟨p.1, p.2.1, p.2.2⟩ : S50)) Try.underlying50 rfl (by kernel_rfl) (XOpen.opensF_cons rfl (by kernel_rfl) (XOpen.opens_int Try.underlying2) (XOpen.opensF_cons rfl (by kernel_rfl) (XOpen.opens_int Try.underlying2) (XOpen.opensF_one rfl (by kernel_rfl) (XOpen.opens_slice Try.underlying48 (by kernel_rfl) (opens65 enc W))))) (fun _ => rfl)
theorem opens79 {H : Type} (enc : TypeId × Value → H) (W : World) : XOpen.Opens enc Try.prog W 79 k79 (fun a : S79 => (((Lit.int .i64 a.f0.f0).wf = true) ∧ ((Lit.int .i64 a.f0.f1).wf = true) ∧ ((a.f0.f2.length ≤ maxLen ∧ ∀ x ∈ a.f0.f2, ((Lit.int .u8 x.f0).wf = true) ∧ ((Lit.int .u32 x.f1).wf = true) ∧ ((Lit.int .u32 x.f2).wf = true) ∧ ((Lit.int .i64 x.f3).wf = true) ∧ ((Lit.int .i64 x.f4).wf = true)))) ∧ ((Lit.int .i64 a.f1).wf = true)) :=
  XOpen.opens_struct (g := fun p => (⟨p.1, p.2⟩ : S79)) Try.underlying79 rfl (by kernel_rfl) (XOpen.opensF_cons rfl (by kernel_rfl) (opens50 enc W) (XOpen.opensF_one rfl (by kernel_rfl) (XOpen.opens_int Try.underlying3))) (fun _ => rfl)
set_option maxRecDepth 100000 in
theorem lifted (os : Os) (started : os.Started) (H : Type) (enc : TypeId × Value → H) :
    ReturnsInHanded {} Try.checked os 13 .any (Rows.stagePartsSpec.pre6 enc Try.prog Try.f13 Rows.stagePartsRow.domain false) (Rows.stagePartsSpec.post enc Try.prog Try.f13 false true false false) := by
  refine returnsInHanded_of_change_sized (C := Try.checked) own started (by kernel_rfl) Try.func13
    (ChangeSpec.witness6 (enc := enc) (C := Try.checked) false ⟨#[], #[.agg #[.int .i64 0, .int .i64 0, .slice none 0 0, .int .i64 0], .int .u8 0], []⟩ 8 (by kernel_rfl) (by kernel_rfl) (by kernel_rfl) (by kernel_rfl)) ?_
  intro W base args ds gs before hval0 hW hcnd hsz0 _
  have hval : ∀ (j : Nat) t v, Try.f13.params[j]? = some t → args[j]? = some v → Value.okWide Try.prog W .any base t v := hval0
  have hW' := hW
  obtain ⟨p, q, hA0, hV, rfl, hfz, hnd⟩ := hW
  have hA : DataW.TrodAll enc Try.prog W 0 (fun _ => true) true Try.f13.params.toList args.toList ds p := hA0
  rw [Try.params13] at hA hval
  obtain ⟨v0, vs0, d0, ds0, p0, q0, hargs, rfl, rfl, h0, r0⟩ := trodAll_cons hA
  obtain ⟨v1, vs1, d1, ds1, p1, q1, rfl, rfl, rfl, h1, r1⟩ := trodAll_cons r0
  obtain ⟨rfl, rfl, rfl⟩ := trodAll_nil r1
  obtain rfl : args = #[v0, v1] := by cases args; simp_all
  obtain ⟨rfl, rfl⟩ := trodVars_none hV
  have k0 := h0
  have lt0 : ∀ x ∈ p0, x.block < W.heap.size := by obtain ⟨m, hm⟩ := k0; exact DataW.trod_lt m _ _ _ hm
  obtain ⟨fu0, hf0⟩ := h0
  obtain ⟨cs0, rfl, _⟩ := okWide_struct Try.underlying79 (hval 0 79 v0 rfl rfl)
  obtain ⟨a0, hK0, hwf0⟩ := opens79 enc W fu0 cs0.toList _ hf0
  obtain ⟨_, _, e0, ⟨_, _, rfl, rfl, _, _, rfl, rfl, A0_2, c0_2, rfl, hc0_2, hr0_2⟩, rfl⟩ := hK0
  obtain rfl : cs0 = #[.int .i64 a0.f0.f0, .int .i64 a0.f0.f1, .slice A0_2 a0.f0.f2.length c0_2, .int .i64 a0.f1] := by cases cs0; simpa using e0
  obtain ⟨a1, rfl, rfl, rfl, hwf1⟩ := open_int Try.underlying5 (hval 1 5 v1 rfl rfl) h1
  obtain ⟨k_, hp_⟩ := PStageParts.StageParts (a0.f0.f0) (a0.f0.f1) a0.f0.f2 (a0.f1) a1 hwf0 hwf1
  refine (liverylaw18_StageParts.calls k_ (a0.f0.f0) (a0.f0.f1) _ _ a0.f0.f2 (a0.f1) a1 true W hr0_2 hc0_2 hp_).mono fun e W' ⟨he, bel0⟩ => ?_
  have bel := bel0
  subst he
  exact ⟨_, rfl, _, _, _, [], _, [], hW', trodAll_mk1 (shut_bool Try.underlying4 _), (trodAll_cons_mk (Below.trod laidOut (by kernel_rfl) (of_decide_eq_true (by kernel_rfl)) k0 bel lt0) (trodAll_cons_mk (shut_int Try.underlying5 hwf1) trodAll_mk0)), rfl, bel.frame _, fun h => by cases h⟩
theorem over : Rows.stagePartsRow.holds Try.pinned (OpenSpec.ofChange Rows.stagePartsSpec) :=
  OpenClaim.holds_of_wide 13 Try.f13 rfl rfl rfl rfl rfl rfl rfl ⟨rfl, rfl, rfl, rfl, rfl⟩ rfl rfl rfl rfl rfl (by kernel_rfl) Try.func13 (by kernel_rfl)
    (of_decide_eq_true (by kernel_rfl)) (by unfold Func.isWrapper; first | (rw [if_pos (by decide +kernel)]; kernel_rfl) | (rw [if_neg (by decide +kernel)]; exact ⟨rfl, rfl⟩))
    (fun os started H enc _ => lifted os started H enc)
theorem proved : Rows.StagePartsSaid := over
#print axioms proved
end Go.Proofs.Ytkaokiiooakleaa.stageParts
namespace Go.Proofs.Ytkaokiiooakleaa
/-- The row, under a short name, for the claim. -/
theorem stageParts_holds : Rows.StagePartsSaid := stageParts.proved
end Go.Proofs.Ytkaokiiooakleaa
