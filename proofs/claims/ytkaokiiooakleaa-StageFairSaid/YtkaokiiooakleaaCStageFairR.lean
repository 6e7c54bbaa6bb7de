/- The row of the law StageFair: for every input the call returns true and each argument reads as it read before. No condition. -/
import Derived.Test.YtkaokiiooakleaaRows
import Derived.Test.YtkaokiiooakleaaCStageFairW
import Derived.Test.YtkaokiiooakleaaCStageFair12
import Derived.Test.YtkaokiiooakleaaCStageFairQ
import Derived.WalkKit
import Derived.ProofKit
import Derived.OpenShut
import Derived.ShutString
import Derived.ChangeOld
import Derived.Below
import Derived.SizedLaws
namespace Go.Proofs.Ytkaokiiooakleaa.stageFair
open Go.ChangeShapes Go.WideShapes Go.ChangeAt Go.RowKit Go.Proofs.Ytkaokiiooakleaa.PStageFair Go.Proofs.YtkaokiiooakleaaW.PrintWords
open Go.ChangeMaps (open_string shut_string)
set_option linter.unusedVariables false
theorem own : ownKnob Try.prog.godebug = none := by kernel_rfl
theorem laidOut : laidOutB Try.prog = true := by kernel_rfl
theorem opens71 {H : Type} (enc : TypeId × Value → H) (W : World) : XOpen.Opens enc Try.prog W 71 k71 (fun a : S71 => ((Lit.int .i64 a.f0).wf = true) ∧ ((Lit.int .i64 a.f1).wf = true)) :=
  XOpen.opens_struct (g := fun p => (⟨p.1, p.2⟩ : S71)) Try.underlying71 rfl (by kernel_rfl) (XOpen.opensF_cons rfl (by kernel_rfl) (XOpen.opens_int Try.underlying2) (XOpen.opensF_one rfl (by kernel_rfl) (XOpen.opens_int Try.underlying2))) (fun _ => rfl)
set_option maxRecDepth 100000 in
theorem lifted (os : Os) (started : os.Started) (H : Type) (enc : TypeId × Value → H) :
    ReturnsInHanded {} Try.checked os 12 .any (Rows.stageFairSpec.pre6 enc Try.prog Try.f12 Rows.stageFairRow.domain false) (Rows.stageFairSpec.post enc Try.prog Try.f12 false true false false) := by
  refine returnsInHanded_of_change_sized (C := Try.checked) own started (by kernel_rfl) Try.func12
    (ChangeSpec.witness6 (enc := enc) (C := Try.checked) false ⟨#[], #[.agg #[.int .i64 0, .int .i64 0], .slice none 0 0], []⟩ 8 (by kernel_rfl) (by kernel_rfl) (by kernel_rfl) (by kernel_rfl)) ?_
  intro W base args ds gs before hval0 hW hcnd hsz0 _
  have hval : ∀ (j : Nat) t v, Try.f12.params[j]? = some t → args[j]? = some v → Value.okWide Try.prog W .any base t v := hval0
  have hW' := hW
  obtain ⟨p, q, hA0, hV, rfl, hfz, hnd⟩ := hW
  have hA : DataW.TrodAll enc Try.prog W 0 (fun _ => true) true Try.f12.params.toList args.toList ds p := hA0
  rw [Try.params12] at hA hval
  obtain ⟨v0, vs0, d0, ds0, p0, q0, hargs, rfl, rfl, h0, r0⟩ := trodAll_cons hA
  obtain ⟨v1, vs1, d1, ds1, p1, q1, rfl, rfl, rfl, h1, r1⟩ := trodAll_cons r0
  obtain ⟨rfl, rfl, rfl⟩ := trodAll_nil r1
  obtain rfl : args = #[v0, v1] := by cases args; simp_all
  obtain ⟨rfl, rfl⟩ := trodVars_none hV
  have k0 := h0
  have lt0 : ∀ x ∈ p0, x.block < W.heap.size := by obtain ⟨m, hm⟩ := k0; exact DataW.trod_lt m _ _ _ hm
  obtain ⟨fu0, hf0⟩ := h0
  obtain ⟨cs0, rfl, _⟩ := okWide_struct Try.underlying71 (hval 0 71 v0 rfl rfl)
  obtain ⟨a0, hK0, hwf0⟩ := opens71 enc W fu0 cs0.toList _ hf0
  obtain ⟨_, _, e0, rfl, rfl⟩ := hK0
  obtain rfl : cs0 = #[.int .i64 a0.f0, .int .i64 a0.f1] := by cases cs0; simpa using e0
  have k1 := h1
  have lt1 : ∀ x ∈ p1, x.block < W.heap.size := by obtain ⟨m, hm⟩ := k1; exact DataW.trod_lt m _ _ _ hm
  obtain ⟨fu1, hf1⟩ := h1
  obtain ⟨A1, n1, c1, rfl⟩ := okWide_slice Try.underlying72 (hval 1 72 v1 rfl rfl)
  obtain ⟨l1, ⟨B1, b1, eK1, hc1, hr1⟩, hwf1⟩ := (show XOpen.Opens enc Try.prog W 72 (Kd.slice 2 (Kd.int .i64)) _ from XOpen.opens_slice Try.underlying72 (by kernel_rfl) (XOpen.opens_int Try.underlying2)) fu1 _ _ hf1
  simp only [Value.cells, List.cons.injEq, and_true, Value.slice.injEq] at eK1
  obtain ⟨rfl, rfl, rfl⟩ := eK1
  obtain ⟨k_, hp_⟩ := PStageFair.StageFair (a0.f0) (a0.f1) l1 hwf0 hwf1
  refine (liverylaw18_StageFair.calls k_ (a0.f0) (a0.f1) _ _ l1 true W hr1 hc1 hp_).mono fun e W' ⟨he, bel0⟩ => ?_
  have bel := bel0
  subst he
  exact ⟨_, rfl, _, _, _, [], _, [], hW', trodAll_mk1 (shut_bool Try.underlying4 _), (trodAll_cons_mk (Below.trod laidOut (by kernel_rfl) (of_decide_eq_true (by kernel_rfl)) k0 bel lt0) (trodAll_cons_mk (Below.trod laidOut (by kernel_rfl) (of_decide_eq_true (by kernel_rfl)) k1 bel lt1) trodAll_mk0)), rfl, bel.frame _, fun h => by cases h⟩
theorem over : Rows.stageFairRow.holds Try.pinned (OpenSpec.ofChange Rows.stageFairSpec) :=
  OpenClaim.holds_of_wide 12 Try.f12 rfl rfl rfl rfl rfl rfl rfl ⟨rfl, rfl, rfl, rfl, rfl⟩ rfl rfl rfl rfl rfl (by kernel_rfl) Try.func12 (by kernel_rfl)
    (of_decide_eq_true (by kernel_rfl)) (by unfold Func.isWrapper; first | (rw [if_pos (by decide +kernel)]; kernel_rfl) | (rw [if_neg (by decide +kernel)]; exact ⟨rfl, rfl⟩))
    (fun os started H enc _ => lifted os started H enc)
theorem proved : Rows.StageFairSaid := over
#print axioms proved
end Go.Proofs.Ytkaokiiooakleaa.stageFair
namespace Go.Proofs.Ytkaokiiooakleaa
/-- The row, under a short name, for the claim. -/
theorem stageFair_holds : Rows.StageFairSaid := stageFair.proved
end Go.Proofs.Ytkaokiiooakleaa
