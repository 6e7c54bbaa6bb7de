/- The row of the law NodeNone: for every input the call returns true and each argument reads as it read before. No condition. -/
import Derived.Test.YthibppfdonepoaaRows
import Derived.Test.YthibppfdonepoaaCNodeNoneW
import Derived.Test.YthibppfdonepoaaCNodeNone1
import Derived.Test.YthibppfdonepoaaCNodeNoneQ
import Derived.WalkKit
import Derived.ProofKit
import Derived.OpenShut
import Derived.ShutString
import Derived.ChangeOld
import Derived.Below
import Derived.SizedLaws
namespace Go.Proofs.Ythibppfdonepoaa.nodeNone
open Go.ChangeShapes Go.WideShapes Go.ChangeAt Go.RowKit Go.Proofs.Ythibppfdonepoaa.PNodeNone Go.Proofs.YthibppfdonepoaaW.PrintWords
open Go.ChangeMaps (open_string shut_string)
set_option linter.unusedVariables false
theorem own : ownKnob Try.prog.godebug = none := by kernel_rfl
theorem laidOut : laidOutB Try.prog = true := by kernel_rfl
theorem opens23 {H : Type} (enc : TypeId × Value → H) (W : World) : XOpen.Opens enc Try.prog W 23 k23 (fun a : S23 => ((Lit.int .i64 a.f0).wf = true) ∧ ((Lit.int .i64 a.f1).wf = true)) :=
  XOpen.opens_struct (g := fun p => (⟨p.1, p.2⟩ : S23)) Try.underlying23 rfl (by kernel_rfl) (XOpen.opensF_cons rfl (by kernel_rfl) (XOpen.opens_int Try.underlying2) (XOpen.opensF_one rfl (by kernel_rfl) (XOpen.opens_int Try.underlying2))) (fun _ => rfl)
theorem opens39 {H : Type} (enc : TypeId × Value → H) (W : World) : XOpen.Opens enc Try.prog W 39 k39 (fun a : S39 => ((Lit.int .u32 a.f0).wf = true) ∧ (((Lit.int .i64 a.f1.f0).wf = true) ∧ ((Lit.int .i64 a.f1.f1).wf = true))) :=
  XOpen.opens_struct (g := fun p => (⟨p.1, p.2⟩ : S39)) Try.underlying39 rfl (by kernel_rfl) (XOpen.opensF_cons rfl (by kernel_rfl) (XOpen.opens_int Try.underlying37) (XOpen.opensF_one rfl (by kernel_rfl) (opens23 enc W))) (fun _ => rfl)
set_option maxRecDepth 100000 in
theorem lifted (os : Os) (started : os.Started) (H : Type) (enc : TypeId × Value → H) :
    ReturnsInHanded {} Try.checked os 6 .any (Rows.nodeNoneSpec.pre6 enc Try.prog Try.f6 Rows.nodeNoneRow.domain false) (Rows.nodeNoneSpec.post enc Try.prog Try.f6 false true false false) := by
  refine returnsInHanded_of_change_sized (C := Try.checked) own started (by kernel_rfl) Try.func6
    (ChangeSpec.witness6 (enc := enc) (C := Try.checked) false ⟨#[], #[.agg #[.int .u32 0, .int .i64 0, .int .i64 0]], []⟩ 8 (by kernel_rfl) (by kernel_rfl) (by kernel_rfl) (by kernel_rfl)) ?_
  intro W base args ds gs before hval0 hW hcnd hsz0 _
  have hval : ∀ (j : Nat) t v, Try.f6.params[j]? = some t → args[j]? = some v → Value.okWide Try.prog W .any base t v := hval0
  have hW' := hW
  obtain ⟨p, q, hA0, hV, rfl, hfz, hnd⟩ := hW
  have hA : DataW.TrodAll enc Try.prog W 0 (fun _ => true) true Try.f6.params.toList args.toList ds p := hA0
  rw [Try.params6] at hA hval
  obtain ⟨v0, vs0, d0, ds0, p0, q0, hargs, rfl, rfl, h0, r0⟩ := trodAll_cons hA
  obtain ⟨rfl, rfl, rfl⟩ := trodAll_nil r0
  obtain rfl : args = #[v0] := by cases args; simp_all
  obtain ⟨rfl, rfl⟩ := trodVars_none hV
  have k0 := h0
  have lt0 : ∀ x ∈ p0, x.block < W.heap.size := by obtain ⟨m, hm⟩ := k0; exact DataW.trod_lt m _ _ _ hm
  obtain ⟨fu0, hf0⟩ := h0
  obtain ⟨cs0, rfl, _⟩ := okWide_struct Try.underlying39 (hval 0 39 v0 rfl rfl)
  obtain ⟨a0, hK0, hwf0⟩ := opens39 enc W fu0 cs0.toList _ hf0
  obtain ⟨_, _, e0, rfl, _, _, rfl, rfl, rfl⟩ := hK0
  obtain rfl : cs0 = #[.int .u32 a0.f0, .int .i64 a0.f1.f0, .int .i64 a0.f1.f1] := by cases cs0; simpa using e0
  have hp_ := PNodeNone.NodeNone (a0.f0) (a0.f1.f0) (a0.f1.f1) hwf0
  refine (liverylaw22_NodeNone.calls (a0.f0) (a0.f1.f0) (a0.f1.f1) true W hp_).mono fun e W' ⟨he, bel0⟩ => ?_
  have bel := bel0
  subst he
  exact ⟨_, rfl, _, _, _, [], _, [], hW', trodAll_mk1 (shut_bool Try.underlying4 _), (trodAll_cons_mk (Below.trod laidOut (by kernel_rfl) (of_decide_eq_true (by kernel_rfl)) k0 bel lt0) trodAll_mk0), rfl, bel.frame _, fun h => by cases h⟩
theorem over : Rows.nodeNoneRow.holds Try.pinned (OpenSpec.ofChange Rows.nodeNoneSpec) :=
  OpenClaim.holds_of_wide 6 Try.f6 rfl rfl rfl rfl rfl rfl rfl ⟨rfl, rfl, rfl, rfl, rfl⟩ rfl rfl rfl rfl rfl (by kernel_rfl) Try.func6 (by kernel_rfl)
    (of_decide_eq_true (by kernel_rfl)) (by unfold Func.isWrapper; first | (rw [if_pos (by decide +kernel)]; kernel_rfl) | (rw [if_neg (by decide +kernel)]; exact ⟨rfl, rfl⟩))
    (fun os started H enc _ => lifted os started H enc)
theorem proved : Rows.NodeNoneSaid := over
#print axioms proved
end Go.Proofs.Ythibppfdonepoaa.nodeNone
namespace Go.Proofs.Ythibppfdonepoaa
/-- The row, under a short name, for the claim. -/
theorem nodeNone_holds : Rows.NodeNoneSaid := nodeNone.proved
end Go.Proofs.Ythibppfdonepoaa
