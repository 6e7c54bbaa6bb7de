/- The row of the law LedgerNone: for every input the call returns true and each argument reads as it read before. No condition. -/
import Derived.Test.YthibppfdonepoaaRows
import Derived.Test.YthibppfdonepoaaCLedgerNoneW
import Derived.Test.YthibppfdonepoaaCLedgerNone1
import Derived.Test.YthibppfdonepoaaCLedgerNoneQ
import Derived.WalkKit
import Derived.ProofKit
import Derived.OpenShut
import Derived.ShutString
import Derived.ChangeOld
import Derived.Below
import Derived.SizedLaws
namespace Go.Proofs.Ythibppfdonepoaa.ledgerNone
open Go.ChangeShapes Go.WideShapes Go.ChangeAt Go.RowKit Go.Proofs.Ythibppfdonepoaa.PLedgerNone Go.Proofs.YthibppfdonepoaaW.PrintWords
open Go.ChangeMaps (open_string shut_string)
set_option linter.unusedVariables false
theorem own : ownKnob Try.prog.godebug = none := by kernel_rfl
theorem laidOut : laidOutB Try.prog = true := by kernel_rfl
theorem opens23 {H : Type} (enc : TypeId × Value → H) (W : World) : XOpen.Opens enc Try.prog W 23 k23 (fun a : S23 => ((Lit.int .i64 a.f0).wf = true) ∧ ((Lit.int .i64 a.f1).wf = true)) :=
  XOpen.opens_struct (g := fun p => (⟨p.1, p.2⟩ : S23)) Try.underlying23 rfl (by kernel_rfl) (XOpen.opensF_cons rfl (by kernel_rfl) (XOpen.opens_int Try.underlying2) (XOpen.opensF_one rfl (by kernel_rfl) (XOpen.opens_int Try.underlying2))) (fun _ => rfl)
theorem opens39 {H : Type} (enc : TypeId × Value → H) (W : World) : XOpen.Opens enc Try.prog W 39 k39 (fun a : S39 => ((Lit.int .u32 a.f0).wf = true) ∧ (((Lit.int .i64 a.f1.f0).wf = true) ∧ ((Lit.int .i64 a.f1.f1).wf = true))) :=
  XOpen.opens_struct (g := fun p => (⟨p.1, p.2⟩ : S39)) Try.underlying39 rfl (by kernel_rfl) (XOpen.opensF_cons rfl (by kernel_rfl) (XOpen.opens_int Try.underlying37) (XOpen.opensF_one rfl (by kernel_rfl) (opens23 enc W))) (fun _ => rfl)
theorem opens107 {H : Type} (enc : TypeId × Value → H) (W : World) : XOpen.Opens enc Try.prog W 107 k107 (fun a : S107 => ((Lit.int .u8 a.f0).wf = true) ∧ (((Lit.int .u32 a.f1.f0).wf = true) ∧ (((Lit.int .i64 a.f1.f1.f0).wf = true) ∧ ((Lit.int .i64 a.f1.f1.f1).wf = true))) ∧ ((Lit.int .u32 a.f2).wf = true) ∧ (True) ∧ ((Lit.int .i64 a.f4).wf = true)) :=
  XOpen.opens_struct (g := fun p => (⟨p.1, p.2.1, p.2.2.1, p.2.2.2.1, p.2.2.2.2⟩ : S107)) Try.underlying107 rfl (by kernel_rfl) (XOpen.opensF_cons rfl (by kernel_rfl) (XOpen.opens_int Try.underlying5) (XOpen.opensF_cons rfl (by kernel_rfl) (opens39 enc W) (XOpen.opensF_cons rfl (by kernel_rfl) (XOpen.opens_int Try.underlying37) (XOpen.opensF_cons rfl (by kernel_rfl) (XOpen.opens_bool Try.underlying4) (XOpen.opensF_one rfl (by kernel_rfl) (XOpen.opens_int Try.underlying2)))))) (fun _ => rfl)
set_option maxRecDepth 100000 in
theorem lifted (os : Os) (started : os.Started) (H : Type) (enc : TypeId × Value → H) :
    ReturnsInHanded {} Try.checked os 14 .any (Rows.ledgerNoneSpec.pre6 enc Try.prog Try.f14 Rows.ledgerNoneRow.domain false) (Rows.ledgerNoneSpec.post enc Try.prog Try.f14 false true false false) := by
  refine returnsInHanded_of_change_sized (C := Try.checked) own started (by kernel_rfl) Try.func14
    (ChangeSpec.witness6 (enc := enc) (C := Try.checked) false ⟨#[], #[.agg #[.int .u8 0, .int .u32 0, .int .i64 0, .int .i64 0, .int .u32 0, .bool false, .int .i64 0]], []⟩ 8 (by kernel_rfl) (by kernel_rfl) (by kernel_rfl) (by kernel_rfl)) ?_
  intro W base args ds gs before hval0 hW hcnd hsz0 _
  have hval : ∀ (j : Nat) t v, Try.f14.params[j]? = some t → args[j]? = some v → Value.okWide Try.prog W .any base t v := hval0
  have hW' := hW
  obtain ⟨p, q, hA0, hV, rfl, hfz, hnd⟩ := hW
  have hA : DataW.TrodAll enc Try.prog W 0 (fun _ => true) true Try.f14.params.toList args.toList ds p := hA0
  rw [Try.params14] at hA hval
  obtain ⟨v0, vs0, d0, ds0, p0, q0, hargs, rfl, rfl, h0, r0⟩ := trodAll_cons hA
  obtain ⟨rfl, rfl, rfl⟩ := trodAll_nil r0
  obtain rfl : args = #[v0] := by cases args; simp_all
  obtain ⟨rfl, rfl⟩ := trodVars_none hV
  have k0 := h0
  have lt0 : ∀ x ∈ p0, x.block < W.heap.size := by obtain ⟨m, hm⟩ := k0; exact DataW.trod_lt m _ _ _ hm
  obtain ⟨fu0, hf0⟩ := h0
  obtain ⟨cs0, rfl, _⟩ := okWide_struct Try.underlying107 (hval 0 107 v0 rfl rfl)
  obtain ⟨a0, hK0, hwf0⟩ := opens107 enc W fu0 cs0.toList _ hf0
  obtain ⟨_, _, e0, rfl, _, _, rfl, ⟨_, _, rfl, rfl, _, _, rfl, rfl, rfl⟩, _, _, rfl, rfl, _, _, rfl, rfl, rfl⟩ := hK0
  obtain rfl : cs0 = #[.int .u8 a0.f0, .int .u32 a0.f1.f0, .int .i64 a0.f1.f1.f0, .int .i64 a0.f1.f1.f1, .int .u32 a0.f2, .bool a0.f3, .int .i64 a0.f4] := by cases cs0; simpa using e0
  have hp_ := PLedgerNone.LedgerNone (a0.f0) (a0.f1.f0) (a0.f1.f1.f0) (a0.f1.f1.f1) (a0.f2) (a0.f3) (a0.f4) hwf0
  refine (liverylaw23_LedgerNone.calls (a0.f0) (a0.f1.f0) (a0.f1.f1.f0) (a0.f1.f1.f1) (a0.f2) (a0.f3) (a0.f4) true W hp_).mono fun e W' ⟨he, bel0⟩ => ?_
  have bel := bel0
  subst he
  exact ⟨_, rfl, _, _, _, [], _, [], hW', trodAll_mk1 (shut_bool Try.underlying4 _), (trodAll_cons_mk (Below.trod laidOut (by kernel_rfl) (of_decide_eq_true (by kernel_rfl)) k0 bel lt0) trodAll_mk0), rfl, bel.frame _, fun h => by cases h⟩
theorem over : Rows.ledgerNoneRow.holds Try.pinned (OpenSpec.ofChange Rows.ledgerNoneSpec) :=
  OpenClaim.holds_of_wide 14 Try.f14 rfl rfl rfl rfl rfl rfl rfl ⟨rfl, rfl, rfl, rfl, rfl⟩ rfl rfl rfl rfl rfl (by kernel_rfl) Try.func14 (by kernel_rfl)
    (of_decide_eq_true (by kernel_rfl)) (by unfold Func.isWrapper; first | (rw [if_pos (by decide +kernel)]; kernel_rfl) | (rw [if_neg (by decide +kernel)]; exact ⟨rfl, rfl⟩))
    (fun os started H enc _ => lifted os started H enc)
theorem proved : Rows.LedgerNoneSaid := over
#print axioms proved
end Go.Proofs.Ythibppfdonepoaa.ledgerNone
namespace Go.Proofs.Ythibppfdonepoaa
/-- The row, under a short name, for the claim. -/
theorem ledgerNone_holds : Rows.LedgerNoneSaid := ledgerNone.proved
end Go.Proofs.Ythibppfdonepoaa
