/- The row of the law ShapeOne: for every input the call returns true and each argument reads as it read before. No condition. -/
import Derived.Test.YtkaokiiooakleaaRows
import Derived.Test.YtkaokiiooakleaaCShapeOneW
import Derived.Test.YtkaokiiooakleaaCShapeOne8
import Derived.Test.YtkaokiiooakleaaCShapeOneQ
import Derived.WalkKit
import Derived.ProofKit
import Derived.OpenShut
import Derived.ShutString
import Derived.ChangeOld
import Derived.Below
import Derived.SizedLaws
namespace Go.Proofs.Ytkaokiiooakleaa.shapeOne
open Go.ChangeShapes Go.WideShapes Go.ChangeAt Go.RowKit Go.Proofs.Ytkaokiiooakleaa.PShapeOne Go.Proofs.YtkaokiiooakleaaW.PrintWords
open Go.ChangeMaps (open_string shut_string)
set_option linter.unusedVariables false
theorem own : ownKnob Try.prog.godebug = none := by kernel_rfl
theorem laidOut : laidOutB Try.prog = true := by kernel_rfl
theorem opens65 {H : Type} (enc : TypeId × Value → H) (W : World) : XOpen.Opens enc Try.prog W 65 k65 (fun a : S65 => ((Lit.int .u8 a.f0).wf = true) ∧ ((Lit.int .u32 a.f1).wf = true) ∧ ((Lit.int .u32 a.f2).wf = true) ∧ ((Lit.int .i64 a.f3).wf = true) ∧ ((Lit.int .i64 a.f4).wf = true)) :=
  XOpen.opens_struct (g := fun p => (⟨p.1, p.2.1, p.2.2.1, p.2.2.2.1, p.2.2.2.2⟩ : S65)) Try.underlying65 rfl (by kernel_rfl) (XOpen.opensF_cons rfl (by kernel_rfl) (XOpen.opens_int Try.underlying5) (XOpen.opensF_cons rfl (by kernel_rfl) (XOpen.opens_int Try.underlying45) (XOpen.opensF_cons rfl (by kernel_rfl) (XOpen.opens_int Try.underlying45) (XOpen.opensF_cons rfl (by kernel_rfl) (XOpen.opens_int Try.underlying2) (XOpen.opensF_one rfl (by kernel_rfl) (XOpen.opens_int Try.underlying3)))))) (fun _ => rfl)
theorem opens50 {H : Type} (enc : TypeId × Value → H) (W : World) : XOpen.Opens enc Try.prog W 50 k50 (fun a : S50 => ((Lit.int .i64 a.f0).wf = true) ∧ ((Lit.int .i64 a.f1).wf = true) ∧ ((a.f2.length ≤ maxLen ∧ ∀ x ∈ a.f2, ((Lit.int .u8 x.f0).wf = true) ∧ ((Lit.int .u32 x.f1).wf = true) ∧ ((Lit.int .u32 x.f2).wf = true) ∧ ((Lit.int .i64 x.f3).wf = true) ∧ ((Lit.int .i64 x.f4).wf = true)))) :=
  XOpen.opens_struct (g := fun p => (⟨p.1, p.2.1, p.2.2⟩ : S50)) Try.underlying50 rfl (by kernel_rfl) (XOpen.opensF_cons rfl (by kernel_rfl) (XOpen.opens_int Try.underlying2) (XOpen.opensF_cons rfl (by kernel_rfl) (XOpen.opens_int Try.underlying2) (XOpen.opensF_one rfl (by kernel_rfl) (XOpen.opens_slice Try.underlying48 (by kernel_rfl) (opens65 enc W))))) (fun _ => rfl)
set_option maxRecDepth 100000 in
theorem lifted (os : Os) (started : os.Started) (H : Type) (enc : TypeId × Value → H) :
    ReturnsInHanded {} Try.checked os 9 .any (Rows.shapeOneSpec.pre6 enc Try.prog Try.f9 Rows.shapeOneRow.domain false) (Rows.shapeOneSpec.post enc Try.prog Try.f9 false true false false) := by
  refine returnsInHanded_of_change_sized (C := Try.checked) own started (by kernel_rfl) Try.func9
    (ChangeSpec.witness6 (enc := enc) (C := Try.checked) false ⟨#[], #[.agg #[.int .i64 0, .int .i64 0, .slice none 0 0], .agg #[.int .u8 0, .int .u32 0, .int .u32 0, .int .i64 0, .int .i64 0], .int .u64 0], []⟩ 8 (by kernel_rfl) (by kernel_rfl) (by kernel_rfl) (by kernel_rfl)) ?_
  intro W base args ds gs before hval0 hW hcnd hsz0 _
  have hval : ∀ (j : Nat) t v, Try.f9.params[j]? = some t → args[j]? = some v → Value.okWide Try.prog W .any base t v := hval0
  have hW' := hW
  obtain ⟨p, q, hA0, hV, rfl, hfz, hnd⟩ := hW
  have hA : DataW.TrodAll enc Try.prog W 0 (fun _ => true) true Try.f9.params.toList args.toList ds p := hA0
  rw [Try.params9] at hA hval
  obtain ⟨v0, vs0, d0, ds0, p0, q0, hargs, rfl, rfl, h0, r0⟩ := trodAll_cons hA
  obtain ⟨v1, vs1, d1, ds1, p1, q1, rfl, rfl, rfl, h1, r1⟩ := trodAll_cons r0
  obtain ⟨v2, vs2, d2, ds2, p2, q2, rfl, rfl, rfl, h2, r2⟩ := trodAll_cons r1
  obtain ⟨rfl, rfl, rfl⟩ := trodAll_nil r2
  obtain rfl : args = #[v0, v1, v2] := by cases args; simp_all
  obtain ⟨rfl, rfl⟩ := trodVars_none hV
  have k0 := h0
  have lt0 : ∀ x ∈ p0, x.block < W.heap.size := by obtain ⟨m, hm⟩ := k0; exact DataW.trod_lt m _ _ _ hm
  obtain ⟨fu0, hf0⟩ := h0
  obtain ⟨cs0, rfl, _⟩ := okWide_struct Try.underlying50 (hval 0 50 v0 rfl rfl)
  obtain ⟨a0, hK0, hwf0⟩ := opens50 enc W fu0 cs0.toList _ hf0
  obtain ⟨_, _, e0, rfl, _, _, rfl, rfl, A0_2, c0_2, rfl, hc0_2, hr0_2⟩ := hK0
  obtain rfl : cs0 = #[.int .i64 a0.f0, .int .i64 a0.f1, .slice A0_2 a0.f2.length c0_2] := by cases cs0; simpa using e0
  have k1 := h1
  have lt1 : ∀ x ∈ p1, x.block < W.heap.size := by obtain ⟨m, hm⟩ := k1; exact DataW.trod_lt m _ _ _ hm
  obtain ⟨fu1, hf1⟩ := h1
  obtain ⟨cs1, rfl, _⟩ := okWide_struct Try.underlying65 (hval 1 65 v1 rfl rfl)
  obtain ⟨a1, hK1, hwf1⟩ := opens65 enc W fu1 cs1.toList _ hf1
  obtain ⟨_, _, e1, rfl, _, _, rfl, rfl, _, _, rfl, rfl, _, _, rfl, rfl, rfl⟩ := hK1
  obtain rfl : cs1 = #[.int .u8 a1.f0, .int .u32 a1.f1, .int .u32 a1.f2, .int .i64 a1.f3, .int .i64 a1.f4] := by cases cs1; simpa using e1
  obtain ⟨a2, rfl, rfl, rfl, hwf2⟩ := open_int Try.underlying67 (hval 2 67 v2 rfl rfl) h2
  obtain ⟨k_, hp_⟩ := PShapeOne.ShapeOne (a0.f0) (a0.f1) a0.f2 (a1.f0) (a1.f1) (a1.f2) (a1.f3) (a1.f4) a2 hwf0 hwf1 hwf2
  refine (liverylaw08_ShapeOne.calls k_ (a0.f0) (a0.f1) _ _ a0.f2 (a1.f0) (a1.f1) (a1.f2) (a1.f3) (a1.f4) a2 true W hr0_2 hc0_2 hp_).mono fun e W' ⟨he, bel0⟩ => ?_
  have bel := bel0
  subst he
  exact ⟨_, rfl, _, _, _, [], _, [], hW', trodAll_mk1 (shut_bool Try.underlying4 _), (trodAll_cons_mk (Below.trod laidOut (by kernel_rfl) (of_decide_eq_true (by kernel_rfl)) k0 bel lt0) (trodAll_cons_mk (Below.trod laidOut (by kernel_rfl) (of_decide_eq_true (by kernel_rfl)) k1 bel lt1) (trodAll_cons_mk (shut_int Try.underlying67 hwf2) trodAll_mk0))), rfl, bel.frame _, fun h => by cases h⟩
theorem over : Rows.shapeOneRow.holds Try.pinned (OpenSpec.ofChange Rows.shapeOneSpec) :=
  OpenClaim.holds_of_wide 9 Try.f9 rfl rfl rfl rfl rfl rfl rfl ⟨rfl, rfl, rfl, rfl, rfl⟩ rfl rfl rfl rfl rfl (by kernel_rfl) Try.func9 (by kernel_rfl)
    (of_decide_eq_true (by kernel_rfl)) (by unfold Func.isWrapper; first | (rw [if_pos (by decide +kernel)]; kernel_rfl) | (rw [if_neg (by decide +kernel)]; exact ⟨rfl, rfl⟩))
    (fun os started H enc _ => lifted os started H enc)
theorem proved : Rows.ShapeOneSaid := over
#print axioms proved
end Go.Proofs.Ytkaokiiooakleaa.shapeOne
namespace Go.Proofs.Ytkaokiiooakleaa
/-- The row, under a short name, for the claim. -/
theorem shapeOne_holds : Rows.ShapeOneSaid := shapeOne.proved
end Go.Proofs.Ytkaokiiooakleaa
