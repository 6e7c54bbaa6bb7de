/- The row of the law LedgerLost: for every input the call returns true and each argument reads as it read before. No condition. -/
import Derived.Test.YthibppfdonepoaaRows
import Derived.Test.YthibppfdonepoaaCLedgerLostW
import Derived.Test.YthibppfdonepoaaCLedgerLost1
import Derived.Test.YthibppfdonepoaaCLedgerLostQ
import Derived.WalkKit
import Derived.ProofKit
import Derived.OpenShut
import Derived.ShutString
import Derived.ChangeOld
import Derived.Below
import Derived.SizedLaws
namespace Go.Proofs.Ythibppfdonepoaa.ledgerLost
open Go.ChangeShapes Go.WideShapes Go.ChangeAt Go.RowKit Go.Proofs.Ythibppfdonepoaa.PLedgerLost Go.Proofs.YthibppfdonepoaaW.PrintWords
open Go.ChangeMaps (open_string shut_string)
set_option linter.unusedVariables false
theorem own : ownKnob Try.prog.godebug = none := by kernel_rfl
theorem laidOut : laidOutB Try.prog = true := by kernel_rfl
theorem opens23 {H : Type} (enc : TypeId × Value → H) (W : World) : XOpen.Opens enc Try.prog W 23 k23 (fun a : S23 => ((Lit.int .i64 a.f0).wf = true) ∧ ((Lit.int .i64 a.f1).wf = true)) :=
 XOpen.opens_struct (g := fun p => (⟨p.1, p.2⟩ : S23)) Try.underlying23 rfl (by kernel_rfl) (XOpen.opensF_cons rfl (by kernel_rfl) (XOpen.opens_int Try.underlying2) (XOpen.opensF_one rfl (by kernel_rfl) (XOpen.opens_int Try.underlying2))) (fun _ => rfl)
theorem opens39 {H : Type} (enc : TypeId × Value → H) (W : World) : XOpen.Opens enc Try.prog W 39 k39 (fun a : S39 => ((Lit.int .u32 a.f0).wf = true) ∧ (((Lit.int .i64 a.f1.f0).wf = true) ∧ ((Lit.int .i64 a.f1.f1).wf = true))) :=
 XOpen.opens_struct (g := fun p => (⟨p.1, p.2⟩ : S39)) Try.underlying39 rfl (by kernel_rfl) (XOpen.opensF_cons rfl (by kernel_rfl) (XOpen.opens_int Try.underlying37) (XOpen.opensF_one rfl (by kernel_rfl) (opens23 enc W))) (fun _ => rfl)
theorem opens107 {H : Type} (enc : TypeId × Value → H) (W : World) : XOpen.Opens enc Try.prog W 107 k107 (fun a : S107 => ((Lit.int .u8 a.f0).wf = true) ∧ (((Lit.int .u32 a.f1.f0).wf = true) ∧ (((Lit.int .i64 a.f1.f1.f0).wf = true) ∧ ((Lit.int .i64 a.f1.f1.f1).wf = true))) ∧ ((Lit.int .u32 a.f2).wf = true) ∧ (True) ∧ ((Lit.int .i64 a.f4).wf = true)) :=
 XOpen.opens_struct (g := fun p => (⟨p.1, p.2.1, p.2.2.1, p.2.2.2.1, p.2.2.2.2⟩ : S107)) Try.underlying107 rfl (by kernel_rfl) (XOpen.opensF_cons rfl (by kernel_rfl) (XOpen.opens_int Try.underlying5) (XOpen.opensF_cons rfl (by kernel_rfl) (opens39 enc W) (XOpen.opensF_cons rfl (by kernel_rfl) (XOpen.opens_int Try.underlying37) (XOpen.opensF_cons rfl (by kernel_rfl) (XOpen.opens_bool Try.underlying4) (XOpen.opensF_one rfl (by kernel_rfl) (XOpen.opens_int Try.underlying2)))))) (fun _ => rfl)
set_option maxRecDepth 100000 in
theorem lifted (os : Os) (started : os.Started) (H : Type) (enc : TypeId × Value → H) :
  ReturnsInHanded {} Try.checked os 13 .any (Rows.ledgerLostSpec.pre6 enc Try.prog Try.f13 Rows.ledgerLostRow.domain false) (Rows.ledgerLostSpec.post enc Try.prog Try.f13 false true false false) := by
 refine returnsInHanded_of_change_sized (C := Try.checked) own started (by kernel_rfl) Try.func13
  (ChangeSpec.witness6 (enc := enc) (C := Try.checked) false ⟨#[], #[.agg #[.int .i64 0, .int .i64 0], .slice none 0 0, .int .u32 0], []⟩ 8 (by kernel_rfl) (by kernel_rfl) (by kernel_rfl) (by kernel_rfl)) ?_
 intro W base args ds gs before hval0 hW hcnd hsz0 _
 have hval : ∀ (j : Nat) t v, Try.f13.params[j]? = some t → args[j]? = some v → Value.okWide Try.prog W .any base t v := hval0
 have hW' := hW
 obtain ⟨p, q, hA0, hV, rfl, hfz, hnd⟩ := hW
 have hA : DataW.TrodAll enc Try.prog W 0 (fun _ => true) true Try.f13.params.toList args.toList ds p := hA0
 rw [Try.params13] at hA hval
 obtain ⟨v0, vs0, d0, ds0, p0, q0, hargs, rfl, rfl, h0, r0⟩ := trodAll_cons hA
 obtain ⟨v1, vs1, d1, ds1, p1, q1, rfl, rfl, rfl, h1, r1⟩ := trodAll_cons r0
 obtain ⟨v2, vs2, d2, ds2, p2, q2, rfl, rfl, rfl, h2, r2⟩ := trodAll_cons r1
 obtain ⟨rfl, rfl, rfl⟩ := trodAll_nil r2
 obtain rfl : args = #[v0, v1, v2] := by cases args; simp_all
 obtain ⟨rfl, rfl⟩ := trodVars_none hV
 have k0 := h0
 have lt0 : ∀ x ∈ p0, x.block < W.heap.size := by obtain ⟨m, hm⟩ := k0; exact DataW.trod_lt m _ _ _ hm
 obtain ⟨fu0, hf0⟩ := h0
 obtain ⟨cs0, rfl, _⟩ := okWide_struct Try.underlying23 (hval 0 23 v0 rfl rfl)
 obtain ⟨a0, hK0, hwf0⟩ := opens23 enc W fu0 cs0.toList _ hf0
 obtain ⟨_, _, e0, rfl, rfl⟩ := hK0
 obtain rfl : cs0 = #[.int .i64 a0.f0, .int .i64 a0.f1] := by cases cs0; simpa using e0
 have k1 := h1
 have lt1 : ∀ x ∈ p1, x.block < W.heap.size := by obtain ⟨m, hm⟩ := k1; exact DataW.trod_lt m _ _ _ hm
 obtain ⟨fu1, hf1⟩ := h1
 obtain ⟨A1, n1, c1, rfl⟩ := okWide_slice Try.underlying101 (hval 1 101 v1 rfl rfl)
 obtain ⟨l1, ⟨B1, b1, eK1, hc1, hr1⟩, hwf1⟩ := (show XOpen.Opens enc Try.prog W 101 (Kd.slice 107 k107) _ from XOpen.opens_slice Try.underlying101 (by kernel_rfl) (opens107 enc W)) fu1 _ _ hf1
 simp only [Value.cells, List.cons.injEq, and_true, Value.slice.injEq] at eK1
 obtain ⟨rfl, rfl, rfl⟩ := eK1
 obtain ⟨a2, rfl, rfl, rfl, hwf2⟩ := open_int Try.underlying37 (hval 2 37 v2 rfl rfl) h2
 have hp_ := PLedgerLost.LedgerLost (a0.f0) (a0.f1) l1 a2 hwf0 hwf1 hwf2
 refine (liverylaw23_LedgerLost.calls (a0.f0) (a0.f1) _ _ l1 a2 true W hr1 hc1 hp_).mono fun e W' ⟨he, bel0⟩ => ?_
 have bel := bel0
 subst he
 exact ⟨_, rfl, _, _, _, [], _, [], hW', trodAll_mk1 (shut_bool Try.underlying4 _), (trodAll_cons_mk (Below.trod laidOut (by kernel_rfl) (of_decide_eq_true (by kernel_rfl)) k0 bel lt0) (trodAll_cons_mk (Below.trod laidOut (by kernel_rfl) (of_decide_eq_true (by kernel_rfl)) k1 bel lt1) (trodAll_cons_mk (shut_int Try.underlying37 hwf2) trodAll_mk0))), rfl, bel.frame _, fun h => by cases h⟩
theorem over : Rows.ledgerLostRow.holds Try.pinned (OpenSpec.ofChange Rows.ledgerLostSpec) :=
 OpenClaim.holds_of_wide 13 Try.f13 rfl rfl rfl rfl rfl rfl rfl ⟨rfl, rfl, rfl, rfl, rfl⟩ rfl rfl rfl rfl rfl (by kernel_rfl) Try.func13 (by kernel_rfl)
  (of_decide_eq_true (by kernel_rfl)) (by unfold Func.isWrapper; first | (rw [if_pos (by decide +kernel)]; kernel_rfl) | (rw [if_neg (by decide +kernel)]; exact ⟨rfl, rfl⟩))
  (fun os started H enc _ => lifted os started H enc)
theorem proved : Rows.LedgerLostSaid := over
#print axioms proved
end Go.Proofs.Ythibppfdonepoaa.ledgerLost
namespace Go.Proofs.Ythibppfdonepoaa
theorem ledgerLost_holds : Rows.LedgerLostSaid := ledgerLost.proved
end Go.Proofs.Ythibppfdonepoaa
