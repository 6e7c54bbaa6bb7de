/- The row of the law LedgerPlays: for every input the call returns true and each argument reads as it read before. No condition. -/
import Derived.Test.YthibppfdonepoaaGreatRows
import Derived.Test.YthibppfdonepoaaGreatCLedgerPlaysW
import Derived.Test.YthibppfdonepoaaGreatCLedgerPlays1
import Derived.Test.YthibppfdonepoaaGreatCLedgerPlaysQ
import Derived.WalkKit
import Derived.ProofKit
import Derived.OpenShut
import Derived.ShutString
import Derived.ChangeOld
import Derived.Below
import Derived.SizedLaws
namespace Go.Proofs.YthibppfdonepoaaGreat.ledgerPlays
open Go.ChangeShapes Go.WideShapes Go.ChangeAt Go.RowKit Go.Proofs.YthibppfdonepoaaGreat.PLedgerPlays Go.Proofs.YthibppfdonepoaaGreatW.PrintWords
open Go.ChangeMaps (open_string shut_string)
set_option linter.unusedVariables false
theorem own : ownKnob Tryz.prog.godebug = none := by kernel_rfl
theorem laidOut : laidOutB Tryz.prog = true := by kernel_rfl
theorem opens23 {H : Type} (enc : TypeId × Value → H) (W : World) : XOpen.Opens enc Tryz.prog W 23 k23 (fun a : S23 => ((Lit.int .i64 a.f0).wf = true) ∧ ((Lit.int .i64 a.f1).wf = true)) :=
 XOpen.opens_struct (g := fun p => (⟨p.1, p.2⟩ : S23)) Tryz.underlying23 rfl (by kernel_rfl) (XOpen.opensF_cons rfl (by kernel_rfl) (XOpen.opens_int Tryz.underlying2) (XOpen.opensF_one rfl (by kernel_rfl) (XOpen.opens_int Tryz.underlying2))) (fun _ => rfl)
theorem opens59 {H : Type} (enc : TypeId × Value → H) (W : World) : XOpen.Opens enc Tryz.prog W 59 k59 (fun a : S59 => ((Lit.int .u32 a.f0).wf = true) ∧ (((Lit.int .i64 a.f1.f0).wf = true) ∧ ((Lit.int .i64 a.f1.f1).wf = true))) :=
 XOpen.opens_struct (g := fun p => (⟨p.1, p.2⟩ : S59)) Tryz.underlying59 rfl (by kernel_rfl) (XOpen.opensF_cons rfl (by kernel_rfl) (XOpen.opens_int Tryz.underlying35) (XOpen.opensF_one rfl (by kernel_rfl) (opens23 enc W))) (fun _ => rfl)
theorem opens61 {H : Type} (enc : TypeId × Value → H) (W : World) : XOpen.Opens enc Tryz.prog W 61 k61 (fun a : S61 => ((Lit.int .u8 a.f0).wf = true) ∧ (((Lit.int .u32 a.f1.f0).wf = true) ∧ (((Lit.int .i64 a.f1.f1.f0).wf = true) ∧ ((Lit.int .i64 a.f1.f1.f1).wf = true))) ∧ ((Lit.int .u32 a.f2).wf = true) ∧ (True) ∧ ((Lit.int .i64 a.f4).wf = true)) :=
 XOpen.opens_struct (g := fun p => (⟨p.1, p.2.1, p.2.2.1, p.2.2.2.1, p.2.2.2.2⟩ : S61)) Tryz.underlying61 rfl (by kernel_rfl) (XOpen.opensF_cons rfl (by kernel_rfl) (XOpen.opens_int Tryz.underlying5) (XOpen.opensF_cons rfl (by kernel_rfl) (opens59 enc W) (XOpen.opensF_cons rfl (by kernel_rfl) (XOpen.opens_int Tryz.underlying35) (XOpen.opensF_cons rfl (by kernel_rfl) (XOpen.opens_bool Tryz.underlying4) (XOpen.opensF_one rfl (by kernel_rfl) (XOpen.opens_int Tryz.underlying2)))))) (fun _ => rfl)
set_option maxRecDepth 100000 in
theorem lifted (os : Os) (started : os.Started) (H : Type) (enc : TypeId × Value → H) :
  ReturnsInHanded {} Tryz.checked os 6 .any (Rows.ledgerPlaysSpec.pre6 enc Tryz.prog Tryz.f6 Rows.ledgerPlaysRow.domain false) (Rows.ledgerPlaysSpec.post enc Tryz.prog Tryz.f6 false true false false) := by
 refine returnsInHanded_of_change_sized (C := Tryz.checked) own started (by kernel_rfl) Tryz.func6
  (ChangeSpec.witness6 (enc := enc) (C := Tryz.checked) false ⟨#[], #[.agg #[.int .i64 0, .int .i64 0], .slice none 0 0], []⟩ 8 (by kernel_rfl) (by kernel_rfl) (by kernel_rfl) (by kernel_rfl)) ?_
 intro W base args ds gs before hval0 hW hcnd hsz0 _
 have hval : ∀ (j : Nat) t v, Tryz.f6.params[j]? = some t → args[j]? = some v → Value.okWide Tryz.prog W .any base t v := hval0
 have hW' := hW
 obtain ⟨p, q, hA0, hV, rfl, hfz, hnd⟩ := hW
 have hA : DataW.TrodAll enc Tryz.prog W 0 (fun _ => true) true Tryz.f6.params.toList args.toList ds p := hA0
 rw [Tryz.params6] at hA hval
 obtain ⟨v0, vs0, d0, ds0, p0, q0, hargs, rfl, rfl, h0, r0⟩ := trodAll_cons hA
 obtain ⟨v1, vs1, d1, ds1, p1, q1, rfl, rfl, rfl, h1, r1⟩ := trodAll_cons r0
 obtain ⟨rfl, rfl, rfl⟩ := trodAll_nil r1
 obtain rfl : args = #[v0, v1] := by cases args; simp_all
 obtain ⟨rfl, rfl⟩ := trodVars_none hV
 have k0 := h0
 have lt0 : ∀ x ∈ p0, x.block < W.heap.size := by obtain ⟨m, hm⟩ := k0; exact DataW.trod_lt m _ _ _ hm
 obtain ⟨fu0, hf0⟩ := h0
 obtain ⟨cs0, rfl, _⟩ := okWide_struct Tryz.underlying23 (hval 0 23 v0 rfl rfl)
 obtain ⟨a0, hK0, hwf0⟩ := opens23 enc W fu0 cs0.toList _ hf0
 obtain ⟨_, _, e0, rfl, rfl⟩ := hK0
 obtain rfl : cs0 = #[.int .i64 a0.f0, .int .i64 a0.f1] := by cases cs0; simpa using e0
 have k1 := h1
 have lt1 : ∀ x ∈ p1, x.block < W.heap.size := by obtain ⟨m, hm⟩ := k1; exact DataW.trod_lt m _ _ _ hm
 obtain ⟨fu1, hf1⟩ := h1
 obtain ⟨A1, n1, c1, rfl⟩ := okWide_slice Tryz.underlying57 (hval 1 57 v1 rfl rfl)
 obtain ⟨l1, ⟨B1, b1, eK1, hc1, hr1⟩, hwf1⟩ := (show XOpen.Opens enc Tryz.prog W 57 (Kd.slice 61 k61) _ from XOpen.opens_slice Tryz.underlying57 (by kernel_rfl) (opens61 enc W)) fu1 _ _ hf1
 simp only [Value.cells, List.cons.injEq, and_true, Value.slice.injEq] at eK1
 obtain ⟨rfl, rfl, rfl⟩ := eK1
 have hp_ := PLedgerPlays.LedgerPlays (a0.f0) (a0.f1) l1 hwf0 hwf1
 refine (liverylaw23_LedgerPlays.calls (a0.f0) (a0.f1) _ _ l1 true W hr1 hc1 hp_).mono fun e W' ⟨he, bel0⟩ => ?_
 have bel := bel0
 subst he
 exact ⟨_, rfl, _, _, _, [], _, [], hW', trodAll_mk1 (shut_bool Tryz.underlying4 _), (trodAll_cons_mk (Below.trod laidOut (by kernel_rfl) (of_decide_eq_true (by kernel_rfl)) k0 bel lt0) (trodAll_cons_mk (Below.trod laidOut (by kernel_rfl) (of_decide_eq_true (by kernel_rfl)) k1 bel lt1) trodAll_mk0)), rfl, bel.frame _, fun h => by cases h⟩
theorem over : Rows.ledgerPlaysRow.holds Tryz.pinned (OpenSpec.ofChange Rows.ledgerPlaysSpec) :=
 OpenClaim.holds_of_wide 6 Tryz.f6 rfl rfl rfl rfl rfl rfl rfl ⟨rfl, rfl, rfl, rfl, rfl⟩ rfl rfl rfl rfl rfl (by kernel_rfl) Tryz.func6 (by kernel_rfl)
  (of_decide_eq_true (by kernel_rfl)) (by unfold Func.isWrapper; first | (rw [if_pos (by decide +kernel)]; kernel_rfl) | (rw [if_neg (by decide +kernel)]; exact ⟨rfl, rfl⟩))
  (fun os started H enc _ => lifted os started H enc)
theorem proved : Rows.LedgerPlaysSaid := over
#print axioms proved
end Go.Proofs.YthibppfdonepoaaGreat.ledgerPlays
namespace Go.Proofs.YthibppfdonepoaaGreat
theorem ledgerPlays_holds : Rows.LedgerPlaysSaid := ledgerPlays.proved
end Go.Proofs.YthibppfdonepoaaGreat
