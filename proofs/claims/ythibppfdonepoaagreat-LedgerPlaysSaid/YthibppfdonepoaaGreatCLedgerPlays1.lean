
import Derived.Test.YthibppfdonepoaaGreatCLedgerPlays0
namespace Go.Proofs.YthibppfdonepoaaGreat.PLedgerPlays
open Go.RowKit Go.Proofs.YthibppfdonepoaaGreatW.PrintWords Go.Proofs.YthibppfdonepoaaGreatW.PrintLast Go.Proofs.YthibppfdonepoaaGreatW.PrintMore
attribute [local go_sem] max2_int min2_int max_two min_two max_three min_three max_four min_four
set_option linter.unusedVariables false
set_option linter.unusedSimpArgs false
def liverylaw23_LedgerPlays.f (a0_0 a0_1 : Int) (l1 : List (S61)) : Option Bool := if (l1.all fun x => (Lit.int .u8 x.f0).wf && ((Lit.int .u32 x.f1.f0).wf && ((Lit.int .u32 x.f2).wf && (Lit.int .i64 x.f4).wf))) = true then some true else none
theorem liverylaw23_LedgerPlays.calls (a0_0 a0_1 : Int) (A1 : Option Addr) (c1 : Nat) (l1 : List (S61)) (r : Bool) (w : World) (hr1 : Kd.C k61 w A1 l1.length l1) (hc1 : l1.length ≤ c1) (h : liverylaw23_LedgerPlays.f a0_0 a0_1 l1 = some r) :
  Calls Tryz.prog 6 #[.agg #[.int .i64 a0_0, .int .i64 a0_1], .slice A1 l1.length c1] w fun e w' => e = .returned (.bool r) ∧ Below w.heap.size w w' := by
 unfold liverylaw23_LedgerPlays.f at h
 split at h
 ·rename_i hwf
  obtain rfl : true = r := by simpa using h
  let l : List LedT.Ac := l1.map fun x => ⟨x.f0, ⟨x.f1.f0, ⟨x.f1.f1.f0, x.f1.f1.f1⟩⟩, x.f2, x.f3, x.f4⟩
  have hll : l.length = l1.length := List.length_map _
  have hA : LedT.AcRow w A1 l := by
   refine ⟨fun j hj => ?_, fun x hx => ?_⟩
   ·rw [hll] at hj
    obtain ⟨ad, hA, d0, d1, d2, d3, d4, d5, d6⟩ := at_T61 hr1 (j : Int) (by omega) (by omega)
    have ej : (j : Int).toNat = j := by simp
    have er : rd_T61 l1 (j : Int) = l1[j] := by unfold rd_T61; rw [ej, List.getD_eq_getElem?_getD, List.getElem?_eq_getElem hj]; rfl
    rw [er, ej] at d0 d1 d2 d3 d4 d5 d6
    refine ⟨ad, hA, ⟨?_, ?_, ?_, ?_, ?_, ?_, ?_⟩⟩ <;> simp only [l, List.getElem_map] <;> assumption
   ·obtain ⟨y, hy, rfl⟩ := List.mem_map.1 hx
    have := List.all_eq_true.1 hwf y hy
    simp only [Bool.and_eq_true] at this
    exact ⟨this.1, this.2.1, this.2.2.1, this.2.2.2⟩
  have hle : l.length ≤ 9223372036854775807 := by rw [hll]; exact Kd.C_max hr1
  have key : Calls Tryz.prog 6 #[.agg #[.int .i64 a0_0, .int .i64 a0_1], .slice A1 l.length c1] w fun e w' => e = .returned (.bool true) ∧ Below w.heap.size w w' := by
   cases hg : LedT.gr l with
   | true => exact LedT.ledgerPlays_great a0_0 a0_1 A1 c1 l w hA hle trivial hg
   | false =>
    by_cases hu : NodeT.okV 1 ⟨a0_0, a0_1⟩
    ·exact LedT.ledgerPlays a0_0 a0_1 A1 c1 l w hA hle hu hg
    ·exact LedT.ledgerPlays_bad a0_0 a0_1 A1 c1 l w hA hle hu hg
  rwa [hll] at key
 ·cases h
end Go.Proofs.YthibppfdonepoaaGreat.PLedgerPlays
