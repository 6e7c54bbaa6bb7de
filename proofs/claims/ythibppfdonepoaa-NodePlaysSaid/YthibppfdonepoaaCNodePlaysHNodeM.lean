/- liverylaw22.NodeCaps: the acts. -/
import Derived.Test.YthibppfdonepoaaCNodePlaysHNodeI
import Derived.Test.YthibppfdonepoaaCNodePlaysHNodeG
set_option linter.unusedVariables false
namespace Go.Proofs.Ythibppfdonepoaa.NodeT
open Go.RowKit Go.MapKept Go.Maps Go.ChangeMaps Go.Proofs.Ythibppfdonepoaa.XBut Go.Proofs.Ythibppfdonepoaa.XMap Go.Proofs.Ythibppfdonepoaa.PNodePlays Go.Proofs.YthibppfdonepoaaW.PrintWords Go.Proofs.YthibppfdonepoaaW.PrintLast
/-- An act lies at an address: gone, node. -/
structure ActAt (w : World) (ad : Addr) (x : Bool × S39) : Prop where
  c0 : w.cell? ad = some (.bool x.1)
  c1 : w.cell? ⟨ad.block, ad.off + 1, none⟩ = some (.int .u32 x.2.f0)
  c2 : w.cell? ⟨ad.block, ad.off + 2, none⟩ = some (.int .i64 x.2.f1.f0)
  c3 : w.cell? ⟨ad.block, ad.off + 3, none⟩ = some (.int .i64 x.2.f1.f1)
theorem ActAt.below {w w' : World} {ad : Addr} {x : Bool × S39} (h : ActAt w ad x) (hb : Below w.heap.size w w') : ActAt w' ad x :=
  ⟨pw_cell_below hb h.c0, pw_cell_below hb h.c1, pw_cell_below hb h.c2, pw_cell_below hb h.c3⟩
/-- Rows of acts. -/
structure Acts (w : World) (A : Option Addr) (l : List (Bool × S39)) : Prop where
  at_ : ∀ j (h : j < l.length), ∃ ad, A = some ad ∧ ActAt w (ad.add (j * 4)) l[j]
  wf : ∀ x ∈ l, (Lit.int .u32 x.2.f0).wf = true
theorem Good.nil {u0 u1 : Int} (h : okV 1 ⟨u0, u1⟩) : Good u0 u1 [] := ⟨h, (fun _ h => (List.not_mem_nil h).elim), List.Pairwise.nil, Nat.zero_le _⟩
theorem wf32 {n : Int} (h : (Lit.int .u32 n).wf = true) : 0 ≤ n ∧ n ≤ 4294967295 := by
  simp only [Lit.wf, IntKind.min, IntKind.max, IntKind.signed, IntKind.bits, Bool.and_eq_true] at h
  simp at h
  omega
end Go.Proofs.Ythibppfdonepoaa.NodeT
