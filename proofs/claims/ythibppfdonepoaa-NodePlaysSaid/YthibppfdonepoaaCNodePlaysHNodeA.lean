/- node.Table: its small methods. -/
import Derived.Test.YthibppfdonepoaaCNodePlaysHMapKeys
set_option linter.unusedVariables false
namespace Go.Proofs.Ythibppfdonepoaa.NodeT
open Go.RowKit Go.Proofs.Ythibppfdonepoaa.XBut Go.Proofs.Ythibppfdonepoaa.XMap Go.Proofs.YthibppfdonepoaaW.PrintWords Go.Proofs.YthibppfdonepoaaW.PrintLast
set_option maxHeartbeats 4000000 in
theorem none_nil (w : World) : Calls Try.prog 72 #[.pointer none] w fun e w' => e = .returned (.bool true) ∧ w' = w := by
  go_enter Try.func72, Try.ntmps72
  go_wp2
  go_ret
  exact ⟨rfl, rfl⟩
theorem eqIn (n : Nat) (mv : Option Nat) (w : World) : (Op.equalIn (n + 1) 61 (.map mv) (.map none)).run Try.prog w = .ok mv.isNone w := by
  have h := run_underlying Keys.und w
  cases mv <;> simp [Op.equalIn, go_sem, h]
theorem map_eq (mv : Option Nat) (w : World) : (binOp .eql 61 (.map mv) (.map none)).run Try.prog w = .ok (.bool mv.isNone) w := by
  have h : (Op.equal 61 (.map mv) (.map none)).run Try.prog w = .ok mv.isNone w := eqIn 9999 mv w
  cases mv <;> simp [binOp, go_sem, h]
set_option maxHeartbeats 4000000 in
set_option maxRecDepth 100000 in
theorem none_map (b : Nat) (mv : Option Nat) (w : World) (c : w.cell? ⟨b, 2, none⟩ = some (.map mv)) : Calls Try.prog 72 #[.pointer (some ⟨b, 0, none⟩)] w fun e w' => e = .returned (.bool mv.isNone) ∧ w' = w := by
  have h := map_eq mv w
  cases mv
  all_goals
    simp only [Option.isNone] at h
    go_enter Try.func72, Try.ntmps72
    go_wp2
    go_ret
    exact ⟨rfl, rfl⟩
end Go.Proofs.Ythibppfdonepoaa.NodeT
