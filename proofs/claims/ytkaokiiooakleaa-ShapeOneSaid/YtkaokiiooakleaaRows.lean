/-
  No cell of these rows narrows 'for every input' (looked for: loops, veiled, ifaces, maps, wideKeys, modest, calm, conditions, laid).
  DERIVED. THE GIVEN ROWS OF THIS SEAT. 11 by the template 'for every input the law returns true; each argument reads behind the call as it read before'; 0 by the template 'total and deterministic' (their statements: YtkaokiiooakleaaTotals.lean).
  GIVEN WITH THE SEED: the statements are not yours to turn. If you find one false, say at which input.
  Laid BY PROGRAM, IN A SANDBOX (cutbox-rows.mjs): the forced cells as the released guide's own fill.sh prints them over the translation 20006dd7ffdae44d… (all of the seat's roots in one cut). By AI agents, Wed Nov 11 2026. No macro, syntax, notation, axiom, sorry.
-/
import Derived.Test.YtkaokiiooakleaaChecked
import GoSem.Claim
import GoSem.ClaimJoined
import GoSem.ClaimMapViews
import Derived.JoinedTies
import Derived.KernelRfl
namespace Go.Proofs.Ytkaokiiooakleaa
/- THE CELL 'sum', in the pinned program and in every row, IS THE sha256 OF THE DUMP (.gsa) THAT YtkaokiiooakleaaProg.lean LOADS. Nothing in Lean hashes anything: it is a label: what it is worth is what the hold of that sum in a sandbox is worth. -/
noncomputable def Try.pinned : Pinned := { name := "ytkaokiiooakleaa", sum := "20006dd7ffdae44dee9cd6ad18df44d4d03f35b2e72fa45edb10be414f4898a9", checked := Try.checked }
namespace Rows
def none {H : Type} : Left H := { results := [], args := [] }

/-- 'liverylaw01.VecTells': WHATEVER THE INPUT: true; the input reads as it did. -/
def vecTellsSpec : ChangeSpec := { name := "vecTells", fn := fun _ => fun
  | [d1, d2, d3] => { results := [.lit (.bool true)], args := [d1, d2, d3] }
  | _ => none }
def vecTellsRow : OpenClaim := { program := "ytkaokiiooakleaa", sum := "20006dd7ffdae44dee9cd6ad18df44d4d03f35b2e72fa45edb10be414f4898a9", func := "livery/liverylaw01.VecTells", spec := "vecTells", unfollowed := true, recurses := true, apart := false }
def VecTellsSaid : Prop := vecTellsRow.holds Try.pinned (OpenSpec.ofChange vecTellsSpec)

/-- ITS FALSE NEIGHBOUR: 'it returns false'. Refute it at one input. -/
def vecTellsWrong : ChangeSpec := { name := "vecTells", fn := fun _ => fun
  | [d1, d2, d3] => { results := [.lit (.bool false)], args := [d1, d2, d3] }
  | _ => none }
def VecTellsWrongFalsely : Prop := vecTellsRow.holds Try.pinned (OpenSpec.ofChange vecTellsWrong)

/-- 'liverylaw01.VecSums': WHATEVER THE INPUT: true; the input reads as it did. -/
def vecSumsSpec : ChangeSpec := { name := "vecSums", fn := fun _ => fun
  | [d] => { results := [.lit (.bool true)], args := [d] }
  | _ => none }
def vecSumsRow : OpenClaim := { program := "ytkaokiiooakleaa", sum := "20006dd7ffdae44dee9cd6ad18df44d4d03f35b2e72fa45edb10be414f4898a9", func := "livery/liverylaw01.VecSums", spec := "vecSums", unfollowed := true, recurses := true, apart := false }
def VecSumsSaid : Prop := vecSumsRow.holds Try.pinned (OpenSpec.ofChange vecSumsSpec)

/-- ITS FALSE NEIGHBOUR: 'it returns false'. Refute it at one input. -/
def vecSumsWrong : ChangeSpec := { name := "vecSums", fn := fun _ => fun
  | [d] => { results := [.lit (.bool false)], args := [d] }
  | _ => none }
def VecSumsWrongFalsely : Prop := vecSumsRow.holds Try.pinned (OpenSpec.ofChange vecSumsWrong)

/-- 'liverylaw01.VecOrder': WHATEVER THE INPUT: true; the input reads as it did. -/
def vecOrderSpec : ChangeSpec := { name := "vecOrder", fn := fun _ => fun
  | [d1, d2, d3] => { results := [.lit (.bool true)], args := [d1, d2, d3] }
  | _ => none }
def vecOrderRow : OpenClaim := { program := "ytkaokiiooakleaa", sum := "20006dd7ffdae44dee9cd6ad18df44d4d03f35b2e72fa45edb10be414f4898a9", func := "livery/liverylaw01.VecOrder", spec := "vecOrder", unfollowed := true, recurses := true, apart := false }
def VecOrderSaid : Prop := vecOrderRow.holds Try.pinned (OpenSpec.ofChange vecOrderSpec)

/-- ITS FALSE NEIGHBOUR: 'it returns false'. Refute it at one input. -/
def vecOrderWrong : ChangeSpec := { name := "vecOrder", fn := fun _ => fun
  | [d1, d2, d3] => { results := [.lit (.bool false)], args := [d1, d2, d3] }
  | _ => none }
def VecOrderWrongFalsely : Prop := vecOrderRow.holds Try.pinned (OpenSpec.ofChange vecOrderWrong)

/-- 'liverylaw01.VecUnits': WHATEVER THE INPUT: true; the input reads as it did. -/
def vecUnitsSpec : ChangeSpec := { name := "vecUnits", fn := fun _ => fun
  | [d1, d2, d3] => { results := [.lit (.bool true)], args := [d1, d2, d3] }
  | _ => none }
def vecUnitsRow : OpenClaim := { program := "ytkaokiiooakleaa", sum := "20006dd7ffdae44dee9cd6ad18df44d4d03f35b2e72fa45edb10be414f4898a9", func := "livery/liverylaw01.VecUnits", spec := "vecUnits", unfollowed := true, recurses := true, apart := false }
def VecUnitsSaid : Prop := vecUnitsRow.holds Try.pinned (OpenSpec.ofChange vecUnitsSpec)

/-- ITS FALSE NEIGHBOUR: 'it returns false'. Refute it at one input. -/
def vecUnitsWrong : ChangeSpec := { name := "vecUnits", fn := fun _ => fun
  | [d1, d2, d3] => { results := [.lit (.bool false)], args := [d1, d2, d3] }
  | _ => none }
def VecUnitsWrongFalsely : Prop := vecUnitsRow.holds Try.pinned (OpenSpec.ofChange vecUnitsWrong)

/-- 'liverylaw08.ShapeTells': WHATEVER THE INPUT: true; the input reads as it did. -/
def shapeTellsSpec : ChangeSpec := { name := "shapeTells", fn := fun _ => fun
  | [d1, d2] => { results := [.lit (.bool true)], args := [d1, d2] }
  | _ => none }
def shapeTellsRow : OpenClaim := { program := "ytkaokiiooakleaa", sum := "20006dd7ffdae44dee9cd6ad18df44d4d03f35b2e72fa45edb10be414f4898a9", func := "livery/liverylaw08.ShapeTells", spec := "shapeTells", unfollowed := true, recurses := true, apart := false }
def ShapeTellsSaid : Prop := shapeTellsRow.holds Try.pinned (OpenSpec.ofChange shapeTellsSpec)

/-- ITS FALSE NEIGHBOUR: 'it returns false'. Refute it at one input. -/
def shapeTellsWrong : ChangeSpec := { name := "shapeTells", fn := fun _ => fun
  | [d1, d2] => { results := [.lit (.bool false)], args := [d1, d2] }
  | _ => none }
def ShapeTellsWrongFalsely : Prop := shapeTellsRow.holds Try.pinned (OpenSpec.ofChange shapeTellsWrong)

/-- 'liverylaw08.ShapeHangs': WHATEVER THE INPUT: true; the input reads as it did. -/
def shapeHangsSpec : ChangeSpec := { name := "shapeHangs", fn := fun _ => fun
  | [d] => { results := [.lit (.bool true)], args := [d] }
  | _ => none }
def shapeHangsRow : OpenClaim := { program := "ytkaokiiooakleaa", sum := "20006dd7ffdae44dee9cd6ad18df44d4d03f35b2e72fa45edb10be414f4898a9", func := "livery/liverylaw08.ShapeHangs", spec := "shapeHangs", unfollowed := true, recurses := true, apart := false }
def ShapeHangsSaid : Prop := shapeHangsRow.holds Try.pinned (OpenSpec.ofChange shapeHangsSpec)

/-- ITS FALSE NEIGHBOUR: 'it returns false'. Refute it at one input. -/
def shapeHangsWrong : ChangeSpec := { name := "shapeHangs", fn := fun _ => fun
  | [d] => { results := [.lit (.bool false)], args := [d] }
  | _ => none }
def ShapeHangsWrongFalsely : Prop := shapeHangsRow.holds Try.pinned (OpenSpec.ofChange shapeHangsWrong)

/-- 'liverylaw08.ShapeOne': WHATEVER THE INPUT: true; the input reads as it did. -/
def shapeOneSpec : ChangeSpec := { name := "shapeOne", fn := fun _ => fun
  | [d1, d2, d3] => { results := [.lit (.bool true)], args := [d1, d2, d3] }
  | _ => none }
def shapeOneRow : OpenClaim := { program := "ytkaokiiooakleaa", sum := "20006dd7ffdae44dee9cd6ad18df44d4d03f35b2e72fa45edb10be414f4898a9", func := "livery/liverylaw08.ShapeOne", spec := "shapeOne", unfollowed := true, recurses := true, apart := false }
def ShapeOneSaid : Prop := shapeOneRow.holds Try.pinned (OpenSpec.ofChange shapeOneSpec)

/-- ITS FALSE NEIGHBOUR: 'it returns false'. Refute it at one input. -/
def shapeOneWrong : ChangeSpec := { name := "shapeOne", fn := fun _ => fun
  | [d1, d2, d3] => { results := [.lit (.bool false)], args := [d1, d2, d3] }
  | _ => none }
def ShapeOneWrongFalsely : Prop := shapeOneRow.holds Try.pinned (OpenSpec.ofChange shapeOneWrong)

/-- 'liverylaw08.ShapeAtoms': WHATEVER THE INPUT: true; the input reads as it did. -/
def shapeAtomsSpec : ChangeSpec := { name := "shapeAtoms", fn := fun _ => fun
  | [d1, d2, d3] => { results := [.lit (.bool true)], args := [d1, d2, d3] }
  | _ => none }
def shapeAtomsRow : OpenClaim := { program := "ytkaokiiooakleaa", sum := "20006dd7ffdae44dee9cd6ad18df44d4d03f35b2e72fa45edb10be414f4898a9", func := "livery/liverylaw08.ShapeAtoms", spec := "shapeAtoms", unfollowed := true, recurses := true, apart := false }
def ShapeAtomsSaid : Prop := shapeAtomsRow.holds Try.pinned (OpenSpec.ofChange shapeAtomsSpec)

/-- ITS FALSE NEIGHBOUR: 'it returns false'. Refute it at one input. -/
def shapeAtomsWrong : ChangeSpec := { name := "shapeAtoms", fn := fun _ => fun
  | [d1, d2, d3] => { results := [.lit (.bool false)], args := [d1, d2, d3] }
  | _ => none }
def ShapeAtomsWrongFalsely : Prop := shapeAtomsRow.holds Try.pinned (OpenSpec.ofChange shapeAtomsWrong)

/-- 'liverylaw18.StageWhole': WHATEVER THE INPUT: true; the input reads as it did. -/
def stageWholeSpec : ChangeSpec := { name := "stageWhole", fn := fun _ => fun
  | [d1, d2] => { results := [.lit (.bool true)], args := [d1, d2] }
  | _ => none }
def stageWholeRow : OpenClaim := { program := "ytkaokiiooakleaa", sum := "20006dd7ffdae44dee9cd6ad18df44d4d03f35b2e72fa45edb10be414f4898a9", func := "livery/liverylaw18.StageWhole", spec := "stageWhole", unfollowed := true, recurses := true, apart := false }
def StageWholeSaid : Prop := stageWholeRow.holds Try.pinned (OpenSpec.ofChange stageWholeSpec)

/-- ITS FALSE NEIGHBOUR: 'it returns false'. Refute it at one input. -/
def stageWholeWrong : ChangeSpec := { name := "stageWhole", fn := fun _ => fun
  | [d1, d2] => { results := [.lit (.bool false)], args := [d1, d2] }
  | _ => none }
def StageWholeWrongFalsely : Prop := stageWholeRow.holds Try.pinned (OpenSpec.ofChange stageWholeWrong)

/-- 'liverylaw18.StageFair': WHATEVER THE INPUT: true; the input reads as it did. -/
def stageFairSpec : ChangeSpec := { name := "stageFair", fn := fun _ => fun
  | [d1, d2] => { results := [.lit (.bool true)], args := [d1, d2] }
  | _ => none }
def stageFairRow : OpenClaim := { program := "ytkaokiiooakleaa", sum := "20006dd7ffdae44dee9cd6ad18df44d4d03f35b2e72fa45edb10be414f4898a9", func := "livery/liverylaw18.StageFair", spec := "stageFair", unfollowed := true, recurses := true, apart := false }
def StageFairSaid : Prop := stageFairRow.holds Try.pinned (OpenSpec.ofChange stageFairSpec)

/-- ITS FALSE NEIGHBOUR: 'it returns false'. Refute it at one input. -/
def stageFairWrong : ChangeSpec := { name := "stageFair", fn := fun _ => fun
  | [d1, d2] => { results := [.lit (.bool false)], args := [d1, d2] }
  | _ => none }
def StageFairWrongFalsely : Prop := stageFairRow.holds Try.pinned (OpenSpec.ofChange stageFairWrong)

/-- 'liverylaw18.StageParts': WHATEVER THE INPUT: true; the input reads as it did. -/
def stagePartsSpec : ChangeSpec := { name := "stageParts", fn := fun _ => fun
  | [d1, d2] => { results := [.lit (.bool true)], args := [d1, d2] }
  | _ => none }
def stagePartsRow : OpenClaim := { program := "ytkaokiiooakleaa", sum := "20006dd7ffdae44dee9cd6ad18df44d4d03f35b2e72fa45edb10be414f4898a9", func := "livery/liverylaw18.StageParts", spec := "stageParts", unfollowed := true, recurses := true, apart := false }
def StagePartsSaid : Prop := stagePartsRow.holds Try.pinned (OpenSpec.ofChange stagePartsSpec)

/-- ITS FALSE NEIGHBOUR: 'it returns false'. Refute it at one input. -/
def stagePartsWrong : ChangeSpec := { name := "stageParts", fn := fun _ => fun
  | [d1, d2] => { results := [.lit (.bool false)], args := [d1, d2] }
  | _ => none }
def StagePartsWrongFalsely : Prop := stagePartsRow.holds Try.pinned (OpenSpec.ofChange stagePartsWrong)

/- THE SECOND FORM. 'bulk': how many values and letters a reading holds, each counted each time it is reached (what is shared counts as often as it is met; a slice's spare places count too). A statement '..UptoSaid' is the law's where the arguments, and the package variables that the reading takes, are together of bulk at most 1048576: NARROWER than '..Said'. Prove '..Said' where nothing that the law and all that it calls make is longer than what came in: it says more and counts as full. Else prove '..UptoSaid'. A law counts once. -/
mutual
def uptoBulk {H : Type} : DataW H → Nat
  | .lit (.string bytes) => bytes.length + 1
  | .lit _ => 1
  | .nil => 1
  | .ptr d => uptoBulk d + 1
  | .slice elems spare => uptoBulkAll elems + uptoBulkAll spare + 1
  | .agg parts => uptoBulkAll parts + 1
  | .iface _ d => uptoBulk d + 1
  | .map entries => uptoBulkEntries entries + 1
  | .held _ => 1
def uptoBulkAll {H : Type} : List (DataW H) → Nat
  | [] => 0
  | d :: r => uptoBulk d + uptoBulkAll r
def uptoBulkEntries {H : Type} : List (Lit × DataW H) → Nat
  | [] => 0
  | x :: r => uptoBulkEntry x + uptoBulkEntries r
def uptoBulkEntry {H : Type} : Lit × DataW H → Nat
  | (.string bytes, d) => bytes.length + uptoBulk d + 1
  | (_, d) => uptoBulk d + 1
 end
def uptoSmall : (H : Type) → List (DataW H) → Bool := fun _ ds => decide (uptoBulkAll ds ≤ 1048576)
def OpenSpec.upto (s : _root_.Go.ChangeSpec) : _root_.Go.OpenSpec := { _root_.Go.OpenSpec.ofChange s with cond := some uptoSmall }

/-- 'liverylaw01.VecTells', WHERE WHAT IT READS IS OF BULK AT MOST 1048576: true; the input reads as it did. -/
def vecTellsUptoRow : OpenClaim := { program := "ytkaokiiooakleaa", sum := "20006dd7ffdae44dee9cd6ad18df44d4d03f35b2e72fa45edb10be414f4898a9", func := "livery/liverylaw01.VecTells", spec := "vecTells", unfollowed := true, recurses := true, apart := false, narrowed := true }
def VecTellsUptoSaid : Prop := vecTellsUptoRow.holds Try.pinned (OpenSpec.upto vecTellsSpec)

/-- 'liverylaw01.VecSums', WHERE WHAT IT READS IS OF BULK AT MOST 1048576: true; the input reads as it did. -/
def vecSumsUptoRow : OpenClaim := { program := "ytkaokiiooakleaa", sum := "20006dd7ffdae44dee9cd6ad18df44d4d03f35b2e72fa45edb10be414f4898a9", func := "livery/liverylaw01.VecSums", spec := "vecSums", unfollowed := true, recurses := true, apart := false, narrowed := true }
def VecSumsUptoSaid : Prop := vecSumsUptoRow.holds Try.pinned (OpenSpec.upto vecSumsSpec)

/-- 'liverylaw01.VecOrder', WHERE WHAT IT READS IS OF BULK AT MOST 1048576: true; the input reads as it did. -/
def vecOrderUptoRow : OpenClaim := { program := "ytkaokiiooakleaa", sum := "20006dd7ffdae44dee9cd6ad18df44d4d03f35b2e72fa45edb10be414f4898a9", func := "livery/liverylaw01.VecOrder", spec := "vecOrder", unfollowed := true, recurses := true, apart := false, narrowed := true }
def VecOrderUptoSaid : Prop := vecOrderUptoRow.holds Try.pinned (OpenSpec.upto vecOrderSpec)

/-- 'liverylaw01.VecUnits', WHERE WHAT IT READS IS OF BULK AT MOST 1048576: true; the input reads as it did. -/
def vecUnitsUptoRow : OpenClaim := { program := "ytkaokiiooakleaa", sum := "20006dd7ffdae44dee9cd6ad18df44d4d03f35b2e72fa45edb10be414f4898a9", func := "livery/liverylaw01.VecUnits", spec := "vecUnits", unfollowed := true, recurses := true, apart := false, narrowed := true }
def VecUnitsUptoSaid : Prop := vecUnitsUptoRow.holds Try.pinned (OpenSpec.upto vecUnitsSpec)

/-- 'liverylaw08.ShapeTells', WHERE WHAT IT READS IS OF BULK AT MOST 1048576: true; the input reads as it did. -/
def shapeTellsUptoRow : OpenClaim := { program := "ytkaokiiooakleaa", sum := "20006dd7ffdae44dee9cd6ad18df44d4d03f35b2e72fa45edb10be414f4898a9", func := "livery/liverylaw08.ShapeTells", spec := "shapeTells", unfollowed := true, recurses := true, apart := false, narrowed := true }
def ShapeTellsUptoSaid : Prop := shapeTellsUptoRow.holds Try.pinned (OpenSpec.upto shapeTellsSpec)

/-- 'liverylaw08.ShapeHangs', WHERE WHAT IT READS IS OF BULK AT MOST 1048576: true; the input reads as it did. -/
def shapeHangsUptoRow : OpenClaim := { program := "ytkaokiiooakleaa", sum := "20006dd7ffdae44dee9cd6ad18df44d4d03f35b2e72fa45edb10be414f4898a9", func := "livery/liverylaw08.ShapeHangs", spec := "shapeHangs", unfollowed := true, recurses := true, apart := false, narrowed := true }
def ShapeHangsUptoSaid : Prop := shapeHangsUptoRow.holds Try.pinned (OpenSpec.upto shapeHangsSpec)

/-- 'liverylaw08.ShapeOne', WHERE WHAT IT READS IS OF BULK AT MOST 1048576: true; the input reads as it did. -/
def shapeOneUptoRow : OpenClaim := { program := "ytkaokiiooakleaa", sum := "20006dd7ffdae44dee9cd6ad18df44d4d03f35b2e72fa45edb10be414f4898a9", func := "livery/liverylaw08.ShapeOne", spec := "shapeOne", unfollowed := true, recurses := true, apart := false, narrowed := true }
def ShapeOneUptoSaid : Prop := shapeOneUptoRow.holds Try.pinned (OpenSpec.upto shapeOneSpec)

/-- 'liverylaw08.ShapeAtoms', WHERE WHAT IT READS IS OF BULK AT MOST 1048576: true; the input reads as it did. -/
def shapeAtomsUptoRow : OpenClaim := { program := "ytkaokiiooakleaa", sum := "20006dd7ffdae44dee9cd6ad18df44d4d03f35b2e72fa45edb10be414f4898a9", func := "livery/liverylaw08.ShapeAtoms", spec := "shapeAtoms", unfollowed := true, recurses := true, apart := false, narrowed := true }
def ShapeAtomsUptoSaid : Prop := shapeAtomsUptoRow.holds Try.pinned (OpenSpec.upto shapeAtomsSpec)

/-- 'liverylaw18.StageWhole', WHERE WHAT IT READS IS OF BULK AT MOST 1048576: true; the input reads as it did. -/
def stageWholeUptoRow : OpenClaim := { program := "ytkaokiiooakleaa", sum := "20006dd7ffdae44dee9cd6ad18df44d4d03f35b2e72fa45edb10be414f4898a9", func := "livery/liverylaw18.StageWhole", spec := "stageWhole", unfollowed := true, recurses := true, apart := false, narrowed := true }
def StageWholeUptoSaid : Prop := stageWholeUptoRow.holds Try.pinned (OpenSpec.upto stageWholeSpec)

/-- 'liverylaw18.StageFair', WHERE WHAT IT READS IS OF BULK AT MOST 1048576: true; the input reads as it did. -/
def stageFairUptoRow : OpenClaim := { program := "ytkaokiiooakleaa", sum := "20006dd7ffdae44dee9cd6ad18df44d4d03f35b2e72fa45edb10be414f4898a9", func := "livery/liverylaw18.StageFair", spec := "stageFair", unfollowed := true, recurses := true, apart := false, narrowed := true }
def StageFairUptoSaid : Prop := stageFairUptoRow.holds Try.pinned (OpenSpec.upto stageFairSpec)

/-- 'liverylaw18.StageParts', WHERE WHAT IT READS IS OF BULK AT MOST 1048576: true; the input reads as it did. -/
def stagePartsUptoRow : OpenClaim := { program := "ytkaokiiooakleaa", sum := "20006dd7ffdae44dee9cd6ad18df44d4d03f35b2e72fa45edb10be414f4898a9", func := "livery/liverylaw18.StageParts", spec := "stageParts", unfollowed := true, recurses := true, apart := false, narrowed := true }
def StagePartsUptoSaid : Prop := stagePartsUptoRow.holds Try.pinned (OpenSpec.upto stagePartsSpec)

end Rows
end Go.Proofs.Ytkaokiiooakleaa
