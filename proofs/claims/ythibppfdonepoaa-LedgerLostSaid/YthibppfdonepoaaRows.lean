/-
  No cell of these rows narrows 'for every input' (looked for: loops, veiled, ifaces, maps, wideKeys, modest, calm, conditions, laid).
  DERIVED. THE GIVEN ROWS OF THIS SEAT. 12 by the template 'for every input the law returns true; each argument reads behind the call as it read before'; 0 by the template 'total and deterministic' (their statements: YthibppfdonepoaaTotals.lean).
  GIVEN WITH THE SEED: the statements are not yours to turn. If you find one false, say at which input.
  Laid BY PROGRAM, IN A SANDBOX (cutbox-rows.mjs): the forced cells as the released guide's own fill.sh prints them over the translation 5c9d96bf0b7d1fb9… (all of the seat's roots in one cut). By AI agents, Wed Nov 11 2026. No macro, syntax, notation, axiom, sorry.
-/
import Derived.Test.YthibppfdonepoaaChecked
import GoSem.Claim
import GoSem.ClaimJoined
import GoSem.ClaimMapViews
import Derived.JoinedTies
import Derived.KernelRfl
namespace Go.Proofs.Ythibppfdonepoaa
/- THE CELL 'sum', in the pinned program and in every row, IS THE sha256 OF THE DUMP (.gsa) THAT YthibppfdonepoaaProg.lean LOADS. Nothing in Lean hashes anything: it is a label: what it is worth is what the hold of that sum in a sandbox is worth. -/
noncomputable def Try.pinned : Pinned := { name := "ythibppfdonepoaa", sum := "5c9d96bf0b7d1fb922bfdd174f3014889cd7c4dafcc8bfff123343eee0ae4c13", checked := Try.checked }
namespace Rows
def none {H : Type} : Left H := { results := [], args := [] }

/-- 'liverylaw22.NodePlays': WHATEVER THE INPUT: true; the input reads as it did. -/
def nodePlaysSpec : ChangeSpec := { name := "nodePlays", fn := fun _ => fun
  | [d1, d2] => { results := [.lit (.bool true)], args := [d1, d2] }
  | _ => none }
def nodePlaysRow : OpenClaim := { program := "ythibppfdonepoaa", sum := "5c9d96bf0b7d1fb922bfdd174f3014889cd7c4dafcc8bfff123343eee0ae4c13", func := "livery/liverylaw22.NodePlays", spec := "nodePlays", unfollowed := true, recurses := true, apart := false }
def NodePlaysSaid : Prop := nodePlaysRow.holds Try.pinned (OpenSpec.ofChange nodePlaysSpec)

/-- ITS FALSE NEIGHBOUR: 'it returns false'. Refute it at one input. -/
def nodePlaysWrong : ChangeSpec := { name := "nodePlays", fn := fun _ => fun
  | [d1, d2] => { results := [.lit (.bool false)], args := [d1, d2] }
  | _ => none }
def NodePlaysWrongFalsely : Prop := nodePlaysRow.holds Try.pinned (OpenSpec.ofChange nodePlaysWrong)

/-- 'liverylaw22.NodeCaps': WHATEVER THE INPUT: true; the input reads as it did. -/
def nodeCapsSpec : ChangeSpec := { name := "nodeCaps", fn := fun _ => fun
  | [d1, d2] => { results := [.lit (.bool true)], args := [d1, d2] }
  | _ => none }
def nodeCapsRow : OpenClaim := { program := "ythibppfdonepoaa", sum := "5c9d96bf0b7d1fb922bfdd174f3014889cd7c4dafcc8bfff123343eee0ae4c13", func := "livery/liverylaw22.NodeCaps", spec := "nodeCaps", unfollowed := true, recurses := true, apart := false }
def NodeCapsSaid : Prop := nodeCapsRow.holds Try.pinned (OpenSpec.ofChange nodeCapsSpec)

/-- ITS FALSE NEIGHBOUR: 'it returns false'. Refute it at one input. -/
def nodeCapsWrong : ChangeSpec := { name := "nodeCaps", fn := fun _ => fun
  | [d1, d2] => { results := [.lit (.bool false)], args := [d1, d2] }
  | _ => none }
def NodeCapsWrongFalsely : Prop := nodeCapsRow.holds Try.pinned (OpenSpec.ofChange nodeCapsWrong)

/-- 'liverylaw22.NodeBack': WHATEVER THE INPUT: true; the input reads as it did. -/
def nodeBackSpec : ChangeSpec := { name := "nodeBack", fn := fun _ => fun
  | [d1, d2, d3] => { results := [.lit (.bool true)], args := [d1, d2, d3] }
  | _ => none }
def nodeBackRow : OpenClaim := { program := "ythibppfdonepoaa", sum := "5c9d96bf0b7d1fb922bfdd174f3014889cd7c4dafcc8bfff123343eee0ae4c13", func := "livery/liverylaw22.NodeBack", spec := "nodeBack", inPlace := ["maps.clone"], unfollowed := true, recurses := true, apart := false }
def NodeBackSaid : Prop := nodeBackRow.holds Try.pinned (OpenSpec.ofChange nodeBackSpec)

/-- ITS FALSE NEIGHBOUR: 'it returns false'. Refute it at one input. -/
def nodeBackWrong : ChangeSpec := { name := "nodeBack", fn := fun _ => fun
  | [d1, d2, d3] => { results := [.lit (.bool false)], args := [d1, d2, d3] }
  | _ => none }
def NodeBackWrongFalsely : Prop := nodeBackRow.holds Try.pinned (OpenSpec.ofChange nodeBackWrong)

/-- 'liverylaw22.NodeNone': WHATEVER THE INPUT: true; the input reads as it did. -/
def nodeNoneSpec : ChangeSpec := { name := "nodeNone", fn := fun _ => fun
  | [d] => { results := [.lit (.bool true)], args := [d] }
  | _ => none }
def nodeNoneRow : OpenClaim := { program := "ythibppfdonepoaa", sum := "5c9d96bf0b7d1fb922bfdd174f3014889cd7c4dafcc8bfff123343eee0ae4c13", func := "livery/liverylaw22.NodeNone", spec := "nodeNone", inPlace := ["maps.clone"], unfollowed := true, recurses := true, apart := false }
def NodeNoneSaid : Prop := nodeNoneRow.holds Try.pinned (OpenSpec.ofChange nodeNoneSpec)

/-- ITS FALSE NEIGHBOUR: 'it returns false'. Refute it at one input. -/
def nodeNoneWrong : ChangeSpec := { name := "nodeNone", fn := fun _ => fun
  | [d] => { results := [.lit (.bool false)], args := [d] }
  | _ => none }
def NodeNoneWrongFalsely : Prop := nodeNoneRow.holds Try.pinned (OpenSpec.ofChange nodeNoneWrong)

/-- 'liverylaw27.FillerHead': WHATEVER THE INPUT: true; the input reads as it did. -/
def fillerHeadSpec : ChangeSpec := { name := "fillerHead", fn := fun _ => fun
  | [d1, d2, d3] => { results := [.lit (.bool true)], args := [d1, d2, d3] }
  | _ => none }
def fillerHeadRow : OpenClaim := { program := "ythibppfdonepoaa", sum := "5c9d96bf0b7d1fb922bfdd174f3014889cd7c4dafcc8bfff123343eee0ae4c13", func := "livery/liverylaw27.FillerHead", spec := "fillerHead", unfollowed := true, recurses := true, apart := false }
def FillerHeadSaid : Prop := fillerHeadRow.holds Try.pinned (OpenSpec.ofChange fillerHeadSpec)

/-- ITS FALSE NEIGHBOUR: 'it returns false'. Refute it at one input. -/
def fillerHeadWrong : ChangeSpec := { name := "fillerHead", fn := fun _ => fun
  | [d1, d2, d3] => { results := [.lit (.bool false)], args := [d1, d2, d3] }
  | _ => none }
def FillerHeadWrongFalsely : Prop := fillerHeadRow.holds Try.pinned (OpenSpec.ofChange fillerHeadWrong)

/-- 'liverylaw27.FillerTicks': WHATEVER THE INPUT: true; the input reads as it did. -/
def fillerTicksSpec : ChangeSpec := { name := "fillerTicks", fn := fun _ => fun
  | [d1, d2, d3] => { results := [.lit (.bool true)], args := [d1, d2, d3] }
  | _ => none }
def fillerTicksRow : OpenClaim := { program := "ythibppfdonepoaa", sum := "5c9d96bf0b7d1fb922bfdd174f3014889cd7c4dafcc8bfff123343eee0ae4c13", func := "livery/liverylaw27.FillerTicks", spec := "fillerTicks", unfollowed := true, recurses := true, apart := false }
def FillerTicksSaid : Prop := fillerTicksRow.holds Try.pinned (OpenSpec.ofChange fillerTicksSpec)

/-- ITS FALSE NEIGHBOUR: 'it returns false'. Refute it at one input. -/
def fillerTicksWrong : ChangeSpec := { name := "fillerTicks", fn := fun _ => fun
  | [d1, d2, d3] => { results := [.lit (.bool false)], args := [d1, d2, d3] }
  | _ => none }
def FillerTicksWrongFalsely : Prop := fillerTicksRow.holds Try.pinned (OpenSpec.ofChange fillerTicksWrong)

/-- 'liverylaw27.FillerPlays': WHATEVER THE INPUT: true; the input reads as it did. -/
def fillerPlaysSpec : ChangeSpec := { name := "fillerPlays", fn := fun _ => fun
  | [d1, d2] => { results := [.lit (.bool true)], args := [d1, d2] }
  | _ => none }
def fillerPlaysRow : OpenClaim := { program := "ythibppfdonepoaa", sum := "5c9d96bf0b7d1fb922bfdd174f3014889cd7c4dafcc8bfff123343eee0ae4c13", func := "livery/liverylaw27.FillerPlays", spec := "fillerPlays", inPlace := ["maps.clone"], unfollowed := true, recurses := true, apart := false }
def FillerPlaysSaid : Prop := fillerPlaysRow.holds Try.pinned (OpenSpec.ofChange fillerPlaysSpec)

/-- ITS FALSE NEIGHBOUR: 'it returns false'. Refute it at one input. -/
def fillerPlaysWrong : ChangeSpec := { name := "fillerPlays", fn := fun _ => fun
  | [d1, d2] => { results := [.lit (.bool false)], args := [d1, d2] }
  | _ => none }
def FillerPlaysWrongFalsely : Prop := fillerPlaysRow.holds Try.pinned (OpenSpec.ofChange fillerPlaysWrong)

/-- 'liverylaw27.FillerNone': WHATEVER THE INPUT: true; the input reads as it did. -/
def fillerNoneSpec : ChangeSpec := { name := "fillerNone", fn := fun _ => fun
  | [d1, d2, d3] => { results := [.lit (.bool true)], args := [d1, d2, d3] }
  | _ => none }
def fillerNoneRow : OpenClaim := { program := "ythibppfdonepoaa", sum := "5c9d96bf0b7d1fb922bfdd174f3014889cd7c4dafcc8bfff123343eee0ae4c13", func := "livery/liverylaw27.FillerNone", spec := "fillerNone", inPlace := ["maps.clone"], unfollowed := true, recurses := true, apart := false }
def FillerNoneSaid : Prop := fillerNoneRow.holds Try.pinned (OpenSpec.ofChange fillerNoneSpec)

/-- ITS FALSE NEIGHBOUR: 'it returns false'. Refute it at one input. -/
def fillerNoneWrong : ChangeSpec := { name := "fillerNone", fn := fun _ => fun
  | [d1, d2, d3] => { results := [.lit (.bool false)], args := [d1, d2, d3] }
  | _ => none }
def FillerNoneWrongFalsely : Prop := fillerNoneRow.holds Try.pinned (OpenSpec.ofChange fillerNoneWrong)

/-- 'liverylaw27.FillerLoad': WHATEVER THE INPUT: true; the input reads as it did. -/
def fillerLoadSpec : ChangeSpec := { name := "fillerLoad", fn := fun _ => fun
  | [d1, d2, d3] => { results := [.lit (.bool true)], args := [d1, d2, d3] }
  | _ => none }
def fillerLoadRow : OpenClaim := { program := "ythibppfdonepoaa", sum := "5c9d96bf0b7d1fb922bfdd174f3014889cd7c4dafcc8bfff123343eee0ae4c13", func := "livery/liverylaw27.FillerLoad", spec := "fillerLoad", unfollowed := true, recurses := true, apart := false }
def FillerLoadSaid : Prop := fillerLoadRow.holds Try.pinned (OpenSpec.ofChange fillerLoadSpec)

/-- ITS FALSE NEIGHBOUR: 'it returns false'. Refute it at one input. -/
def fillerLoadWrong : ChangeSpec := { name := "fillerLoad", fn := fun _ => fun
  | [d1, d2, d3] => { results := [.lit (.bool false)], args := [d1, d2, d3] }
  | _ => none }
def FillerLoadWrongFalsely : Prop := fillerLoadRow.holds Try.pinned (OpenSpec.ofChange fillerLoadWrong)

/-- 'liverylaw23.LedgerRooms': WHATEVER THE INPUT: true; the input reads as it did. -/
def ledgerRoomsSpec : ChangeSpec := { name := "ledgerRooms", fn := fun _ => fun
  | [d1, d2] => { results := [.lit (.bool true)], args := [d1, d2] }
  | _ => none }
def ledgerRoomsRow : OpenClaim := { program := "ythibppfdonepoaa", sum := "5c9d96bf0b7d1fb922bfdd174f3014889cd7c4dafcc8bfff123343eee0ae4c13", func := "livery/liverylaw23.LedgerRooms", spec := "ledgerRooms", inPlace := ["sync/atomic.AddUint32", "maps.clone"], unfollowed := true, recurses := true, apart := false }
def LedgerRoomsSaid : Prop := ledgerRoomsRow.holds Try.pinned (OpenSpec.ofChange ledgerRoomsSpec)

/-- ITS FALSE NEIGHBOUR: 'it returns false'. Refute it at one input. -/
def ledgerRoomsWrong : ChangeSpec := { name := "ledgerRooms", fn := fun _ => fun
  | [d1, d2] => { results := [.lit (.bool false)], args := [d1, d2] }
  | _ => none }
def LedgerRoomsWrongFalsely : Prop := ledgerRoomsRow.holds Try.pinned (OpenSpec.ofChange ledgerRoomsWrong)

/-- 'liverylaw23.LedgerLost': WHATEVER THE INPUT: true; the input reads as it did. -/
def ledgerLostSpec : ChangeSpec := { name := "ledgerLost", fn := fun _ => fun
  | [d1, d2, d3] => { results := [.lit (.bool true)], args := [d1, d2, d3] }
  | _ => none }
def ledgerLostRow : OpenClaim := { program := "ythibppfdonepoaa", sum := "5c9d96bf0b7d1fb922bfdd174f3014889cd7c4dafcc8bfff123343eee0ae4c13", func := "livery/liverylaw23.LedgerLost", spec := "ledgerLost", inPlace := ["sync/atomic.AddUint32", "maps.clone"], unfollowed := true, recurses := true, apart := false }
def LedgerLostSaid : Prop := ledgerLostRow.holds Try.pinned (OpenSpec.ofChange ledgerLostSpec)

/-- ITS FALSE NEIGHBOUR: 'it returns false'. Refute it at one input. -/
def ledgerLostWrong : ChangeSpec := { name := "ledgerLost", fn := fun _ => fun
  | [d1, d2, d3] => { results := [.lit (.bool false)], args := [d1, d2, d3] }
  | _ => none }
def LedgerLostWrongFalsely : Prop := ledgerLostRow.holds Try.pinned (OpenSpec.ofChange ledgerLostWrong)

/-- 'liverylaw23.LedgerNone': WHATEVER THE INPUT: true; the input reads as it did. -/
def ledgerNoneSpec : ChangeSpec := { name := "ledgerNone", fn := fun _ => fun
  | [d] => { results := [.lit (.bool true)], args := [d] }
  | _ => none }
def ledgerNoneRow : OpenClaim := { program := "ythibppfdonepoaa", sum := "5c9d96bf0b7d1fb922bfdd174f3014889cd7c4dafcc8bfff123343eee0ae4c13", func := "livery/liverylaw23.LedgerNone", spec := "ledgerNone", inPlace := ["sync/atomic.AddUint32", "maps.clone", "sync/atomic.LoadUint32", "sync/atomic.StoreUint32"], unfollowed := true, recurses := true, apart := false }
def LedgerNoneSaid : Prop := ledgerNoneRow.holds Try.pinned (OpenSpec.ofChange ledgerNoneSpec)

/-- ITS FALSE NEIGHBOUR: 'it returns false'. Refute it at one input. -/
def ledgerNoneWrong : ChangeSpec := { name := "ledgerNone", fn := fun _ => fun
  | [d] => { results := [.lit (.bool false)], args := [d] }
  | _ => none }
def LedgerNoneWrongFalsely : Prop := ledgerNoneRow.holds Try.pinned (OpenSpec.ofChange ledgerNoneWrong)

/- THE SECOND FORM. 'bulk': how many values and letters a reading holds, each counted each time it is reached (what is shared counts as often as it is met; a slice's spare places count too). A statement '..UptoSaid' is the law's where the arguments, and the package variables that the reading takes, are together of bulk at most 1048576: NARROWER than '..Said'. Prove '..Said' where nothing that the law and all that it calls make is longer than what came in: it says more and counts as full. Else prove '..UptoSaid'. A law counts once. -/
mutual
def uptoBulk {H : Type} : DataW H → Nat
  | .lit (.string bytes) => bytes.length + 1
  | .lit _ => 1
  | .nil => 1
  | .ptr d => uptoBulk d + 1
  | .slice elems spare => uptoBulkAll elems + uptoBulkAll spare + 1
  | .agg parts => uptoBulkAll parts + 1
  | .iface _ d => uptoBulk d + 1
  | .map entries => uptoBulkEntries entries + 1
  | .held _ => 1
def uptoBulkAll {H : Type} : List (DataW H) → Nat
  | [] => 0
  | d :: r => uptoBulk d + uptoBulkAll r
def uptoBulkEntries {H : Type} : List (Lit × DataW H) → Nat
  | [] => 0
  | x :: r => uptoBulkEntry x + uptoBulkEntries r
def uptoBulkEntry {H : Type} : Lit × DataW H → Nat
  | (.string bytes, d) => bytes.length + uptoBulk d + 1
  | (_, d) => uptoBulk d + 1
 end
def uptoSmall : (H : Type) → List (DataW H) → Bool := fun _ ds => decide (uptoBulkAll ds ≤ 1048576)
def OpenSpec.upto (s : _root_.Go.ChangeSpec) : _root_.Go.OpenSpec := { _root_.Go.OpenSpec.ofChange s with cond := some uptoSmall }

/-- 'liverylaw22.NodePlays', WHERE WHAT IT READS IS OF BULK AT MOST 1048576: true; the input reads as it did. -/
def nodePlaysUptoRow : OpenClaim := { program := "ythibppfdonepoaa", sum := "5c9d96bf0b7d1fb922bfdd174f3014889cd7c4dafcc8bfff123343eee0ae4c13", func := "livery/liverylaw22.NodePlays", spec := "nodePlays", unfollowed := true, recurses := true, apart := false, narrowed := true }
def NodePlaysUptoSaid : Prop := nodePlaysUptoRow.holds Try.pinned (OpenSpec.upto nodePlaysSpec)

/-- 'liverylaw22.NodeCaps', WHERE WHAT IT READS IS OF BULK AT MOST 1048576: true; the input reads as it did. -/
def nodeCapsUptoRow : OpenClaim := { program := "ythibppfdonepoaa", sum := "5c9d96bf0b7d1fb922bfdd174f3014889cd7c4dafcc8bfff123343eee0ae4c13", func := "livery/liverylaw22.NodeCaps", spec := "nodeCaps", unfollowed := true, recurses := true, apart := false, narrowed := true }
def NodeCapsUptoSaid : Prop := nodeCapsUptoRow.holds Try.pinned (OpenSpec.upto nodeCapsSpec)

/-- 'liverylaw22.NodeBack', WHERE WHAT IT READS IS OF BULK AT MOST 1048576: true; the input reads as it did. -/
def nodeBackUptoRow : OpenClaim := { program := "ythibppfdonepoaa", sum := "5c9d96bf0b7d1fb922bfdd174f3014889cd7c4dafcc8bfff123343eee0ae4c13", func := "livery/liverylaw22.NodeBack", spec := "nodeBack", inPlace := ["maps.clone"], unfollowed := true, recurses := true, apart := false, narrowed := true }
def NodeBackUptoSaid : Prop := nodeBackUptoRow.holds Try.pinned (OpenSpec.upto nodeBackSpec)

/-- 'liverylaw22.NodeNone', WHERE WHAT IT READS IS OF BULK AT MOST 1048576: true; the input reads as it did. -/
def nodeNoneUptoRow : OpenClaim := { program := "ythibppfdonepoaa", sum := "5c9d96bf0b7d1fb922bfdd174f3014889cd7c4dafcc8bfff123343eee0ae4c13", func := "livery/liverylaw22.NodeNone", spec := "nodeNone", inPlace := ["maps.clone"], unfollowed := true, recurses := true, apart := false, narrowed := true }
def NodeNoneUptoSaid : Prop := nodeNoneUptoRow.holds Try.pinned (OpenSpec.upto nodeNoneSpec)

/-- 'liverylaw27.FillerHead', WHERE WHAT IT READS IS OF BULK AT MOST 1048576: true; the input reads as it did. -/
def fillerHeadUptoRow : OpenClaim := { program := "ythibppfdonepoaa", sum := "5c9d96bf0b7d1fb922bfdd174f3014889cd7c4dafcc8bfff123343eee0ae4c13", func := "livery/liverylaw27.FillerHead", spec := "fillerHead", unfollowed := true, recurses := true, apart := false, narrowed := true }
def FillerHeadUptoSaid : Prop := fillerHeadUptoRow.holds Try.pinned (OpenSpec.upto fillerHeadSpec)

/-- 'liverylaw27.FillerTicks', WHERE WHAT IT READS IS OF BULK AT MOST 1048576: true; the input reads as it did. -/
def fillerTicksUptoRow : OpenClaim := { program := "ythibppfdonepoaa", sum := "5c9d96bf0b7d1fb922bfdd174f3014889cd7c4dafcc8bfff123343eee0ae4c13", func := "livery/liverylaw27.FillerTicks", spec := "fillerTicks", unfollowed := true, recurses := true, apart := false, narrowed := true }
def FillerTicksUptoSaid : Prop := fillerTicksUptoRow.holds Try.pinned (OpenSpec.upto fillerTicksSpec)

/-- 'liverylaw27.FillerPlays', WHERE WHAT IT READS IS OF BULK AT MOST 1048576: true; the input reads as it did. -/
def fillerPlaysUptoRow : OpenClaim := { program := "ythibppfdonepoaa", sum := "5c9d96bf0b7d1fb922bfdd174f3014889cd7c4dafcc8bfff123343eee0ae4c13", func := "livery/liverylaw27.FillerPlays", spec := "fillerPlays", inPlace := ["maps.clone"], unfollowed := true, recurses := true, apart := false, narrowed := true }
def FillerPlaysUptoSaid : Prop := fillerPlaysUptoRow.holds Try.pinned (OpenSpec.upto fillerPlaysSpec)

/-- 'liverylaw27.FillerNone', WHERE WHAT IT READS IS OF BULK AT MOST 1048576: true; the input reads as it did. -/
def fillerNoneUptoRow : OpenClaim := { program := "ythibppfdonepoaa", sum := "5c9d96bf0b7d1fb922bfdd174f3014889cd7c4dafcc8bfff123343eee0ae4c13", func := "livery/liverylaw27.FillerNone", spec := "fillerNone", inPlace := ["maps.clone"], unfollowed := true, recurses := true, apart := false, narrowed := true }
def FillerNoneUptoSaid : Prop := fillerNoneUptoRow.holds Try.pinned (OpenSpec.upto fillerNoneSpec)

/-- 'liverylaw27.FillerLoad', WHERE WHAT IT READS IS OF BULK AT MOST 1048576: true; the input reads as it did. -/
def fillerLoadUptoRow : OpenClaim := { program := "ythibppfdonepoaa", sum := "5c9d96bf0b7d1fb922bfdd174f3014889cd7c4dafcc8bfff123343eee0ae4c13", func := "livery/liverylaw27.FillerLoad", spec := "fillerLoad", unfollowed := true, recurses := true, apart := false, narrowed := true }
def FillerLoadUptoSaid : Prop := fillerLoadUptoRow.holds Try.pinned (OpenSpec.upto fillerLoadSpec)

/-- 'liverylaw23.LedgerRooms', WHERE WHAT IT READS IS OF BULK AT MOST 1048576: true; the input reads as it did. -/
def ledgerRoomsUptoRow : OpenClaim := { program := "ythibppfdonepoaa", sum := "5c9d96bf0b7d1fb922bfdd174f3014889cd7c4dafcc8bfff123343eee0ae4c13", func := "livery/liverylaw23.LedgerRooms", spec := "ledgerRooms", inPlace := ["sync/atomic.AddUint32", "maps.clone"], unfollowed := true, recurses := true, apart := false, narrowed := true }
def LedgerRoomsUptoSaid : Prop := ledgerRoomsUptoRow.holds Try.pinned (OpenSpec.upto ledgerRoomsSpec)

/-- 'liverylaw23.LedgerLost', WHERE WHAT IT READS IS OF BULK AT MOST 1048576: true; the input reads as it did. -/
def ledgerLostUptoRow : OpenClaim := { program := "ythibppfdonepoaa", sum := "5c9d96bf0b7d1fb922bfdd174f3014889cd7c4dafcc8bfff123343eee0ae4c13", func := "livery/liverylaw23.LedgerLost", spec := "ledgerLost", inPlace := ["sync/atomic.AddUint32", "maps.clone"], unfollowed := true, recurses := true, apart := false, narrowed := true }
def LedgerLostUptoSaid : Prop := ledgerLostUptoRow.holds Try.pinned (OpenSpec.upto ledgerLostSpec)

/-- 'liverylaw23.LedgerNone', WHERE WHAT IT READS IS OF BULK AT MOST 1048576: true; the input reads as it did. -/
def ledgerNoneUptoRow : OpenClaim := { program := "ythibppfdonepoaa", sum := "5c9d96bf0b7d1fb922bfdd174f3014889cd7c4dafcc8bfff123343eee0ae4c13", func := "livery/liverylaw23.LedgerNone", spec := "ledgerNone", inPlace := ["sync/atomic.AddUint32", "maps.clone", "sync/atomic.LoadUint32", "sync/atomic.StoreUint32"], unfollowed := true, recurses := true, apart := false, narrowed := true }
def LedgerNoneUptoSaid : Prop := ledgerNoneUptoRow.holds Try.pinned (OpenSpec.upto ledgerNoneSpec)

end Rows
end Go.Proofs.Ythibppfdonepoaa
