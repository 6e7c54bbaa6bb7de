/-
  No cell of these rows narrows 'for every input' (looked for: loops, veiled, ifaces, maps, wideKeys, modest, calm, conditions, laid).
  DERIVED. THE GIVEN ROWS OF THIS SEAT. 6 by the template 'for every input the law returns true; each argument reads behind the call as it read before'; 0 by the template 'total and deterministic' (their statements: YthibppfdonepoaaGreatTotals.lean).
  GIVEN WITH THE SEED: the statements are not yours to turn. If you find one false, say at which input.
  Laid BY PROGRAM, IN A SANDBOX (cutbox-rows.mjs): the forced cells as the released guide's own fill.sh prints them over the translation e909350f96be620c… (all of the seat's roots in one cut). By AI agents, Wed Nov 11 2026. No macro, syntax, notation, axiom, sorry.
-/
import Derived.Test.YthibppfdonepoaaGreatChecked
import GoSem.Claim
import GoSem.ClaimJoined
import GoSem.ClaimMapViews
import Derived.JoinedTies
import Derived.KernelRfl
namespace Go.Proofs.YthibppfdonepoaaGreat
/- THE CELL 'sum', in the pinned program and in every row, IS THE sha256 OF THE DUMP (.gsa) THAT YthibppfdonepoaaGreatProg.lean LOADS. Nothing in Lean hashes anything: it is a label: what it is worth is what the hold of that sum in a sandbox is worth. -/
noncomputable def Tryz.pinned : Pinned := { name := "ythibppfdonepoaagreat", sum := "e909350f96be620c92027404f1924b3b4b5c27bbe20aea0bafee858e90e0b4fa", checked := Tryz.checked }
namespace Rows
def none {H : Type} : Left H := { results := [], args := [] }

/-- 'liverylaw26.GrantLog': WHATEVER THE INPUT: true; the input reads as it did. -/
def grantLogSpec : ChangeSpec := { name := "grantLog", fn := fun _ => fun
  | [d1, d2, d3] => { results := [.lit (.bool true)], args := [d1, d2, d3] }
  | _ => none }
def grantLogRow : OpenClaim := { program := "ythibppfdonepoaagreat", sum := "e909350f96be620c92027404f1924b3b4b5c27bbe20aea0bafee858e90e0b4fa", func := "livery/liverylaw26.GrantLog", spec := "grantLog", inPlace := ["sync/atomic.AddUint32", "maps.clone", "sync/atomic.LoadUint32", "sync/atomic.StoreUint32"], unfollowed := true, recurses := true, apart := false }
def GrantLogSaid : Prop := grantLogRow.holds Tryz.pinned (OpenSpec.ofChange grantLogSpec)

/-- ITS FALSE NEIGHBOUR: 'it returns false'. Refute it at one input. -/
def grantLogWrong : ChangeSpec := { name := "grantLog", fn := fun _ => fun
  | [d1, d2, d3] => { results := [.lit (.bool false)], args := [d1, d2, d3] }
  | _ => none }
def GrantLogWrongFalsely : Prop := grantLogRow.holds Tryz.pinned (OpenSpec.ofChange grantLogWrong)

/-- 'liverylaw26.GrantLeast': WHATEVER THE INPUT: true; the input reads as it did. -/
def grantLeastSpec : ChangeSpec := { name := "grantLeast", fn := fun _ => fun
  | [d1, d2, d3] => { results := [.lit (.bool true)], args := [d1, d2, d3] }
  | _ => none }
def grantLeastRow : OpenClaim := { program := "ythibppfdonepoaagreat", sum := "e909350f96be620c92027404f1924b3b4b5c27bbe20aea0bafee858e90e0b4fa", func := "livery/liverylaw26.GrantLeast", spec := "grantLeast", inPlace := ["sync/atomic.AddUint32", "maps.clone", "sync/atomic.LoadUint32", "sync/atomic.StoreUint32"], unfollowed := true, recurses := true, apart := false }
def GrantLeastSaid : Prop := grantLeastRow.holds Tryz.pinned (OpenSpec.ofChange grantLeastSpec)

/-- ITS FALSE NEIGHBOUR: 'it returns false'. Refute it at one input. -/
def grantLeastWrong : ChangeSpec := { name := "grantLeast", fn := fun _ => fun
  | [d1, d2, d3] => { results := [.lit (.bool false)], args := [d1, d2, d3] }
  | _ => none }
def GrantLeastWrongFalsely : Prop := grantLeastRow.holds Tryz.pinned (OpenSpec.ofChange grantLeastWrong)

/-- 'liverylaw23.LedgerBack': WHATEVER THE INPUT: true; the input reads as it did. -/
def ledgerBackSpec : ChangeSpec := { name := "ledgerBack", fn := fun _ => fun
  | [d1, d2, d3] => { results := [.lit (.bool true)], args := [d1, d2, d3] }
  | _ => none }
def ledgerBackRow : OpenClaim := { program := "ythibppfdonepoaagreat", sum := "e909350f96be620c92027404f1924b3b4b5c27bbe20aea0bafee858e90e0b4fa", func := "livery/liverylaw23.LedgerBack", spec := "ledgerBack", inPlace := ["sync/atomic.AddUint32", "maps.clone", "sync/atomic.LoadUint32", "sync/atomic.StoreUint32"], unfollowed := true, recurses := true, apart := false }
def LedgerBackSaid : Prop := ledgerBackRow.holds Tryz.pinned (OpenSpec.ofChange ledgerBackSpec)

/-- ITS FALSE NEIGHBOUR: 'it returns false'. Refute it at one input. -/
def ledgerBackWrong : ChangeSpec := { name := "ledgerBack", fn := fun _ => fun
  | [d1, d2, d3] => { results := [.lit (.bool false)], args := [d1, d2, d3] }
  | _ => none }
def LedgerBackWrongFalsely : Prop := ledgerBackRow.holds Tryz.pinned (OpenSpec.ofChange ledgerBackWrong)

/-- 'liverylaw23.LedgerPlays': WHATEVER THE INPUT: true; the input reads as it did. -/
def ledgerPlaysSpec : ChangeSpec := { name := "ledgerPlays", fn := fun _ => fun
  | [d1, d2] => { results := [.lit (.bool true)], args := [d1, d2] }
  | _ => none }
def ledgerPlaysRow : OpenClaim := { program := "ythibppfdonepoaagreat", sum := "e909350f96be620c92027404f1924b3b4b5c27bbe20aea0bafee858e90e0b4fa", func := "livery/liverylaw23.LedgerPlays", spec := "ledgerPlays", inPlace := ["sync/atomic.AddUint32", "maps.clone"], unfollowed := true, recurses := true, apart := false }
def LedgerPlaysSaid : Prop := ledgerPlaysRow.holds Tryz.pinned (OpenSpec.ofChange ledgerPlaysSpec)

/-- ITS FALSE NEIGHBOUR: 'it returns false'. Refute it at one input. -/
def ledgerPlaysWrong : ChangeSpec := { name := "ledgerPlays", fn := fun _ => fun
  | [d1, d2] => { results := [.lit (.bool false)], args := [d1, d2] }
  | _ => none }
def LedgerPlaysWrongFalsely : Prop := ledgerPlaysRow.holds Tryz.pinned (OpenSpec.ofChange ledgerPlaysWrong)

/-- 'liverylaw26.GrantTells': WHATEVER THE INPUT: true; the input reads as it did. -/
def grantTellsSpec : ChangeSpec := { name := "grantTells", fn := fun _ => fun
  | [d1, d2, d3] => { results := [.lit (.bool true)], args := [d1, d2, d3] }
  | _ => none }
def grantTellsRow : OpenClaim := { program := "ythibppfdonepoaagreat", sum := "e909350f96be620c92027404f1924b3b4b5c27bbe20aea0bafee858e90e0b4fa", func := "livery/liverylaw26.GrantTells", spec := "grantTells", inPlace := ["sync/atomic.AddUint32", "maps.clone", "sync/atomic.LoadUint32", "sync/atomic.StoreUint32"], unfollowed := true, recurses := true, apart := false }
def GrantTellsSaid : Prop := grantTellsRow.holds Tryz.pinned (OpenSpec.ofChange grantTellsSpec)

/-- ITS FALSE NEIGHBOUR: 'it returns false'. Refute it at one input. -/
def grantTellsWrong : ChangeSpec := { name := "grantTells", fn := fun _ => fun
  | [d1, d2, d3] => { results := [.lit (.bool false)], args := [d1, d2, d3] }
  | _ => none }
def GrantTellsWrongFalsely : Prop := grantTellsRow.holds Tryz.pinned (OpenSpec.ofChange grantTellsWrong)

/-- 'liverylaw26.GrantMakes': WHATEVER THE INPUT: true; the input reads as it did. -/
def grantMakesSpec : ChangeSpec := { name := "grantMakes", fn := fun _ => fun
  | [d1, d2, d3] => { results := [.lit (.bool true)], args := [d1, d2, d3] }
  | _ => none }
def grantMakesRow : OpenClaim := { program := "ythibppfdonepoaagreat", sum := "e909350f96be620c92027404f1924b3b4b5c27bbe20aea0bafee858e90e0b4fa", func := "livery/liverylaw26.GrantMakes", spec := "grantMakes", inPlace := ["sync/atomic.AddUint32", "maps.clone", "sync/atomic.LoadUint32", "sync/atomic.StoreUint32"], unfollowed := true, recurses := true, apart := false }
def GrantMakesSaid : Prop := grantMakesRow.holds Tryz.pinned (OpenSpec.ofChange grantMakesSpec)

/-- ITS FALSE NEIGHBOUR: 'it returns false'. Refute it at one input. -/
def grantMakesWrong : ChangeSpec := { name := "grantMakes", fn := fun _ => fun
  | [d1, d2, d3] => { results := [.lit (.bool false)], args := [d1, d2, d3] }
  | _ => none }
def GrantMakesWrongFalsely : Prop := grantMakesRow.holds Tryz.pinned (OpenSpec.ofChange grantMakesWrong)

/- THE SECOND FORM. 'bulk': how many values and letters a reading holds, each counted each time it is reached (what is shared counts as often as it is met; a slice's spare places count too). A statement '..UptoSaid' is the law's where the arguments, and the package variables that the reading takes, are together of bulk at most 1048576: NARROWER than '..Said'. Prove '..Said' where nothing that the law and all that it calls make is longer than what came in: it says more and counts as full. Else prove '..UptoSaid'. A law counts once. -/
mutual
def uptoBulk {H : Type} : DataW H → Nat
  | .lit (.string bytes) => bytes.length + 1
  | .lit _ => 1
  | .nil => 1
  | .ptr d => uptoBulk d + 1
  | .slice elems spare => uptoBulkAll elems + uptoBulkAll spare + 1
  | .agg parts => uptoBulkAll parts + 1
  | .iface _ d => uptoBulk d + 1
  | .map entries => uptoBulkEntries entries + 1
  | .held _ => 1
def uptoBulkAll {H : Type} : List (DataW H) → Nat
  | [] => 0
  | d :: r => uptoBulk d + uptoBulkAll r
def uptoBulkEntries {H : Type} : List (Lit × DataW H) → Nat
  | [] => 0
  | x :: r => uptoBulkEntry x + uptoBulkEntries r
def uptoBulkEntry {H : Type} : Lit × DataW H → Nat
  | (.string bytes, d) => bytes.length + uptoBulk d + 1
  | (_, d) => uptoBulk d + 1
 end
def uptoSmall : (H : Type) → List (DataW H) → Bool := fun _ ds => decide (uptoBulkAll ds ≤ 1048576)
def OpenSpec.upto (s : _root_.Go.ChangeSpec) : _root_.Go.OpenSpec := { _root_.Go.OpenSpec.ofChange s with cond := some uptoSmall }

/-- 'liverylaw26.GrantLog', WHERE WHAT IT READS IS OF BULK AT MOST 1048576: true; the input reads as it did. -/
def grantLogUptoRow : OpenClaim := { program := "ythibppfdonepoaagreat", sum := "e909350f96be620c92027404f1924b3b4b5c27bbe20aea0bafee858e90e0b4fa", func := "livery/liverylaw26.GrantLog", spec := "grantLog", inPlace := ["sync/atomic.AddUint32", "maps.clone", "sync/atomic.LoadUint32", "sync/atomic.StoreUint32"], unfollowed := true, recurses := true, apart := false, narrowed := true }
def GrantLogUptoSaid : Prop := grantLogUptoRow.holds Tryz.pinned (OpenSpec.upto grantLogSpec)

/-- 'liverylaw26.GrantLeast', WHERE WHAT IT READS IS OF BULK AT MOST 1048576: true; the input reads as it did. -/
def grantLeastUptoRow : OpenClaim := { program := "ythibppfdonepoaagreat", sum := "e909350f96be620c92027404f1924b3b4b5c27bbe20aea0bafee858e90e0b4fa", func := "livery/liverylaw26.GrantLeast", spec := "grantLeast", inPlace := ["sync/atomic.AddUint32", "maps.clone", "sync/atomic.LoadUint32", "sync/atomic.StoreUint32"], unfollowed := true, recurses := true, apart := false, narrowed := true }
def GrantLeastUptoSaid : Prop := grantLeastUptoRow.holds Tryz.pinned (OpenSpec.upto grantLeastSpec)

/-- 'liverylaw23.LedgerBack', WHERE WHAT IT READS IS OF BULK AT MOST 1048576: true; the input reads as it did. -/
def ledgerBackUptoRow : OpenClaim := { program := "ythibppfdonepoaagreat", sum := "e909350f96be620c92027404f1924b3b4b5c27bbe20aea0bafee858e90e0b4fa", func := "livery/liverylaw23.LedgerBack", spec := "ledgerBack", inPlace := ["sync/atomic.AddUint32", "maps.clone", "sync/atomic.LoadUint32", "sync/atomic.StoreUint32"], unfollowed := true, recurses := true, apart := false, narrowed := true }
def LedgerBackUptoSaid : Prop := ledgerBackUptoRow.holds Tryz.pinned (OpenSpec.upto ledgerBackSpec)

/-- 'liverylaw23.LedgerPlays', WHERE WHAT IT READS IS OF BULK AT MOST 1048576: true; the input reads as it did. -/
def ledgerPlaysUptoRow : OpenClaim := { program := "ythibppfdonepoaagreat", sum := "e909350f96be620c92027404f1924b3b4b5c27bbe20aea0bafee858e90e0b4fa", func := "livery/liverylaw23.LedgerPlays", spec := "ledgerPlays", inPlace := ["sync/atomic.AddUint32", "maps.clone"], unfollowed := true, recurses := true, apart := false, narrowed := true }
def LedgerPlaysUptoSaid : Prop := ledgerPlaysUptoRow.holds Tryz.pinned (OpenSpec.upto ledgerPlaysSpec)

/-- 'liverylaw26.GrantTells', WHERE WHAT IT READS IS OF BULK AT MOST 1048576: true; the input reads as it did. -/
def grantTellsUptoRow : OpenClaim := { program := "ythibppfdonepoaagreat", sum := "e909350f96be620c92027404f1924b3b4b5c27bbe20aea0bafee858e90e0b4fa", func := "livery/liverylaw26.GrantTells", spec := "grantTells", inPlace := ["sync/atomic.AddUint32", "maps.clone", "sync/atomic.LoadUint32", "sync/atomic.StoreUint32"], unfollowed := true, recurses := true, apart := false, narrowed := true }
def GrantTellsUptoSaid : Prop := grantTellsUptoRow.holds Tryz.pinned (OpenSpec.upto grantTellsSpec)

/-- 'liverylaw26.GrantMakes', WHERE WHAT IT READS IS OF BULK AT MOST 1048576: true; the input reads as it did. -/
def grantMakesUptoRow : OpenClaim := { program := "ythibppfdonepoaagreat", sum := "e909350f96be620c92027404f1924b3b4b5c27bbe20aea0bafee858e90e0b4fa", func := "livery/liverylaw26.GrantMakes", spec := "grantMakes", inPlace := ["sync/atomic.AddUint32", "maps.clone", "sync/atomic.LoadUint32", "sync/atomic.StoreUint32"], unfollowed := true, recurses := true, apart := false, narrowed := true }
def GrantMakesUptoSaid : Prop := grantMakesUptoRow.holds Tryz.pinned (OpenSpec.upto grantMakesSpec)

end Rows
end Go.Proofs.YthibppfdonepoaaGreat
