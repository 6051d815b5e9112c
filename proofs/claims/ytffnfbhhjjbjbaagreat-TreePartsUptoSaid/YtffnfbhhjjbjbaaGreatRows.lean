/-
  No cell of these rows narrows 'for every input' (looked for: loops, veiled, ifaces, maps, wideKeys, modest, calm, conditions, laid).
  DERIVED. THE GIVEN ROWS OF THIS SEAT. 7 by the template 'for every input the law returns true; each argument reads behind the call as it read before'; 0 by the template 'total and deterministic' (their statements: YtffnfbhhjjbjbaaGreatTotals.lean).
  GIVEN WITH THE SEED: the statements are not yours to turn. If you find one false, say at which input.
  Laid BY PROGRAM, IN A SANDBOX (cutbox-rows.mjs): the forced cells as the released guide's own fill.sh prints them over the translation be7b4d0dae65f17a… (all of the seat's roots in one cut). By AI agents, Wed Nov 11 2026. No macro, syntax, notation, axiom, sorry.
-/
import Derived.Test.YtffnfbhhjjbjbaaGreatChecked
import GoSem.Claim
import GoSem.ClaimJoined
import GoSem.ClaimMapViews
import Derived.JoinedTies
import Derived.KernelRfl
namespace Go.Proofs.YtffnfbhhjjbjbaaGreat
/- THE CELL 'sum', in the pinned program and in every row, IS THE sha256 OF THE DUMP (.gsa) THAT YtffnfbhhjjbjbaaGreatProg.lean LOADS. Nothing in Lean hashes anything: it is a label: what it is worth is what the hold of that sum in a sandbox is worth. -/
noncomputable def Tryz.pinned : Pinned := { name := "ytffnfbhhjjbjbaagreat", sum := "be7b4d0dae65f17a29a4a429dbaa082344aa6c73b07be8385bb4b8318d6fc09a", checked := Tryz.checked }
namespace Rows
def none {H : Type} : Left H := { results := [], args := [] }

/-- 'trammellaw10.FilterNorms': WHATEVER THE INPUT: true; the input reads as it did. -/
def filterNormsSpec : ChangeSpec := { name := "filterNorms", fn := fun _ => fun
  | [d1, d2, d3, d4] => { results := [.lit (.bool true)], args := [d1, d2, d3, d4] }
  | _ => none }
def filterNormsRow : OpenClaim := { program := "ytffnfbhhjjbjbaagreat", sum := "be7b4d0dae65f17a29a4a429dbaa082344aa6c73b07be8385bb4b8318d6fc09a", func := "trammel/trammellaw10.FilterNorms", spec := "filterNorms", unfollowed := true, recurses := true, apart := false }
def FilterNormsSaid : Prop := filterNormsRow.holds Tryz.pinned (OpenSpec.ofChange filterNormsSpec)

/-- ITS FALSE NEIGHBOUR: 'it returns false'. Refute it at one input. -/
def filterNormsWrong : ChangeSpec := { name := "filterNorms", fn := fun _ => fun
  | [d1, d2, d3, d4] => { results := [.lit (.bool false)], args := [d1, d2, d3, d4] }
  | _ => none }
def FilterNormsWrongFalsely : Prop := filterNormsRow.holds Tryz.pinned (OpenSpec.ofChange filterNormsWrong)

/-- 'trammellaw10.FilterZero': WHATEVER THE INPUT: true; the input reads as it did. -/
def filterZeroSpec : ChangeSpec := { name := "filterZero", fn := fun _ => fun
  | [d1, d2] => { results := [.lit (.bool true)], args := [d1, d2] }
  | _ => none }
def filterZeroRow : OpenClaim := { program := "ytffnfbhhjjbjbaagreat", sum := "be7b4d0dae65f17a29a4a429dbaa082344aa6c73b07be8385bb4b8318d6fc09a", func := "trammel/trammellaw10.FilterZero", spec := "filterZero", inPlace := ["math.Float64bits", "math.Float64frombits", "sync/atomic.LoadUint32", "(*internal/sync.Mutex).Lock", "internal/race.Disable", "sync/atomic.CompareAndSwapInt32", "internal/race.Enable", "internal/race.Acquire", "(*internal/sync.Mutex).lockSlow", "internal/sync.runtime_canSpin", "internal/sync.runtime_doSpin", "internal/sync.throw", "internal/sync.runtime_nanotime", "internal/sync.runtime_SemacquireMutex", "sync/atomic.AddInt32", "(*internal/sync.Mutex).Unlock", "internal/race.ReleaseMerge", "(*internal/sync.Mutex).unlockSlow", "internal/sync.fatal", "internal/sync.runtime_Semrelease", "sync/atomic.StoreUint32", "sync/atomic.AddInt64", "sync/atomic.LoadInt64", "sync/atomic.StoreInt64"], unfollowed := true, recurses := true, apart := false }
def FilterZeroSaid : Prop := filterZeroRow.holds Tryz.pinned (OpenSpec.ofChange filterZeroSpec)

/-- ITS FALSE NEIGHBOUR: 'it returns false'. Refute it at one input. -/
def filterZeroWrong : ChangeSpec := { name := "filterZero", fn := fun _ => fun
  | [d1, d2] => { results := [.lit (.bool false)], args := [d1, d2] }
  | _ => none }
def FilterZeroWrongFalsely : Prop := filterZeroRow.holds Tryz.pinned (OpenSpec.ofChange filterZeroWrong)

/-- 'trammellaw11.TreeLengths': WHATEVER THE INPUT: true; the input reads as it did. -/
def treeLengthsSpec : ChangeSpec := { name := "treeLengths", fn := fun _ => fun
  | [d1, d2, d3] => { results := [.lit (.bool true)], args := [d1, d2, d3] }
  | _ => none }
def treeLengthsRow : OpenClaim := { program := "ytffnfbhhjjbjbaagreat", sum := "be7b4d0dae65f17a29a4a429dbaa082344aa6c73b07be8385bb4b8318d6fc09a", func := "trammel/trammellaw11.TreeLengths", spec := "treeLengths", unfollowed := true, recurses := true, apart := false }
def TreeLengthsSaid : Prop := treeLengthsRow.holds Tryz.pinned (OpenSpec.ofChange treeLengthsSpec)

/-- ITS FALSE NEIGHBOUR: 'it returns false'. Refute it at one input. -/
def treeLengthsWrong : ChangeSpec := { name := "treeLengths", fn := fun _ => fun
  | [d1, d2, d3] => { results := [.lit (.bool false)], args := [d1, d2, d3] }
  | _ => none }
def TreeLengthsWrongFalsely : Prop := treeLengthsRow.holds Tryz.pinned (OpenSpec.ofChange treeLengthsWrong)

/-- 'trammellaw11.TreeZigzag': WHATEVER THE INPUT: true; the input reads as it did. -/
def treeZigzagSpec : ChangeSpec := { name := "treeZigzag", fn := fun _ => fun
  | [d1, d2] => { results := [.lit (.bool true)], args := [d1, d2] }
  | _ => none }
def treeZigzagRow : OpenClaim := { program := "ytffnfbhhjjbjbaagreat", sum := "be7b4d0dae65f17a29a4a429dbaa082344aa6c73b07be8385bb4b8318d6fc09a", func := "trammel/trammellaw11.TreeZigzag", spec := "treeZigzag", unfollowed := true, recurses := true, apart := false }
def TreeZigzagSaid : Prop := treeZigzagRow.holds Tryz.pinned (OpenSpec.ofChange treeZigzagSpec)

/-- ITS FALSE NEIGHBOUR: 'it returns false'. Refute it at one input. -/
def treeZigzagWrong : ChangeSpec := { name := "treeZigzag", fn := fun _ => fun
  | [d1, d2] => { results := [.lit (.bool false)], args := [d1, d2] }
  | _ => none }
def TreeZigzagWrongFalsely : Prop := treeZigzagRow.holds Tryz.pinned (OpenSpec.ofChange treeZigzagWrong)

/-- 'trammellaw11.TreeParts': WHATEVER THE INPUT: true; the input reads as it did. -/
def treePartsSpec : ChangeSpec := { name := "treeParts", fn := fun _ => fun
  | [d1, d2] => { results := [.lit (.bool true)], args := [d1, d2] }
  | _ => none }
def treePartsRow : OpenClaim := { program := "ytffnfbhhjjbjbaagreat", sum := "be7b4d0dae65f17a29a4a429dbaa082344aa6c73b07be8385bb4b8318d6fc09a", func := "trammel/trammellaw11.TreeParts", spec := "treeParts", unfollowed := true, recurses := true, apart := false }
def TreePartsSaid : Prop := treePartsRow.holds Tryz.pinned (OpenSpec.ofChange treePartsSpec)

/-- ITS FALSE NEIGHBOUR: 'it returns false'. Refute it at one input. -/
def treePartsWrong : ChangeSpec := { name := "treeParts", fn := fun _ => fun
  | [d1, d2] => { results := [.lit (.bool false)], args := [d1, d2] }
  | _ => none }
def TreePartsWrongFalsely : Prop := treePartsRow.holds Tryz.pinned (OpenSpec.ofChange treePartsWrong)

/-- 'trammellaw11.TreeKids': WHATEVER THE INPUT: true; the input reads as it did. -/
def treeKidsSpec : ChangeSpec := { name := "treeKids", fn := fun _ => fun
  | [d1, d2, d3] => { results := [.lit (.bool true)], args := [d1, d2, d3] }
  | _ => none }
def treeKidsRow : OpenClaim := { program := "ytffnfbhhjjbjbaagreat", sum := "be7b4d0dae65f17a29a4a429dbaa082344aa6c73b07be8385bb4b8318d6fc09a", func := "trammel/trammellaw11.TreeKids", spec := "treeKids", unfollowed := true, recurses := true, apart := false }
def TreeKidsSaid : Prop := treeKidsRow.holds Tryz.pinned (OpenSpec.ofChange treeKidsSpec)

/-- ITS FALSE NEIGHBOUR: 'it returns false'. Refute it at one input. -/
def treeKidsWrong : ChangeSpec := { name := "treeKids", fn := fun _ => fun
  | [d1, d2, d3] => { results := [.lit (.bool false)], args := [d1, d2, d3] }
  | _ => none }
def TreeKidsWrongFalsely : Prop := treeKidsRow.holds Tryz.pinned (OpenSpec.ofChange treeKidsWrong)

/-- 'trammellaw11.TreeNodes': WHATEVER THE INPUT: true; the input reads as it did. -/
def treeNodesSpec : ChangeSpec := { name := "treeNodes", fn := fun _ => fun
  | [d1, d2] => { results := [.lit (.bool true)], args := [d1, d2] }
  | _ => none }
def treeNodesRow : OpenClaim := { program := "ytffnfbhhjjbjbaagreat", sum := "be7b4d0dae65f17a29a4a429dbaa082344aa6c73b07be8385bb4b8318d6fc09a", func := "trammel/trammellaw11.TreeNodes", spec := "treeNodes", unfollowed := true, recurses := true, apart := false }
def TreeNodesSaid : Prop := treeNodesRow.holds Tryz.pinned (OpenSpec.ofChange treeNodesSpec)

/-- ITS FALSE NEIGHBOUR: 'it returns false'. Refute it at one input. -/
def treeNodesWrong : ChangeSpec := { name := "treeNodes", fn := fun _ => fun
  | [d1, d2] => { results := [.lit (.bool false)], args := [d1, d2] }
  | _ => none }
def TreeNodesWrongFalsely : Prop := treeNodesRow.holds Tryz.pinned (OpenSpec.ofChange treeNodesWrong)

/- THE SECOND FORM. 'bulk': how many values and letters a reading holds, each counted each time it is reached (what is shared counts as often as it is met; a slice's spare places count too). A statement '..UptoSaid' is the law's where the arguments, and the package variables that the reading takes, are together of bulk at most 1048576: NARROWER than '..Said'. Prove '..Said' where nothing that the law and all that it calls make is longer than what came in: it says more and counts as full. Else prove '..UptoSaid'. A law counts once. -/
mutual
def uptoBulk {H : Type} : DataW H → Nat
  | .lit (.string bytes) => bytes.length + 1
  | .lit _ => 1
  | .nil => 1
  | .ptr d => uptoBulk d + 1
  | .slice elems spare => uptoBulkAll elems + uptoBulkAll spare + 1
  | .agg parts => uptoBulkAll parts + 1
  | .iface _ d => uptoBulk d + 1
  | .map entries => uptoBulkEntries entries + 1
  | .held _ => 1
def uptoBulkAll {H : Type} : List (DataW H) → Nat
  | [] => 0
  | d :: r => uptoBulk d + uptoBulkAll r
def uptoBulkEntries {H : Type} : List (Lit × DataW H) → Nat
  | [] => 0
  | x :: r => uptoBulkEntry x + uptoBulkEntries r
def uptoBulkEntry {H : Type} : Lit × DataW H → Nat
  | (.string bytes, d) => bytes.length + uptoBulk d + 1
  | (_, d) => uptoBulk d + 1
 end
def uptoSmall : (H : Type) → List (DataW H) → Bool := fun _ ds => decide (uptoBulkAll ds ≤ 1048576)
def OpenSpec.upto (s : _root_.Go.ChangeSpec) : _root_.Go.OpenSpec := { _root_.Go.OpenSpec.ofChange s with cond := some uptoSmall }

/-- 'trammellaw10.FilterNorms', WHERE WHAT IT READS IS OF BULK AT MOST 1048576: true; the input reads as it did. -/
def filterNormsUptoRow : OpenClaim := { program := "ytffnfbhhjjbjbaagreat", sum := "be7b4d0dae65f17a29a4a429dbaa082344aa6c73b07be8385bb4b8318d6fc09a", func := "trammel/trammellaw10.FilterNorms", spec := "filterNorms", unfollowed := true, recurses := true, apart := false, narrowed := true }
def FilterNormsUptoSaid : Prop := filterNormsUptoRow.holds Tryz.pinned (OpenSpec.upto filterNormsSpec)

/-- 'trammellaw10.FilterZero', WHERE WHAT IT READS IS OF BULK AT MOST 1048576: true; the input reads as it did. -/
def filterZeroUptoRow : OpenClaim := { program := "ytffnfbhhjjbjbaagreat", sum := "be7b4d0dae65f17a29a4a429dbaa082344aa6c73b07be8385bb4b8318d6fc09a", func := "trammel/trammellaw10.FilterZero", spec := "filterZero", inPlace := ["math.Float64bits", "math.Float64frombits", "sync/atomic.LoadUint32", "(*internal/sync.Mutex).Lock", "internal/race.Disable", "sync/atomic.CompareAndSwapInt32", "internal/race.Enable", "internal/race.Acquire", "(*internal/sync.Mutex).lockSlow", "internal/sync.runtime_canSpin", "internal/sync.runtime_doSpin", "internal/sync.throw", "internal/sync.runtime_nanotime", "internal/sync.runtime_SemacquireMutex", "sync/atomic.AddInt32", "(*internal/sync.Mutex).Unlock", "internal/race.ReleaseMerge", "(*internal/sync.Mutex).unlockSlow", "internal/sync.fatal", "internal/sync.runtime_Semrelease", "sync/atomic.StoreUint32", "sync/atomic.AddInt64", "sync/atomic.LoadInt64", "sync/atomic.StoreInt64"], unfollowed := true, recurses := true, apart := false, narrowed := true }
def FilterZeroUptoSaid : Prop := filterZeroUptoRow.holds Tryz.pinned (OpenSpec.upto filterZeroSpec)

/-- 'trammellaw11.TreeLengths', WHERE WHAT IT READS IS OF BULK AT MOST 1048576: true; the input reads as it did. -/
def treeLengthsUptoRow : OpenClaim := { program := "ytffnfbhhjjbjbaagreat", sum := "be7b4d0dae65f17a29a4a429dbaa082344aa6c73b07be8385bb4b8318d6fc09a", func := "trammel/trammellaw11.TreeLengths", spec := "treeLengths", unfollowed := true, recurses := true, apart := false, narrowed := true }
def TreeLengthsUptoSaid : Prop := treeLengthsUptoRow.holds Tryz.pinned (OpenSpec.upto treeLengthsSpec)

/-- 'trammellaw11.TreeZigzag', WHERE WHAT IT READS IS OF BULK AT MOST 1048576: true; the input reads as it did. -/
def treeZigzagUptoRow : OpenClaim := { program := "ytffnfbhhjjbjbaagreat", sum := "be7b4d0dae65f17a29a4a429dbaa082344aa6c73b07be8385bb4b8318d6fc09a", func := "trammel/trammellaw11.TreeZigzag", spec := "treeZigzag", unfollowed := true, recurses := true, apart := false, narrowed := true }
def TreeZigzagUptoSaid : Prop := treeZigzagUptoRow.holds Tryz.pinned (OpenSpec.upto treeZigzagSpec)

/-- 'trammellaw11.TreeParts', WHERE WHAT IT READS IS OF BULK AT MOST 1048576: true; the input reads as it did. -/
def treePartsUptoRow : OpenClaim := { program := "ytffnfbhhjjbjbaagreat", sum := "be7b4d0dae65f17a29a4a429dbaa082344aa6c73b07be8385bb4b8318d6fc09a", func := "trammel/trammellaw11.TreeParts", spec := "treeParts", unfollowed := true, recurses := true, apart := false, narrowed := true }
def TreePartsUptoSaid : Prop := treePartsUptoRow.holds Tryz.pinned (OpenSpec.upto treePartsSpec)

/-- 'trammellaw11.TreeKids', WHERE WHAT IT READS IS OF BULK AT MOST 1048576: true; the input reads as it did. -/
def treeKidsUptoRow : OpenClaim := { program := "ytffnfbhhjjbjbaagreat", sum := "be7b4d0dae65f17a29a4a429dbaa082344aa6c73b07be8385bb4b8318d6fc09a", func := "trammel/trammellaw11.TreeKids", spec := "treeKids", unfollowed := true, recurses := true, apart := false, narrowed := true }
def TreeKidsUptoSaid : Prop := treeKidsUptoRow.holds Tryz.pinned (OpenSpec.upto treeKidsSpec)

/-- 'trammellaw11.TreeNodes', WHERE WHAT IT READS IS OF BULK AT MOST 1048576: true; the input reads as it did. -/
def treeNodesUptoRow : OpenClaim := { program := "ytffnfbhhjjbjbaagreat", sum := "be7b4d0dae65f17a29a4a429dbaa082344aa6c73b07be8385bb4b8318d6fc09a", func := "trammel/trammellaw11.TreeNodes", spec := "treeNodes", unfollowed := true, recurses := true, apart := false, narrowed := true }
def TreeNodesUptoSaid : Prop := treeNodesUptoRow.holds Tryz.pinned (OpenSpec.upto treeNodesSpec)

end Rows
end Go.Proofs.YtffnfbhhjjbjbaaGreat
