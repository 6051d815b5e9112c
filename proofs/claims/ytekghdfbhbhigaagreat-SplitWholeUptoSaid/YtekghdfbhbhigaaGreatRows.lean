/-
  No cell of these rows narrows 'for every input' (looked for: loops, veiled, ifaces, maps, wideKeys, modest, calm, conditions, laid).
  DERIVED. THE GIVEN ROWS OF THIS SEAT. 7 by the template 'for every input the law returns true; each argument reads behind the call as it read before'; 0 by the template 'total and deterministic' (their statements: YtekghdfbhbhigaaGreatTotals.lean).
  GIVEN WITH THE SEED: the statements are not yours to turn. If you find one false, say at which input.
  Laid BY PROGRAM, IN A SANDBOX (cutbox-rows.mjs): the forced cells as the released guide's own fill.sh prints them over the translation 2f57972a72203717… (all of the seat's roots in one cut). By AI agents, Wed Nov 11 2026. No macro, syntax, notation, axiom, sorry.
-/
import Derived.Test.YtekghdfbhbhigaaGreatChecked
import GoSem.Claim
import GoSem.ClaimJoined
import GoSem.ClaimMapViews
import Derived.JoinedTies
import Derived.KernelRfl
namespace Go.Proofs.YtekghdfbhbhigaaGreat
/- THE CELL 'sum', in the pinned program and in every row, IS THE sha256 OF THE DUMP (.gsa) THAT YtekghdfbhbhigaaGreatProg.lean LOADS. Nothing in Lean hashes anything: it is a label: what it is worth is what the hold of that sum in a sandbox is worth. -/
noncomputable def Tryz.pinned : Pinned := { name := "ytekghdfbhbhigaagreat", sum := "2f57972a72203717ea48b1a7c46c1705ab62ad2fff50a0ead92e4ef5a38e9cf7", checked := Tryz.checked }
namespace Rows
def none {H : Type} : Left H := { results := [], args := [] }

/-- 'trammellaw11.TreeLengths': WHATEVER THE INPUT: true; the input reads as it did. -/
def treeLengthsSpec : ChangeSpec := { name := "treeLengths", fn := fun _ => fun
  | [d1, d2, d3] => { results := [.lit (.bool true)], args := [d1, d2, d3] }
  | _ => none }
def treeLengthsRow : OpenClaim := { program := "ytekghdfbhbhigaagreat", sum := "2f57972a72203717ea48b1a7c46c1705ab62ad2fff50a0ead92e4ef5a38e9cf7", func := "trammel/trammellaw11.TreeLengths", spec := "treeLengths", unfollowed := true, recurses := true, apart := false }
def TreeLengthsSaid : Prop := treeLengthsRow.holds Tryz.pinned (OpenSpec.ofChange treeLengthsSpec)

/-- ITS FALSE NEIGHBOUR: 'it returns false'. Refute it at one input. -/
def treeLengthsWrong : ChangeSpec := { name := "treeLengths", fn := fun _ => fun
  | [d1, d2, d3] => { results := [.lit (.bool false)], args := [d1, d2, d3] }
  | _ => none }
def TreeLengthsWrongFalsely : Prop := treeLengthsRow.holds Tryz.pinned (OpenSpec.ofChange treeLengthsWrong)

/-- 'trammellaw11.TreeKids': WHATEVER THE INPUT: true; the input reads as it did. -/
def treeKidsSpec : ChangeSpec := { name := "treeKids", fn := fun _ => fun
  | [d1, d2, d3] => { results := [.lit (.bool true)], args := [d1, d2, d3] }
  | _ => none }
def treeKidsRow : OpenClaim := { program := "ytekghdfbhbhigaagreat", sum := "2f57972a72203717ea48b1a7c46c1705ab62ad2fff50a0ead92e4ef5a38e9cf7", func := "trammel/trammellaw11.TreeKids", spec := "treeKids", unfollowed := true, recurses := true, apart := false }
def TreeKidsSaid : Prop := treeKidsRow.holds Tryz.pinned (OpenSpec.ofChange treeKidsSpec)

/-- ITS FALSE NEIGHBOUR: 'it returns false'. Refute it at one input. -/
def treeKidsWrong : ChangeSpec := { name := "treeKids", fn := fun _ => fun
  | [d1, d2, d3] => { results := [.lit (.bool false)], args := [d1, d2, d3] }
  | _ => none }
def TreeKidsWrongFalsely : Prop := treeKidsRow.holds Tryz.pinned (OpenSpec.ofChange treeKidsWrong)

/-- 'trammellaw11.TreeNodes': WHATEVER THE INPUT: true; the input reads as it did. -/
def treeNodesSpec : ChangeSpec := { name := "treeNodes", fn := fun _ => fun
  | [d1, d2] => { results := [.lit (.bool true)], args := [d1, d2] }
  | _ => none }
def treeNodesRow : OpenClaim := { program := "ytekghdfbhbhigaagreat", sum := "2f57972a72203717ea48b1a7c46c1705ab62ad2fff50a0ead92e4ef5a38e9cf7", func := "trammel/trammellaw11.TreeNodes", spec := "treeNodes", unfollowed := true, recurses := true, apart := false }
def TreeNodesSaid : Prop := treeNodesRow.holds Tryz.pinned (OpenSpec.ofChange treeNodesSpec)

/-- ITS FALSE NEIGHBOUR: 'it returns false'. Refute it at one input. -/
def treeNodesWrong : ChangeSpec := { name := "treeNodes", fn := fun _ => fun
  | [d1, d2] => { results := [.lit (.bool false)], args := [d1, d2] }
  | _ => none }
def TreeNodesWrongFalsely : Prop := treeNodesRow.holds Tryz.pinned (OpenSpec.ofChange treeNodesWrong)

/-- 'trammellaw11.TreeGrows': WHATEVER THE INPUT: true; the input reads as it did. -/
def treeGrowsSpec : ChangeSpec := { name := "treeGrows", fn := fun _ => fun
  | [d1, d2] => { results := [.lit (.bool true)], args := [d1, d2] }
  | _ => none }
def treeGrowsRow : OpenClaim := { program := "ytekghdfbhbhigaagreat", sum := "2f57972a72203717ea48b1a7c46c1705ab62ad2fff50a0ead92e4ef5a38e9cf7", func := "trammel/trammellaw11.TreeGrows", spec := "treeGrows", unfollowed := true, recurses := true, apart := false }
def TreeGrowsSaid : Prop := treeGrowsRow.holds Tryz.pinned (OpenSpec.ofChange treeGrowsSpec)

/-- ITS FALSE NEIGHBOUR: 'it returns false'. Refute it at one input. -/
def treeGrowsWrong : ChangeSpec := { name := "treeGrows", fn := fun _ => fun
  | [d1, d2] => { results := [.lit (.bool false)], args := [d1, d2] }
  | _ => none }
def TreeGrowsWrongFalsely : Prop := treeGrowsRow.holds Tryz.pinned (OpenSpec.ofChange treeGrowsWrong)

/-- 'trammellaw13.SplitJobs': WHATEVER THE INPUT: true; the input reads as it did. -/
def splitJobsSpec : ChangeSpec := { name := "splitJobs", fn := fun _ => fun
  | [d1, d2] => { results := [.lit (.bool true)], args := [d1, d2] }
  | _ => none }
def splitJobsRow : OpenClaim := { program := "ytekghdfbhbhigaagreat", sum := "2f57972a72203717ea48b1a7c46c1705ab62ad2fff50a0ead92e4ef5a38e9cf7", func := "trammel/trammellaw13.SplitJobs", spec := "splitJobs", unfollowed := true, recurses := true, apart := false }
def SplitJobsSaid : Prop := splitJobsRow.holds Tryz.pinned (OpenSpec.ofChange splitJobsSpec)

/-- ITS FALSE NEIGHBOUR: 'it returns false'. Refute it at one input. -/
def splitJobsWrong : ChangeSpec := { name := "splitJobs", fn := fun _ => fun
  | [d1, d2] => { results := [.lit (.bool false)], args := [d1, d2] }
  | _ => none }
def SplitJobsWrongFalsely : Prop := splitJobsRow.holds Tryz.pinned (OpenSpec.ofChange splitJobsWrong)

/-- 'trammellaw13.SplitWhole': WHATEVER THE INPUT: true; the input reads as it did. -/
def splitWholeSpec : ChangeSpec := { name := "splitWhole", fn := fun _ => fun
  | [d1, d2] => { results := [.lit (.bool true)], args := [d1, d2] }
  | _ => none }
def splitWholeRow : OpenClaim := { program := "ytekghdfbhbhigaagreat", sum := "2f57972a72203717ea48b1a7c46c1705ab62ad2fff50a0ead92e4ef5a38e9cf7", func := "trammel/trammellaw13.SplitWhole", spec := "splitWhole", unfollowed := true, recurses := true, apart := false }
def SplitWholeSaid : Prop := splitWholeRow.holds Tryz.pinned (OpenSpec.ofChange splitWholeSpec)

/-- ITS FALSE NEIGHBOUR: 'it returns false'. Refute it at one input. -/
def splitWholeWrong : ChangeSpec := { name := "splitWhole", fn := fun _ => fun
  | [d1, d2] => { results := [.lit (.bool false)], args := [d1, d2] }
  | _ => none }
def SplitWholeWrongFalsely : Prop := splitWholeRow.holds Tryz.pinned (OpenSpec.ofChange splitWholeWrong)

/-- 'trammellaw10.FilterNorms': WHATEVER THE INPUT: true; the input reads as it did. -/
def filterNormsSpec : ChangeSpec := { name := "filterNorms", fn := fun _ => fun
  | [d1, d2, d3, d4] => { results := [.lit (.bool true)], args := [d1, d2, d3, d4] }
  | _ => none }
def filterNormsRow : OpenClaim := { program := "ytekghdfbhbhigaagreat", sum := "2f57972a72203717ea48b1a7c46c1705ab62ad2fff50a0ead92e4ef5a38e9cf7", func := "trammel/trammellaw10.FilterNorms", spec := "filterNorms", unfollowed := true, recurses := true, apart := false }
def FilterNormsSaid : Prop := filterNormsRow.holds Tryz.pinned (OpenSpec.ofChange filterNormsSpec)

/-- ITS FALSE NEIGHBOUR: 'it returns false'. Refute it at one input. -/
def filterNormsWrong : ChangeSpec := { name := "filterNorms", fn := fun _ => fun
  | [d1, d2, d3, d4] => { results := [.lit (.bool false)], args := [d1, d2, d3, d4] }
  | _ => none }
def FilterNormsWrongFalsely : Prop := filterNormsRow.holds Tryz.pinned (OpenSpec.ofChange filterNormsWrong)

/- THE SECOND FORM. 'bulk': how many values and letters a reading holds, each counted each time it is reached (what is shared counts as often as it is met; a slice's spare places count too). A statement '..UptoSaid' is the law's where the arguments, and the package variables that the reading takes, are together of bulk at most 1048576: NARROWER than '..Said'. Prove '..Said' where nothing that the law and all that it calls make is longer than what came in: it says more and counts as full. Else prove '..UptoSaid'. A law counts once. -/
mutual
def uptoBulk {H : Type} : DataW H → Nat
  | .lit (.string bytes) => bytes.length + 1
  | .lit _ => 1
  | .nil => 1
  | .ptr d => uptoBulk d + 1
  | .slice elems spare => uptoBulkAll elems + uptoBulkAll spare + 1
  | .agg parts => uptoBulkAll parts + 1
  | .iface _ d => uptoBulk d + 1
  | .map entries => uptoBulkEntries entries + 1
  | .held _ => 1
def uptoBulkAll {H : Type} : List (DataW H) → Nat
  | [] => 0
  | d :: r => uptoBulk d + uptoBulkAll r
def uptoBulkEntries {H : Type} : List (Lit × DataW H) → Nat
  | [] => 0
  | x :: r => uptoBulkEntry x + uptoBulkEntries r
def uptoBulkEntry {H : Type} : Lit × DataW H → Nat
  | (.string bytes, d) => bytes.length + uptoBulk d + 1
  | (_, d) => uptoBulk d + 1
 end
def uptoSmall : (H : Type) → List (DataW H) → Bool := fun _ ds => decide (uptoBulkAll ds ≤ 1048576)
def OpenSpec.upto (s : _root_.Go.ChangeSpec) : _root_.Go.OpenSpec := { _root_.Go.OpenSpec.ofChange s with cond := some uptoSmall }

/-- 'trammellaw11.TreeLengths', WHERE WHAT IT READS IS OF BULK AT MOST 1048576: true; the input reads as it did. -/
def treeLengthsUptoRow : OpenClaim := { program := "ytekghdfbhbhigaagreat", sum := "2f57972a72203717ea48b1a7c46c1705ab62ad2fff50a0ead92e4ef5a38e9cf7", func := "trammel/trammellaw11.TreeLengths", spec := "treeLengths", unfollowed := true, recurses := true, apart := false, narrowed := true }
def TreeLengthsUptoSaid : Prop := treeLengthsUptoRow.holds Tryz.pinned (OpenSpec.upto treeLengthsSpec)

/-- 'trammellaw11.TreeKids', WHERE WHAT IT READS IS OF BULK AT MOST 1048576: true; the input reads as it did. -/
def treeKidsUptoRow : OpenClaim := { program := "ytekghdfbhbhigaagreat", sum := "2f57972a72203717ea48b1a7c46c1705ab62ad2fff50a0ead92e4ef5a38e9cf7", func := "trammel/trammellaw11.TreeKids", spec := "treeKids", unfollowed := true, recurses := true, apart := false, narrowed := true }
def TreeKidsUptoSaid : Prop := treeKidsUptoRow.holds Tryz.pinned (OpenSpec.upto treeKidsSpec)

/-- 'trammellaw11.TreeNodes', WHERE WHAT IT READS IS OF BULK AT MOST 1048576: true; the input reads as it did. -/
def treeNodesUptoRow : OpenClaim := { program := "ytekghdfbhbhigaagreat", sum := "2f57972a72203717ea48b1a7c46c1705ab62ad2fff50a0ead92e4ef5a38e9cf7", func := "trammel/trammellaw11.TreeNodes", spec := "treeNodes", unfollowed := true, recurses := true, apart := false, narrowed := true }
def TreeNodesUptoSaid : Prop := treeNodesUptoRow.holds Tryz.pinned (OpenSpec.upto treeNodesSpec)

/-- 'trammellaw11.TreeGrows', WHERE WHAT IT READS IS OF BULK AT MOST 1048576: true; the input reads as it did. -/
def treeGrowsUptoRow : OpenClaim := { program := "ytekghdfbhbhigaagreat", sum := "2f57972a72203717ea48b1a7c46c1705ab62ad2fff50a0ead92e4ef5a38e9cf7", func := "trammel/trammellaw11.TreeGrows", spec := "treeGrows", unfollowed := true, recurses := true, apart := false, narrowed := true }
def TreeGrowsUptoSaid : Prop := treeGrowsUptoRow.holds Tryz.pinned (OpenSpec.upto treeGrowsSpec)

/-- 'trammellaw13.SplitJobs', WHERE WHAT IT READS IS OF BULK AT MOST 1048576: true; the input reads as it did. -/
def splitJobsUptoRow : OpenClaim := { program := "ytekghdfbhbhigaagreat", sum := "2f57972a72203717ea48b1a7c46c1705ab62ad2fff50a0ead92e4ef5a38e9cf7", func := "trammel/trammellaw13.SplitJobs", spec := "splitJobs", unfollowed := true, recurses := true, apart := false, narrowed := true }
def SplitJobsUptoSaid : Prop := splitJobsUptoRow.holds Tryz.pinned (OpenSpec.upto splitJobsSpec)

/-- 'trammellaw13.SplitWhole', WHERE WHAT IT READS IS OF BULK AT MOST 1048576: true; the input reads as it did. -/
def splitWholeUptoRow : OpenClaim := { program := "ytekghdfbhbhigaagreat", sum := "2f57972a72203717ea48b1a7c46c1705ab62ad2fff50a0ead92e4ef5a38e9cf7", func := "trammel/trammellaw13.SplitWhole", spec := "splitWhole", unfollowed := true, recurses := true, apart := false, narrowed := true }
def SplitWholeUptoSaid : Prop := splitWholeUptoRow.holds Tryz.pinned (OpenSpec.upto splitWholeSpec)

/-- 'trammellaw10.FilterNorms', WHERE WHAT IT READS IS OF BULK AT MOST 1048576: true; the input reads as it did. -/
def filterNormsUptoRow : OpenClaim := { program := "ytekghdfbhbhigaagreat", sum := "2f57972a72203717ea48b1a7c46c1705ab62ad2fff50a0ead92e4ef5a38e9cf7", func := "trammel/trammellaw10.FilterNorms", spec := "filterNorms", unfollowed := true, recurses := true, apart := false, narrowed := true }
def FilterNormsUptoSaid : Prop := filterNormsUptoRow.holds Tryz.pinned (OpenSpec.upto filterNormsSpec)

end Rows
end Go.Proofs.YtekghdfbhbhigaaGreat
