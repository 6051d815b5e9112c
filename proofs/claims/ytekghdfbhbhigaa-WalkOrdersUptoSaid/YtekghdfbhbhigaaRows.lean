/-
  No cell of these rows narrows 'for every input' (looked for: loops, veiled, ifaces, maps, wideKeys, modest, calm, conditions, laid).
  DERIVED. THE GIVEN ROWS OF THIS SEAT. 4 by the template 'for every input the law returns true; each argument reads behind the call as it read before'; 0 by the template 'total and deterministic' (their statements: YtekghdfbhbhigaaTotals.lean).
  GIVEN WITH THE SEED: the statements are not yours to turn. If you find one false, say at which input.
  Laid BY PROGRAM, IN A SANDBOX (cutbox-rows.mjs): the forced cells as the released guide's own fill.sh prints them over the translation ea74d8aee40320a3… (all of the seat's roots in one cut). By AI agents, Wed Nov 11 2026. No macro, syntax, notation, axiom, sorry.
-/
import Derived.Test.YtekghdfbhbhigaaChecked
import GoSem.Claim
import GoSem.ClaimJoined
import GoSem.ClaimMapViews
import Derived.JoinedTies
import Derived.KernelRfl
namespace Go.Proofs.Ytekghdfbhbhigaa
/- THE CELL 'sum', in the pinned program and in every row, IS THE sha256 OF THE DUMP (.gsa) THAT YtekghdfbhbhigaaProg.lean LOADS. Nothing in Lean hashes anything: it is a label: what it is worth is what the hold of that sum in a sandbox is worth. -/
noncomputable def Try.pinned : Pinned := { name := "ytekghdfbhbhigaa", sum := "ea74d8aee40320a36e8b6b83fe476d3645fd4cfd0fddcce56b00e031333fda7d", checked := Try.checked }
namespace Rows
def none {H : Type} : Left H := { results := [], args := [] }

/-- 'trammellaw13.SplitShares': WHATEVER THE INPUT: true; the input reads as it did. -/
def splitSharesSpec : ChangeSpec := { name := "splitShares", fn := fun _ => fun
  | [d1, d2] => { results := [.lit (.bool true)], args := [d1, d2] }
  | _ => none }
def splitSharesRow : OpenClaim := { program := "ytekghdfbhbhigaa", sum := "ea74d8aee40320a36e8b6b83fe476d3645fd4cfd0fddcce56b00e031333fda7d", func := "trammel/trammellaw13.SplitShares", spec := "splitShares", unfollowed := true, recurses := true, apart := false }
def SplitSharesSaid : Prop := splitSharesRow.holds Try.pinned (OpenSpec.ofChange splitSharesSpec)

/-- ITS FALSE NEIGHBOUR: 'it returns false'. Refute it at one input. -/
def splitSharesWrong : ChangeSpec := { name := "splitShares", fn := fun _ => fun
  | [d1, d2] => { results := [.lit (.bool false)], args := [d1, d2] }
  | _ => none }
def SplitSharesWrongFalsely : Prop := splitSharesRow.holds Try.pinned (OpenSpec.ofChange splitSharesWrong)

/-- 'trammellaw13.SplitApart': WHATEVER THE INPUT: true; the input reads as it did. -/
def splitApartSpec : ChangeSpec := { name := "splitApart", fn := fun _ => fun
  | [d1, d2] => { results := [.lit (.bool true)], args := [d1, d2] }
  | _ => none }
def splitApartRow : OpenClaim := { program := "ytekghdfbhbhigaa", sum := "ea74d8aee40320a36e8b6b83fe476d3645fd4cfd0fddcce56b00e031333fda7d", func := "trammel/trammellaw13.SplitApart", spec := "splitApart", unfollowed := true, recurses := true, apart := false }
def SplitApartSaid : Prop := splitApartRow.holds Try.pinned (OpenSpec.ofChange splitApartSpec)

/-- ITS FALSE NEIGHBOUR: 'it returns false'. Refute it at one input. -/
def splitApartWrong : ChangeSpec := { name := "splitApart", fn := fun _ => fun
  | [d1, d2] => { results := [.lit (.bool false)], args := [d1, d2] }
  | _ => none }
def SplitApartWrongFalsely : Prop := splitApartRow.holds Try.pinned (OpenSpec.ofChange splitApartWrong)

/-- 'trammellaw12.WalkOrders': WHATEVER THE INPUT: true; the input reads as it did. -/
def walkOrdersSpec : ChangeSpec := { name := "walkOrders", fn := fun _ => fun
  | [d1, d2, d3] => { results := [.lit (.bool true)], args := [d1, d2, d3] }
  | _ => none }
def walkOrdersRow : OpenClaim := { program := "ytekghdfbhbhigaa", sum := "ea74d8aee40320a36e8b6b83fe476d3645fd4cfd0fddcce56b00e031333fda7d", func := "trammel/trammellaw12.WalkOrders", spec := "walkOrders", unfollowed := true, recurses := true, apart := false }
def WalkOrdersSaid : Prop := walkOrdersRow.holds Try.pinned (OpenSpec.ofChange walkOrdersSpec)

/-- ITS FALSE NEIGHBOUR: 'it returns false'. Refute it at one input. -/
def walkOrdersWrong : ChangeSpec := { name := "walkOrders", fn := fun _ => fun
  | [d1, d2, d3] => { results := [.lit (.bool false)], args := [d1, d2, d3] }
  | _ => none }
def WalkOrdersWrongFalsely : Prop := walkOrdersRow.holds Try.pinned (OpenSpec.ofChange walkOrdersWrong)

/-- 'trammellaw10.FilterGrows': WHATEVER THE INPUT: true; the input reads as it did. -/
def filterGrowsSpec : ChangeSpec := { name := "filterGrows", fn := fun _ => fun
  | [d1, d2, d3, d4] => { results := [.lit (.bool true)], args := [d1, d2, d3, d4] }
  | _ => none }
def filterGrowsRow : OpenClaim := { program := "ytekghdfbhbhigaa", sum := "ea74d8aee40320a36e8b6b83fe476d3645fd4cfd0fddcce56b00e031333fda7d", func := "trammel/trammellaw10.FilterGrows", spec := "filterGrows", unfollowed := true, recurses := true, apart := false }
def FilterGrowsSaid : Prop := filterGrowsRow.holds Try.pinned (OpenSpec.ofChange filterGrowsSpec)

/-- ITS FALSE NEIGHBOUR: 'it returns false'. Refute it at one input. -/
def filterGrowsWrong : ChangeSpec := { name := "filterGrows", fn := fun _ => fun
  | [d1, d2, d3, d4] => { results := [.lit (.bool false)], args := [d1, d2, d3, d4] }
  | _ => none }
def FilterGrowsWrongFalsely : Prop := filterGrowsRow.holds Try.pinned (OpenSpec.ofChange filterGrowsWrong)

/- THE SECOND FORM. 'bulk': how many values and letters a reading holds, each counted each time it is reached (what is shared counts as often as it is met; a slice's spare places count too). A statement '..UptoSaid' is the law's where the arguments, and the package variables that the reading takes, are together of bulk at most 1048576: NARROWER than '..Said'. Prove '..Said' where nothing that the law and all that it calls make is longer than what came in: it says more and counts as full. Else prove '..UptoSaid'. A law counts once. -/
mutual
def uptoBulk {H : Type} : DataW H → Nat
  | .lit (.string bytes) => bytes.length + 1
  | .lit _ => 1
  | .nil => 1
  | .ptr d => uptoBulk d + 1
  | .slice elems spare => uptoBulkAll elems + uptoBulkAll spare + 1
  | .agg parts => uptoBulkAll parts + 1
  | .iface _ d => uptoBulk d + 1
  | .map entries => uptoBulkEntries entries + 1
  | .held _ => 1
def uptoBulkAll {H : Type} : List (DataW H) → Nat
  | [] => 0
  | d :: r => uptoBulk d + uptoBulkAll r
def uptoBulkEntries {H : Type} : List (Lit × DataW H) → Nat
  | [] => 0
  | x :: r => uptoBulkEntry x + uptoBulkEntries r
def uptoBulkEntry {H : Type} : Lit × DataW H → Nat
  | (.string bytes, d) => bytes.length + uptoBulk d + 1
  | (_, d) => uptoBulk d + 1
 end
def uptoSmall : (H : Type) → List (DataW H) → Bool := fun _ ds => decide (uptoBulkAll ds ≤ 1048576)
def OpenSpec.upto (s : _root_.Go.ChangeSpec) : _root_.Go.OpenSpec := { _root_.Go.OpenSpec.ofChange s with cond := some uptoSmall }

/-- 'trammellaw13.SplitShares', WHERE WHAT IT READS IS OF BULK AT MOST 1048576: true; the input reads as it did. -/
def splitSharesUptoRow : OpenClaim := { program := "ytekghdfbhbhigaa", sum := "ea74d8aee40320a36e8b6b83fe476d3645fd4cfd0fddcce56b00e031333fda7d", func := "trammel/trammellaw13.SplitShares", spec := "splitShares", unfollowed := true, recurses := true, apart := false, narrowed := true }
def SplitSharesUptoSaid : Prop := splitSharesUptoRow.holds Try.pinned (OpenSpec.upto splitSharesSpec)

/-- 'trammellaw13.SplitApart', WHERE WHAT IT READS IS OF BULK AT MOST 1048576: true; the input reads as it did. -/
def splitApartUptoRow : OpenClaim := { program := "ytekghdfbhbhigaa", sum := "ea74d8aee40320a36e8b6b83fe476d3645fd4cfd0fddcce56b00e031333fda7d", func := "trammel/trammellaw13.SplitApart", spec := "splitApart", unfollowed := true, recurses := true, apart := false, narrowed := true }
def SplitApartUptoSaid : Prop := splitApartUptoRow.holds Try.pinned (OpenSpec.upto splitApartSpec)

/-- 'trammellaw12.WalkOrders', WHERE WHAT IT READS IS OF BULK AT MOST 1048576: true; the input reads as it did. -/
def walkOrdersUptoRow : OpenClaim := { program := "ytekghdfbhbhigaa", sum := "ea74d8aee40320a36e8b6b83fe476d3645fd4cfd0fddcce56b00e031333fda7d", func := "trammel/trammellaw12.WalkOrders", spec := "walkOrders", unfollowed := true, recurses := true, apart := false, narrowed := true }
def WalkOrdersUptoSaid : Prop := walkOrdersUptoRow.holds Try.pinned (OpenSpec.upto walkOrdersSpec)

/-- 'trammellaw10.FilterGrows', WHERE WHAT IT READS IS OF BULK AT MOST 1048576: true; the input reads as it did. -/
def filterGrowsUptoRow : OpenClaim := { program := "ytekghdfbhbhigaa", sum := "ea74d8aee40320a36e8b6b83fe476d3645fd4cfd0fddcce56b00e031333fda7d", func := "trammel/trammellaw10.FilterGrows", spec := "filterGrows", unfollowed := true, recurses := true, apart := false, narrowed := true }
def FilterGrowsUptoSaid : Prop := filterGrowsUptoRow.holds Try.pinned (OpenSpec.upto filterGrowsSpec)

end Rows
end Go.Proofs.Ytekghdfbhbhigaa
