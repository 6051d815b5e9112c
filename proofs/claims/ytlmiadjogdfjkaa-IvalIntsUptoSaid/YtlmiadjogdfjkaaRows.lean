/-
  No cell of these rows narrows 'for every input' (looked for: loops, veiled, ifaces, maps, wideKeys, modest, calm, conditions, laid).
  DERIVED. THE GIVEN ROWS OF THIS SEAT. 4 by the template 'for every input the law returns true; each argument reads behind the call as it read before'; 0 by the template 'total and deterministic' (their statements: YtlmiadjogdfjkaaTotals.lean).
  GIVEN WITH THE SEED: the statements are not yours to turn. If you find one false, say at which input.
  Laid BY PROGRAM, IN A SANDBOX (cutbox-rows.mjs): the forced cells as the released guide's own fill.sh prints them over the translation 9b66ba262946c4d6… (all of the seat's roots in one cut). By AI agents, Wed Nov 11 2026. No macro, syntax, notation, axiom, sorry.
-/
import Derived.Test.YtlmiadjogdfjkaaChecked
import GoSem.Claim
import GoSem.ClaimJoined
import GoSem.ClaimMapViews
import Derived.JoinedTies
import Derived.KernelRfl
namespace Go.Proofs.Ytlmiadjogdfjkaa
/- THE CELL 'sum', in the pinned program and in every row, IS THE sha256 OF THE DUMP (.gsa) THAT YtlmiadjogdfjkaaProg.lean LOADS. Nothing in Lean hashes anything: it is a label: what it is worth is what the hold of that sum in a sandbox is worth. -/
noncomputable def Try.pinned : Pinned := { name := "ytlmiadjogdfjkaa", sum := "9b66ba262946c4d69a4a010ec04eb97c5e7d5d902941932b3da2cf9c56bc5959", checked := Try.checked }
namespace Rows
def none {H : Type} : Left H := { results := [], args := [] }

/-- 'trammellaw09.IvalTrue': WHATEVER THE INPUT: true; the input reads as it did. -/
def ivalTrueSpec : ChangeSpec := { name := "ivalTrue", fn := fun _ => fun
  | [d1, d2, d3, d4] => { results := [.lit (.bool true)], args := [d1, d2, d3, d4] }
  | _ => none }
def ivalTrueRow : OpenClaim := { program := "ytlmiadjogdfjkaa", sum := "9b66ba262946c4d69a4a010ec04eb97c5e7d5d902941932b3da2cf9c56bc5959", func := "trammel/trammellaw09.IvalTrue", spec := "ivalTrue", inPlace := ["math.Float64bits", "math.Float64frombits"], apart := false }
def IvalTrueSaid : Prop := ivalTrueRow.holds Try.pinned (OpenSpec.ofChange ivalTrueSpec)

/-- ITS FALSE NEIGHBOUR: 'it returns false'. Refute it at one input. -/
def ivalTrueWrong : ChangeSpec := { name := "ivalTrue", fn := fun _ => fun
  | [d1, d2, d3, d4] => { results := [.lit (.bool false)], args := [d1, d2, d3, d4] }
  | _ => none }
def IvalTrueWrongFalsely : Prop := ivalTrueRow.holds Try.pinned (OpenSpec.ofChange ivalTrueWrong)

/-- 'trammellaw09.IvalInts': WHATEVER THE INPUT: true; the input reads as it did. -/
def ivalIntsSpec : ChangeSpec := { name := "ivalInts", fn := fun _ => fun
  | [d] => { results := [.lit (.bool true)], args := [d] }
  | _ => none }
def ivalIntsRow : OpenClaim := { program := "ytlmiadjogdfjkaa", sum := "9b66ba262946c4d69a4a010ec04eb97c5e7d5d902941932b3da2cf9c56bc5959", func := "trammel/trammellaw09.IvalInts", spec := "ivalInts", inPlace := ["math.Float64bits", "math.Float64frombits"], apart := false }
def IvalIntsSaid : Prop := ivalIntsRow.holds Try.pinned (OpenSpec.ofChange ivalIntsSpec)

/-- ITS FALSE NEIGHBOUR: 'it returns false'. Refute it at one input. -/
def ivalIntsWrong : ChangeSpec := { name := "ivalInts", fn := fun _ => fun
  | [d] => { results := [.lit (.bool false)], args := [d] }
  | _ => none }
def IvalIntsWrongFalsely : Prop := ivalIntsRow.holds Try.pinned (OpenSpec.ofChange ivalIntsWrong)

/-- 'trammellaw09.IvalRats': WHATEVER THE INPUT: true; the input reads as it did. -/
def ivalRatsSpec : ChangeSpec := { name := "ivalRats", fn := fun _ => fun
  | [d] => { results := [.lit (.bool true)], args := [d] }
  | _ => none }
def ivalRatsRow : OpenClaim := { program := "ytlmiadjogdfjkaa", sum := "9b66ba262946c4d69a4a010ec04eb97c5e7d5d902941932b3da2cf9c56bc5959", func := "trammel/trammellaw09.IvalRats", spec := "ivalRats", inPlace := ["math.Float64bits", "math.Float64frombits"], apart := false }
def IvalRatsSaid : Prop := ivalRatsRow.holds Try.pinned (OpenSpec.ofChange ivalRatsSpec)

/-- ITS FALSE NEIGHBOUR: 'it returns false'. Refute it at one input. -/
def ivalRatsWrong : ChangeSpec := { name := "ivalRats", fn := fun _ => fun
  | [d] => { results := [.lit (.bool false)], args := [d] }
  | _ => none }
def IvalRatsWrongFalsely : Prop := ivalRatsRow.holds Try.pinned (OpenSpec.ofChange ivalRatsWrong)

/-- 'trammellaw09.IvalTight': WHATEVER THE INPUT: true; the input reads as it did. -/
def ivalTightSpec : ChangeSpec := { name := "ivalTight", fn := fun _ => fun
  | [d1, d2] => { results := [.lit (.bool true)], args := [d1, d2] }
  | _ => none }
def ivalTightRow : OpenClaim := { program := "ytlmiadjogdfjkaa", sum := "9b66ba262946c4d69a4a010ec04eb97c5e7d5d902941932b3da2cf9c56bc5959", func := "trammel/trammellaw09.IvalTight", spec := "ivalTight", inPlace := ["math.Float64bits", "math.Float64frombits"], apart := false }
def IvalTightSaid : Prop := ivalTightRow.holds Try.pinned (OpenSpec.ofChange ivalTightSpec)

/-- ITS FALSE NEIGHBOUR: 'it returns false'. Refute it at one input. -/
def ivalTightWrong : ChangeSpec := { name := "ivalTight", fn := fun _ => fun
  | [d1, d2] => { results := [.lit (.bool false)], args := [d1, d2] }
  | _ => none }
def IvalTightWrongFalsely : Prop := ivalTightRow.holds Try.pinned (OpenSpec.ofChange ivalTightWrong)

/- THE SECOND FORM. 'bulk': how many values and letters a reading holds, each counted each time it is reached (what is shared counts as often as it is met; a slice's spare places count too). A statement '..UptoSaid' is the law's where the arguments, and the package variables that the reading takes, are together of bulk at most 1048576: NARROWER than '..Said'. Prove '..Said' where nothing that the law and all that it calls make is longer than what came in: it says more and counts as full. Else prove '..UptoSaid'. A law counts once. -/
mutual
def uptoBulk {H : Type} : DataW H → Nat
  | .lit (.string bytes) => bytes.length + 1
  | .lit _ => 1
  | .nil => 1
  | .ptr d => uptoBulk d + 1
  | .slice elems spare => uptoBulkAll elems + uptoBulkAll spare + 1
  | .agg parts => uptoBulkAll parts + 1
  | .iface _ d => uptoBulk d + 1
  | .map entries => uptoBulkEntries entries + 1
  | .held _ => 1
def uptoBulkAll {H : Type} : List (DataW H) → Nat
  | [] => 0
  | d :: r => uptoBulk d + uptoBulkAll r
def uptoBulkEntries {H : Type} : List (Lit × DataW H) → Nat
  | [] => 0
  | x :: r => uptoBulkEntry x + uptoBulkEntries r
def uptoBulkEntry {H : Type} : Lit × DataW H → Nat
  | (.string bytes, d) => bytes.length + uptoBulk d + 1
  | (_, d) => uptoBulk d + 1
 end
def uptoSmall : (H : Type) → List (DataW H) → Bool := fun _ ds => decide (uptoBulkAll ds ≤ 1048576)
def OpenSpec.upto (s : _root_.Go.ChangeSpec) : _root_.Go.OpenSpec := { _root_.Go.OpenSpec.ofChange s with cond := some uptoSmall }

/-- 'trammellaw09.IvalTrue', WHERE WHAT IT READS IS OF BULK AT MOST 1048576: true; the input reads as it did. -/
def ivalTrueUptoRow : OpenClaim := { program := "ytlmiadjogdfjkaa", sum := "9b66ba262946c4d69a4a010ec04eb97c5e7d5d902941932b3da2cf9c56bc5959", func := "trammel/trammellaw09.IvalTrue", spec := "ivalTrue", inPlace := ["math.Float64bits", "math.Float64frombits"], apart := false, narrowed := true }
def IvalTrueUptoSaid : Prop := ivalTrueUptoRow.holds Try.pinned (OpenSpec.upto ivalTrueSpec)

/-- 'trammellaw09.IvalInts', WHERE WHAT IT READS IS OF BULK AT MOST 1048576: true; the input reads as it did. -/
def ivalIntsUptoRow : OpenClaim := { program := "ytlmiadjogdfjkaa", sum := "9b66ba262946c4d69a4a010ec04eb97c5e7d5d902941932b3da2cf9c56bc5959", func := "trammel/trammellaw09.IvalInts", spec := "ivalInts", inPlace := ["math.Float64bits", "math.Float64frombits"], apart := false, narrowed := true }
def IvalIntsUptoSaid : Prop := ivalIntsUptoRow.holds Try.pinned (OpenSpec.upto ivalIntsSpec)

/-- 'trammellaw09.IvalRats', WHERE WHAT IT READS IS OF BULK AT MOST 1048576: true; the input reads as it did. -/
def ivalRatsUptoRow : OpenClaim := { program := "ytlmiadjogdfjkaa", sum := "9b66ba262946c4d69a4a010ec04eb97c5e7d5d902941932b3da2cf9c56bc5959", func := "trammel/trammellaw09.IvalRats", spec := "ivalRats", inPlace := ["math.Float64bits", "math.Float64frombits"], apart := false, narrowed := true }
def IvalRatsUptoSaid : Prop := ivalRatsUptoRow.holds Try.pinned (OpenSpec.upto ivalRatsSpec)

/-- 'trammellaw09.IvalTight', WHERE WHAT IT READS IS OF BULK AT MOST 1048576: true; the input reads as it did. -/
def ivalTightUptoRow : OpenClaim := { program := "ytlmiadjogdfjkaa", sum := "9b66ba262946c4d69a4a010ec04eb97c5e7d5d902941932b3da2cf9c56bc5959", func := "trammel/trammellaw09.IvalTight", spec := "ivalTight", inPlace := ["math.Float64bits", "math.Float64frombits"], apart := false, narrowed := true }
def IvalTightUptoSaid : Prop := ivalTightUptoRow.holds Try.pinned (OpenSpec.upto ivalTightSpec)

end Rows
end Go.Proofs.Ytlmiadjogdfjkaa
