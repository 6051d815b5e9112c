/-
  No cell of these rows narrows 'for every input' (looked for: loops, veiled, ifaces, maps, wideKeys, modest, calm, conditions, laid).
  DERIVED. THE GIVEN ROWS OF THIS SEAT. 9 by the template 'for every input the law returns true; each argument reads behind the call as it read before'; 0 by the template 'total and deterministic' (their statements: YtofgndjglojonaaTotals.lean).
  GIVEN WITH THE SEED: the statements are not yours to turn. If you find one false, say at which input.
  Laid BY PROGRAM, IN A SANDBOX (cutbox-rows.mjs): the forced cells as the released guide's own fill.sh prints them over the translation c9c729964285b738… (all of the seat's roots in one cut). By AI agents, Wed Nov 11 2026. No macro, syntax, notation, axiom, sorry.
-/
import Derived.Test.YtofgndjglojonaaChecked
import GoSem.Claim
import GoSem.ClaimJoined
import GoSem.ClaimMapViews
import Derived.JoinedTies
import Derived.KernelRfl
namespace Go.Proofs.Ytofgndjglojonaa
/- THE CELL 'sum', in the pinned program and in every row, IS THE sha256 OF THE DUMP (.gsa) THAT YtofgndjglojonaaProg.lean LOADS. Nothing in Lean hashes anything: it is a label: what it is worth is what the hold of that sum in a sandbox is worth. -/
noncomputable def Try.pinned : Pinned := { name := "ytofgndjglojonaa", sum := "c9c729964285b738f810f32b51c4923189640df27303df390f245bafaf10b09e", checked := Try.checked }
namespace Rows
def none {H : Type} : Left H := { results := [], args := [] }

/-- 'trammellaw09.IvalNames': WHATEVER THE INPUT: true; the input reads as it did. -/
def ivalNamesSpec : ChangeSpec := { name := "ivalNames", fn := fun _ => fun
  | [] => { results := [.lit (.bool true)], args := [] }
  | _ => none }
def ivalNamesRow : OpenClaim := { program := "ytofgndjglojonaa", sum := "c9c729964285b738f810f32b51c4923189640df27303df390f245bafaf10b09e", func := "trammel/trammellaw09.IvalNames", spec := "ivalNames", apart := false }
def IvalNamesSaid : Prop := ivalNamesRow.holds Try.pinned (OpenSpec.ofChange ivalNamesSpec)

/-- ITS FALSE NEIGHBOUR: 'it returns false'. Refute it at one input. -/
def ivalNamesWrong : ChangeSpec := { name := "ivalNames", fn := fun _ => fun
  | [] => { results := [.lit (.bool false)], args := [] }
  | _ => none }
def IvalNamesWrongFalsely : Prop := ivalNamesRow.holds Try.pinned (OpenSpec.ofChange ivalNamesWrong)

/-- 'trammellaw09.IvalSteps': WHATEVER THE INPUT: true; the input reads as it did. -/
def ivalStepsSpec : ChangeSpec := { name := "ivalSteps", fn := fun _ => fun
  | [d] => { results := [.lit (.bool true)], args := [d] }
  | _ => none }
def ivalStepsRow : OpenClaim := { program := "ytofgndjglojonaa", sum := "c9c729964285b738f810f32b51c4923189640df27303df390f245bafaf10b09e", func := "trammel/trammellaw09.IvalSteps", spec := "ivalSteps", inPlace := ["math.Float64frombits", "math.Float64bits"], apart := false }
def IvalStepsSaid : Prop := ivalStepsRow.holds Try.pinned (OpenSpec.ofChange ivalStepsSpec)

/-- ITS FALSE NEIGHBOUR: 'it returns false'. Refute it at one input. -/
def ivalStepsWrong : ChangeSpec := { name := "ivalSteps", fn := fun _ => fun
  | [d] => { results := [.lit (.bool false)], args := [d] }
  | _ => none }
def IvalStepsWrongFalsely : Prop := ivalStepsRow.holds Try.pinned (OpenSpec.ofChange ivalStepsWrong)

/-- 'trammellaw09.IvalSums': WHATEVER THE INPUT: true; the input reads as it did. -/
def ivalSumsSpec : ChangeSpec := { name := "ivalSums", fn := fun _ => fun
  | [d1, d2] => { results := [.lit (.bool true)], args := [d1, d2] }
  | _ => none }
def ivalSumsRow : OpenClaim := { program := "ytofgndjglojonaa", sum := "c9c729964285b738f810f32b51c4923189640df27303df390f245bafaf10b09e", func := "trammel/trammellaw09.IvalSums", spec := "ivalSums", inPlace := ["math.Float64frombits", "math.Float64bits"], apart := false }
def IvalSumsSaid : Prop := ivalSumsRow.holds Try.pinned (OpenSpec.ofChange ivalSumsSpec)

/-- ITS FALSE NEIGHBOUR: 'it returns false'. Refute it at one input. -/
def ivalSumsWrong : ChangeSpec := { name := "ivalSums", fn := fun _ => fun
  | [d1, d2] => { results := [.lit (.bool false)], args := [d1, d2] }
  | _ => none }
def IvalSumsWrongFalsely : Prop := ivalSumsRow.holds Try.pinned (OpenSpec.ofChange ivalSumsWrong)

/-- 'trammellaw09.IvalOrders': WHATEVER THE INPUT: true; the input reads as it did. -/
def ivalOrdersSpec : ChangeSpec := { name := "ivalOrders", fn := fun _ => fun
  | [d1, d2, d3] => { results := [.lit (.bool true)], args := [d1, d2, d3] }
  | _ => none }
def ivalOrdersRow : OpenClaim := { program := "ytofgndjglojonaa", sum := "c9c729964285b738f810f32b51c4923189640df27303df390f245bafaf10b09e", func := "trammel/trammellaw09.IvalOrders", spec := "ivalOrders", inPlace := ["math.Float64bits", "math.Float64frombits"], unfollowed := true, recurses := true, apart := false }
def IvalOrdersSaid : Prop := ivalOrdersRow.holds Try.pinned (OpenSpec.ofChange ivalOrdersSpec)

/-- ITS FALSE NEIGHBOUR: 'it returns false'. Refute it at one input. -/
def ivalOrdersWrong : ChangeSpec := { name := "ivalOrders", fn := fun _ => fun
  | [d1, d2, d3] => { results := [.lit (.bool false)], args := [d1, d2, d3] }
  | _ => none }
def IvalOrdersWrongFalsely : Prop := ivalOrdersRow.holds Try.pinned (OpenSpec.ofChange ivalOrdersWrong)

/-- 'trammellaw09.IvalProducts': WHATEVER THE INPUT: true; the input reads as it did. -/
def ivalProductsSpec : ChangeSpec := { name := "ivalProducts", fn := fun _ => fun
  | [d1, d2] => { results := [.lit (.bool true)], args := [d1, d2] }
  | _ => none }
def ivalProductsRow : OpenClaim := { program := "ytofgndjglojonaa", sum := "c9c729964285b738f810f32b51c4923189640df27303df390f245bafaf10b09e", func := "trammel/trammellaw09.IvalProducts", spec := "ivalProducts", inPlace := ["math.Float64frombits", "math.Float64bits"], apart := false }
def IvalProductsSaid : Prop := ivalProductsRow.holds Try.pinned (OpenSpec.ofChange ivalProductsSpec)

/-- ITS FALSE NEIGHBOUR: 'it returns false'. Refute it at one input. -/
def ivalProductsWrong : ChangeSpec := { name := "ivalProducts", fn := fun _ => fun
  | [d1, d2] => { results := [.lit (.bool false)], args := [d1, d2] }
  | _ => none }
def IvalProductsWrongFalsely : Prop := ivalProductsRow.holds Try.pinned (OpenSpec.ofChange ivalProductsWrong)

/-- 'trammellaw09.IvalTrue': WHATEVER THE INPUT: true; the input reads as it did. -/
def ivalTrueSpec : ChangeSpec := { name := "ivalTrue", fn := fun _ => fun
  | [d1, d2, d3, d4] => { results := [.lit (.bool true)], args := [d1, d2, d3, d4] }
  | _ => none }
def ivalTrueRow : OpenClaim := { program := "ytofgndjglojonaa", sum := "c9c729964285b738f810f32b51c4923189640df27303df390f245bafaf10b09e", func := "trammel/trammellaw09.IvalTrue", spec := "ivalTrue", inPlace := ["math.Float64bits", "math.Float64frombits"], apart := false }
def IvalTrueSaid : Prop := ivalTrueRow.holds Try.pinned (OpenSpec.ofChange ivalTrueSpec)

/-- ITS FALSE NEIGHBOUR: 'it returns false'. Refute it at one input. -/
def ivalTrueWrong : ChangeSpec := { name := "ivalTrue", fn := fun _ => fun
  | [d1, d2, d3, d4] => { results := [.lit (.bool false)], args := [d1, d2, d3, d4] }
  | _ => none }
def IvalTrueWrongFalsely : Prop := ivalTrueRow.holds Try.pinned (OpenSpec.ofChange ivalTrueWrong)

/-- 'trammellaw09.IvalInts': WHATEVER THE INPUT: true; the input reads as it did. -/
def ivalIntsSpec : ChangeSpec := { name := "ivalInts", fn := fun _ => fun
  | [d] => { results := [.lit (.bool true)], args := [d] }
  | _ => none }
def ivalIntsRow : OpenClaim := { program := "ytofgndjglojonaa", sum := "c9c729964285b738f810f32b51c4923189640df27303df390f245bafaf10b09e", func := "trammel/trammellaw09.IvalInts", spec := "ivalInts", inPlace := ["math.Float64bits", "math.Float64frombits"], apart := false }
def IvalIntsSaid : Prop := ivalIntsRow.holds Try.pinned (OpenSpec.ofChange ivalIntsSpec)

/-- ITS FALSE NEIGHBOUR: 'it returns false'. Refute it at one input. -/
def ivalIntsWrong : ChangeSpec := { name := "ivalInts", fn := fun _ => fun
  | [d] => { results := [.lit (.bool false)], args := [d] }
  | _ => none }
def IvalIntsWrongFalsely : Prop := ivalIntsRow.holds Try.pinned (OpenSpec.ofChange ivalIntsWrong)

/-- 'trammellaw09.IvalRats': WHATEVER THE INPUT: true; the input reads as it did. -/
def ivalRatsSpec : ChangeSpec := { name := "ivalRats", fn := fun _ => fun
  | [d] => { results := [.lit (.bool true)], args := [d] }
  | _ => none }
def ivalRatsRow : OpenClaim := { program := "ytofgndjglojonaa", sum := "c9c729964285b738f810f32b51c4923189640df27303df390f245bafaf10b09e", func := "trammel/trammellaw09.IvalRats", spec := "ivalRats", inPlace := ["math.Float64bits", "math.Float64frombits"], apart := false }
def IvalRatsSaid : Prop := ivalRatsRow.holds Try.pinned (OpenSpec.ofChange ivalRatsSpec)

/-- ITS FALSE NEIGHBOUR: 'it returns false'. Refute it at one input. -/
def ivalRatsWrong : ChangeSpec := { name := "ivalRats", fn := fun _ => fun
  | [d] => { results := [.lit (.bool false)], args := [d] }
  | _ => none }
def IvalRatsWrongFalsely : Prop := ivalRatsRow.holds Try.pinned (OpenSpec.ofChange ivalRatsWrong)

/-- 'trammellaw09.IvalTight': WHATEVER THE INPUT: true; the input reads as it did. -/
def ivalTightSpec : ChangeSpec := { name := "ivalTight", fn := fun _ => fun
  | [d1, d2] => { results := [.lit (.bool true)], args := [d1, d2] }
  | _ => none }
def ivalTightRow : OpenClaim := { program := "ytofgndjglojonaa", sum := "c9c729964285b738f810f32b51c4923189640df27303df390f245bafaf10b09e", func := "trammel/trammellaw09.IvalTight", spec := "ivalTight", inPlace := ["math.Float64bits", "math.Float64frombits"], apart := false }
def IvalTightSaid : Prop := ivalTightRow.holds Try.pinned (OpenSpec.ofChange ivalTightSpec)

/-- ITS FALSE NEIGHBOUR: 'it returns false'. Refute it at one input. -/
def ivalTightWrong : ChangeSpec := { name := "ivalTight", fn := fun _ => fun
  | [d1, d2] => { results := [.lit (.bool false)], args := [d1, d2] }
  | _ => none }
def IvalTightWrongFalsely : Prop := ivalTightRow.holds Try.pinned (OpenSpec.ofChange ivalTightWrong)

/- THE SECOND FORM. 'bulk': how many values and letters a reading holds, each counted each time it is reached (what is shared counts as often as it is met; a slice's spare places count too). A statement '..UptoSaid' is the law's where the arguments, and the package variables that the reading takes, are together of bulk at most 1048576: NARROWER than '..Said'. Prove '..Said' where nothing that the law and all that it calls make is longer than what came in: it says more and counts as full. Else prove '..UptoSaid'. A law counts once. -/
mutual
def uptoBulk {H : Type} : DataW H → Nat
  | .lit (.string bytes) => bytes.length + 1
  | .lit _ => 1
  | .nil => 1
  | .ptr d => uptoBulk d + 1
  | .slice elems spare => uptoBulkAll elems + uptoBulkAll spare + 1
  | .agg parts => uptoBulkAll parts + 1
  | .iface _ d => uptoBulk d + 1
  | .map entries => uptoBulkEntries entries + 1
  | .held _ => 1
def uptoBulkAll {H : Type} : List (DataW H) → Nat
  | [] => 0
  | d :: r => uptoBulk d + uptoBulkAll r
def uptoBulkEntries {H : Type} : List (Lit × DataW H) → Nat
  | [] => 0
  | x :: r => uptoBulkEntry x + uptoBulkEntries r
def uptoBulkEntry {H : Type} : Lit × DataW H → Nat
  | (.string bytes, d) => bytes.length + uptoBulk d + 1
  | (_, d) => uptoBulk d + 1
 end
def uptoSmall : (H : Type) → List (DataW H) → Bool := fun _ ds => decide (uptoBulkAll ds ≤ 1048576)
def OpenSpec.upto (s : _root_.Go.ChangeSpec) : _root_.Go.OpenSpec := { _root_.Go.OpenSpec.ofChange s with cond := some uptoSmall }

/-- 'trammellaw09.IvalNames', WHERE WHAT IT READS IS OF BULK AT MOST 1048576: true; the input reads as it did. -/
def ivalNamesUptoRow : OpenClaim := { program := "ytofgndjglojonaa", sum := "c9c729964285b738f810f32b51c4923189640df27303df390f245bafaf10b09e", func := "trammel/trammellaw09.IvalNames", spec := "ivalNames", apart := false, narrowed := true }
def IvalNamesUptoSaid : Prop := ivalNamesUptoRow.holds Try.pinned (OpenSpec.upto ivalNamesSpec)

/-- 'trammellaw09.IvalSteps', WHERE WHAT IT READS IS OF BULK AT MOST 1048576: true; the input reads as it did. -/
def ivalStepsUptoRow : OpenClaim := { program := "ytofgndjglojonaa", sum := "c9c729964285b738f810f32b51c4923189640df27303df390f245bafaf10b09e", func := "trammel/trammellaw09.IvalSteps", spec := "ivalSteps", inPlace := ["math.Float64frombits", "math.Float64bits"], apart := false, narrowed := true }
def IvalStepsUptoSaid : Prop := ivalStepsUptoRow.holds Try.pinned (OpenSpec.upto ivalStepsSpec)

/-- 'trammellaw09.IvalSums', WHERE WHAT IT READS IS OF BULK AT MOST 1048576: true; the input reads as it did. -/
def ivalSumsUptoRow : OpenClaim := { program := "ytofgndjglojonaa", sum := "c9c729964285b738f810f32b51c4923189640df27303df390f245bafaf10b09e", func := "trammel/trammellaw09.IvalSums", spec := "ivalSums", inPlace := ["math.Float64frombits", "math.Float64bits"], apart := false, narrowed := true }
def IvalSumsUptoSaid : Prop := ivalSumsUptoRow.holds Try.pinned (OpenSpec.upto ivalSumsSpec)

/-- 'trammellaw09.IvalOrders', WHERE WHAT IT READS IS OF BULK AT MOST 1048576: true; the input reads as it did. -/
def ivalOrdersUptoRow : OpenClaim := { program := "ytofgndjglojonaa", sum := "c9c729964285b738f810f32b51c4923189640df27303df390f245bafaf10b09e", func := "trammel/trammellaw09.IvalOrders", spec := "ivalOrders", inPlace := ["math.Float64bits", "math.Float64frombits"], unfollowed := true, recurses := true, apart := false, narrowed := true }
def IvalOrdersUptoSaid : Prop := ivalOrdersUptoRow.holds Try.pinned (OpenSpec.upto ivalOrdersSpec)

/-- 'trammellaw09.IvalProducts', WHERE WHAT IT READS IS OF BULK AT MOST 1048576: true; the input reads as it did. -/
def ivalProductsUptoRow : OpenClaim := { program := "ytofgndjglojonaa", sum := "c9c729964285b738f810f32b51c4923189640df27303df390f245bafaf10b09e", func := "trammel/trammellaw09.IvalProducts", spec := "ivalProducts", inPlace := ["math.Float64frombits", "math.Float64bits"], apart := false, narrowed := true }
def IvalProductsUptoSaid : Prop := ivalProductsUptoRow.holds Try.pinned (OpenSpec.upto ivalProductsSpec)

/-- 'trammellaw09.IvalTrue', WHERE WHAT IT READS IS OF BULK AT MOST 1048576: true; the input reads as it did. -/
def ivalTrueUptoRow : OpenClaim := { program := "ytofgndjglojonaa", sum := "c9c729964285b738f810f32b51c4923189640df27303df390f245bafaf10b09e", func := "trammel/trammellaw09.IvalTrue", spec := "ivalTrue", inPlace := ["math.Float64bits", "math.Float64frombits"], apart := false, narrowed := true }
def IvalTrueUptoSaid : Prop := ivalTrueUptoRow.holds Try.pinned (OpenSpec.upto ivalTrueSpec)

/-- 'trammellaw09.IvalInts', WHERE WHAT IT READS IS OF BULK AT MOST 1048576: true; the input reads as it did. -/
def ivalIntsUptoRow : OpenClaim := { program := "ytofgndjglojonaa", sum := "c9c729964285b738f810f32b51c4923189640df27303df390f245bafaf10b09e", func := "trammel/trammellaw09.IvalInts", spec := "ivalInts", inPlace := ["math.Float64bits", "math.Float64frombits"], apart := false, narrowed := true }
def IvalIntsUptoSaid : Prop := ivalIntsUptoRow.holds Try.pinned (OpenSpec.upto ivalIntsSpec)

/-- 'trammellaw09.IvalRats', WHERE WHAT IT READS IS OF BULK AT MOST 1048576: true; the input reads as it did. -/
def ivalRatsUptoRow : OpenClaim := { program := "ytofgndjglojonaa", sum := "c9c729964285b738f810f32b51c4923189640df27303df390f245bafaf10b09e", func := "trammel/trammellaw09.IvalRats", spec := "ivalRats", inPlace := ["math.Float64bits", "math.Float64frombits"], apart := false, narrowed := true }
def IvalRatsUptoSaid : Prop := ivalRatsUptoRow.holds Try.pinned (OpenSpec.upto ivalRatsSpec)

/-- 'trammellaw09.IvalTight', WHERE WHAT IT READS IS OF BULK AT MOST 1048576: true; the input reads as it did. -/
def ivalTightUptoRow : OpenClaim := { program := "ytofgndjglojonaa", sum := "c9c729964285b738f810f32b51c4923189640df27303df390f245bafaf10b09e", func := "trammel/trammellaw09.IvalTight", spec := "ivalTight", inPlace := ["math.Float64bits", "math.Float64frombits"], apart := false, narrowed := true }
def IvalTightUptoSaid : Prop := ivalTightUptoRow.holds Try.pinned (OpenSpec.upto ivalTightSpec)

end Rows
end Go.Proofs.Ytofgndjglojonaa
