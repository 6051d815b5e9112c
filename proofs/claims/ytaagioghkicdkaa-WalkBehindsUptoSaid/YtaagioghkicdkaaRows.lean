/-
  No cell of these rows narrows 'for every input' (looked for: loops, veiled, ifaces, maps, wideKeys, modest, calm, conditions, laid).
  DERIVED. THE GIVEN ROWS OF THIS SEAT. 8 by the template 'for every input the law returns true; each argument reads behind the call as it read before'; 0 by the template 'total and deterministic' (their statements: YtaagioghkicdkaaTotals.lean).
  GIVEN WITH THE SEED: the statements are not yours to turn. If you find one false, say at which input.
  Laid BY PROGRAM, IN A SANDBOX (cutbox-rows.mjs): the forced cells as the released guide's own fill.sh prints them over the translation a7e3cbc201a838cc… (all of the seat's roots in one cut). By AI agents, Wed Nov 11 2026. No macro, syntax, notation, axiom, sorry.
-/
import Derived.Test.YtaagioghkicdkaaChecked
import GoSem.Claim
import GoSem.ClaimJoined
import GoSem.ClaimMapViews
import Derived.JoinedTies
import Derived.KernelRfl
namespace Go.Proofs.Ytaagioghkicdkaa
/- THE CELL 'sum', in the pinned program and in every row, IS THE sha256 OF THE DUMP (.gsa) THAT YtaagioghkicdkaaProg.lean LOADS. Nothing in Lean hashes anything: it is a label: what it is worth is what the hold of that sum in a sandbox is worth. -/
noncomputable def Try.pinned : Pinned := { name := "ytaagioghkicdkaa", sum := "a7e3cbc201a838cc77e36c57edbddeb454fa572e876da4ae465ff9e85658c7f7", checked := Try.checked }
namespace Rows
def none {H : Type} : Left H := { results := [], args := [] }

/-- 'trammellaw11.TreeNames': WHATEVER THE INPUT: true; the input reads as it did. -/
def treeNamesSpec : ChangeSpec := { name := "treeNames", fn := fun _ => fun
  | [] => { results := [.lit (.bool true)], args := [] }
  | _ => none }
def treeNamesRow : OpenClaim := { program := "ytaagioghkicdkaa", sum := "a7e3cbc201a838cc77e36c57edbddeb454fa572e876da4ae465ff9e85658c7f7", func := "trammel/trammellaw11.TreeNames", spec := "treeNames", apart := false }
def TreeNamesSaid : Prop := treeNamesRow.holds Try.pinned (OpenSpec.ofChange treeNamesSpec)

/-- ITS FALSE NEIGHBOUR: 'it returns false'. Refute it at one input. -/
def treeNamesWrong : ChangeSpec := { name := "treeNames", fn := fun _ => fun
  | [] => { results := [.lit (.bool false)], args := [] }
  | _ => none }
def TreeNamesWrongFalsely : Prop := treeNamesRow.holds Try.pinned (OpenSpec.ofChange treeNamesWrong)

/-- 'trammellaw05.GsoNames': WHATEVER THE INPUT: true; the input reads as it did. -/
def gsoNamesSpec : ChangeSpec := { name := "gsoNames", fn := fun _ => fun
  | [] => { results := [.lit (.bool true)], args := [] }
  | _ => none }
def gsoNamesRow : OpenClaim := { program := "ytaagioghkicdkaa", sum := "a7e3cbc201a838cc77e36c57edbddeb454fa572e876da4ae465ff9e85658c7f7", func := "trammel/trammellaw05.GsoNames", spec := "gsoNames", apart := false }
def GsoNamesSaid : Prop := gsoNamesRow.holds Try.pinned (OpenSpec.ofChange gsoNamesSpec)

/-- ITS FALSE NEIGHBOUR: 'it returns false'. Refute it at one input. -/
def gsoNamesWrong : ChangeSpec := { name := "gsoNames", fn := fun _ => fun
  | [] => { results := [.lit (.bool false)], args := [] }
  | _ => none }
def GsoNamesWrongFalsely : Prop := gsoNamesRow.holds Try.pinned (OpenSpec.ofChange gsoNamesWrong)

/-- 'trammellaw05.GsoData': WHATEVER THE INPUT: true; the input reads as it did. -/
def gsoDataSpec : ChangeSpec := { name := "gsoData", fn := fun _ => fun
  | [d] => { results := [.lit (.bool true)], args := [d] }
  | _ => none }
def gsoDataRow : OpenClaim := { program := "ytaagioghkicdkaa", sum := "a7e3cbc201a838cc77e36c57edbddeb454fa572e876da4ae465ff9e85658c7f7", func := "trammel/trammellaw05.GsoData", spec := "gsoData", apart := false }
def GsoDataSaid : Prop := gsoDataRow.holds Try.pinned (OpenSpec.ofChange gsoDataSpec)

/-- ITS FALSE NEIGHBOUR: 'it returns false'. Refute it at one input. -/
def gsoDataWrong : ChangeSpec := { name := "gsoData", fn := fun _ => fun
  | [d] => { results := [.lit (.bool false)], args := [d] }
  | _ => none }
def GsoDataWrongFalsely : Prop := gsoDataRow.holds Try.pinned (OpenSpec.ofChange gsoDataWrong)

/-- 'trammellaw12.WalkBehinds': WHATEVER THE INPUT: true; the input reads as it did. -/
def walkBehindsSpec : ChangeSpec := { name := "walkBehinds", fn := fun _ => fun
  | [d1, d2] => { results := [.lit (.bool true)], args := [d1, d2] }
  | _ => none }
def walkBehindsRow : OpenClaim := { program := "ytaagioghkicdkaa", sum := "a7e3cbc201a838cc77e36c57edbddeb454fa572e876da4ae465ff9e85658c7f7", func := "trammel/trammellaw12.WalkBehinds", spec := "walkBehinds", unfollowed := true, recurses := true, apart := false }
def WalkBehindsSaid : Prop := walkBehindsRow.holds Try.pinned (OpenSpec.ofChange walkBehindsSpec)

/-- ITS FALSE NEIGHBOUR: 'it returns false'. Refute it at one input. -/
def walkBehindsWrong : ChangeSpec := { name := "walkBehinds", fn := fun _ => fun
  | [d1, d2] => { results := [.lit (.bool false)], args := [d1, d2] }
  | _ => none }
def WalkBehindsWrongFalsely : Prop := walkBehindsRow.holds Try.pinned (OpenSpec.ofChange walkBehindsWrong)

/-- 'trammellaw13.SplitNames': WHATEVER THE INPUT: true; the input reads as it did. -/
def splitNamesSpec : ChangeSpec := { name := "splitNames", fn := fun _ => fun
  | [] => { results := [.lit (.bool true)], args := [] }
  | _ => none }
def splitNamesRow : OpenClaim := { program := "ytaagioghkicdkaa", sum := "a7e3cbc201a838cc77e36c57edbddeb454fa572e876da4ae465ff9e85658c7f7", func := "trammel/trammellaw13.SplitNames", spec := "splitNames", unfollowed := true, recurses := true, apart := false }
def SplitNamesSaid : Prop := splitNamesRow.holds Try.pinned (OpenSpec.ofChange splitNamesSpec)

/-- ITS FALSE NEIGHBOUR: 'it returns false'. Refute it at one input. -/
def splitNamesWrong : ChangeSpec := { name := "splitNames", fn := fun _ => fun
  | [] => { results := [.lit (.bool false)], args := [] }
  | _ => none }
def SplitNamesWrongFalsely : Prop := splitNamesRow.holds Try.pinned (OpenSpec.ofChange splitNamesWrong)

/-- 'trammellaw09.IvalSteps': WHATEVER THE INPUT: true; the input reads as it did. -/
def ivalStepsSpec : ChangeSpec := { name := "ivalSteps", fn := fun _ => fun
  | [d] => { results := [.lit (.bool true)], args := [d] }
  | _ => none }
def ivalStepsRow : OpenClaim := { program := "ytaagioghkicdkaa", sum := "a7e3cbc201a838cc77e36c57edbddeb454fa572e876da4ae465ff9e85658c7f7", func := "trammel/trammellaw09.IvalSteps", spec := "ivalSteps", inPlace := ["math.Float64frombits", "math.Float64bits"], apart := false }
def IvalStepsSaid : Prop := ivalStepsRow.holds Try.pinned (OpenSpec.ofChange ivalStepsSpec)

/-- ITS FALSE NEIGHBOUR: 'it returns false'. Refute it at one input. -/
def ivalStepsWrong : ChangeSpec := { name := "ivalSteps", fn := fun _ => fun
  | [d] => { results := [.lit (.bool false)], args := [d] }
  | _ => none }
def IvalStepsWrongFalsely : Prop := ivalStepsRow.holds Try.pinned (OpenSpec.ofChange ivalStepsWrong)

/-- 'trammellaw09.IvalSums': WHATEVER THE INPUT: true; the input reads as it did. -/
def ivalSumsSpec : ChangeSpec := { name := "ivalSums", fn := fun _ => fun
  | [d1, d2] => { results := [.lit (.bool true)], args := [d1, d2] }
  | _ => none }
def ivalSumsRow : OpenClaim := { program := "ytaagioghkicdkaa", sum := "a7e3cbc201a838cc77e36c57edbddeb454fa572e876da4ae465ff9e85658c7f7", func := "trammel/trammellaw09.IvalSums", spec := "ivalSums", inPlace := ["math.Float64frombits", "math.Float64bits"], apart := false }
def IvalSumsSaid : Prop := ivalSumsRow.holds Try.pinned (OpenSpec.ofChange ivalSumsSpec)

/-- ITS FALSE NEIGHBOUR: 'it returns false'. Refute it at one input. -/
def ivalSumsWrong : ChangeSpec := { name := "ivalSums", fn := fun _ => fun
  | [d1, d2] => { results := [.lit (.bool false)], args := [d1, d2] }
  | _ => none }
def IvalSumsWrongFalsely : Prop := ivalSumsRow.holds Try.pinned (OpenSpec.ofChange ivalSumsWrong)

/-- 'trammellaw05.GsoParts': WHATEVER THE INPUT: true; the input reads as it did. -/
def gsoPartsSpec : ChangeSpec := { name := "gsoParts", fn := fun _ => fun
  | [d1, d2, d3] => { results := [.lit (.bool true)], args := [d1, d2, d3] }
  | _ => none }
def gsoPartsRow : OpenClaim := { program := "ytaagioghkicdkaa", sum := "a7e3cbc201a838cc77e36c57edbddeb454fa572e876da4ae465ff9e85658c7f7", func := "trammel/trammellaw05.GsoParts", spec := "gsoParts", apart := false }
def GsoPartsSaid : Prop := gsoPartsRow.holds Try.pinned (OpenSpec.ofChange gsoPartsSpec)

/-- ITS FALSE NEIGHBOUR: 'it returns false'. Refute it at one input. -/
def gsoPartsWrong : ChangeSpec := { name := "gsoParts", fn := fun _ => fun
  | [d1, d2, d3] => { results := [.lit (.bool false)], args := [d1, d2, d3] }
  | _ => none }
def GsoPartsWrongFalsely : Prop := gsoPartsRow.holds Try.pinned (OpenSpec.ofChange gsoPartsWrong)

/- THE SECOND FORM. 'bulk': how many values and letters a reading holds, each counted each time it is reached (what is shared counts as often as it is met; a slice's spare places count too). A statement '..UptoSaid' is the law's where the arguments, and the package variables that the reading takes, are together of bulk at most 1048576: NARROWER than '..Said'. Prove '..Said' where nothing that the law and all that it calls make is longer than what came in: it says more and counts as full. Else prove '..UptoSaid'. A law counts once. -/
mutual
def uptoBulk {H : Type} : DataW H → Nat
  | .lit (.string bytes) => bytes.length + 1
  | .lit _ => 1
  | .nil => 1
  | .ptr d => uptoBulk d + 1
  | .slice elems spare => uptoBulkAll elems + uptoBulkAll spare + 1
  | .agg parts => uptoBulkAll parts + 1
  | .iface _ d => uptoBulk d + 1
  | .map entries => uptoBulkEntries entries + 1
  | .held _ => 1
def uptoBulkAll {H : Type} : List (DataW H) → Nat
  | [] => 0
  | d :: r => uptoBulk d + uptoBulkAll r
def uptoBulkEntries {H : Type} : List (Lit × DataW H) → Nat
  | [] => 0
  | x :: r => uptoBulkEntry x + uptoBulkEntries r
def uptoBulkEntry {H : Type} : Lit × DataW H → Nat
  | (.string bytes, d) => bytes.length + uptoBulk d + 1
  | (_, d) => uptoBulk d + 1
 end
def uptoSmall : (H : Type) → List (DataW H) → Bool := fun _ ds => decide (uptoBulkAll ds ≤ 1048576)
def OpenSpec.upto (s : _root_.Go.ChangeSpec) : _root_.Go.OpenSpec := { _root_.Go.OpenSpec.ofChange s with cond := some uptoSmall }

/-- 'trammellaw11.TreeNames', WHERE WHAT IT READS IS OF BULK AT MOST 1048576: true; the input reads as it did. -/
def treeNamesUptoRow : OpenClaim := { program := "ytaagioghkicdkaa", sum := "a7e3cbc201a838cc77e36c57edbddeb454fa572e876da4ae465ff9e85658c7f7", func := "trammel/trammellaw11.TreeNames", spec := "treeNames", apart := false, narrowed := true }
def TreeNamesUptoSaid : Prop := treeNamesUptoRow.holds Try.pinned (OpenSpec.upto treeNamesSpec)

/-- 'trammellaw05.GsoNames', WHERE WHAT IT READS IS OF BULK AT MOST 1048576: true; the input reads as it did. -/
def gsoNamesUptoRow : OpenClaim := { program := "ytaagioghkicdkaa", sum := "a7e3cbc201a838cc77e36c57edbddeb454fa572e876da4ae465ff9e85658c7f7", func := "trammel/trammellaw05.GsoNames", spec := "gsoNames", apart := false, narrowed := true }
def GsoNamesUptoSaid : Prop := gsoNamesUptoRow.holds Try.pinned (OpenSpec.upto gsoNamesSpec)

/-- 'trammellaw05.GsoData', WHERE WHAT IT READS IS OF BULK AT MOST 1048576: true; the input reads as it did. -/
def gsoDataUptoRow : OpenClaim := { program := "ytaagioghkicdkaa", sum := "a7e3cbc201a838cc77e36c57edbddeb454fa572e876da4ae465ff9e85658c7f7", func := "trammel/trammellaw05.GsoData", spec := "gsoData", apart := false, narrowed := true }
def GsoDataUptoSaid : Prop := gsoDataUptoRow.holds Try.pinned (OpenSpec.upto gsoDataSpec)

/-- 'trammellaw12.WalkBehinds', WHERE WHAT IT READS IS OF BULK AT MOST 1048576: true; the input reads as it did. -/
def walkBehindsUptoRow : OpenClaim := { program := "ytaagioghkicdkaa", sum := "a7e3cbc201a838cc77e36c57edbddeb454fa572e876da4ae465ff9e85658c7f7", func := "trammel/trammellaw12.WalkBehinds", spec := "walkBehinds", unfollowed := true, recurses := true, apart := false, narrowed := true }
def WalkBehindsUptoSaid : Prop := walkBehindsUptoRow.holds Try.pinned (OpenSpec.upto walkBehindsSpec)

/-- 'trammellaw13.SplitNames', WHERE WHAT IT READS IS OF BULK AT MOST 1048576: true; the input reads as it did. -/
def splitNamesUptoRow : OpenClaim := { program := "ytaagioghkicdkaa", sum := "a7e3cbc201a838cc77e36c57edbddeb454fa572e876da4ae465ff9e85658c7f7", func := "trammel/trammellaw13.SplitNames", spec := "splitNames", unfollowed := true, recurses := true, apart := false, narrowed := true }
def SplitNamesUptoSaid : Prop := splitNamesUptoRow.holds Try.pinned (OpenSpec.upto splitNamesSpec)

/-- 'trammellaw09.IvalSteps', WHERE WHAT IT READS IS OF BULK AT MOST 1048576: true; the input reads as it did. -/
def ivalStepsUptoRow : OpenClaim := { program := "ytaagioghkicdkaa", sum := "a7e3cbc201a838cc77e36c57edbddeb454fa572e876da4ae465ff9e85658c7f7", func := "trammel/trammellaw09.IvalSteps", spec := "ivalSteps", inPlace := ["math.Float64frombits", "math.Float64bits"], apart := false, narrowed := true }
def IvalStepsUptoSaid : Prop := ivalStepsUptoRow.holds Try.pinned (OpenSpec.upto ivalStepsSpec)

/-- 'trammellaw09.IvalSums', WHERE WHAT IT READS IS OF BULK AT MOST 1048576: true; the input reads as it did. -/
def ivalSumsUptoRow : OpenClaim := { program := "ytaagioghkicdkaa", sum := "a7e3cbc201a838cc77e36c57edbddeb454fa572e876da4ae465ff9e85658c7f7", func := "trammel/trammellaw09.IvalSums", spec := "ivalSums", inPlace := ["math.Float64frombits", "math.Float64bits"], apart := false, narrowed := true }
def IvalSumsUptoSaid : Prop := ivalSumsUptoRow.holds Try.pinned (OpenSpec.upto ivalSumsSpec)

/-- 'trammellaw05.GsoParts', WHERE WHAT IT READS IS OF BULK AT MOST 1048576: true; the input reads as it did. -/
def gsoPartsUptoRow : OpenClaim := { program := "ytaagioghkicdkaa", sum := "a7e3cbc201a838cc77e36c57edbddeb454fa572e876da4ae465ff9e85658c7f7", func := "trammel/trammellaw05.GsoParts", spec := "gsoParts", apart := false, narrowed := true }
def GsoPartsUptoSaid : Prop := gsoPartsUptoRow.holds Try.pinned (OpenSpec.upto gsoPartsSpec)

end Rows
end Go.Proofs.Ytaagioghkicdkaa
